/-
  No cell of these rows narrows 'for every input' (looked for: loops, veiled, ifaces, maps, wideKeys, modest, calm, conditions, laid).
  DERIVED. THE GIVEN ROWS OF THIS SEAT. 8 by the template 'for every input the law returns true; each argument reads behind the call as it read before'; 0 by the template 'total and deterministic' (their statements: YtebkfinhhpelbaaGreatTotals.lean).
  GIVEN WITH THE SEED: the statements are not yours to turn. If you find one false, say at which input.
  Laid BY PROGRAM, IN A SANDBOX (cutbox-rows.mjs): the forced cells as the released guide's own fill.sh prints them over the translation 1c2148caf9a78863… (all of the seat's roots in one cut). By AI agents, Wed Nov 11 2026. No macro, syntax, notation, axiom, sorry.
-/
import Derived.Test.YtebkfinhhpelbaaGreatChecked
import GoSem.Claim
import GoSem.ClaimJoined
import GoSem.ClaimMapViews
import Derived.JoinedTies
import Derived.KernelRfl
namespace Go.Proofs.YtebkfinhhpelbaaGreat
/- THE CELL 'sum', in the pinned program and in every row, IS THE sha256 OF THE DUMP (.gsa) THAT YtebkfinhhpelbaaGreatProg.lean LOADS. Nothing in Lean hashes anything: it is a label: what it is worth is what the hold of that sum in a sandbox is worth. -/
noncomputable def Tryz.pinned : Pinned := { name := "ytebkfinhhpelbaagreat", sum := "1c2148caf9a788638dba5c737c131181dd4af6190c1c15e86646415976a99acc", checked := Tryz.checked }
namespace Rows
def none {H : Type} : Left H := { results := [], args := [] }

/-- 'percolatelaw26.GrowLifts': WHATEVER THE INPUT: true; the input reads as it did. -/
def growLiftsSpec : ChangeSpec := { name := "growLifts", fn := fun _ => fun
  | [d1, d2] => { results := [.lit (.bool true)], args := [d1, d2] }
  | _ => none }
def growLiftsRow : OpenClaim := { program := "ytebkfinhhpelbaagreat", sum := "1c2148caf9a788638dba5c737c131181dd4af6190c1c15e86646415976a99acc", func := "percolate/percolatelaw26.GrowLifts", spec := "growLifts", unfollowed := true, recurses := true, apart := false }
def GrowLiftsSaid : Prop := growLiftsRow.holds Tryz.pinned (OpenSpec.ofChange growLiftsSpec)

/-- ITS FALSE NEIGHBOUR: 'it returns false'. Refute it at one input. -/
def growLiftsWrong : ChangeSpec := { name := "growLifts", fn := fun _ => fun
  | [d1, d2] => { results := [.lit (.bool false)], args := [d1, d2] }
  | _ => none }
def GrowLiftsWrongFalsely : Prop := growLiftsRow.holds Tryz.pinned (OpenSpec.ofChange growLiftsWrong)

/-- 'percolatelaw28.LookupGets': WHATEVER THE INPUT: true; the input reads as it did. -/
def lookupGetsSpec : ChangeSpec := { name := "lookupGets", fn := fun _ => fun
  | [d1, d2, d3] => { results := [.lit (.bool true)], args := [d1, d2, d3] }
  | _ => none }
def lookupGetsRow : OpenClaim := { program := "ytebkfinhhpelbaagreat", sum := "1c2148caf9a788638dba5c737c131181dd4af6190c1c15e86646415976a99acc", func := "percolate/percolatelaw28.LookupGets", spec := "lookupGets", unfollowed := true, recurses := true, apart := false }
def LookupGetsSaid : Prop := lookupGetsRow.holds Tryz.pinned (OpenSpec.ofChange lookupGetsSpec)

/-- ITS FALSE NEIGHBOUR: 'it returns false'. Refute it at one input. -/
def lookupGetsWrong : ChangeSpec := { name := "lookupGets", fn := fun _ => fun
  | [d1, d2, d3] => { results := [.lit (.bool false)], args := [d1, d2, d3] }
  | _ => none }
def LookupGetsWrongFalsely : Prop := lookupGetsRow.holds Tryz.pinned (OpenSpec.ofChange lookupGetsWrong)

/-- 'percolatelaw54.CursorPlays': WHATEVER THE INPUT: true; the input reads as it did. -/
def cursorPlaysSpec : ChangeSpec := { name := "cursorPlays", fn := fun _ => fun
  | [d1, d2, d3] => { results := [.lit (.bool true)], args := [d1, d2, d3] }
  | _ => none }
def cursorPlaysRow : OpenClaim := { program := "ytebkfinhhpelbaagreat", sum := "1c2148caf9a788638dba5c737c131181dd4af6190c1c15e86646415976a99acc", func := "percolate/percolatelaw54.CursorPlays", spec := "cursorPlays", inPlace := ["slices.overlaps[percolate/api.Pair]"], unfollowed := true, recurses := true, apart := false }
def CursorPlaysSaid : Prop := cursorPlaysRow.holds Tryz.pinned (OpenSpec.ofChange cursorPlaysSpec)

/-- ITS FALSE NEIGHBOUR: 'it returns false'. Refute it at one input. -/
def cursorPlaysWrong : ChangeSpec := { name := "cursorPlays", fn := fun _ => fun
  | [d1, d2, d3] => { results := [.lit (.bool false)], args := [d1, d2, d3] }
  | _ => none }
def CursorPlaysWrongFalsely : Prop := cursorPlaysRow.holds Tryz.pinned (OpenSpec.ofChange cursorPlaysWrong)

/-- 'percolatelaw54.CursorWalks': WHATEVER THE INPUT: true; the input reads as it did. -/
def cursorWalksSpec : ChangeSpec := { name := "cursorWalks", fn := fun _ => fun
  | [d1, d2] => { results := [.lit (.bool true)], args := [d1, d2] }
  | _ => none }
def cursorWalksRow : OpenClaim := { program := "ytebkfinhhpelbaagreat", sum := "1c2148caf9a788638dba5c737c131181dd4af6190c1c15e86646415976a99acc", func := "percolate/percolatelaw54.CursorWalks", spec := "cursorWalks", inPlace := ["slices.overlaps[percolate/api.Pair]"], unfollowed := true, recurses := true, apart := false }
def CursorWalksSaid : Prop := cursorWalksRow.holds Tryz.pinned (OpenSpec.ofChange cursorWalksSpec)

/-- ITS FALSE NEIGHBOUR: 'it returns false'. Refute it at one input. -/
def cursorWalksWrong : ChangeSpec := { name := "cursorWalks", fn := fun _ => fun
  | [d1, d2] => { results := [.lit (.bool false)], args := [d1, d2] }
  | _ => none }
def CursorWalksWrongFalsely : Prop := cursorWalksRow.holds Tryz.pinned (OpenSpec.ofChange cursorWalksWrong)

/-- 'percolatelaw42.AbstractMaps': WHATEVER THE INPUT: true; the input reads as it did. -/
def abstractMapsSpec : ChangeSpec := { name := "abstractMaps", fn := fun _ => fun
  | [d1, d2, d3] => { results := [.lit (.bool true)], args := [d1, d2, d3] }
  | _ => none }
def abstractMapsRow : OpenClaim := { program := "ytebkfinhhpelbaagreat", sum := "1c2148caf9a788638dba5c737c131181dd4af6190c1c15e86646415976a99acc", func := "percolate/percolatelaw42.AbstractMaps", spec := "abstractMaps", inPlace := ["slices.overlaps[percolate/api.Pair]"], unfollowed := true, recurses := true, apart := false }
def AbstractMapsSaid : Prop := abstractMapsRow.holds Tryz.pinned (OpenSpec.ofChange abstractMapsSpec)

/-- ITS FALSE NEIGHBOUR: 'it returns false'. Refute it at one input. -/
def abstractMapsWrong : ChangeSpec := { name := "abstractMaps", fn := fun _ => fun
  | [d1, d2, d3] => { results := [.lit (.bool false)], args := [d1, d2, d3] }
  | _ => none }
def AbstractMapsWrongFalsely : Prop := abstractMapsRow.holds Tryz.pinned (OpenSpec.ofChange abstractMapsWrong)

/-- 'percolatelaw26.GrowParts': WHATEVER THE INPUT: true; the input reads as it did. -/
def growPartsSpec : ChangeSpec := { name := "growParts", fn := fun _ => fun
  | [d1, d2, d3, d4] => { results := [.lit (.bool true)], args := [d1, d2, d3, d4] }
  | _ => none }
def growPartsRow : OpenClaim := { program := "ytebkfinhhpelbaagreat", sum := "1c2148caf9a788638dba5c737c131181dd4af6190c1c15e86646415976a99acc", func := "percolate/percolatelaw26.GrowParts", spec := "growParts", inPlace := ["slices.overlaps[string]", "slices.overlaps[int]"], unfollowed := true, recurses := true, apart := false }
def GrowPartsSaid : Prop := growPartsRow.holds Tryz.pinned (OpenSpec.ofChange growPartsSpec)

/-- ITS FALSE NEIGHBOUR: 'it returns false'. Refute it at one input. -/
def growPartsWrong : ChangeSpec := { name := "growParts", fn := fun _ => fun
  | [d1, d2, d3, d4] => { results := [.lit (.bool false)], args := [d1, d2, d3, d4] }
  | _ => none }
def GrowPartsWrongFalsely : Prop := growPartsRow.holds Tryz.pinned (OpenSpec.ofChange growPartsWrong)

/-- 'percolatelaw53.DiffTrees': WHATEVER THE INPUT: true; the input reads as it did. -/
def diffTreesSpec : ChangeSpec := { name := "diffTrees", fn := fun _ => fun
  | [d1, d2, d3, d4] => { results := [.lit (.bool true)], args := [d1, d2, d3, d4] }
  | _ => none }
def diffTreesRow : OpenClaim := { program := "ytebkfinhhpelbaagreat", sum := "1c2148caf9a788638dba5c737c131181dd4af6190c1c15e86646415976a99acc", func := "percolate/percolatelaw53.DiffTrees", spec := "diffTrees", inPlace := ["slices.overlaps[percolate/api.Pair]"], unfollowed := true, recurses := true, apart := false }
def DiffTreesSaid : Prop := diffTreesRow.holds Tryz.pinned (OpenSpec.ofChange diffTreesSpec)

/-- ITS FALSE NEIGHBOUR: 'it returns false'. Refute it at one input. -/
def diffTreesWrong : ChangeSpec := { name := "diffTrees", fn := fun _ => fun
  | [d1, d2, d3, d4] => { results := [.lit (.bool false)], args := [d1, d2, d3, d4] }
  | _ => none }
def DiffTreesWrongFalsely : Prop := diffTreesRow.holds Tryz.pinned (OpenSpec.ofChange diffTreesWrong)

/-- 'percolatelaw29.SweepScans': WHATEVER THE INPUT: true; the input reads as it did. -/
def sweepScansSpec : ChangeSpec := { name := "sweepScans", fn := fun _ => fun
  | [d1, d2, d3, d4] => { results := [.lit (.bool true)], args := [d1, d2, d3, d4] }
  | _ => none }
def sweepScansRow : OpenClaim := { program := "ytebkfinhhpelbaagreat", sum := "1c2148caf9a788638dba5c737c131181dd4af6190c1c15e86646415976a99acc", func := "percolate/percolatelaw29.SweepScans", spec := "sweepScans", inPlace := ["slices.overlaps[percolate/api.Pair]"], unfollowed := true, recurses := true, apart := false }
def SweepScansSaid : Prop := sweepScansRow.holds Tryz.pinned (OpenSpec.ofChange sweepScansSpec)

/-- ITS FALSE NEIGHBOUR: 'it returns false'. Refute it at one input. -/
def sweepScansWrong : ChangeSpec := { name := "sweepScans", fn := fun _ => fun
  | [d1, d2, d3, d4] => { results := [.lit (.bool false)], args := [d1, d2, d3, d4] }
  | _ => none }
def SweepScansWrongFalsely : Prop := sweepScansRow.holds Tryz.pinned (OpenSpec.ofChange sweepScansWrong)

/- THE SECOND FORM. 'bulk': how many values and letters a reading holds, each counted each time it is reached (what is shared counts as often as it is met; a slice's spare places count too). A statement '..UptoSaid' is the law's where the arguments, and the package variables that the reading takes, are together of bulk at most 1048576: NARROWER than '..Said'. Prove '..Said' where nothing that the law and all that it calls make is longer than what came in: it says more and counts as full. Else prove '..UptoSaid'. A law counts once. -/
mutual
def uptoBulk {H : Type} : DataW H → Nat
  | .lit (.string bytes) => bytes.length + 1
  | .lit _ => 1
  | .nil => 1
  | .ptr d => uptoBulk d + 1
  | .slice elems spare => uptoBulkAll elems + uptoBulkAll spare + 1
  | .agg parts => uptoBulkAll parts + 1
  | .iface _ d => uptoBulk d + 1
  | .map entries => uptoBulkEntries entries + 1
  | .held _ => 1
def uptoBulkAll {H : Type} : List (DataW H) → Nat
  | [] => 0
  | d :: r => uptoBulk d + uptoBulkAll r
def uptoBulkEntries {H : Type} : List (Lit × DataW H) → Nat
  | [] => 0
  | x :: r => uptoBulkEntry x + uptoBulkEntries r
def uptoBulkEntry {H : Type} : Lit × DataW H → Nat
  | (.string bytes, d) => bytes.length + uptoBulk d + 1
  | (_, d) => uptoBulk d + 1
 end
def uptoSmall : (H : Type) → List (DataW H) → Bool := fun _ ds => decide (uptoBulkAll ds ≤ 1048576)
def OpenSpec.upto (s : _root_.Go.ChangeSpec) : _root_.Go.OpenSpec := { _root_.Go.OpenSpec.ofChange s with cond := some uptoSmall }

/-- 'percolatelaw26.GrowLifts', WHERE WHAT IT READS IS OF BULK AT MOST 1048576: true; the input reads as it did. -/
def growLiftsUptoRow : OpenClaim := { program := "ytebkfinhhpelbaagreat", sum := "1c2148caf9a788638dba5c737c131181dd4af6190c1c15e86646415976a99acc", func := "percolate/percolatelaw26.GrowLifts", spec := "growLifts", unfollowed := true, recurses := true, apart := false, narrowed := true }
def GrowLiftsUptoSaid : Prop := growLiftsUptoRow.holds Tryz.pinned (OpenSpec.upto growLiftsSpec)

/-- 'percolatelaw28.LookupGets', WHERE WHAT IT READS IS OF BULK AT MOST 1048576: true; the input reads as it did. -/
def lookupGetsUptoRow : OpenClaim := { program := "ytebkfinhhpelbaagreat", sum := "1c2148caf9a788638dba5c737c131181dd4af6190c1c15e86646415976a99acc", func := "percolate/percolatelaw28.LookupGets", spec := "lookupGets", unfollowed := true, recurses := true, apart := false, narrowed := true }
def LookupGetsUptoSaid : Prop := lookupGetsUptoRow.holds Tryz.pinned (OpenSpec.upto lookupGetsSpec)

/-- 'percolatelaw54.CursorPlays', WHERE WHAT IT READS IS OF BULK AT MOST 1048576: true; the input reads as it did. -/
def cursorPlaysUptoRow : OpenClaim := { program := "ytebkfinhhpelbaagreat", sum := "1c2148caf9a788638dba5c737c131181dd4af6190c1c15e86646415976a99acc", func := "percolate/percolatelaw54.CursorPlays", spec := "cursorPlays", inPlace := ["slices.overlaps[percolate/api.Pair]"], unfollowed := true, recurses := true, apart := false, narrowed := true }
def CursorPlaysUptoSaid : Prop := cursorPlaysUptoRow.holds Tryz.pinned (OpenSpec.upto cursorPlaysSpec)

/-- 'percolatelaw54.CursorWalks', WHERE WHAT IT READS IS OF BULK AT MOST 1048576: true; the input reads as it did. -/
def cursorWalksUptoRow : OpenClaim := { program := "ytebkfinhhpelbaagreat", sum := "1c2148caf9a788638dba5c737c131181dd4af6190c1c15e86646415976a99acc", func := "percolate/percolatelaw54.CursorWalks", spec := "cursorWalks", inPlace := ["slices.overlaps[percolate/api.Pair]"], unfollowed := true, recurses := true, apart := false, narrowed := true }
def CursorWalksUptoSaid : Prop := cursorWalksUptoRow.holds Tryz.pinned (OpenSpec.upto cursorWalksSpec)

/-- 'percolatelaw42.AbstractMaps', WHERE WHAT IT READS IS OF BULK AT MOST 1048576: true; the input reads as it did. -/
def abstractMapsUptoRow : OpenClaim := { program := "ytebkfinhhpelbaagreat", sum := "1c2148caf9a788638dba5c737c131181dd4af6190c1c15e86646415976a99acc", func := "percolate/percolatelaw42.AbstractMaps", spec := "abstractMaps", inPlace := ["slices.overlaps[percolate/api.Pair]"], unfollowed := true, recurses := true, apart := false, narrowed := true }
def AbstractMapsUptoSaid : Prop := abstractMapsUptoRow.holds Tryz.pinned (OpenSpec.upto abstractMapsSpec)

/-- 'percolatelaw26.GrowParts', WHERE WHAT IT READS IS OF BULK AT MOST 1048576: true; the input reads as it did. -/
def growPartsUptoRow : OpenClaim := { program := "ytebkfinhhpelbaagreat", sum := "1c2148caf9a788638dba5c737c131181dd4af6190c1c15e86646415976a99acc", func := "percolate/percolatelaw26.GrowParts", spec := "growParts", inPlace := ["slices.overlaps[string]", "slices.overlaps[int]"], unfollowed := true, recurses := true, apart := false, narrowed := true }
def GrowPartsUptoSaid : Prop := growPartsUptoRow.holds Tryz.pinned (OpenSpec.upto growPartsSpec)

/-- 'percolatelaw53.DiffTrees', WHERE WHAT IT READS IS OF BULK AT MOST 1048576: true; the input reads as it did. -/
def diffTreesUptoRow : OpenClaim := { program := "ytebkfinhhpelbaagreat", sum := "1c2148caf9a788638dba5c737c131181dd4af6190c1c15e86646415976a99acc", func := "percolate/percolatelaw53.DiffTrees", spec := "diffTrees", inPlace := ["slices.overlaps[percolate/api.Pair]"], unfollowed := true, recurses := true, apart := false, narrowed := true }
def DiffTreesUptoSaid : Prop := diffTreesUptoRow.holds Tryz.pinned (OpenSpec.upto diffTreesSpec)

/-- 'percolatelaw29.SweepScans', WHERE WHAT IT READS IS OF BULK AT MOST 1048576: true; the input reads as it did. -/
def sweepScansUptoRow : OpenClaim := { program := "ytebkfinhhpelbaagreat", sum := "1c2148caf9a788638dba5c737c131181dd4af6190c1c15e86646415976a99acc", func := "percolate/percolatelaw29.SweepScans", spec := "sweepScans", inPlace := ["slices.overlaps[percolate/api.Pair]"], unfollowed := true, recurses := true, apart := false, narrowed := true }
def SweepScansUptoSaid : Prop := sweepScansUptoRow.holds Tryz.pinned (OpenSpec.upto sweepScansSpec)

end Rows
end Go.Proofs.YtebkfinhhpelbaaGreat
