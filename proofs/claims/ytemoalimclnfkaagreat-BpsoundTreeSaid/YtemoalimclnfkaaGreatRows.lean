/-
  No cell of these rows narrows 'for every input' (looked for: loops, veiled, ifaces, maps, wideKeys, modest, calm, conditions, laid).
  DERIVED. THE GIVEN ROWS OF THIS SEAT. 3 by the template 'for every input the law returns true; each argument reads behind the call as it read before'; 0 by the template 'total and deterministic' (their statements: YtemoalimclnfkaaGreatTotals.lean).
  GIVEN WITH THE SEED: the statements are not yours to turn. If you find one false, say at which input.
  Laid BY PROGRAM, IN A SANDBOX (cutbox-rows.mjs): the forced cells as the released guide's own fill.sh prints them over the translation 0e281f7f2c26b9b7… (all of the seat's roots in one cut). By AI agents, Wed Nov 11 2026. No macro, syntax, notation, axiom, sorry.
-/
import Derived.Test.YtemoalimclnfkaaGreatChecked
import GoSem.Claim
import GoSem.ClaimJoined
import GoSem.ClaimMapViews
import Derived.JoinedTies
import Derived.KernelRfl
namespace Go.Proofs.YtemoalimclnfkaaGreat
/- THE CELL 'sum', in the pinned program and in every row, IS THE sha256 OF THE DUMP (.gsa) THAT YtemoalimclnfkaaGreatProg.lean LOADS. Nothing in Lean hashes anything: it is a label: what it is worth is what the hold of that sum in a sandbox is worth. -/
noncomputable def Tryz.pinned : Pinned := { name := "ytemoalimclnfkaagreat", sum := "0e281f7f2c26b9b7ed676c9f72be634134c708454a65331fb0ccd726880b7f91", checked := Tryz.checked }
namespace Rows
def none {H : Type} : Left H := { results := [], args := [] }

/-- 'percolatelaw16.BptreeRoom': WHATEVER THE INPUT: true; the input reads as it did. -/
def bptreeRoomSpec : ChangeSpec := { name := "bptreeRoom", fn := fun _ => fun
  | [d1, d2, d3] => { results := [.lit (.bool true)], args := [d1, d2, d3] }
  | _ => none }
def bptreeRoomRow : OpenClaim := { program := "ytemoalimclnfkaagreat", sum := "0e281f7f2c26b9b7ed676c9f72be634134c708454a65331fb0ccd726880b7f91", func := "percolate/percolatelaw16.BptreeRoom", spec := "bptreeRoom", inPlace := ["slices.overlaps[percolate/api.Pair]", "slices.overlaps[string]", "slices.overlaps[int]"], unfollowed := true, recurses := true, apart := false }
def BptreeRoomSaid : Prop := bptreeRoomRow.holds Tryz.pinned (OpenSpec.ofChange bptreeRoomSpec)

/-- ITS FALSE NEIGHBOUR: 'it returns false'. Refute it at one input. -/
def bptreeRoomWrong : ChangeSpec := { name := "bptreeRoom", fn := fun _ => fun
  | [d1, d2, d3] => { results := [.lit (.bool false)], args := [d1, d2, d3] }
  | _ => none }
def BptreeRoomWrongFalsely : Prop := bptreeRoomRow.holds Tryz.pinned (OpenSpec.ofChange bptreeRoomWrong)

/-- 'percolatelaw16.BptreeDoes': WHATEVER THE INPUT: true; the input reads as it did. -/
def bptreeDoesSpec : ChangeSpec := { name := "bptreeDoes", fn := fun _ => fun
  | [d1, d2] => { results := [.lit (.bool true)], args := [d1, d2] }
  | _ => none }
def bptreeDoesRow : OpenClaim := { program := "ytemoalimclnfkaagreat", sum := "0e281f7f2c26b9b7ed676c9f72be634134c708454a65331fb0ccd726880b7f91", func := "percolate/percolatelaw16.BptreeDoes", spec := "bptreeDoes", inPlace := ["slices.overlaps[percolate/api.Pair]", "slices.overlaps[string]", "slices.overlaps[int]"], unfollowed := true, recurses := true, apart := false }
def BptreeDoesSaid : Prop := bptreeDoesRow.holds Tryz.pinned (OpenSpec.ofChange bptreeDoesSpec)

/-- ITS FALSE NEIGHBOUR: 'it returns false'. Refute it at one input. -/
def bptreeDoesWrong : ChangeSpec := { name := "bptreeDoes", fn := fun _ => fun
  | [d1, d2] => { results := [.lit (.bool false)], args := [d1, d2] }
  | _ => none }
def BptreeDoesWrongFalsely : Prop := bptreeDoesRow.holds Tryz.pinned (OpenSpec.ofChange bptreeDoesWrong)

/-- 'percolatelaw17.BpsoundTree': WHATEVER THE INPUT: true; the input reads as it did. -/
def bpsoundTreeSpec : ChangeSpec := { name := "bpsoundTree", fn := fun _ => fun
  | [d1, d2, d3] => { results := [.lit (.bool true)], args := [d1, d2, d3] }
  | _ => none }
def bpsoundTreeRow : OpenClaim := { program := "ytemoalimclnfkaagreat", sum := "0e281f7f2c26b9b7ed676c9f72be634134c708454a65331fb0ccd726880b7f91", func := "percolate/percolatelaw17.BpsoundTree", spec := "bpsoundTree", inPlace := ["slices.overlaps[percolate/api.Pair]", "slices.overlaps[string]", "slices.overlaps[int]"], unfollowed := true, recurses := true, apart := false }
def BpsoundTreeSaid : Prop := bpsoundTreeRow.holds Tryz.pinned (OpenSpec.ofChange bpsoundTreeSpec)

/-- ITS FALSE NEIGHBOUR: 'it returns false'. Refute it at one input. -/
def bpsoundTreeWrong : ChangeSpec := { name := "bpsoundTree", fn := fun _ => fun
  | [d1, d2, d3] => { results := [.lit (.bool false)], args := [d1, d2, d3] }
  | _ => none }
def BpsoundTreeWrongFalsely : Prop := bpsoundTreeRow.holds Tryz.pinned (OpenSpec.ofChange bpsoundTreeWrong)

/- THE SECOND FORM. 'bulk': how many values and letters a reading holds, each counted each time it is reached (what is shared counts as often as it is met; a slice's spare places count too). A statement '..UptoSaid' is the law's where the arguments, and the package variables that the reading takes, are together of bulk at most 1048576: NARROWER than '..Said'. Prove '..Said' where nothing that the law and all that it calls make is longer than what came in: it says more and counts as full. Else prove '..UptoSaid'. A law counts once. -/
mutual
def uptoBulk {H : Type} : DataW H → Nat
  | .lit (.string bytes) => bytes.length + 1
  | .lit _ => 1
  | .nil => 1
  | .ptr d => uptoBulk d + 1
  | .slice elems spare => uptoBulkAll elems + uptoBulkAll spare + 1
  | .agg parts => uptoBulkAll parts + 1
  | .iface _ d => uptoBulk d + 1
  | .map entries => uptoBulkEntries entries + 1
  | .held _ => 1
def uptoBulkAll {H : Type} : List (DataW H) → Nat
  | [] => 0
  | d :: r => uptoBulk d + uptoBulkAll r
def uptoBulkEntries {H : Type} : List (Lit × DataW H) → Nat
  | [] => 0
  | x :: r => uptoBulkEntry x + uptoBulkEntries r
def uptoBulkEntry {H : Type} : Lit × DataW H → Nat
  | (.string bytes, d) => bytes.length + uptoBulk d + 1
  | (_, d) => uptoBulk d + 1
 end
def uptoSmall : (H : Type) → List (DataW H) → Bool := fun _ ds => decide (uptoBulkAll ds ≤ 1048576)
def OpenSpec.upto (s : _root_.Go.ChangeSpec) : _root_.Go.OpenSpec := { _root_.Go.OpenSpec.ofChange s with cond := some uptoSmall }

/-- 'percolatelaw16.BptreeRoom', WHERE WHAT IT READS IS OF BULK AT MOST 1048576: true; the input reads as it did. -/
def bptreeRoomUptoRow : OpenClaim := { program := "ytemoalimclnfkaagreat", sum := "0e281f7f2c26b9b7ed676c9f72be634134c708454a65331fb0ccd726880b7f91", func := "percolate/percolatelaw16.BptreeRoom", spec := "bptreeRoom", inPlace := ["slices.overlaps[percolate/api.Pair]", "slices.overlaps[string]", "slices.overlaps[int]"], unfollowed := true, recurses := true, apart := false, narrowed := true }
def BptreeRoomUptoSaid : Prop := bptreeRoomUptoRow.holds Tryz.pinned (OpenSpec.upto bptreeRoomSpec)

/-- 'percolatelaw16.BptreeDoes', WHERE WHAT IT READS IS OF BULK AT MOST 1048576: true; the input reads as it did. -/
def bptreeDoesUptoRow : OpenClaim := { program := "ytemoalimclnfkaagreat", sum := "0e281f7f2c26b9b7ed676c9f72be634134c708454a65331fb0ccd726880b7f91", func := "percolate/percolatelaw16.BptreeDoes", spec := "bptreeDoes", inPlace := ["slices.overlaps[percolate/api.Pair]", "slices.overlaps[string]", "slices.overlaps[int]"], unfollowed := true, recurses := true, apart := false, narrowed := true }
def BptreeDoesUptoSaid : Prop := bptreeDoesUptoRow.holds Tryz.pinned (OpenSpec.upto bptreeDoesSpec)

/-- 'percolatelaw17.BpsoundTree', WHERE WHAT IT READS IS OF BULK AT MOST 1048576: true; the input reads as it did. -/
def bpsoundTreeUptoRow : OpenClaim := { program := "ytemoalimclnfkaagreat", sum := "0e281f7f2c26b9b7ed676c9f72be634134c708454a65331fb0ccd726880b7f91", func := "percolate/percolatelaw17.BpsoundTree", spec := "bpsoundTree", inPlace := ["slices.overlaps[percolate/api.Pair]", "slices.overlaps[string]", "slices.overlaps[int]"], unfollowed := true, recurses := true, apart := false, narrowed := true }
def BpsoundTreeUptoSaid : Prop := bpsoundTreeUptoRow.holds Tryz.pinned (OpenSpec.upto bpsoundTreeSpec)

end Rows
end Go.Proofs.YtemoalimclnfkaaGreat
