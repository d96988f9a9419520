/-
  No cell of these rows narrows 'for every input' (looked for: loops, veiled, ifaces, maps, wideKeys, modest, calm, conditions, laid).
  DERIVED. THE GIVEN ROWS OF THIS SEAT. 5 by the template 'for every input the law returns true; each argument reads behind the call as it read before'; 0 by the template 'total and deterministic' (their statements: YtbbemibbmbmamaaGreatTotals.lean).
  GIVEN WITH THE SEED: the statements are not yours to turn. If you find one false, say at which input.
  Laid BY PROGRAM, IN A SANDBOX (cutbox-rows.mjs): the forced cells as the released guide's own fill.sh prints them over the translation ca2f5a75412042ba… (all of the seat's roots in one cut). By AI agents, Wed Nov 11 2026. No macro, syntax, notation, axiom, sorry.
-/
import Derived.Test.YtbbemibbmbmamaaGreatChecked
import GoSem.Claim
import GoSem.ClaimJoined
import GoSem.ClaimMapViews
import Derived.JoinedTies
import Derived.KernelRfl
namespace Go.Proofs.YtbbemibbmbmamaaGreat
/- THE CELL 'sum', in the pinned program and in every row, IS THE sha256 OF THE DUMP (.gsa) THAT YtbbemibbmbmamaaGreatProg.lean LOADS. Nothing in Lean hashes anything: it is a label: what it is worth is what the hold of that sum in a sandbox is worth. -/
noncomputable def Tryz.pinned : Pinned := { name := "ytbbemibbmbmamaagreat", sum := "ca2f5a75412042ba255149ab343f28732e9de0aef8262a73e02c17a16029593a", checked := Tryz.checked }
namespace Rows
def none {H : Type} : Left H := { results := [], args := [] }

/-- 'percolatelaw32.BetreeRoom': WHATEVER THE INPUT: true; the input reads as it did. -/
def betreeRoomSpec : ChangeSpec := { name := "betreeRoom", fn := fun _ => fun
  | [d1, d2] => { results := [.lit (.bool true)], args := [d1, d2] }
  | _ => none }
def betreeRoomRow : OpenClaim := { program := "ytbbemibbmbmamaagreat", sum := "ca2f5a75412042ba255149ab343f28732e9de0aef8262a73e02c17a16029593a", func := "percolate/percolatelaw32.BetreeRoom", spec := "betreeRoom", inPlace := ["slices.overlaps[percolate/api.Pair]", "slices.overlaps[string]", "slices.overlaps[int]"], unfollowed := true, recurses := true, apart := false }
def BetreeRoomSaid : Prop := betreeRoomRow.holds Tryz.pinned (OpenSpec.ofChange betreeRoomSpec)

/-- ITS FALSE NEIGHBOUR: 'it returns false'. Refute it at one input. -/
def betreeRoomWrong : ChangeSpec := { name := "betreeRoom", fn := fun _ => fun
  | [d1, d2] => { results := [.lit (.bool false)], args := [d1, d2] }
  | _ => none }
def BetreeRoomWrongFalsely : Prop := betreeRoomRow.holds Tryz.pinned (OpenSpec.ofChange betreeRoomWrong)

/-- 'percolatelaw32.BetreeDrains': WHATEVER THE INPUT: true; the input reads as it did. -/
def betreeDrainsSpec : ChangeSpec := { name := "betreeDrains", fn := fun _ => fun
  | [d1, d2] => { results := [.lit (.bool true)], args := [d1, d2] }
  | _ => none }
def betreeDrainsRow : OpenClaim := { program := "ytbbemibbmbmamaagreat", sum := "ca2f5a75412042ba255149ab343f28732e9de0aef8262a73e02c17a16029593a", func := "percolate/percolatelaw32.BetreeDrains", spec := "betreeDrains", inPlace := ["slices.overlaps[percolate/api.Pair]", "slices.overlaps[string]", "slices.overlaps[int]"], unfollowed := true, recurses := true, apart := false }
def BetreeDrainsSaid : Prop := betreeDrainsRow.holds Tryz.pinned (OpenSpec.ofChange betreeDrainsSpec)

/-- ITS FALSE NEIGHBOUR: 'it returns false'. Refute it at one input. -/
def betreeDrainsWrong : ChangeSpec := { name := "betreeDrains", fn := fun _ => fun
  | [d1, d2] => { results := [.lit (.bool false)], args := [d1, d2] }
  | _ => none }
def BetreeDrainsWrongFalsely : Prop := betreeDrainsRow.holds Tryz.pinned (OpenSpec.ofChange betreeDrainsWrong)

/-- 'percolatelaw32.BetreeDoes': WHATEVER THE INPUT: true; the input reads as it did. -/
def betreeDoesSpec : ChangeSpec := { name := "betreeDoes", fn := fun _ => fun
  | [d1, d2] => { results := [.lit (.bool true)], args := [d1, d2] }
  | _ => none }
def betreeDoesRow : OpenClaim := { program := "ytbbemibbmbmamaagreat", sum := "ca2f5a75412042ba255149ab343f28732e9de0aef8262a73e02c17a16029593a", func := "percolate/percolatelaw32.BetreeDoes", spec := "betreeDoes", inPlace := ["slices.overlaps[percolate/api.Pair]", "slices.overlaps[string]", "slices.overlaps[int]"], unfollowed := true, recurses := true, apart := false }
def BetreeDoesSaid : Prop := betreeDoesRow.holds Tryz.pinned (OpenSpec.ofChange betreeDoesSpec)

/-- ITS FALSE NEIGHBOUR: 'it returns false'. Refute it at one input. -/
def betreeDoesWrong : ChangeSpec := { name := "betreeDoes", fn := fun _ => fun
  | [d1, d2] => { results := [.lit (.bool false)], args := [d1, d2] }
  | _ => none }
def BetreeDoesWrongFalsely : Prop := betreeDoesRow.holds Tryz.pinned (OpenSpec.ofChange betreeDoesWrong)

/-- 'percolatelaw44.QuietTree': WHATEVER THE INPUT: true; the input reads as it did. -/
def quietTreeSpec : ChangeSpec := { name := "quietTree", fn := fun _ => fun
  | [d1, d2] => { results := [.lit (.bool true)], args := [d1, d2] }
  | _ => none }
def quietTreeRow : OpenClaim := { program := "ytbbemibbmbmamaagreat", sum := "ca2f5a75412042ba255149ab343f28732e9de0aef8262a73e02c17a16029593a", func := "percolate/percolatelaw44.QuietTree", spec := "quietTree", inPlace := ["slices.overlaps[percolate/api.Pair]", "slices.overlaps[string]", "slices.overlaps[int]"], unfollowed := true, recurses := true, apart := false }
def QuietTreeSaid : Prop := quietTreeRow.holds Tryz.pinned (OpenSpec.ofChange quietTreeSpec)

/-- ITS FALSE NEIGHBOUR: 'it returns false'. Refute it at one input. -/
def quietTreeWrong : ChangeSpec := { name := "quietTree", fn := fun _ => fun
  | [d1, d2] => { results := [.lit (.bool false)], args := [d1, d2] }
  | _ => none }
def QuietTreeWrongFalsely : Prop := quietTreeRow.holds Tryz.pinned (OpenSpec.ofChange quietTreeWrong)

/-- 'percolatelaw32.BetreePlain': WHATEVER THE INPUT: true; the input reads as it did. -/
def betreePlainSpec : ChangeSpec := { name := "betreePlain", fn := fun _ => fun
  | [d1, d2] => { results := [.lit (.bool true)], args := [d1, d2] }
  | _ => none }
def betreePlainRow : OpenClaim := { program := "ytbbemibbmbmamaagreat", sum := "ca2f5a75412042ba255149ab343f28732e9de0aef8262a73e02c17a16029593a", func := "percolate/percolatelaw32.BetreePlain", spec := "betreePlain", inPlace := ["slices.overlaps[percolate/api.Pair]", "slices.overlaps[string]", "slices.overlaps[int]"], unfollowed := true, recurses := true, apart := false }
def BetreePlainSaid : Prop := betreePlainRow.holds Tryz.pinned (OpenSpec.ofChange betreePlainSpec)

/-- ITS FALSE NEIGHBOUR: 'it returns false'. Refute it at one input. -/
def betreePlainWrong : ChangeSpec := { name := "betreePlain", fn := fun _ => fun
  | [d1, d2] => { results := [.lit (.bool false)], args := [d1, d2] }
  | _ => none }
def BetreePlainWrongFalsely : Prop := betreePlainRow.holds Tryz.pinned (OpenSpec.ofChange betreePlainWrong)

/- THE SECOND FORM. 'bulk': how many values and letters a reading holds, each counted each time it is reached (what is shared counts as often as it is met; a slice's spare places count too). A statement '..UptoSaid' is the law's where the arguments, and the package variables that the reading takes, are together of bulk at most 1048576: NARROWER than '..Said'. Prove '..Said' where nothing that the law and all that it calls make is longer than what came in: it says more and counts as full. Else prove '..UptoSaid'. A law counts once. -/
mutual
def uptoBulk {H : Type} : DataW H → Nat
  | .lit (.string bytes) => bytes.length + 1
  | .lit _ => 1
  | .nil => 1
  | .ptr d => uptoBulk d + 1
  | .slice elems spare => uptoBulkAll elems + uptoBulkAll spare + 1
  | .agg parts => uptoBulkAll parts + 1
  | .iface _ d => uptoBulk d + 1
  | .map entries => uptoBulkEntries entries + 1
  | .held _ => 1
def uptoBulkAll {H : Type} : List (DataW H) → Nat
  | [] => 0
  | d :: r => uptoBulk d + uptoBulkAll r
def uptoBulkEntries {H : Type} : List (Lit × DataW H) → Nat
  | [] => 0
  | x :: r => uptoBulkEntry x + uptoBulkEntries r
def uptoBulkEntry {H : Type} : Lit × DataW H → Nat
  | (.string bytes, d) => bytes.length + uptoBulk d + 1
  | (_, d) => uptoBulk d + 1
 end
def uptoSmall : (H : Type) → List (DataW H) → Bool := fun _ ds => decide (uptoBulkAll ds ≤ 1048576)
def OpenSpec.upto (s : _root_.Go.ChangeSpec) : _root_.Go.OpenSpec := { _root_.Go.OpenSpec.ofChange s with cond := some uptoSmall }

/-- 'percolatelaw32.BetreeRoom', WHERE WHAT IT READS IS OF BULK AT MOST 1048576: true; the input reads as it did. -/
def betreeRoomUptoRow : OpenClaim := { program := "ytbbemibbmbmamaagreat", sum := "ca2f5a75412042ba255149ab343f28732e9de0aef8262a73e02c17a16029593a", func := "percolate/percolatelaw32.BetreeRoom", spec := "betreeRoom", inPlace := ["slices.overlaps[percolate/api.Pair]", "slices.overlaps[string]", "slices.overlaps[int]"], unfollowed := true, recurses := true, apart := false, narrowed := true }
def BetreeRoomUptoSaid : Prop := betreeRoomUptoRow.holds Tryz.pinned (OpenSpec.upto betreeRoomSpec)

/-- 'percolatelaw32.BetreeDrains', WHERE WHAT IT READS IS OF BULK AT MOST 1048576: true; the input reads as it did. -/
def betreeDrainsUptoRow : OpenClaim := { program := "ytbbemibbmbmamaagreat", sum := "ca2f5a75412042ba255149ab343f28732e9de0aef8262a73e02c17a16029593a", func := "percolate/percolatelaw32.BetreeDrains", spec := "betreeDrains", inPlace := ["slices.overlaps[percolate/api.Pair]", "slices.overlaps[string]", "slices.overlaps[int]"], unfollowed := true, recurses := true, apart := false, narrowed := true }
def BetreeDrainsUptoSaid : Prop := betreeDrainsUptoRow.holds Tryz.pinned (OpenSpec.upto betreeDrainsSpec)

/-- 'percolatelaw32.BetreeDoes', WHERE WHAT IT READS IS OF BULK AT MOST 1048576: true; the input reads as it did. -/
def betreeDoesUptoRow : OpenClaim := { program := "ytbbemibbmbmamaagreat", sum := "ca2f5a75412042ba255149ab343f28732e9de0aef8262a73e02c17a16029593a", func := "percolate/percolatelaw32.BetreeDoes", spec := "betreeDoes", inPlace := ["slices.overlaps[percolate/api.Pair]", "slices.overlaps[string]", "slices.overlaps[int]"], unfollowed := true, recurses := true, apart := false, narrowed := true }
def BetreeDoesUptoSaid : Prop := betreeDoesUptoRow.holds Tryz.pinned (OpenSpec.upto betreeDoesSpec)

/-- 'percolatelaw44.QuietTree', WHERE WHAT IT READS IS OF BULK AT MOST 1048576: true; the input reads as it did. -/
def quietTreeUptoRow : OpenClaim := { program := "ytbbemibbmbmamaagreat", sum := "ca2f5a75412042ba255149ab343f28732e9de0aef8262a73e02c17a16029593a", func := "percolate/percolatelaw44.QuietTree", spec := "quietTree", inPlace := ["slices.overlaps[percolate/api.Pair]", "slices.overlaps[string]", "slices.overlaps[int]"], unfollowed := true, recurses := true, apart := false, narrowed := true }
def QuietTreeUptoSaid : Prop := quietTreeUptoRow.holds Tryz.pinned (OpenSpec.upto quietTreeSpec)

/-- 'percolatelaw32.BetreePlain', WHERE WHAT IT READS IS OF BULK AT MOST 1048576: true; the input reads as it did. -/
def betreePlainUptoRow : OpenClaim := { program := "ytbbemibbmbmamaagreat", sum := "ca2f5a75412042ba255149ab343f28732e9de0aef8262a73e02c17a16029593a", func := "percolate/percolatelaw32.BetreePlain", spec := "betreePlain", inPlace := ["slices.overlaps[percolate/api.Pair]", "slices.overlaps[string]", "slices.overlaps[int]"], unfollowed := true, recurses := true, apart := false, narrowed := true }
def BetreePlainUptoSaid : Prop := betreePlainUptoRow.holds Tryz.pinned (OpenSpec.upto betreePlainSpec)

end Rows
end Go.Proofs.YtbbemibbmbmamaaGreat
