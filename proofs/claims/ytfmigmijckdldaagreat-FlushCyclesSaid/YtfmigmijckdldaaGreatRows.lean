/-
  No cell of these rows narrows 'for every input' (looked for: loops, veiled, ifaces, maps, wideKeys, modest, calm, conditions, laid).
  DERIVED. THE GIVEN ROWS OF THIS SEAT. 2 by the template 'for every input the law returns true; each argument reads behind the call as it read before'; 0 by the template 'total and deterministic' (their statements: YtfmigmijckdldaaGreatTotals.lean).
  GIVEN WITH THE SEED: the statements are not yours to turn. If you find one false, say at which input.
  Laid BY PROGRAM, IN A SANDBOX (cutbox-rows.mjs): the forced cells as the released guide's own fill.sh prints them over the translation 437dc504619fbc97… (all of the seat's roots in one cut). By AI agents, Wed Nov 11 2026. No macro, syntax, notation, axiom, sorry.
-/
import Derived.Test.YtfmigmijckdldaaGreatChecked
import GoSem.Claim
import GoSem.ClaimJoined
import GoSem.ClaimMapViews
import Derived.JoinedTies
import Derived.KernelRfl
namespace Go.Proofs.YtfmigmijckdldaaGreat
/- THE CELL 'sum', in the pinned program and in every row, IS THE sha256 OF THE DUMP (.gsa) THAT YtfmigmijckdldaaGreatProg.lean LOADS. Nothing in Lean hashes anything: it is a label: what it is worth is what the hold of that sum in a sandbox is worth. -/
noncomputable def Tryz.pinned : Pinned := { name := "ytfmigmijckdldaagreat", sum := "437dc504619fbc97bc2eee69bbf497033c58acc2c89d5caddb87f110b246e52e", checked := Tryz.checked }
namespace Rows
def none {H : Type} : Left H := { results := [], args := [] }

/-- 'percolatelaw31.FlushSteps': WHATEVER THE INPUT: true; the input reads as it did. -/
def flushStepsSpec : ChangeSpec := { name := "flushSteps", fn := fun _ => fun
  | [d1, d2, d3, d4] => { results := [.lit (.bool true)], args := [d1, d2, d3, d4] }
  | _ => none }
def flushStepsRow : OpenClaim := { program := "ytfmigmijckdldaagreat", sum := "437dc504619fbc97bc2eee69bbf497033c58acc2c89d5caddb87f110b246e52e", func := "percolate/percolatelaw31.FlushSteps", spec := "flushSteps", inPlace := ["slices.overlaps[percolate/api.Pair]", "slices.overlaps[string]", "slices.overlaps[int]"], unfollowed := true, recurses := true, apart := false }
def FlushStepsSaid : Prop := flushStepsRow.holds Tryz.pinned (OpenSpec.ofChange flushStepsSpec)

/-- ITS FALSE NEIGHBOUR: 'it returns false'. Refute it at one input. -/
def flushStepsWrong : ChangeSpec := { name := "flushSteps", fn := fun _ => fun
  | [d1, d2, d3, d4] => { results := [.lit (.bool false)], args := [d1, d2, d3, d4] }
  | _ => none }
def FlushStepsWrongFalsely : Prop := flushStepsRow.holds Tryz.pinned (OpenSpec.ofChange flushStepsWrong)

/-- 'percolatelaw31.FlushCycles': WHATEVER THE INPUT: true; the input reads as it did. -/
def flushCyclesSpec : ChangeSpec := { name := "flushCycles", fn := fun _ => fun
  | [d1, d2, d3] => { results := [.lit (.bool true)], args := [d1, d2, d3] }
  | _ => none }
def flushCyclesRow : OpenClaim := { program := "ytfmigmijckdldaagreat", sum := "437dc504619fbc97bc2eee69bbf497033c58acc2c89d5caddb87f110b246e52e", func := "percolate/percolatelaw31.FlushCycles", spec := "flushCycles", inPlace := ["slices.overlaps[percolate/api.Pair]", "slices.overlaps[string]", "slices.overlaps[int]"], unfollowed := true, recurses := true, apart := false }
def FlushCyclesSaid : Prop := flushCyclesRow.holds Tryz.pinned (OpenSpec.ofChange flushCyclesSpec)

/-- ITS FALSE NEIGHBOUR: 'it returns false'. Refute it at one input. -/
def flushCyclesWrong : ChangeSpec := { name := "flushCycles", fn := fun _ => fun
  | [d1, d2, d3] => { results := [.lit (.bool false)], args := [d1, d2, d3] }
  | _ => none }
def FlushCyclesWrongFalsely : Prop := flushCyclesRow.holds Tryz.pinned (OpenSpec.ofChange flushCyclesWrong)

/- THE SECOND FORM. 'bulk': how many values and letters a reading holds, each counted each time it is reached (what is shared counts as often as it is met; a slice's spare places count too). A statement '..UptoSaid' is the law's where the arguments, and the package variables that the reading takes, are together of bulk at most 1048576: NARROWER than '..Said'. Prove '..Said' where nothing that the law and all that it calls make is longer than what came in: it says more and counts as full. Else prove '..UptoSaid'. A law counts once. -/
mutual
def uptoBulk {H : Type} : DataW H → Nat
  | .lit (.string bytes) => bytes.length + 1
  | .lit _ => 1
  | .nil => 1
  | .ptr d => uptoBulk d + 1
  | .slice elems spare => uptoBulkAll elems + uptoBulkAll spare + 1
  | .agg parts => uptoBulkAll parts + 1
  | .iface _ d => uptoBulk d + 1
  | .map entries => uptoBulkEntries entries + 1
  | .held _ => 1
def uptoBulkAll {H : Type} : List (DataW H) → Nat
  | [] => 0
  | d :: r => uptoBulk d + uptoBulkAll r
def uptoBulkEntries {H : Type} : List (Lit × DataW H) → Nat
  | [] => 0
  | x :: r => uptoBulkEntry x + uptoBulkEntries r
def uptoBulkEntry {H : Type} : Lit × DataW H → Nat
  | (.string bytes, d) => bytes.length + uptoBulk d + 1
  | (_, d) => uptoBulk d + 1
 end
def uptoSmall : (H : Type) → List (DataW H) → Bool := fun _ ds => decide (uptoBulkAll ds ≤ 1048576)
def OpenSpec.upto (s : _root_.Go.ChangeSpec) : _root_.Go.OpenSpec := { _root_.Go.OpenSpec.ofChange s with cond := some uptoSmall }

/-- 'percolatelaw31.FlushSteps', WHERE WHAT IT READS IS OF BULK AT MOST 1048576: true; the input reads as it did. -/
def flushStepsUptoRow : OpenClaim := { program := "ytfmigmijckdldaagreat", sum := "437dc504619fbc97bc2eee69bbf497033c58acc2c89d5caddb87f110b246e52e", func := "percolate/percolatelaw31.FlushSteps", spec := "flushSteps", inPlace := ["slices.overlaps[percolate/api.Pair]", "slices.overlaps[string]", "slices.overlaps[int]"], unfollowed := true, recurses := true, apart := false, narrowed := true }
def FlushStepsUptoSaid : Prop := flushStepsUptoRow.holds Tryz.pinned (OpenSpec.upto flushStepsSpec)

/-- 'percolatelaw31.FlushCycles', WHERE WHAT IT READS IS OF BULK AT MOST 1048576: true; the input reads as it did. -/
def flushCyclesUptoRow : OpenClaim := { program := "ytfmigmijckdldaagreat", sum := "437dc504619fbc97bc2eee69bbf497033c58acc2c89d5caddb87f110b246e52e", func := "percolate/percolatelaw31.FlushCycles", spec := "flushCycles", inPlace := ["slices.overlaps[percolate/api.Pair]", "slices.overlaps[string]", "slices.overlaps[int]"], unfollowed := true, recurses := true, apart := false, narrowed := true }
def FlushCyclesUptoSaid : Prop := flushCyclesUptoRow.holds Tryz.pinned (OpenSpec.upto flushCyclesSpec)

end Rows
end Go.Proofs.YtfmigmijckdldaaGreat
