/-
  No cell of these rows narrows 'for every input' (looked for: loops, veiled, ifaces, maps, wideKeys, modest, calm, conditions, laid).
  DERIVED. THE GIVEN ROWS OF THIS SEAT. 3 by the template 'for every input the law returns true; each argument reads behind the call as it read before'; 0 by the template 'total and deterministic' (their statements: YtcngningbcaggaaTotals.lean).
  GIVEN WITH THE SEED: the statements are not yours to turn. If you find one false, say at which input.
  Laid BY PROGRAM, IN A SANDBOX (cutbox-rows.mjs): the forced cells as the released guide's own fill.sh prints them over the translation 5810c1c5c4e6dd57… (all of the seat's roots in one cut). By AI agents, Wed Nov 11 2026. No macro, syntax, notation, axiom, sorry.
-/
import Derived.Test.YtcngningbcaggaaChecked
import GoSem.Claim
import GoSem.ClaimJoined
import GoSem.ClaimMapViews
import Derived.JoinedTies
import Derived.KernelRfl
namespace Go.Proofs.Ytcngningbcaggaa
/- THE CELL 'sum', in the pinned program and in every row, IS THE sha256 OF THE DUMP (.gsa) THAT YtcngningbcaggaaProg.lean LOADS. Nothing in Lean hashes anything: it is a label: what it is worth is what the hold of that sum in a sandbox is worth. -/
noncomputable def Try.pinned : Pinned := { name := "ytcngningbcaggaa", sum := "5810c1c5c4e6dd571f0663180b6708f67ca94ca9cbcd0f4b52482597d296e8d6", checked := Try.checked }
namespace Rows
def none {H : Type} : Left H := { results := [], args := [] }

/-- 'percolatelaw44.QuietTells': WHATEVER THE INPUT: true; the input reads as it did. -/
def quietTellsSpec : ChangeSpec := { name := "quietTells", fn := fun _ => fun
  | [d1, d2, d3] => { results := [.lit (.bool true)], args := [d1, d2, d3] }
  | _ => none }
def quietTellsRow : OpenClaim := { program := "ytcngningbcaggaa", sum := "5810c1c5c4e6dd571f0663180b6708f67ca94ca9cbcd0f4b52482597d296e8d6", func := "percolate/percolatelaw44.QuietTells", spec := "quietTells", unfollowed := true, recurses := true, apart := false }
def QuietTellsSaid : Prop := quietTellsRow.holds Try.pinned (OpenSpec.ofChange quietTellsSpec)

/-- ITS FALSE NEIGHBOUR: 'it returns false'. Refute it at one input. -/
def quietTellsWrong : ChangeSpec := { name := "quietTells", fn := fun _ => fun
  | [d1, d2, d3] => { results := [.lit (.bool false)], args := [d1, d2, d3] }
  | _ => none }
def QuietTellsWrongFalsely : Prop := quietTellsRow.holds Try.pinned (OpenSpec.ofChange quietTellsWrong)

/-- 'percolatelaw17.BpsoundTells': WHATEVER THE INPUT: true; the input reads as it did. -/
def bpsoundTellsSpec : ChangeSpec := { name := "bpsoundTells", fn := fun _ => fun
  | [d1, d2, d3] => { results := [.lit (.bool true)], args := [d1, d2, d3] }
  | _ => none }
def bpsoundTellsRow : OpenClaim := { program := "ytcngningbcaggaa", sum := "5810c1c5c4e6dd571f0663180b6708f67ca94ca9cbcd0f4b52482597d296e8d6", func := "percolate/percolatelaw17.BpsoundTells", spec := "bpsoundTells", unfollowed := true, recurses := true, apart := false }
def BpsoundTellsSaid : Prop := bpsoundTellsRow.holds Try.pinned (OpenSpec.ofChange bpsoundTellsSpec)

/-- ITS FALSE NEIGHBOUR: 'it returns false'. Refute it at one input. -/
def bpsoundTellsWrong : ChangeSpec := { name := "bpsoundTells", fn := fun _ => fun
  | [d1, d2, d3] => { results := [.lit (.bool false)], args := [d1, d2, d3] }
  | _ => none }
def BpsoundTellsWrongFalsely : Prop := bpsoundTellsRow.holds Try.pinned (OpenSpec.ofChange bpsoundTellsWrong)

/-- 'percolatelaw42.AbstractCounts': WHATEVER THE INPUT: true; the input reads as it did. -/
def abstractCountsSpec : ChangeSpec := { name := "abstractCounts", fn := fun _ => fun
  | [d1, d2] => { results := [.lit (.bool true)], args := [d1, d2] }
  | _ => none }
def abstractCountsRow : OpenClaim := { program := "ytcngningbcaggaa", sum := "5810c1c5c4e6dd571f0663180b6708f67ca94ca9cbcd0f4b52482597d296e8d6", func := "percolate/percolatelaw42.AbstractCounts", spec := "abstractCounts", inPlace := ["slices.overlaps[percolate/api.Pair]"], unfollowed := true, recurses := true, apart := false }
def AbstractCountsSaid : Prop := abstractCountsRow.holds Try.pinned (OpenSpec.ofChange abstractCountsSpec)

/-- ITS FALSE NEIGHBOUR: 'it returns false'. Refute it at one input. -/
def abstractCountsWrong : ChangeSpec := { name := "abstractCounts", fn := fun _ => fun
  | [d1, d2] => { results := [.lit (.bool false)], args := [d1, d2] }
  | _ => none }
def AbstractCountsWrongFalsely : Prop := abstractCountsRow.holds Try.pinned (OpenSpec.ofChange abstractCountsWrong)

/- THE SECOND FORM. 'bulk': how many values and letters a reading holds, each counted each time it is reached (what is shared counts as often as it is met; a slice's spare places count too). A statement '..UptoSaid' is the law's where the arguments, and the package variables that the reading takes, are together of bulk at most 1048576: NARROWER than '..Said'. Prove '..Said' where nothing that the law and all that it calls make is longer than what came in: it says more and counts as full. Else prove '..UptoSaid'. A law counts once. -/
mutual
def uptoBulk {H : Type} : DataW H → Nat
  | .lit (.string bytes) => bytes.length + 1
  | .lit _ => 1
  | .nil => 1
  | .ptr d => uptoBulk d + 1
  | .slice elems spare => uptoBulkAll elems + uptoBulkAll spare + 1
  | .agg parts => uptoBulkAll parts + 1
  | .iface _ d => uptoBulk d + 1
  | .map entries => uptoBulkEntries entries + 1
  | .held _ => 1
def uptoBulkAll {H : Type} : List (DataW H) → Nat
  | [] => 0
  | d :: r => uptoBulk d + uptoBulkAll r
def uptoBulkEntries {H : Type} : List (Lit × DataW H) → Nat
  | [] => 0
  | x :: r => uptoBulkEntry x + uptoBulkEntries r
def uptoBulkEntry {H : Type} : Lit × DataW H → Nat
  | (.string bytes, d) => bytes.length + uptoBulk d + 1
  | (_, d) => uptoBulk d + 1
 end
def uptoSmall : (H : Type) → List (DataW H) → Bool := fun _ ds => decide (uptoBulkAll ds ≤ 1048576)
def OpenSpec.upto (s : _root_.Go.ChangeSpec) : _root_.Go.OpenSpec := { _root_.Go.OpenSpec.ofChange s with cond := some uptoSmall }

/-- 'percolatelaw44.QuietTells', WHERE WHAT IT READS IS OF BULK AT MOST 1048576: true; the input reads as it did. -/
def quietTellsUptoRow : OpenClaim := { program := "ytcngningbcaggaa", sum := "5810c1c5c4e6dd571f0663180b6708f67ca94ca9cbcd0f4b52482597d296e8d6", func := "percolate/percolatelaw44.QuietTells", spec := "quietTells", unfollowed := true, recurses := true, apart := false, narrowed := true }
def QuietTellsUptoSaid : Prop := quietTellsUptoRow.holds Try.pinned (OpenSpec.upto quietTellsSpec)

/-- 'percolatelaw17.BpsoundTells', WHERE WHAT IT READS IS OF BULK AT MOST 1048576: true; the input reads as it did. -/
def bpsoundTellsUptoRow : OpenClaim := { program := "ytcngningbcaggaa", sum := "5810c1c5c4e6dd571f0663180b6708f67ca94ca9cbcd0f4b52482597d296e8d6", func := "percolate/percolatelaw17.BpsoundTells", spec := "bpsoundTells", unfollowed := true, recurses := true, apart := false, narrowed := true }
def BpsoundTellsUptoSaid : Prop := bpsoundTellsUptoRow.holds Try.pinned (OpenSpec.upto bpsoundTellsSpec)

/-- 'percolatelaw42.AbstractCounts', WHERE WHAT IT READS IS OF BULK AT MOST 1048576: true; the input reads as it did. -/
def abstractCountsUptoRow : OpenClaim := { program := "ytcngningbcaggaa", sum := "5810c1c5c4e6dd571f0663180b6708f67ca94ca9cbcd0f4b52482597d296e8d6", func := "percolate/percolatelaw42.AbstractCounts", spec := "abstractCounts", inPlace := ["slices.overlaps[percolate/api.Pair]"], unfollowed := true, recurses := true, apart := false, narrowed := true }
def AbstractCountsUptoSaid : Prop := abstractCountsUptoRow.holds Try.pinned (OpenSpec.upto abstractCountsSpec)

end Rows
end Go.Proofs.Ytcngningbcaggaa
