/-
  No cell of these rows narrows 'for every input' (looked for: loops, veiled, ifaces, maps, wideKeys, modest, calm, conditions, laid).
  DERIVED. THE GIVEN ROWS OF THIS SEAT. 4 by the template 'for every input the law returns true; each argument reads behind the call as it read before'; 0 by the template 'total and deterministic' (their statements: YtebkfinhhpelbaaTotals.lean).
  GIVEN WITH THE SEED: the statements are not yours to turn. If you find one false, say at which input.
  Laid BY PROGRAM, IN A SANDBOX (cutbox-rows.mjs): the forced cells as the released guide's own fill.sh prints them over the translation ccaa87c2481ac3f1… (all of the seat's roots in one cut). By AI agents, Wed Nov 11 2026. No macro, syntax, notation, axiom, sorry.
-/
import Derived.Test.YtebkfinhhpelbaaChecked
import GoSem.Claim
import GoSem.ClaimJoined
import GoSem.ClaimMapViews
import Derived.JoinedTies
import Derived.KernelRfl
namespace Go.Proofs.Ytebkfinhhpelbaa
/- THE CELL 'sum', in the pinned program and in every row, IS THE sha256 OF THE DUMP (.gsa) THAT YtebkfinhhpelbaaProg.lean LOADS. Nothing in Lean hashes anything: it is a label: what it is worth is what the hold of that sum in a sandbox is worth. -/
noncomputable def Try.pinned : Pinned := { name := "ytebkfinhhpelbaa", sum := "ccaa87c2481ac3f11e6cde2bdc916ef7b5c219af65c9777507cc153e7de73061", checked := Try.checked }
namespace Rows
def none {H : Type} : Left H := { results := [], args := [] }

/-- 'percolatelaw44.QuietTells': WHATEVER THE INPUT: true; the input reads as it did. -/
def quietTellsSpec : ChangeSpec := { name := "quietTells", fn := fun _ => fun
  | [d1, d2, d3] => { results := [.lit (.bool true)], args := [d1, d2, d3] }
  | _ => none }
def quietTellsRow : OpenClaim := { program := "ytebkfinhhpelbaa", sum := "ccaa87c2481ac3f11e6cde2bdc916ef7b5c219af65c9777507cc153e7de73061", func := "percolate/percolatelaw44.QuietTells", spec := "quietTells", unfollowed := true, recurses := true, apart := false }
def QuietTellsSaid : Prop := quietTellsRow.holds Try.pinned (OpenSpec.ofChange quietTellsSpec)

/-- ITS FALSE NEIGHBOUR: 'it returns false'. Refute it at one input. -/
def quietTellsWrong : ChangeSpec := { name := "quietTells", fn := fun _ => fun
  | [d1, d2, d3] => { results := [.lit (.bool false)], args := [d1, d2, d3] }
  | _ => none }
def QuietTellsWrongFalsely : Prop := quietTellsRow.holds Try.pinned (OpenSpec.ofChange quietTellsWrong)

/-- 'percolatelaw25.StorePlays': WHATEVER THE INPUT: true; the input reads as it did. -/
def storePlaysSpec : ChangeSpec := { name := "storePlays", fn := fun _ => fun
  | [d1, d2, d3] => { results := [.lit (.bool true)], args := [d1, d2, d3] }
  | _ => none }
def storePlaysRow : OpenClaim := { program := "ytebkfinhhpelbaa", sum := "ccaa87c2481ac3f11e6cde2bdc916ef7b5c219af65c9777507cc153e7de73061", func := "percolate/percolatelaw25.StorePlays", spec := "storePlays", unfollowed := true, recurses := true, apart := false }
def StorePlaysSaid : Prop := storePlaysRow.holds Try.pinned (OpenSpec.ofChange storePlaysSpec)

/-- ITS FALSE NEIGHBOUR: 'it returns false'. Refute it at one input. -/
def storePlaysWrong : ChangeSpec := { name := "storePlays", fn := fun _ => fun
  | [d1, d2, d3] => { results := [.lit (.bool false)], args := [d1, d2, d3] }
  | _ => none }
def StorePlaysWrongFalsely : Prop := storePlaysRow.holds Try.pinned (OpenSpec.ofChange storePlaysWrong)

/-- 'percolatelaw27.RouteWays': WHATEVER THE INPUT: true; the input reads as it did. -/
def routeWaysSpec : ChangeSpec := { name := "routeWays", fn := fun _ => fun
  | [d1, d2, d3] => { results := [.lit (.bool true)], args := [d1, d2, d3] }
  | _ => none }
def routeWaysRow : OpenClaim := { program := "ytebkfinhhpelbaa", sum := "ccaa87c2481ac3f11e6cde2bdc916ef7b5c219af65c9777507cc153e7de73061", func := "percolate/percolatelaw27.RouteWays", spec := "routeWays", unfollowed := true, recurses := true, apart := false }
def RouteWaysSaid : Prop := routeWaysRow.holds Try.pinned (OpenSpec.ofChange routeWaysSpec)

/-- ITS FALSE NEIGHBOUR: 'it returns false'. Refute it at one input. -/
def routeWaysWrong : ChangeSpec := { name := "routeWays", fn := fun _ => fun
  | [d1, d2, d3] => { results := [.lit (.bool false)], args := [d1, d2, d3] }
  | _ => none }
def RouteWaysWrongFalsely : Prop := routeWaysRow.holds Try.pinned (OpenSpec.ofChange routeWaysWrong)

/-- 'percolatelaw42.AbstractCounts': WHATEVER THE INPUT: true; the input reads as it did. -/
def abstractCountsSpec : ChangeSpec := { name := "abstractCounts", fn := fun _ => fun
  | [d1, d2] => { results := [.lit (.bool true)], args := [d1, d2] }
  | _ => none }
def abstractCountsRow : OpenClaim := { program := "ytebkfinhhpelbaa", sum := "ccaa87c2481ac3f11e6cde2bdc916ef7b5c219af65c9777507cc153e7de73061", func := "percolate/percolatelaw42.AbstractCounts", spec := "abstractCounts", inPlace := ["slices.overlaps[percolate/api.Pair]"], unfollowed := true, recurses := true, apart := false }
def AbstractCountsSaid : Prop := abstractCountsRow.holds Try.pinned (OpenSpec.ofChange abstractCountsSpec)

/-- ITS FALSE NEIGHBOUR: 'it returns false'. Refute it at one input. -/
def abstractCountsWrong : ChangeSpec := { name := "abstractCounts", fn := fun _ => fun
  | [d1, d2] => { results := [.lit (.bool false)], args := [d1, d2] }
  | _ => none }
def AbstractCountsWrongFalsely : Prop := abstractCountsRow.holds Try.pinned (OpenSpec.ofChange abstractCountsWrong)

/- THE SECOND FORM. 'bulk': how many values and letters a reading holds, each counted each time it is reached (what is shared counts as often as it is met; a slice's spare places count too). A statement '..UptoSaid' is the law's where the arguments, and the package variables that the reading takes, are together of bulk at most 1048576: NARROWER than '..Said'. Prove '..Said' where nothing that the law and all that it calls make is longer than what came in: it says more and counts as full. Else prove '..UptoSaid'. A law counts once. -/
mutual
def uptoBulk {H : Type} : DataW H → Nat
  | .lit (.string bytes) => bytes.length + 1
  | .lit _ => 1
  | .nil => 1
  | .ptr d => uptoBulk d + 1
  | .slice elems spare => uptoBulkAll elems + uptoBulkAll spare + 1
  | .agg parts => uptoBulkAll parts + 1
  | .iface _ d => uptoBulk d + 1
  | .map entries => uptoBulkEntries entries + 1
  | .held _ => 1
def uptoBulkAll {H : Type} : List (DataW H) → Nat
  | [] => 0
  | d :: r => uptoBulk d + uptoBulkAll r
def uptoBulkEntries {H : Type} : List (Lit × DataW H) → Nat
  | [] => 0
  | x :: r => uptoBulkEntry x + uptoBulkEntries r
def uptoBulkEntry {H : Type} : Lit × DataW H → Nat
  | (.string bytes, d) => bytes.length + uptoBulk d + 1
  | (_, d) => uptoBulk d + 1
 end
def uptoSmall : (H : Type) → List (DataW H) → Bool := fun _ ds => decide (uptoBulkAll ds ≤ 1048576)
def OpenSpec.upto (s : _root_.Go.ChangeSpec) : _root_.Go.OpenSpec := { _root_.Go.OpenSpec.ofChange s with cond := some uptoSmall }

/-- 'percolatelaw44.QuietTells', WHERE WHAT IT READS IS OF BULK AT MOST 1048576: true; the input reads as it did. -/
def quietTellsUptoRow : OpenClaim := { program := "ytebkfinhhpelbaa", sum := "ccaa87c2481ac3f11e6cde2bdc916ef7b5c219af65c9777507cc153e7de73061", func := "percolate/percolatelaw44.QuietTells", spec := "quietTells", unfollowed := true, recurses := true, apart := false, narrowed := true }
def QuietTellsUptoSaid : Prop := quietTellsUptoRow.holds Try.pinned (OpenSpec.upto quietTellsSpec)

/-- 'percolatelaw25.StorePlays', WHERE WHAT IT READS IS OF BULK AT MOST 1048576: true; the input reads as it did. -/
def storePlaysUptoRow : OpenClaim := { program := "ytebkfinhhpelbaa", sum := "ccaa87c2481ac3f11e6cde2bdc916ef7b5c219af65c9777507cc153e7de73061", func := "percolate/percolatelaw25.StorePlays", spec := "storePlays", unfollowed := true, recurses := true, apart := false, narrowed := true }
def StorePlaysUptoSaid : Prop := storePlaysUptoRow.holds Try.pinned (OpenSpec.upto storePlaysSpec)

/-- 'percolatelaw27.RouteWays', WHERE WHAT IT READS IS OF BULK AT MOST 1048576: true; the input reads as it did. -/
def routeWaysUptoRow : OpenClaim := { program := "ytebkfinhhpelbaa", sum := "ccaa87c2481ac3f11e6cde2bdc916ef7b5c219af65c9777507cc153e7de73061", func := "percolate/percolatelaw27.RouteWays", spec := "routeWays", unfollowed := true, recurses := true, apart := false, narrowed := true }
def RouteWaysUptoSaid : Prop := routeWaysUptoRow.holds Try.pinned (OpenSpec.upto routeWaysSpec)

/-- 'percolatelaw42.AbstractCounts', WHERE WHAT IT READS IS OF BULK AT MOST 1048576: true; the input reads as it did. -/
def abstractCountsUptoRow : OpenClaim := { program := "ytebkfinhhpelbaa", sum := "ccaa87c2481ac3f11e6cde2bdc916ef7b5c219af65c9777507cc153e7de73061", func := "percolate/percolatelaw42.AbstractCounts", spec := "abstractCounts", inPlace := ["slices.overlaps[percolate/api.Pair]"], unfollowed := true, recurses := true, apart := false, narrowed := true }
def AbstractCountsUptoSaid : Prop := abstractCountsUptoRow.holds Try.pinned (OpenSpec.upto abstractCountsSpec)

end Rows
end Go.Proofs.Ytebkfinhhpelbaa
