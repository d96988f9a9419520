/-
  No cell of these rows narrows 'for every input' (looked for: loops, veiled, ifaces, maps, wideKeys, modest, calm, conditions, laid).
  DERIVED. THE GIVEN ROWS OF THIS SEAT. 15 by the template 'for every input the law returns true; each argument reads behind the call as it read before'; 0 by the template 'total and deterministic' (their statements: YtmadhgdplocfbaaTotals.lean).
  GIVEN WITH THE SEED: the statements are not yours to turn. If you find one false, say at which input.
  Laid BY PROGRAM, IN A SANDBOX (cutbox-rows.mjs): the forced cells as the released guide's own fill.sh prints them over the translation ddb2218c9388f0b1… (all of the seat's roots in one cut). By AI agents, Wed Nov 11 2026. No macro, syntax, notation, axiom, sorry.
-/
import Derived.Test.YtmadhgdplocfbaaChecked
import GoSem.Claim
import GoSem.ClaimJoined
import GoSem.ClaimMapViews
import Derived.JoinedTies
import Derived.KernelRfl
namespace Go.Proofs.Ytmadhgdplocfbaa
/- THE CELL 'sum', in the pinned program and in every row, IS THE sha256 OF THE DUMP (.gsa) THAT YtmadhgdplocfbaaProg.lean LOADS. Nothing in Lean hashes anything: it is a label: what it is worth is what the hold of that sum in a sandbox is worth. -/
noncomputable def Try.pinned : Pinned := { name := "ytmadhgdplocfbaa", sum := "ddb2218c9388f0b1c985c60739b6c81f9350b59e6bb21bac130b8e45481f7116", checked := Try.checked }
namespace Rows
def none {H : Type} : Left H := { results := [], args := [] }

/-- 'percolatelaw44.QuietBounds': WHATEVER THE INPUT: true; the input reads as it did. -/
def quietBoundsSpec : ChangeSpec := { name := "quietBounds", fn := fun _ => fun
  | [d1, d2] => { results := [.lit (.bool true)], args := [d1, d2] }
  | _ => none }
def quietBoundsRow : OpenClaim := { program := "ytmadhgdplocfbaa", sum := "ddb2218c9388f0b1c985c60739b6c81f9350b59e6bb21bac130b8e45481f7116", func := "percolate/percolatelaw44.QuietBounds", spec := "quietBounds", apart := false }
def QuietBoundsSaid : Prop := quietBoundsRow.holds Try.pinned (OpenSpec.ofChange quietBoundsSpec)

/-- ITS FALSE NEIGHBOUR: 'it returns false'. Refute it at one input. -/
def quietBoundsWrong : ChangeSpec := { name := "quietBounds", fn := fun _ => fun
  | [d1, d2] => { results := [.lit (.bool false)], args := [d1, d2] }
  | _ => none }
def QuietBoundsWrongFalsely : Prop := quietBoundsRow.holds Try.pinned (OpenSpec.ofChange quietBoundsWrong)

/-- 'percolatelaw15.BnodeRoutes': WHATEVER THE INPUT: true; the input reads as it did. -/
def bnodeRoutesSpec : ChangeSpec := { name := "bnodeRoutes", fn := fun _ => fun
  | [d1, d2, d3, d4] => { results := [.lit (.bool true)], args := [d1, d2, d3, d4] }
  | _ => none }
def bnodeRoutesRow : OpenClaim := { program := "ytmadhgdplocfbaa", sum := "ddb2218c9388f0b1c985c60739b6c81f9350b59e6bb21bac130b8e45481f7116", func := "percolate/percolatelaw15.BnodeRoutes", spec := "bnodeRoutes", apart := false }
def BnodeRoutesSaid : Prop := bnodeRoutesRow.holds Try.pinned (OpenSpec.ofChange bnodeRoutesSpec)

/-- ITS FALSE NEIGHBOUR: 'it returns false'. Refute it at one input. -/
def bnodeRoutesWrong : ChangeSpec := { name := "bnodeRoutes", fn := fun _ => fun
  | [d1, d2, d3, d4] => { results := [.lit (.bool false)], args := [d1, d2, d3, d4] }
  | _ => none }
def BnodeRoutesWrongFalsely : Prop := bnodeRoutesRow.holds Try.pinned (OpenSpec.ofChange bnodeRoutesWrong)

/-- 'percolatelaw44.QuietTells': WHATEVER THE INPUT: true; the input reads as it did. -/
def quietTellsSpec : ChangeSpec := { name := "quietTells", fn := fun _ => fun
  | [d1, d2, d3] => { results := [.lit (.bool true)], args := [d1, d2, d3] }
  | _ => none }
def quietTellsRow : OpenClaim := { program := "ytmadhgdplocfbaa", sum := "ddb2218c9388f0b1c985c60739b6c81f9350b59e6bb21bac130b8e45481f7116", func := "percolate/percolatelaw44.QuietTells", spec := "quietTells", unfollowed := true, recurses := true, apart := false }
def QuietTellsSaid : Prop := quietTellsRow.holds Try.pinned (OpenSpec.ofChange quietTellsSpec)

/-- ITS FALSE NEIGHBOUR: 'it returns false'. Refute it at one input. -/
def quietTellsWrong : ChangeSpec := { name := "quietTells", fn := fun _ => fun
  | [d1, d2, d3] => { results := [.lit (.bool false)], args := [d1, d2, d3] }
  | _ => none }
def QuietTellsWrongFalsely : Prop := quietTellsRow.holds Try.pinned (OpenSpec.ofChange quietTellsWrong)

/-- 'percolatelaw15.BnodeHalves': WHATEVER THE INPUT: true; the input reads as it did. -/
def bnodeHalvesSpec : ChangeSpec := { name := "bnodeHalves", fn := fun _ => fun
  | [d1, d2] => { results := [.lit (.bool true)], args := [d1, d2] }
  | _ => none }
def bnodeHalvesRow : OpenClaim := { program := "ytmadhgdplocfbaa", sum := "ddb2218c9388f0b1c985c60739b6c81f9350b59e6bb21bac130b8e45481f7116", func := "percolate/percolatelaw15.BnodeHalves", spec := "bnodeHalves", apart := false }
def BnodeHalvesSaid : Prop := bnodeHalvesRow.holds Try.pinned (OpenSpec.ofChange bnodeHalvesSpec)

/-- ITS FALSE NEIGHBOUR: 'it returns false'. Refute it at one input. -/
def bnodeHalvesWrong : ChangeSpec := { name := "bnodeHalves", fn := fun _ => fun
  | [d1, d2] => { results := [.lit (.bool false)], args := [d1, d2] }
  | _ => none }
def BnodeHalvesWrongFalsely : Prop := bnodeHalvesRow.holds Try.pinned (OpenSpec.ofChange bnodeHalvesWrong)

/-- 'percolatelaw28.LookupOf': WHATEVER THE INPUT: true; the input reads as it did. -/
def lookupOfSpec : ChangeSpec := { name := "lookupOf", fn := fun _ => fun
  | [d1, d2, d3] => { results := [.lit (.bool true)], args := [d1, d2, d3] }
  | _ => none }
def lookupOfRow : OpenClaim := { program := "ytmadhgdplocfbaa", sum := "ddb2218c9388f0b1c985c60739b6c81f9350b59e6bb21bac130b8e45481f7116", func := "percolate/percolatelaw28.LookupOf", spec := "lookupOf", unfollowed := true, recurses := true, apart := false }
def LookupOfSaid : Prop := lookupOfRow.holds Try.pinned (OpenSpec.ofChange lookupOfSpec)

/-- ITS FALSE NEIGHBOUR: 'it returns false'. Refute it at one input. -/
def lookupOfWrong : ChangeSpec := { name := "lookupOf", fn := fun _ => fun
  | [d1, d2, d3] => { results := [.lit (.bool false)], args := [d1, d2, d3] }
  | _ => none }
def LookupOfWrongFalsely : Prop := lookupOfRow.holds Try.pinned (OpenSpec.ofChange lookupOfWrong)

/-- 'percolatelaw22.CleaveHalves': WHATEVER THE INPUT: true; the input reads as it did. -/
def cleaveHalvesSpec : ChangeSpec := { name := "cleaveHalves", fn := fun _ => fun
  | [d1, d2, d3] => { results := [.lit (.bool true)], args := [d1, d2, d3] }
  | _ => none }
def cleaveHalvesRow : OpenClaim := { program := "ytmadhgdplocfbaa", sum := "ddb2218c9388f0b1c985c60739b6c81f9350b59e6bb21bac130b8e45481f7116", func := "percolate/percolatelaw22.CleaveHalves", spec := "cleaveHalves", apart := false }
def CleaveHalvesSaid : Prop := cleaveHalvesRow.holds Try.pinned (OpenSpec.ofChange cleaveHalvesSpec)

/-- ITS FALSE NEIGHBOUR: 'it returns false'. Refute it at one input. -/
def cleaveHalvesWrong : ChangeSpec := { name := "cleaveHalves", fn := fun _ => fun
  | [d1, d2, d3] => { results := [.lit (.bool false)], args := [d1, d2, d3] }
  | _ => none }
def CleaveHalvesWrongFalsely : Prop := cleaveHalvesRow.holds Try.pinned (OpenSpec.ofChange cleaveHalvesWrong)

/-- 'percolatelaw11.SlotsPlays': WHATEVER THE INPUT: true; the input reads as it did. -/
def slotsPlaysSpec : ChangeSpec := { name := "slotsPlays", fn := fun _ => fun
  | [d1, d2] => { results := [.lit (.bool true)], args := [d1, d2] }
  | _ => none }
def slotsPlaysRow : OpenClaim := { program := "ytmadhgdplocfbaa", sum := "ddb2218c9388f0b1c985c60739b6c81f9350b59e6bb21bac130b8e45481f7116", func := "percolate/percolatelaw11.SlotsPlays", spec := "slotsPlays", unfollowed := true, recurses := true, apart := false }
def SlotsPlaysSaid : Prop := slotsPlaysRow.holds Try.pinned (OpenSpec.ofChange slotsPlaysSpec)

/-- ITS FALSE NEIGHBOUR: 'it returns false'. Refute it at one input. -/
def slotsPlaysWrong : ChangeSpec := { name := "slotsPlays", fn := fun _ => fun
  | [d1, d2] => { results := [.lit (.bool false)], args := [d1, d2] }
  | _ => none }
def SlotsPlaysWrongFalsely : Prop := slotsPlaysRow.holds Try.pinned (OpenSpec.ofChange slotsPlaysWrong)

/-- 'percolatelaw11.SlotsNobody': WHATEVER THE INPUT: true; the input reads as it did. -/
def slotsNobodySpec : ChangeSpec := { name := "slotsNobody", fn := fun _ => fun
  | [d] => { results := [.lit (.bool true)], args := [d] }
  | _ => none }
def slotsNobodyRow : OpenClaim := { program := "ytmadhgdplocfbaa", sum := "ddb2218c9388f0b1c985c60739b6c81f9350b59e6bb21bac130b8e45481f7116", func := "percolate/percolatelaw11.SlotsNobody", spec := "slotsNobody", unfollowed := true, recurses := true, apart := false }
def SlotsNobodySaid : Prop := slotsNobodyRow.holds Try.pinned (OpenSpec.ofChange slotsNobodySpec)

/-- ITS FALSE NEIGHBOUR: 'it returns false'. Refute it at one input. -/
def slotsNobodyWrong : ChangeSpec := { name := "slotsNobody", fn := fun _ => fun
  | [d] => { results := [.lit (.bool false)], args := [d] }
  | _ => none }
def SlotsNobodyWrongFalsely : Prop := slotsNobodyRow.holds Try.pinned (OpenSpec.ofChange slotsNobodyWrong)

/-- 'percolatelaw17.BpsoundTells': WHATEVER THE INPUT: true; the input reads as it did. -/
def bpsoundTellsSpec : ChangeSpec := { name := "bpsoundTells", fn := fun _ => fun
  | [d1, d2, d3] => { results := [.lit (.bool true)], args := [d1, d2, d3] }
  | _ => none }
def bpsoundTellsRow : OpenClaim := { program := "ytmadhgdplocfbaa", sum := "ddb2218c9388f0b1c985c60739b6c81f9350b59e6bb21bac130b8e45481f7116", func := "percolate/percolatelaw17.BpsoundTells", spec := "bpsoundTells", unfollowed := true, recurses := true, apart := false }
def BpsoundTellsSaid : Prop := bpsoundTellsRow.holds Try.pinned (OpenSpec.ofChange bpsoundTellsSpec)

/-- ITS FALSE NEIGHBOUR: 'it returns false'. Refute it at one input. -/
def bpsoundTellsWrong : ChangeSpec := { name := "bpsoundTells", fn := fun _ => fun
  | [d1, d2, d3] => { results := [.lit (.bool false)], args := [d1, d2, d3] }
  | _ => none }
def BpsoundTellsWrongFalsely : Prop := bpsoundTellsRow.holds Try.pinned (OpenSpec.ofChange bpsoundTellsWrong)

/-- 'percolatelaw22.CleaveLifts': WHATEVER THE INPUT: true; the input reads as it did. -/
def cleaveLiftsSpec : ChangeSpec := { name := "cleaveLifts", fn := fun _ => fun
  | [d1, d2, d3, d4] => { results := [.lit (.bool true)], args := [d1, d2, d3, d4] }
  | _ => none }
def cleaveLiftsRow : OpenClaim := { program := "ytmadhgdplocfbaa", sum := "ddb2218c9388f0b1c985c60739b6c81f9350b59e6bb21bac130b8e45481f7116", func := "percolate/percolatelaw22.CleaveLifts", spec := "cleaveLifts", apart := false }
def CleaveLiftsSaid : Prop := cleaveLiftsRow.holds Try.pinned (OpenSpec.ofChange cleaveLiftsSpec)

/-- ITS FALSE NEIGHBOUR: 'it returns false'. Refute it at one input. -/
def cleaveLiftsWrong : ChangeSpec := { name := "cleaveLifts", fn := fun _ => fun
  | [d1, d2, d3, d4] => { results := [.lit (.bool false)], args := [d1, d2, d3, d4] }
  | _ => none }
def CleaveLiftsWrongFalsely : Prop := cleaveLiftsRow.holds Try.pinned (OpenSpec.ofChange cleaveLiftsWrong)

/-- 'percolatelaw25.StorePlays': WHATEVER THE INPUT: true; the input reads as it did. -/
def storePlaysSpec : ChangeSpec := { name := "storePlays", fn := fun _ => fun
  | [d1, d2, d3] => { results := [.lit (.bool true)], args := [d1, d2, d3] }
  | _ => none }
def storePlaysRow : OpenClaim := { program := "ytmadhgdplocfbaa", sum := "ddb2218c9388f0b1c985c60739b6c81f9350b59e6bb21bac130b8e45481f7116", func := "percolate/percolatelaw25.StorePlays", spec := "storePlays", unfollowed := true, recurses := true, apart := false }
def StorePlaysSaid : Prop := storePlaysRow.holds Try.pinned (OpenSpec.ofChange storePlaysSpec)

/-- ITS FALSE NEIGHBOUR: 'it returns false'. Refute it at one input. -/
def storePlaysWrong : ChangeSpec := { name := "storePlays", fn := fun _ => fun
  | [d1, d2, d3] => { results := [.lit (.bool false)], args := [d1, d2, d3] }
  | _ => none }
def StorePlaysWrongFalsely : Prop := storePlaysRow.holds Try.pinned (OpenSpec.ofChange storePlaysWrong)

/-- 'percolatelaw25.StoreNobody': WHATEVER THE INPUT: true; the input reads as it did. -/
def storeNobodySpec : ChangeSpec := { name := "storeNobody", fn := fun _ => fun
  | [d] => { results := [.lit (.bool true)], args := [d] }
  | _ => none }
def storeNobodyRow : OpenClaim := { program := "ytmadhgdplocfbaa", sum := "ddb2218c9388f0b1c985c60739b6c81f9350b59e6bb21bac130b8e45481f7116", func := "percolate/percolatelaw25.StoreNobody", spec := "storeNobody", unfollowed := true, recurses := true, apart := false }
def StoreNobodySaid : Prop := storeNobodyRow.holds Try.pinned (OpenSpec.ofChange storeNobodySpec)

/-- ITS FALSE NEIGHBOUR: 'it returns false'. Refute it at one input. -/
def storeNobodyWrong : ChangeSpec := { name := "storeNobody", fn := fun _ => fun
  | [d] => { results := [.lit (.bool false)], args := [d] }
  | _ => none }
def StoreNobodyWrongFalsely : Prop := storeNobodyRow.holds Try.pinned (OpenSpec.ofChange storeNobodyWrong)

/-- 'percolatelaw15.BnodeGrows': WHATEVER THE INPUT: true; the input reads as it did. -/
def bnodeGrowsSpec : ChangeSpec := { name := "bnodeGrows", fn := fun _ => fun
  | [d1, d2, d3, d4, d5] => { results := [.lit (.bool true)], args := [d1, d2, d3, d4, d5] }
  | _ => none }
def bnodeGrowsRow : OpenClaim := { program := "ytmadhgdplocfbaa", sum := "ddb2218c9388f0b1c985c60739b6c81f9350b59e6bb21bac130b8e45481f7116", func := "percolate/percolatelaw15.BnodeGrows", spec := "bnodeGrows", inPlace := ["slices.overlaps[string]", "slices.overlaps[int]"], apart := false }
def BnodeGrowsSaid : Prop := bnodeGrowsRow.holds Try.pinned (OpenSpec.ofChange bnodeGrowsSpec)

/-- ITS FALSE NEIGHBOUR: 'it returns false'. Refute it at one input. -/
def bnodeGrowsWrong : ChangeSpec := { name := "bnodeGrows", fn := fun _ => fun
  | [d1, d2, d3, d4, d5] => { results := [.lit (.bool false)], args := [d1, d2, d3, d4, d5] }
  | _ => none }
def BnodeGrowsWrongFalsely : Prop := bnodeGrowsRow.holds Try.pinned (OpenSpec.ofChange bnodeGrowsWrong)

/-- 'percolatelaw09.ModelScans': WHATEVER THE INPUT: true; the input reads as it did. -/
def modelScansSpec : ChangeSpec := { name := "modelScans", fn := fun _ => fun
  | [d1, d2, d3] => { results := [.lit (.bool true)], args := [d1, d2, d3] }
  | _ => none }
def modelScansRow : OpenClaim := { program := "ytmadhgdplocfbaa", sum := "ddb2218c9388f0b1c985c60739b6c81f9350b59e6bb21bac130b8e45481f7116", func := "percolate/percolatelaw09.ModelScans", spec := "modelScans", inPlace := ["slices.overlaps[percolate/api.Pair]"], unfollowed := true, recurses := true, apart := false }
def ModelScansSaid : Prop := modelScansRow.holds Try.pinned (OpenSpec.ofChange modelScansSpec)

/-- ITS FALSE NEIGHBOUR: 'it returns false'. Refute it at one input. -/
def modelScansWrong : ChangeSpec := { name := "modelScans", fn := fun _ => fun
  | [d1, d2, d3] => { results := [.lit (.bool false)], args := [d1, d2, d3] }
  | _ => none }
def ModelScansWrongFalsely : Prop := modelScansRow.holds Try.pinned (OpenSpec.ofChange modelScansWrong)

/-- 'percolatelaw24.MergeLists': WHATEVER THE INPUT: true; the input reads as it did. -/
def mergeListsSpec : ChangeSpec := { name := "mergeLists", fn := fun _ => fun
  | [d1, d2] => { results := [.lit (.bool true)], args := [d1, d2] }
  | _ => none }
def mergeListsRow : OpenClaim := { program := "ytmadhgdplocfbaa", sum := "ddb2218c9388f0b1c985c60739b6c81f9350b59e6bb21bac130b8e45481f7116", func := "percolate/percolatelaw24.MergeLists", spec := "mergeLists", unfollowed := true, recurses := true, apart := false }
def MergeListsSaid : Prop := mergeListsRow.holds Try.pinned (OpenSpec.ofChange mergeListsSpec)

/-- ITS FALSE NEIGHBOUR: 'it returns false'. Refute it at one input. -/
def mergeListsWrong : ChangeSpec := { name := "mergeLists", fn := fun _ => fun
  | [d1, d2] => { results := [.lit (.bool false)], args := [d1, d2] }
  | _ => none }
def MergeListsWrongFalsely : Prop := mergeListsRow.holds Try.pinned (OpenSpec.ofChange mergeListsWrong)

/- THE SECOND FORM. 'bulk': how many values and letters a reading holds, each counted each time it is reached (what is shared counts as often as it is met; a slice's spare places count too). A statement '..UptoSaid' is the law's where the arguments, and the package variables that the reading takes, are together of bulk at most 1048576: NARROWER than '..Said'. Prove '..Said' where nothing that the law and all that it calls make is longer than what came in: it says more and counts as full. Else prove '..UptoSaid'. A law counts once. -/
mutual
def uptoBulk {H : Type} : DataW H → Nat
  | .lit (.string bytes) => bytes.length + 1
  | .lit _ => 1
  | .nil => 1
  | .ptr d => uptoBulk d + 1
  | .slice elems spare => uptoBulkAll elems + uptoBulkAll spare + 1
  | .agg parts => uptoBulkAll parts + 1
  | .iface _ d => uptoBulk d + 1
  | .map entries => uptoBulkEntries entries + 1
  | .held _ => 1
def uptoBulkAll {H : Type} : List (DataW H) → Nat
  | [] => 0
  | d :: r => uptoBulk d + uptoBulkAll r
def uptoBulkEntries {H : Type} : List (Lit × DataW H) → Nat
  | [] => 0
  | x :: r => uptoBulkEntry x + uptoBulkEntries r
def uptoBulkEntry {H : Type} : Lit × DataW H → Nat
  | (.string bytes, d) => bytes.length + uptoBulk d + 1
  | (_, d) => uptoBulk d + 1
 end
def uptoSmall : (H : Type) → List (DataW H) → Bool := fun _ ds => decide (uptoBulkAll ds ≤ 1048576)
def OpenSpec.upto (s : _root_.Go.ChangeSpec) : _root_.Go.OpenSpec := { _root_.Go.OpenSpec.ofChange s with cond := some uptoSmall }

/-- 'percolatelaw44.QuietBounds', WHERE WHAT IT READS IS OF BULK AT MOST 1048576: true; the input reads as it did. -/
def quietBoundsUptoRow : OpenClaim := { program := "ytmadhgdplocfbaa", sum := "ddb2218c9388f0b1c985c60739b6c81f9350b59e6bb21bac130b8e45481f7116", func := "percolate/percolatelaw44.QuietBounds", spec := "quietBounds", apart := false, narrowed := true }
def QuietBoundsUptoSaid : Prop := quietBoundsUptoRow.holds Try.pinned (OpenSpec.upto quietBoundsSpec)

/-- 'percolatelaw15.BnodeRoutes', WHERE WHAT IT READS IS OF BULK AT MOST 1048576: true; the input reads as it did. -/
def bnodeRoutesUptoRow : OpenClaim := { program := "ytmadhgdplocfbaa", sum := "ddb2218c9388f0b1c985c60739b6c81f9350b59e6bb21bac130b8e45481f7116", func := "percolate/percolatelaw15.BnodeRoutes", spec := "bnodeRoutes", apart := false, narrowed := true }
def BnodeRoutesUptoSaid : Prop := bnodeRoutesUptoRow.holds Try.pinned (OpenSpec.upto bnodeRoutesSpec)

/-- 'percolatelaw44.QuietTells', WHERE WHAT IT READS IS OF BULK AT MOST 1048576: true; the input reads as it did. -/
def quietTellsUptoRow : OpenClaim := { program := "ytmadhgdplocfbaa", sum := "ddb2218c9388f0b1c985c60739b6c81f9350b59e6bb21bac130b8e45481f7116", func := "percolate/percolatelaw44.QuietTells", spec := "quietTells", unfollowed := true, recurses := true, apart := false, narrowed := true }
def QuietTellsUptoSaid : Prop := quietTellsUptoRow.holds Try.pinned (OpenSpec.upto quietTellsSpec)

/-- 'percolatelaw15.BnodeHalves', WHERE WHAT IT READS IS OF BULK AT MOST 1048576: true; the input reads as it did. -/
def bnodeHalvesUptoRow : OpenClaim := { program := "ytmadhgdplocfbaa", sum := "ddb2218c9388f0b1c985c60739b6c81f9350b59e6bb21bac130b8e45481f7116", func := "percolate/percolatelaw15.BnodeHalves", spec := "bnodeHalves", apart := false, narrowed := true }
def BnodeHalvesUptoSaid : Prop := bnodeHalvesUptoRow.holds Try.pinned (OpenSpec.upto bnodeHalvesSpec)

/-- 'percolatelaw28.LookupOf', WHERE WHAT IT READS IS OF BULK AT MOST 1048576: true; the input reads as it did. -/
def lookupOfUptoRow : OpenClaim := { program := "ytmadhgdplocfbaa", sum := "ddb2218c9388f0b1c985c60739b6c81f9350b59e6bb21bac130b8e45481f7116", func := "percolate/percolatelaw28.LookupOf", spec := "lookupOf", unfollowed := true, recurses := true, apart := false, narrowed := true }
def LookupOfUptoSaid : Prop := lookupOfUptoRow.holds Try.pinned (OpenSpec.upto lookupOfSpec)

/-- 'percolatelaw22.CleaveHalves', WHERE WHAT IT READS IS OF BULK AT MOST 1048576: true; the input reads as it did. -/
def cleaveHalvesUptoRow : OpenClaim := { program := "ytmadhgdplocfbaa", sum := "ddb2218c9388f0b1c985c60739b6c81f9350b59e6bb21bac130b8e45481f7116", func := "percolate/percolatelaw22.CleaveHalves", spec := "cleaveHalves", apart := false, narrowed := true }
def CleaveHalvesUptoSaid : Prop := cleaveHalvesUptoRow.holds Try.pinned (OpenSpec.upto cleaveHalvesSpec)

/-- 'percolatelaw11.SlotsPlays', WHERE WHAT IT READS IS OF BULK AT MOST 1048576: true; the input reads as it did. -/
def slotsPlaysUptoRow : OpenClaim := { program := "ytmadhgdplocfbaa", sum := "ddb2218c9388f0b1c985c60739b6c81f9350b59e6bb21bac130b8e45481f7116", func := "percolate/percolatelaw11.SlotsPlays", spec := "slotsPlays", unfollowed := true, recurses := true, apart := false, narrowed := true }
def SlotsPlaysUptoSaid : Prop := slotsPlaysUptoRow.holds Try.pinned (OpenSpec.upto slotsPlaysSpec)

/-- 'percolatelaw11.SlotsNobody', WHERE WHAT IT READS IS OF BULK AT MOST 1048576: true; the input reads as it did. -/
def slotsNobodyUptoRow : OpenClaim := { program := "ytmadhgdplocfbaa", sum := "ddb2218c9388f0b1c985c60739b6c81f9350b59e6bb21bac130b8e45481f7116", func := "percolate/percolatelaw11.SlotsNobody", spec := "slotsNobody", unfollowed := true, recurses := true, apart := false, narrowed := true }
def SlotsNobodyUptoSaid : Prop := slotsNobodyUptoRow.holds Try.pinned (OpenSpec.upto slotsNobodySpec)

/-- 'percolatelaw17.BpsoundTells', WHERE WHAT IT READS IS OF BULK AT MOST 1048576: true; the input reads as it did. -/
def bpsoundTellsUptoRow : OpenClaim := { program := "ytmadhgdplocfbaa", sum := "ddb2218c9388f0b1c985c60739b6c81f9350b59e6bb21bac130b8e45481f7116", func := "percolate/percolatelaw17.BpsoundTells", spec := "bpsoundTells", unfollowed := true, recurses := true, apart := false, narrowed := true }
def BpsoundTellsUptoSaid : Prop := bpsoundTellsUptoRow.holds Try.pinned (OpenSpec.upto bpsoundTellsSpec)

/-- 'percolatelaw22.CleaveLifts', WHERE WHAT IT READS IS OF BULK AT MOST 1048576: true; the input reads as it did. -/
def cleaveLiftsUptoRow : OpenClaim := { program := "ytmadhgdplocfbaa", sum := "ddb2218c9388f0b1c985c60739b6c81f9350b59e6bb21bac130b8e45481f7116", func := "percolate/percolatelaw22.CleaveLifts", spec := "cleaveLifts", apart := false, narrowed := true }
def CleaveLiftsUptoSaid : Prop := cleaveLiftsUptoRow.holds Try.pinned (OpenSpec.upto cleaveLiftsSpec)

/-- 'percolatelaw25.StorePlays', WHERE WHAT IT READS IS OF BULK AT MOST 1048576: true; the input reads as it did. -/
def storePlaysUptoRow : OpenClaim := { program := "ytmadhgdplocfbaa", sum := "ddb2218c9388f0b1c985c60739b6c81f9350b59e6bb21bac130b8e45481f7116", func := "percolate/percolatelaw25.StorePlays", spec := "storePlays", unfollowed := true, recurses := true, apart := false, narrowed := true }
def StorePlaysUptoSaid : Prop := storePlaysUptoRow.holds Try.pinned (OpenSpec.upto storePlaysSpec)

/-- 'percolatelaw25.StoreNobody', WHERE WHAT IT READS IS OF BULK AT MOST 1048576: true; the input reads as it did. -/
def storeNobodyUptoRow : OpenClaim := { program := "ytmadhgdplocfbaa", sum := "ddb2218c9388f0b1c985c60739b6c81f9350b59e6bb21bac130b8e45481f7116", func := "percolate/percolatelaw25.StoreNobody", spec := "storeNobody", unfollowed := true, recurses := true, apart := false, narrowed := true }
def StoreNobodyUptoSaid : Prop := storeNobodyUptoRow.holds Try.pinned (OpenSpec.upto storeNobodySpec)

/-- 'percolatelaw15.BnodeGrows', WHERE WHAT IT READS IS OF BULK AT MOST 1048576: true; the input reads as it did. -/
def bnodeGrowsUptoRow : OpenClaim := { program := "ytmadhgdplocfbaa", sum := "ddb2218c9388f0b1c985c60739b6c81f9350b59e6bb21bac130b8e45481f7116", func := "percolate/percolatelaw15.BnodeGrows", spec := "bnodeGrows", inPlace := ["slices.overlaps[string]", "slices.overlaps[int]"], apart := false, narrowed := true }
def BnodeGrowsUptoSaid : Prop := bnodeGrowsUptoRow.holds Try.pinned (OpenSpec.upto bnodeGrowsSpec)

/-- 'percolatelaw09.ModelScans', WHERE WHAT IT READS IS OF BULK AT MOST 1048576: true; the input reads as it did. -/
def modelScansUptoRow : OpenClaim := { program := "ytmadhgdplocfbaa", sum := "ddb2218c9388f0b1c985c60739b6c81f9350b59e6bb21bac130b8e45481f7116", func := "percolate/percolatelaw09.ModelScans", spec := "modelScans", inPlace := ["slices.overlaps[percolate/api.Pair]"], unfollowed := true, recurses := true, apart := false, narrowed := true }
def ModelScansUptoSaid : Prop := modelScansUptoRow.holds Try.pinned (OpenSpec.upto modelScansSpec)

/-- 'percolatelaw24.MergeLists', WHERE WHAT IT READS IS OF BULK AT MOST 1048576: true; the input reads as it did. -/
def mergeListsUptoRow : OpenClaim := { program := "ytmadhgdplocfbaa", sum := "ddb2218c9388f0b1c985c60739b6c81f9350b59e6bb21bac130b8e45481f7116", func := "percolate/percolatelaw24.MergeLists", spec := "mergeLists", unfollowed := true, recurses := true, apart := false, narrowed := true }
def MergeListsUptoSaid : Prop := mergeListsUptoRow.holds Try.pinned (OpenSpec.upto mergeListsSpec)

end Rows
end Go.Proofs.Ytmadhgdplocfbaa
