/-
  No cell of these rows narrows 'for every input' (looked for: loops, veiled, ifaces, maps, wideKeys, modest, calm, conditions, laid).
  DERIVED. THE GIVEN ROWS OF THIS SEAT. 16 by the template 'for every input the law returns true; each argument reads behind the call as it read before'; 0 by the template 'total and deterministic' (their statements: YtipdjeemjiimbaaTotals.lean).
  GIVEN WITH THE SEED: the statements are not yours to turn. If you find one false, say at which input.
  Laid BY PROGRAM, IN A SANDBOX (cutbox-rows.mjs): the forced cells as the released guide's own fill.sh prints them over the translation 738ca876d003bbb4… (all of the seat's roots in one cut). By AI agents, Wed Nov 11 2026. No macro, syntax, notation, axiom, sorry.
-/
import Derived.Test.YtipdjeemjiimbaaChecked
import GoSem.Claim
import GoSem.ClaimJoined
import GoSem.ClaimMapViews
import Derived.JoinedTies
import Derived.KernelRfl
namespace Go.Proofs.Ytipdjeemjiimbaa
/- THE CELL 'sum', in the pinned program and in every row, IS THE sha256 OF THE DUMP (.gsa) THAT YtipdjeemjiimbaaProg.lean LOADS. Nothing in Lean hashes anything: it is a label: what it is worth is what the hold of that sum in a sandbox is worth. -/
noncomputable def Try.pinned : Pinned := { name := "ytipdjeemjiimbaa", sum := "738ca876d003bbb4cd9c93c58c022fdd0dca0cf015b0189b13560d9e82a80a25", checked := Try.checked }
namespace Rows
def none {H : Type} : Left H := { results := [], args := [] }

/-- 'percolatelaw28.LookupOf': WHATEVER THE INPUT: true; the input reads as it did. -/
def lookupOfSpec : ChangeSpec := { name := "lookupOf", fn := fun _ => fun
  | [d1, d2, d3] => { results := [.lit (.bool true)], args := [d1, d2, d3] }
  | _ => none }
def lookupOfRow : OpenClaim := { program := "ytipdjeemjiimbaa", sum := "738ca876d003bbb4cd9c93c58c022fdd0dca0cf015b0189b13560d9e82a80a25", func := "percolate/percolatelaw28.LookupOf", spec := "lookupOf", unfollowed := true, recurses := true, apart := false }
def LookupOfSaid : Prop := lookupOfRow.holds Try.pinned (OpenSpec.ofChange lookupOfSpec)

/-- ITS FALSE NEIGHBOUR: 'it returns false'. Refute it at one input. -/
def lookupOfWrong : ChangeSpec := { name := "lookupOf", fn := fun _ => fun
  | [d1, d2, d3] => { results := [.lit (.bool false)], args := [d1, d2, d3] }
  | _ => none }
def LookupOfWrongFalsely : Prop := lookupOfRow.holds Try.pinned (OpenSpec.ofChange lookupOfWrong)

/-- 'percolatelaw11.SlotsPlays': WHATEVER THE INPUT: true; the input reads as it did. -/
def slotsPlaysSpec : ChangeSpec := { name := "slotsPlays", fn := fun _ => fun
  | [d1, d2] => { results := [.lit (.bool true)], args := [d1, d2] }
  | _ => none }
def slotsPlaysRow : OpenClaim := { program := "ytipdjeemjiimbaa", sum := "738ca876d003bbb4cd9c93c58c022fdd0dca0cf015b0189b13560d9e82a80a25", func := "percolate/percolatelaw11.SlotsPlays", spec := "slotsPlays", unfollowed := true, recurses := true, apart := false }
def SlotsPlaysSaid : Prop := slotsPlaysRow.holds Try.pinned (OpenSpec.ofChange slotsPlaysSpec)

/-- ITS FALSE NEIGHBOUR: 'it returns false'. Refute it at one input. -/
def slotsPlaysWrong : ChangeSpec := { name := "slotsPlays", fn := fun _ => fun
  | [d1, d2] => { results := [.lit (.bool false)], args := [d1, d2] }
  | _ => none }
def SlotsPlaysWrongFalsely : Prop := slotsPlaysRow.holds Try.pinned (OpenSpec.ofChange slotsPlaysWrong)

/-- 'percolatelaw15.BnodeGrows': WHATEVER THE INPUT: true; the input reads as it did. -/
def bnodeGrowsSpec : ChangeSpec := { name := "bnodeGrows", fn := fun _ => fun
  | [d1, d2, d3, d4, d5] => { results := [.lit (.bool true)], args := [d1, d2, d3, d4, d5] }
  | _ => none }
def bnodeGrowsRow : OpenClaim := { program := "ytipdjeemjiimbaa", sum := "738ca876d003bbb4cd9c93c58c022fdd0dca0cf015b0189b13560d9e82a80a25", func := "percolate/percolatelaw15.BnodeGrows", spec := "bnodeGrows", inPlace := ["slices.overlaps[string]", "slices.overlaps[int]"], apart := false }
def BnodeGrowsSaid : Prop := bnodeGrowsRow.holds Try.pinned (OpenSpec.ofChange bnodeGrowsSpec)

/-- ITS FALSE NEIGHBOUR: 'it returns false'. Refute it at one input. -/
def bnodeGrowsWrong : ChangeSpec := { name := "bnodeGrows", fn := fun _ => fun
  | [d1, d2, d3, d4, d5] => { results := [.lit (.bool false)], args := [d1, d2, d3, d4, d5] }
  | _ => none }
def BnodeGrowsWrongFalsely : Prop := bnodeGrowsRow.holds Try.pinned (OpenSpec.ofChange bnodeGrowsWrong)

/-- 'percolatelaw09.ModelScans': WHATEVER THE INPUT: true; the input reads as it did. -/
def modelScansSpec : ChangeSpec := { name := "modelScans", fn := fun _ => fun
  | [d1, d2, d3] => { results := [.lit (.bool true)], args := [d1, d2, d3] }
  | _ => none }
def modelScansRow : OpenClaim := { program := "ytipdjeemjiimbaa", sum := "738ca876d003bbb4cd9c93c58c022fdd0dca0cf015b0189b13560d9e82a80a25", func := "percolate/percolatelaw09.ModelScans", spec := "modelScans", inPlace := ["slices.overlaps[percolate/api.Pair]"], unfollowed := true, recurses := true, apart := false }
def ModelScansSaid : Prop := modelScansRow.holds Try.pinned (OpenSpec.ofChange modelScansSpec)

/-- ITS FALSE NEIGHBOUR: 'it returns false'. Refute it at one input. -/
def modelScansWrong : ChangeSpec := { name := "modelScans", fn := fun _ => fun
  | [d1, d2, d3] => { results := [.lit (.bool false)], args := [d1, d2, d3] }
  | _ => none }
def ModelScansWrongFalsely : Prop := modelScansRow.holds Try.pinned (OpenSpec.ofChange modelScansWrong)

/-- 'percolatelaw24.MergeLists': WHATEVER THE INPUT: true; the input reads as it did. -/
def mergeListsSpec : ChangeSpec := { name := "mergeLists", fn := fun _ => fun
  | [d1, d2] => { results := [.lit (.bool true)], args := [d1, d2] }
  | _ => none }
def mergeListsRow : OpenClaim := { program := "ytipdjeemjiimbaa", sum := "738ca876d003bbb4cd9c93c58c022fdd0dca0cf015b0189b13560d9e82a80a25", func := "percolate/percolatelaw24.MergeLists", spec := "mergeLists", unfollowed := true, recurses := true, apart := false }
def MergeListsSaid : Prop := mergeListsRow.holds Try.pinned (OpenSpec.ofChange mergeListsSpec)

/-- ITS FALSE NEIGHBOUR: 'it returns false'. Refute it at one input. -/
def mergeListsWrong : ChangeSpec := { name := "mergeLists", fn := fun _ => fun
  | [d1, d2] => { results := [.lit (.bool false)], args := [d1, d2] }
  | _ => none }
def MergeListsWrongFalsely : Prop := mergeListsRow.holds Try.pinned (OpenSpec.ofChange mergeListsWrong)

/-- 'percolatelaw09.ModelTells': WHATEVER THE INPUT: true; the input reads as it did. -/
def modelTellsSpec : ChangeSpec := { name := "modelTells", fn := fun _ => fun
  | [d1, d2, d3] => { results := [.lit (.bool true)], args := [d1, d2, d3] }
  | _ => none }
def modelTellsRow : OpenClaim := { program := "ytipdjeemjiimbaa", sum := "738ca876d003bbb4cd9c93c58c022fdd0dca0cf015b0189b13560d9e82a80a25", func := "percolate/percolatelaw09.ModelTells", spec := "modelTells", inPlace := ["slices.overlaps[percolate/api.Pair]"], unfollowed := true, recurses := true, apart := false }
def ModelTellsSaid : Prop := modelTellsRow.holds Try.pinned (OpenSpec.ofChange modelTellsSpec)

/-- ITS FALSE NEIGHBOUR: 'it returns false'. Refute it at one input. -/
def modelTellsWrong : ChangeSpec := { name := "modelTells", fn := fun _ => fun
  | [d1, d2, d3] => { results := [.lit (.bool false)], args := [d1, d2, d3] }
  | _ => none }
def ModelTellsWrongFalsely : Prop := modelTellsRow.holds Try.pinned (OpenSpec.ofChange modelTellsWrong)

/-- 'percolatelaw14.RowsTake': WHATEVER THE INPUT: true; the input reads as it did. -/
def rowsTakeSpec : ChangeSpec := { name := "rowsTake", fn := fun _ => fun
  | [d1, d2, d3, d4, d5] => { results := [.lit (.bool true)], args := [d1, d2, d3, d4, d5] }
  | _ => none }
def rowsTakeRow : OpenClaim := { program := "ytipdjeemjiimbaa", sum := "738ca876d003bbb4cd9c93c58c022fdd0dca0cf015b0189b13560d9e82a80a25", func := "percolate/percolatelaw14.RowsTake", spec := "rowsTake", inPlace := ["slices.overlaps[percolate/api.Pair]"], unfollowed := true, recurses := true, apart := false }
def RowsTakeSaid : Prop := rowsTakeRow.holds Try.pinned (OpenSpec.ofChange rowsTakeSpec)

/-- ITS FALSE NEIGHBOUR: 'it returns false'. Refute it at one input. -/
def rowsTakeWrong : ChangeSpec := { name := "rowsTake", fn := fun _ => fun
  | [d1, d2, d3, d4, d5] => { results := [.lit (.bool false)], args := [d1, d2, d3, d4, d5] }
  | _ => none }
def RowsTakeWrongFalsely : Prop := rowsTakeRow.holds Try.pinned (OpenSpec.ofChange rowsTakeWrong)

/-- 'percolatelaw24.MergeFresh': WHATEVER THE INPUT: true; the input reads as it did. -/
def mergeFreshSpec : ChangeSpec := { name := "mergeFresh", fn := fun _ => fun
  | [d1, d2, d3] => { results := [.lit (.bool true)], args := [d1, d2, d3] }
  | _ => none }
def mergeFreshRow : OpenClaim := { program := "ytipdjeemjiimbaa", sum := "738ca876d003bbb4cd9c93c58c022fdd0dca0cf015b0189b13560d9e82a80a25", func := "percolate/percolatelaw24.MergeFresh", spec := "mergeFresh", unfollowed := true, recurses := true, apart := false }
def MergeFreshSaid : Prop := mergeFreshRow.holds Try.pinned (OpenSpec.ofChange mergeFreshSpec)

/-- ITS FALSE NEIGHBOUR: 'it returns false'. Refute it at one input. -/
def mergeFreshWrong : ChangeSpec := { name := "mergeFresh", fn := fun _ => fun
  | [d1, d2, d3] => { results := [.lit (.bool false)], args := [d1, d2, d3] }
  | _ => none }
def MergeFreshWrongFalsely : Prop := mergeFreshRow.holds Try.pinned (OpenSpec.ofChange mergeFreshWrong)

/-- 'percolatelaw22.CleaveAdopts': WHATEVER THE INPUT: true; the input reads as it did. -/
def cleaveAdoptsSpec : ChangeSpec := { name := "cleaveAdopts", fn := fun _ => fun
  | [d1, d2, d3, d4] => { results := [.lit (.bool true)], args := [d1, d2, d3, d4] }
  | _ => none }
def cleaveAdoptsRow : OpenClaim := { program := "ytipdjeemjiimbaa", sum := "738ca876d003bbb4cd9c93c58c022fdd0dca0cf015b0189b13560d9e82a80a25", func := "percolate/percolatelaw22.CleaveAdopts", spec := "cleaveAdopts", inPlace := ["slices.overlaps[string]", "slices.overlaps[int]"], apart := false }
def CleaveAdoptsSaid : Prop := cleaveAdoptsRow.holds Try.pinned (OpenSpec.ofChange cleaveAdoptsSpec)

/-- ITS FALSE NEIGHBOUR: 'it returns false'. Refute it at one input. -/
def cleaveAdoptsWrong : ChangeSpec := { name := "cleaveAdopts", fn := fun _ => fun
  | [d1, d2, d3, d4] => { results := [.lit (.bool false)], args := [d1, d2, d3, d4] }
  | _ => none }
def CleaveAdoptsWrongFalsely : Prop := cleaveAdoptsRow.holds Try.pinned (OpenSpec.ofChange cleaveAdoptsWrong)

/-- 'percolatelaw14.RowsHalve': WHATEVER THE INPUT: true; the input reads as it did. -/
def rowsHalveSpec : ChangeSpec := { name := "rowsHalve", fn := fun _ => fun
  | [d] => { results := [.lit (.bool true)], args := [d] }
  | _ => none }
def rowsHalveRow : OpenClaim := { program := "ytipdjeemjiimbaa", sum := "738ca876d003bbb4cd9c93c58c022fdd0dca0cf015b0189b13560d9e82a80a25", func := "percolate/percolatelaw14.RowsHalve", spec := "rowsHalve", inPlace := ["slices.overlaps[percolate/api.Pair]"], unfollowed := true, recurses := true, apart := false }
def RowsHalveSaid : Prop := rowsHalveRow.holds Try.pinned (OpenSpec.ofChange rowsHalveSpec)

/-- ITS FALSE NEIGHBOUR: 'it returns false'. Refute it at one input. -/
def rowsHalveWrong : ChangeSpec := { name := "rowsHalve", fn := fun _ => fun
  | [d] => { results := [.lit (.bool false)], args := [d] }
  | _ => none }
def RowsHalveWrongFalsely : Prop := rowsHalveRow.holds Try.pinned (OpenSpec.ofChange rowsHalveWrong)

/-- 'percolatelaw20.LeafDrains': WHATEVER THE INPUT: true; the input reads as it did. -/
def leafDrainsSpec : ChangeSpec := { name := "leafDrains", fn := fun _ => fun
  | [d1, d2, d3] => { results := [.lit (.bool true)], args := [d1, d2, d3] }
  | _ => none }
def leafDrainsRow : OpenClaim := { program := "ytipdjeemjiimbaa", sum := "738ca876d003bbb4cd9c93c58c022fdd0dca0cf015b0189b13560d9e82a80a25", func := "percolate/percolatelaw20.LeafDrains", spec := "leafDrains", inPlace := ["slices.overlaps[percolate/api.Pair]"], unfollowed := true, recurses := true, apart := false }
def LeafDrainsSaid : Prop := leafDrainsRow.holds Try.pinned (OpenSpec.ofChange leafDrainsSpec)

/-- ITS FALSE NEIGHBOUR: 'it returns false'. Refute it at one input. -/
def leafDrainsWrong : ChangeSpec := { name := "leafDrains", fn := fun _ => fun
  | [d1, d2, d3] => { results := [.lit (.bool false)], args := [d1, d2, d3] }
  | _ => none }
def LeafDrainsWrongFalsely : Prop := leafDrainsRow.holds Try.pinned (OpenSpec.ofChange leafDrainsWrong)

/-- 'percolatelaw09.ModelTakes': WHATEVER THE INPUT: true; the input reads as it did. -/
def modelTakesSpec : ChangeSpec := { name := "modelTakes", fn := fun _ => fun
  | [d1, d2, d3, d4] => { results := [.lit (.bool true)], args := [d1, d2, d3, d4] }
  | _ => none }
def modelTakesRow : OpenClaim := { program := "ytipdjeemjiimbaa", sum := "738ca876d003bbb4cd9c93c58c022fdd0dca0cf015b0189b13560d9e82a80a25", func := "percolate/percolatelaw09.ModelTakes", spec := "modelTakes", inPlace := ["slices.overlaps[percolate/api.Pair]"], unfollowed := true, recurses := true, apart := false }
def ModelTakesSaid : Prop := modelTakesRow.holds Try.pinned (OpenSpec.ofChange modelTakesSpec)

/-- ITS FALSE NEIGHBOUR: 'it returns false'. Refute it at one input. -/
def modelTakesWrong : ChangeSpec := { name := "modelTakes", fn := fun _ => fun
  | [d1, d2, d3, d4] => { results := [.lit (.bool false)], args := [d1, d2, d3, d4] }
  | _ => none }
def ModelTakesWrongFalsely : Prop := modelTakesRow.holds Try.pinned (OpenSpec.ofChange modelTakesWrong)

/-- 'percolatelaw53.DiffLeads': WHATEVER THE INPUT: true; the input reads as it did. -/
def diffLeadsSpec : ChangeSpec := { name := "diffLeads", fn := fun _ => fun
  | [d1, d2, d3] => { results := [.lit (.bool true)], args := [d1, d2, d3] }
  | _ => none }
def diffLeadsRow : OpenClaim := { program := "ytipdjeemjiimbaa", sum := "738ca876d003bbb4cd9c93c58c022fdd0dca0cf015b0189b13560d9e82a80a25", func := "percolate/percolatelaw53.DiffLeads", spec := "diffLeads", inPlace := ["slices.overlaps[percolate/api.Pair]"], unfollowed := true, recurses := true, apart := false }
def DiffLeadsSaid : Prop := diffLeadsRow.holds Try.pinned (OpenSpec.ofChange diffLeadsSpec)

/-- ITS FALSE NEIGHBOUR: 'it returns false'. Refute it at one input. -/
def diffLeadsWrong : ChangeSpec := { name := "diffLeads", fn := fun _ => fun
  | [d1, d2, d3] => { results := [.lit (.bool false)], args := [d1, d2, d3] }
  | _ => none }
def DiffLeadsWrongFalsely : Prop := diffLeadsRow.holds Try.pinned (OpenSpec.ofChange diffLeadsWrong)

/-- 'percolatelaw53.DiffApplies': WHATEVER THE INPUT: true; the input reads as it did. -/
def diffAppliesSpec : ChangeSpec := { name := "diffApplies", fn := fun _ => fun
  | [d1, d2, d3] => { results := [.lit (.bool true)], args := [d1, d2, d3] }
  | _ => none }
def diffAppliesRow : OpenClaim := { program := "ytipdjeemjiimbaa", sum := "738ca876d003bbb4cd9c93c58c022fdd0dca0cf015b0189b13560d9e82a80a25", func := "percolate/percolatelaw53.DiffApplies", spec := "diffApplies", inPlace := ["slices.overlaps[percolate/api.Pair]"], unfollowed := true, recurses := true, apart := false }
def DiffAppliesSaid : Prop := diffAppliesRow.holds Try.pinned (OpenSpec.ofChange diffAppliesSpec)

/-- ITS FALSE NEIGHBOUR: 'it returns false'. Refute it at one input. -/
def diffAppliesWrong : ChangeSpec := { name := "diffApplies", fn := fun _ => fun
  | [d1, d2, d3] => { results := [.lit (.bool false)], args := [d1, d2, d3] }
  | _ => none }
def DiffAppliesWrongFalsely : Prop := diffAppliesRow.holds Try.pinned (OpenSpec.ofChange diffAppliesWrong)

/-- 'percolatelaw24.MergeViews': WHATEVER THE INPUT: true; the input reads as it did. -/
def mergeViewsSpec : ChangeSpec := { name := "mergeViews", fn := fun _ => fun
  | [d1, d2, d3, d4] => { results := [.lit (.bool true)], args := [d1, d2, d3, d4] }
  | _ => none }
def mergeViewsRow : OpenClaim := { program := "ytipdjeemjiimbaa", sum := "738ca876d003bbb4cd9c93c58c022fdd0dca0cf015b0189b13560d9e82a80a25", func := "percolate/percolatelaw24.MergeViews", spec := "mergeViews", inPlace := ["slices.overlaps[percolate/api.Pair]"], unfollowed := true, recurses := true, apart := false }
def MergeViewsSaid : Prop := mergeViewsRow.holds Try.pinned (OpenSpec.ofChange mergeViewsSpec)

/-- ITS FALSE NEIGHBOUR: 'it returns false'. Refute it at one input. -/
def mergeViewsWrong : ChangeSpec := { name := "mergeViews", fn := fun _ => fun
  | [d1, d2, d3, d4] => { results := [.lit (.bool false)], args := [d1, d2, d3, d4] }
  | _ => none }
def MergeViewsWrongFalsely : Prop := mergeViewsRow.holds Try.pinned (OpenSpec.ofChange mergeViewsWrong)

/-- 'percolatelaw23.PourKeeps': WHATEVER THE INPUT: true; the input reads as it did. -/
def pourKeepsSpec : ChangeSpec := { name := "pourKeeps", fn := fun _ => fun
  | [d1, d2, d3, d4, d5] => { results := [.lit (.bool true)], args := [d1, d2, d3, d4, d5] }
  | _ => none }
def pourKeepsRow : OpenClaim := { program := "ytipdjeemjiimbaa", sum := "738ca876d003bbb4cd9c93c58c022fdd0dca0cf015b0189b13560d9e82a80a25", func := "percolate/percolatelaw23.PourKeeps", spec := "pourKeeps", inPlace := ["slices.overlaps[percolate/api.Pair]"], unfollowed := true, recurses := true, apart := false }
def PourKeepsSaid : Prop := pourKeepsRow.holds Try.pinned (OpenSpec.ofChange pourKeepsSpec)

/-- ITS FALSE NEIGHBOUR: 'it returns false'. Refute it at one input. -/
def pourKeepsWrong : ChangeSpec := { name := "pourKeeps", fn := fun _ => fun
  | [d1, d2, d3, d4, d5] => { results := [.lit (.bool false)], args := [d1, d2, d3, d4, d5] }
  | _ => none }
def PourKeepsWrongFalsely : Prop := pourKeepsRow.holds Try.pinned (OpenSpec.ofChange pourKeepsWrong)

/- THE SECOND FORM. 'bulk': how many values and letters a reading holds, each counted each time it is reached (what is shared counts as often as it is met; a slice's spare places count too). A statement '..UptoSaid' is the law's where the arguments, and the package variables that the reading takes, are together of bulk at most 1048576: NARROWER than '..Said'. Prove '..Said' where nothing that the law and all that it calls make is longer than what came in: it says more and counts as full. Else prove '..UptoSaid'. A law counts once. -/
mutual
def uptoBulk {H : Type} : DataW H → Nat
  | .lit (.string bytes) => bytes.length + 1
  | .lit _ => 1
  | .nil => 1
  | .ptr d => uptoBulk d + 1
  | .slice elems spare => uptoBulkAll elems + uptoBulkAll spare + 1
  | .agg parts => uptoBulkAll parts + 1
  | .iface _ d => uptoBulk d + 1
  | .map entries => uptoBulkEntries entries + 1
  | .held _ => 1
def uptoBulkAll {H : Type} : List (DataW H) → Nat
  | [] => 0
  | d :: r => uptoBulk d + uptoBulkAll r
def uptoBulkEntries {H : Type} : List (Lit × DataW H) → Nat
  | [] => 0
  | x :: r => uptoBulkEntry x + uptoBulkEntries r
def uptoBulkEntry {H : Type} : Lit × DataW H → Nat
  | (.string bytes, d) => bytes.length + uptoBulk d + 1
  | (_, d) => uptoBulk d + 1
 end
def uptoSmall : (H : Type) → List (DataW H) → Bool := fun _ ds => decide (uptoBulkAll ds ≤ 1048576)
def OpenSpec.upto (s : _root_.Go.ChangeSpec) : _root_.Go.OpenSpec := { _root_.Go.OpenSpec.ofChange s with cond := some uptoSmall }

/-- 'percolatelaw28.LookupOf', WHERE WHAT IT READS IS OF BULK AT MOST 1048576: true; the input reads as it did. -/
def lookupOfUptoRow : OpenClaim := { program := "ytipdjeemjiimbaa", sum := "738ca876d003bbb4cd9c93c58c022fdd0dca0cf015b0189b13560d9e82a80a25", func := "percolate/percolatelaw28.LookupOf", spec := "lookupOf", unfollowed := true, recurses := true, apart := false, narrowed := true }
def LookupOfUptoSaid : Prop := lookupOfUptoRow.holds Try.pinned (OpenSpec.upto lookupOfSpec)

/-- 'percolatelaw11.SlotsPlays', WHERE WHAT IT READS IS OF BULK AT MOST 1048576: true; the input reads as it did. -/
def slotsPlaysUptoRow : OpenClaim := { program := "ytipdjeemjiimbaa", sum := "738ca876d003bbb4cd9c93c58c022fdd0dca0cf015b0189b13560d9e82a80a25", func := "percolate/percolatelaw11.SlotsPlays", spec := "slotsPlays", unfollowed := true, recurses := true, apart := false, narrowed := true }
def SlotsPlaysUptoSaid : Prop := slotsPlaysUptoRow.holds Try.pinned (OpenSpec.upto slotsPlaysSpec)

/-- 'percolatelaw15.BnodeGrows', WHERE WHAT IT READS IS OF BULK AT MOST 1048576: true; the input reads as it did. -/
def bnodeGrowsUptoRow : OpenClaim := { program := "ytipdjeemjiimbaa", sum := "738ca876d003bbb4cd9c93c58c022fdd0dca0cf015b0189b13560d9e82a80a25", func := "percolate/percolatelaw15.BnodeGrows", spec := "bnodeGrows", inPlace := ["slices.overlaps[string]", "slices.overlaps[int]"], apart := false, narrowed := true }
def BnodeGrowsUptoSaid : Prop := bnodeGrowsUptoRow.holds Try.pinned (OpenSpec.upto bnodeGrowsSpec)

/-- 'percolatelaw09.ModelScans', WHERE WHAT IT READS IS OF BULK AT MOST 1048576: true; the input reads as it did. -/
def modelScansUptoRow : OpenClaim := { program := "ytipdjeemjiimbaa", sum := "738ca876d003bbb4cd9c93c58c022fdd0dca0cf015b0189b13560d9e82a80a25", func := "percolate/percolatelaw09.ModelScans", spec := "modelScans", inPlace := ["slices.overlaps[percolate/api.Pair]"], unfollowed := true, recurses := true, apart := false, narrowed := true }
def ModelScansUptoSaid : Prop := modelScansUptoRow.holds Try.pinned (OpenSpec.upto modelScansSpec)

/-- 'percolatelaw24.MergeLists', WHERE WHAT IT READS IS OF BULK AT MOST 1048576: true; the input reads as it did. -/
def mergeListsUptoRow : OpenClaim := { program := "ytipdjeemjiimbaa", sum := "738ca876d003bbb4cd9c93c58c022fdd0dca0cf015b0189b13560d9e82a80a25", func := "percolate/percolatelaw24.MergeLists", spec := "mergeLists", unfollowed := true, recurses := true, apart := false, narrowed := true }
def MergeListsUptoSaid : Prop := mergeListsUptoRow.holds Try.pinned (OpenSpec.upto mergeListsSpec)

/-- 'percolatelaw09.ModelTells', WHERE WHAT IT READS IS OF BULK AT MOST 1048576: true; the input reads as it did. -/
def modelTellsUptoRow : OpenClaim := { program := "ytipdjeemjiimbaa", sum := "738ca876d003bbb4cd9c93c58c022fdd0dca0cf015b0189b13560d9e82a80a25", func := "percolate/percolatelaw09.ModelTells", spec := "modelTells", inPlace := ["slices.overlaps[percolate/api.Pair]"], unfollowed := true, recurses := true, apart := false, narrowed := true }
def ModelTellsUptoSaid : Prop := modelTellsUptoRow.holds Try.pinned (OpenSpec.upto modelTellsSpec)

/-- 'percolatelaw14.RowsTake', WHERE WHAT IT READS IS OF BULK AT MOST 1048576: true; the input reads as it did. -/
def rowsTakeUptoRow : OpenClaim := { program := "ytipdjeemjiimbaa", sum := "738ca876d003bbb4cd9c93c58c022fdd0dca0cf015b0189b13560d9e82a80a25", func := "percolate/percolatelaw14.RowsTake", spec := "rowsTake", inPlace := ["slices.overlaps[percolate/api.Pair]"], unfollowed := true, recurses := true, apart := false, narrowed := true }
def RowsTakeUptoSaid : Prop := rowsTakeUptoRow.holds Try.pinned (OpenSpec.upto rowsTakeSpec)

/-- 'percolatelaw24.MergeFresh', WHERE WHAT IT READS IS OF BULK AT MOST 1048576: true; the input reads as it did. -/
def mergeFreshUptoRow : OpenClaim := { program := "ytipdjeemjiimbaa", sum := "738ca876d003bbb4cd9c93c58c022fdd0dca0cf015b0189b13560d9e82a80a25", func := "percolate/percolatelaw24.MergeFresh", spec := "mergeFresh", unfollowed := true, recurses := true, apart := false, narrowed := true }
def MergeFreshUptoSaid : Prop := mergeFreshUptoRow.holds Try.pinned (OpenSpec.upto mergeFreshSpec)

/-- 'percolatelaw22.CleaveAdopts', WHERE WHAT IT READS IS OF BULK AT MOST 1048576: true; the input reads as it did. -/
def cleaveAdoptsUptoRow : OpenClaim := { program := "ytipdjeemjiimbaa", sum := "738ca876d003bbb4cd9c93c58c022fdd0dca0cf015b0189b13560d9e82a80a25", func := "percolate/percolatelaw22.CleaveAdopts", spec := "cleaveAdopts", inPlace := ["slices.overlaps[string]", "slices.overlaps[int]"], apart := false, narrowed := true }
def CleaveAdoptsUptoSaid : Prop := cleaveAdoptsUptoRow.holds Try.pinned (OpenSpec.upto cleaveAdoptsSpec)

/-- 'percolatelaw14.RowsHalve', WHERE WHAT IT READS IS OF BULK AT MOST 1048576: true; the input reads as it did. -/
def rowsHalveUptoRow : OpenClaim := { program := "ytipdjeemjiimbaa", sum := "738ca876d003bbb4cd9c93c58c022fdd0dca0cf015b0189b13560d9e82a80a25", func := "percolate/percolatelaw14.RowsHalve", spec := "rowsHalve", inPlace := ["slices.overlaps[percolate/api.Pair]"], unfollowed := true, recurses := true, apart := false, narrowed := true }
def RowsHalveUptoSaid : Prop := rowsHalveUptoRow.holds Try.pinned (OpenSpec.upto rowsHalveSpec)

/-- 'percolatelaw20.LeafDrains', WHERE WHAT IT READS IS OF BULK AT MOST 1048576: true; the input reads as it did. -/
def leafDrainsUptoRow : OpenClaim := { program := "ytipdjeemjiimbaa", sum := "738ca876d003bbb4cd9c93c58c022fdd0dca0cf015b0189b13560d9e82a80a25", func := "percolate/percolatelaw20.LeafDrains", spec := "leafDrains", inPlace := ["slices.overlaps[percolate/api.Pair]"], unfollowed := true, recurses := true, apart := false, narrowed := true }
def LeafDrainsUptoSaid : Prop := leafDrainsUptoRow.holds Try.pinned (OpenSpec.upto leafDrainsSpec)

/-- 'percolatelaw09.ModelTakes', WHERE WHAT IT READS IS OF BULK AT MOST 1048576: true; the input reads as it did. -/
def modelTakesUptoRow : OpenClaim := { program := "ytipdjeemjiimbaa", sum := "738ca876d003bbb4cd9c93c58c022fdd0dca0cf015b0189b13560d9e82a80a25", func := "percolate/percolatelaw09.ModelTakes", spec := "modelTakes", inPlace := ["slices.overlaps[percolate/api.Pair]"], unfollowed := true, recurses := true, apart := false, narrowed := true }
def ModelTakesUptoSaid : Prop := modelTakesUptoRow.holds Try.pinned (OpenSpec.upto modelTakesSpec)

/-- 'percolatelaw53.DiffLeads', WHERE WHAT IT READS IS OF BULK AT MOST 1048576: true; the input reads as it did. -/
def diffLeadsUptoRow : OpenClaim := { program := "ytipdjeemjiimbaa", sum := "738ca876d003bbb4cd9c93c58c022fdd0dca0cf015b0189b13560d9e82a80a25", func := "percolate/percolatelaw53.DiffLeads", spec := "diffLeads", inPlace := ["slices.overlaps[percolate/api.Pair]"], unfollowed := true, recurses := true, apart := false, narrowed := true }
def DiffLeadsUptoSaid : Prop := diffLeadsUptoRow.holds Try.pinned (OpenSpec.upto diffLeadsSpec)

/-- 'percolatelaw53.DiffApplies', WHERE WHAT IT READS IS OF BULK AT MOST 1048576: true; the input reads as it did. -/
def diffAppliesUptoRow : OpenClaim := { program := "ytipdjeemjiimbaa", sum := "738ca876d003bbb4cd9c93c58c022fdd0dca0cf015b0189b13560d9e82a80a25", func := "percolate/percolatelaw53.DiffApplies", spec := "diffApplies", inPlace := ["slices.overlaps[percolate/api.Pair]"], unfollowed := true, recurses := true, apart := false, narrowed := true }
def DiffAppliesUptoSaid : Prop := diffAppliesUptoRow.holds Try.pinned (OpenSpec.upto diffAppliesSpec)

/-- 'percolatelaw24.MergeViews', WHERE WHAT IT READS IS OF BULK AT MOST 1048576: true; the input reads as it did. -/
def mergeViewsUptoRow : OpenClaim := { program := "ytipdjeemjiimbaa", sum := "738ca876d003bbb4cd9c93c58c022fdd0dca0cf015b0189b13560d9e82a80a25", func := "percolate/percolatelaw24.MergeViews", spec := "mergeViews", inPlace := ["slices.overlaps[percolate/api.Pair]"], unfollowed := true, recurses := true, apart := false, narrowed := true }
def MergeViewsUptoSaid : Prop := mergeViewsUptoRow.holds Try.pinned (OpenSpec.upto mergeViewsSpec)

/-- 'percolatelaw23.PourKeeps', WHERE WHAT IT READS IS OF BULK AT MOST 1048576: true; the input reads as it did. -/
def pourKeepsUptoRow : OpenClaim := { program := "ytipdjeemjiimbaa", sum := "738ca876d003bbb4cd9c93c58c022fdd0dca0cf015b0189b13560d9e82a80a25", func := "percolate/percolatelaw23.PourKeeps", spec := "pourKeeps", inPlace := ["slices.overlaps[percolate/api.Pair]"], unfollowed := true, recurses := true, apart := false, narrowed := true }
def PourKeepsUptoSaid : Prop := pourKeepsUptoRow.holds Try.pinned (OpenSpec.upto pourKeepsSpec)

end Rows
end Go.Proofs.Ytipdjeemjiimbaa
