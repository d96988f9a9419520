/- What a node must be to be right, in plain terms. No condition. -/
import Derived.Test.YtipdjeemjiimbaaMn
set_option linter.unusedVariables false
set_option linter.unusedSimpArgs false
set_option linter.unnecessarySimpa false
namespace Go.Fw
open Go
/-- Is a text below a node's end? -/
def Nd.has (n : Nd) (k : Str) : Bool := n.top || k.lt n.high
/-- A leaf that may be. -/
def Nd.leafR (leaf : Int) (n : Nd) : Prop := (n.pivots.length + n.kids.length + n.msgs.length = 0) ∧ (n.rows.length : Int) ≤ leaf ∧ PairsR n.rows ∧ ∀ i (h : i < n.rows.length), n.has n.rows[i].key = true
instance (m : Int) (n : Nd) : Decidable (n.leafR m) := by unfold Nd.leafR; infer_instance
/-- A message that lies in a node. -/
def Nd.fits (n : Nd) (m : Msg) : Prop := m.stamp ≤ n.seen ∧ (n.top = true ∨ (m.span.opn = false ∧ n.high.lt m.span.hi = false))
instance (n : Nd) (m : Msg) : Decidable (n.fits m) := by unfold Nd.fits; infer_instance
/-- A pivot that lies in a node. -/
def Nd.parts (n : Nd) (k : Str) : Prop := k ≠ Str.nil ∧ k.b.size ≤ 16 ∧ n.has k = true
instance (n : Nd) (k : Str) : Decidable (n.parts k) := by unfold Nd.parts; infer_instance
/-- An inner node that may be. -/
def Nd.innerR (fan bud : Int) (n : Nd) : Prop := (n.rows.length = 0 ∧ 2 ≤ n.kids.length ∧ (n.kids.length : Int) ≤ fan) ∧ rightN n.pivots n.kids.length = true ∧ MsgsR n.msgs ∧ sizesN n.msgs ≤ bud ∧
  (∀ i (h : i < n.kids.length), 0 ≤ n.kids[i]) ∧ (∀ i (h : i < n.pivots.length), n.parts n.pivots[i]) ∧ ∀ i (h : i < n.msgs.length), n.fits n.msgs[i]
instance (f b : Int) (n : Nd) : Decidable (n.innerR f b) := by unfold Nd.innerR; infer_instance
/-- A node that may be. -/
def Nd.R (fan leaf bud : Int) (n : Nd) : Prop := (0 ≤ n.slot ∧ 0 ≤ n.level ∧ 0 ≤ n.seen) ∧ (n.top = true → n.high = Str.nil ∧ n.right = -1) ∧ (n.top = false → n.high ≠ Str.nil ∧ n.high.b.size ≤ 16 ∧ 0 ≤ n.right) ∧
  if n.level = 0 then n.leafR leaf else n.innerR fan bud
instance (f l b : Int) (n : Nd) : Decidable (n.R f l b) := by unfold Nd.R; infer_instance
/-- A node of few things, whose lists may be. -/
def Nd.sound (n : Nd) : Prop := Light [n] 1 2000 ∧ if n.level = 0 then PairsR n.rows else MsgsR n.msgs
instance (n : Nd) : Decidable n.sound := by unfold Nd.sound; infer_instance
theorem MsgsR.sizes {l : List Msg} (h : MsgsR l) : ∀ m ∈ l, m.key.b.size ≤ 16 ∧ m.val.b.size ≤ 16 := fun m hm => by
  obtain ⟨i, hi, rfl⟩ := List.getElem_of_mem hm
  have := (h i hi).1.1
  exact ⟨this.2.1, this.2.2.1⟩
end Go.Fw
