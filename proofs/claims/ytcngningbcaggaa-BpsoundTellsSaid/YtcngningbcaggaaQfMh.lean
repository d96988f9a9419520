/- Where the first element stands that meets a test; deletion of elements in place. Plain Lean; nothing of the program is named here. No condition. -/
import Derived.Test.YtcngningbcaggaaQfX3
set_option linter.unusedVariables false
set_option linter.unusedSimpArgs false
set_option linter.unnecessarySimpa false

namespace Go.Fw
section
variable {α : Type} {q : α → Bool} {l m : List α}
def idxN (q : α → Bool) (l : List α) : Int := match l.findIdx? q with
 | some i => i
 | none => -1
theorem idxN_at {k : Nat} (hk : k < l.length) (h : q l[k] = true) (hj : ∀ j (h : j < l.length), j < k → q l[j] = false) : idxN q l = k := by
 have e : l.findIdx? q = some k := by
  rw [List.findIdx?_eq_some_iff_getElem]
  exact ⟨hk, h, fun j hji => by have := hj j om9 hji; simp [this]⟩
 unfold idxN; rw [e]
theorem idxN_no (h : ∀ j (h : j < l.length), q l[j] = false) : idxN q l = -1 := by
 have e : l.findIdx? q = none := by
  rw [List.findIdx?_eq_none_iff]
  intro x hx
  obtain ⟨j, hj, rfl⟩ := List.getElem_of_mem hx
  exact h j hj
 unfold idxN; rw [e]
theorem idxN_cases (q : α → Bool) (l : List α) : (idxN q l = -1 ∧ ∀ x ∈ l, q x = false) ∨ ∃ k, ∃ h : k < l.length, idxN q l = (k : Nat) ∧ q l[k] = true ∧ ∀ j (h : j < l.length), j < k → q l[j] = false := by
 cases e : l.findIdx? q with
 | none =>
  left
  refine ⟨by unfold idxN; rw [e], ?_⟩
  exact List.findIdx?_eq_none_iff.1 e
 | some k =>
  right
  obtain ⟨h1, h2, h3⟩ := List.findIdx?_eq_some_iff_getElem.1 e
  exact ⟨k, h1, by unfold idxN; rw [e], h2, fun j hj hji => by have := h3 j hji; simpa using this⟩
end
end Go.Fw
