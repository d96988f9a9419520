/- Where the first element stands that meets a test; deletion of elements in place. Plain Lean; nothing of the program is named here. No condition. -/
import Derived.Test.YtcngningbcaggaaQgX3
set_option linter.unusedVariables false
set_option linter.unusedSimpArgs false
set_option linter.unnecessarySimpa false

namespace Go.Fw
section
variable {α : Type} {q : α → Bool} {l m : List α}
def idxN (q : α → Bool) (l : List α) : Int := match l.findIdx? q with
 | some i => i
 | none => -1
theorem idxN_at {k : Nat} (hk : k < l.length) (h : q l[k] = true) (hj : ∀ j (h : j < l.length), j < k → q l[j] = false) : idxN q l = k := by
 have e : l.findIdx? q = some k := by
  rw [List.findIdx?_eq_some_iff_getElem]
  exact ⟨hk, h, fun j hji => by have := hj j om9 hji; simp [this]⟩
 unfold idxN; rw [e]
theorem idxN_no (h : ∀ j (h : j < l.length), q l[j] = false) : idxN q l = -1 := by
 have e : l.findIdx? q = none := by
  rw [List.findIdx?_eq_none_iff]
  intro x hx
  obtain ⟨j, hj, rfl⟩ := List.getElem_of_mem hx
  exact h j hj
 unfold idxN; rw [e]
theorem idxN_cases (q : α → Bool) (l : List α) : (idxN q l = -1 ∧ ∀ x ∈ l, q x = false) ∨ ∃ k, ∃ h : k < l.length, idxN q l = (k : Nat) ∧ q l[k] = true ∧ ∀ j (h : j < l.length), j < k → q l[j] = false := by
 cases e : l.findIdx? q with
 | none =>
  left
  refine ⟨by unfold idxN; rw [e], ?_⟩
  exact List.findIdx?_eq_none_iff.1 e
 | some k =>
  right
  obtain ⟨h1, h2, h3⟩ := List.findIdx?_eq_some_iff_getElem.1 e
  exact ⟨k, h1, by unfold idxN; rw [e], h2, fun j hj hji => by have := h3 j hji; simpa using this⟩
theorem idxN_le (q : α → Bool) (l : List α) : -1 ≤ idxN q l ∧ idxN q l < (l.length : Nat) := by
 rcases idxN_cases q l with ⟨h, _⟩ | ⟨k, h1, h2, _⟩
 ·omega
 ·omega
theorem idx_none (h : idxN q l = -1) : l.filter (fun a => !q a) = l := by
 rcases idxN_cases q l with ⟨_, h2⟩ | ⟨k, h1, h2, _⟩
 ·exact List.filter_eq_self.2 fun a ha => by rw [h2 a ha]; rfl
 ·omega
theorem idx_first (h : ¬ idxN q l = -1) : l.take (idxN q l).toNat = (l.take ((idxN q l).toNat + 1)).filter (fun a => !q a) := by
 rcases idxN_cases q l with ⟨h1, _⟩ | ⟨k, h1, h2, h3, h4⟩
 ·exact absurd h1 h
 ·rw [h2]
  simp only [Int.toNat_natCast]
  rw [filt_f (p := fun a => !q a) h1 (by rw [h3]; rfl)]
  symm
  refine List.filter_eq_self.2 fun a ha => ?_
  obtain ⟨j, hj, rfl⟩ := List.getElem_of_mem ha
  simp only [List.length_take] at hj
  rw [List.getElem_take, h4 j om9 om9]; rfl
theorem drop_get {j : Nat} (hj : j < m.length) (hl : j < l.length) (h : m.drop j = l.drop j) : m[j] = l[j] := by
 rw [List.drop_eq_getElem_cons hj, List.drop_eq_getElem_cons hl] at h
 exact (List.cons.inj h).1
theorem drop_succ_of {j : Nat} (h : m.drop j = l.drop j) : m.drop (j + 1) = l.drop (j + 1) := by
 have := congrArg (List.drop 1) h
 rwa [List.drop_drop, List.drop_drop] at this
theorem del_keep {i j : Nat} {p : α → Bool} (hij : i < j) (hjl : j < l.length) (hml : m.length = l.length) (hmt : m.take i = (l.take j).filter p) (hmd : m.drop j = l.drop j) (hq : p l[j] = true) : (m.set i (m[j]'om9)).take (i + 1) = (l.take (j + 1)).filter p ∧ (m.set i (m[j]'om9)).drop (j + 1) = l.drop (j + 1) := by
 have e := drop_get om9 hjl hmd
 constructor
 ·rw [filt_t hjl hq, ← hmt, e, List.take_succ_eq_append_getElem (by simp; omega), List.take_set_of_le (Nat.le_refl _)]
  simp
 ·rw [List.drop_set_of_lt om9]
  exact drop_succ_of hmd
theorem del_skip {i j : Nat} {p : α → Bool} (hjl : j < l.length) (hmt : m.take i = (l.take j).filter p) (hmd : m.drop j = l.drop j) (hq : p l[j] = false) : m.take i = (l.take (j + 1)).filter p ∧ m.drop (j + 1) = l.drop (j + 1) :=
 ⟨by rw [filt_f hjl hq]; exact hmt, drop_succ_of hmd⟩
end
end Go.Fw
