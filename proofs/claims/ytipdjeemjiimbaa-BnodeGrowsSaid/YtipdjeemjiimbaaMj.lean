/- Pivots and children with one more, or one fewer, as plain functions, and their laws. Plain Lean; nothing of the program is named here. No condition. -/
import Derived.Test.YtipdjeemjiimbaaMi
set_option linter.unusedVariables false
set_option linter.unusedSimpArgs false
set_option linter.unnecessarySimpa false
namespace Go.Fw
def binsN (p : List Str) (c : List Int) (i : Nat) (k : Str) (v : Int) : List Str × List Int :=
  if c.length ≤ i ∨ (rangeN p (i : Int)).has k = false ∨ k = (rangeN p (i : Int)).lo then ([], []) else ((p.take i ++ [k]) ++ p.drop i, (c.take (i + 1) ++ [v]) ++ c.drop (i + 1))
theorem binsN_0 {p : List Str} {c : List Int} {i : Nat} {k : Str} {v : Int} (h : c.length ≤ i ∨ (rangeN p (i : Int)).has k = false ∨ k = (rangeN p (i : Int)).lo) : binsN p c i k v = ([], []) := if_pos h
theorem binsN_1 {p : List Str} {c : List Int} {i : Nat} {k : Str} {v : Int} (h1 : ¬ c.length ≤ i) (h2 : (rangeN p (i : Int)).has k = true) (h3 : ¬ k = (rangeN p (i : Int)).lo) : binsN p c i k v = ((p.take i ++ [k]) ++ p.drop i, (c.take (i + 1) ++ [v]) ++ c.drop (i + 1)) :=
  if_neg fun h => h.elim h1 (fun h => h.elim (fun h => by rw [h2] at h; cases h) h3)
def bremN (p : List Str) (c : List Int) (i : Nat) : List Str × List Int :=
  if i < 1 ∨ c.length ≤ i ∨ p.length < i then ([], []) else (p.take (i - 1) ++ p.drop i, c.take i ++ c.drop (i + 1))
theorem bremN_0 {p : List Str} {c : List Int} {i : Nat} (h : i < 1 ∨ c.length ≤ i ∨ p.length < i) : bremN p c i = ([], []) := if_pos h
theorem bremN_1 {p : List Str} {c : List Int} {i : Nat} (h1 : ¬ i < 1) (h2 : ¬ c.length ≤ i) (h3 : ¬ p.length < i) : bremN p c i = (p.take (i - 1) ++ p.drop i, c.take i ++ c.drop (i + 1)) := if_neg (by omega)
theorem bins_len (p : List Str) (c : List Int) (i : Nat) (k : Str) (v : Int) : (binsN p c i k v).1.length ≤ p.length + 1 ∧ (binsN p c i k v).2.length ≤ c.length + 1 := by
  unfold binsN; split
  · simp
  · rename_i h
    have : i + 1 ≤ c.length := by
      have := fun h2 => h (Or.inl h2); omega
    simp; omega
theorem brem_len (p : List Str) (c : List Int) (i : Nat) : (bremN p c i).1.length ≤ p.length ∧ (bremN p c i).2.length ≤ c.length := by
  unfold bremN; split
  · simp
  · simp; omega
theorem range_in {p : List Str} {i : Nat} {k : Str} (h : (rangeN p (i : Int)).has k = true) : i ≤ p.length := by
  by_cases h2 : i ≤ p.length
  · exact h2
  · rw [rangeN_out (by omega)] at h
    have : Span.zero.has k = false := by
      simp only [Span.zero, Span.has]
      cases h3 : k.lt Str.nil
      · simp
      · simp
    rw [this] at h; cases h
/-- What the range says of a key strictly within. -/
theorem range_within {p : List Str} {i : Nat} {k : Str} (h : (rangeN p (i : Int)).has k = true) (h2 : ¬ k = (rangeN p (i : Int)).lo) :
    (∀ h : 0 < i ∧ i - 1 < p.length, (p[i - 1]'h.2).lt k = true) ∧ (∀ h : i < p.length, k.lt p[i] = true) := by
  have hi := range_in h
  have e := rangeN_in (l := p) (i := (i : Int)) (by omega) (by omega)
  have h0 := h
  rw [e, norm_has] at h
  simp only [Span.has, Bool.and_eq_true, Bool.or_eq_true, Bool.not_eq_true', decide_eq_true_eq] at h
  obtain ⟨h3, h4⟩ := h
  have hhi : ∀ h : i < p.length, k.lt p[i] = true := fun hlt => by
    rcases h4 with h4 | h4
    · omega
    · rw [show ((i : Int)).toNat = i from rfl, getD_in (d := Str.nil) hlt] at h4; exact h4
  refine ⟨fun ⟨h5, h6⟩ => ?_, hhi⟩
  rw [if_pos (by omega), show ((i : Int) - 1).toNat = i - 1 from by omega, getD_in (d := Str.nil) h6] at h3
  cases hlt : (p[i - 1]'h6).lt k
  · exfalso
    have hke : k = p[i - 1]'h6 := Str.lt_total h3 hlt
    apply h2
    rw [e, if_pos (by omega), show ((i : Int) - 1).toNat = i - 1 from by omega, getD_in (d := Str.nil) h6]
    unfold Span.norm
    split
    · rename_i hem
      exfalso
      simp only [Span.empty, Bool.and_eq_true, Bool.not_eq_true', decide_eq_false_iff_not] at hem
      have := h4.resolve_left (by omega)
      rw [hke] at this
      simp_all
    · split <;> exact hke
  · rfl
theorem bins_right {p : List Str} {c : List Int} {i : Nat} {k : Str} {v : Int} (hr : rightN p c.length = true) (hi : i < c.length) (h : (rangeN p (i : Int)).has k = true) (h2 : ¬ k = (rangeN p (i : Int)).lo) :
    rightN ((p.take i ++ [k]) ++ p.drop i) ((c.take (i + 1) ++ [v]) ++ c.drop (i + 1)).length = true := by
  obtain ⟨hp, hn⟩ := rightN_spec hr
  obtain ⟨h3, h4⟩ := range_within h h2
  have hi' := range_in h
  refine rightN_of (rising_iff.2 fun j hj => ?_) (by simp; omega)
  have hl : ((p.take i ++ [k]) ++ p.drop i).length = p.length + 1 := by simp; omega
  have get : ∀ q (hq : q < ((p.take i ++ [k]) ++ p.drop i).length), ((p.take i ++ [k]) ++ p.drop i)[q] = if h : q < i then p[q]'(by omega) else if h : q = i then k else p[q - 1]'(by omega) := fun q hq => by
    by_cases h5 : q < i
    · rw [dif_pos h5, List.getElem_append_left (by simp; omega), List.getElem_append_left (by simp; omega), List.getElem_take]
    · rw [dif_neg h5]
      by_cases h6 : q = i
      · rw [dif_pos h6, List.getElem_append_left (by simp; omega), List.getElem_append_right (by simp; omega)]; simp
      · rw [dif_neg h6, List.getElem_append_right (by simp; omega), List.getElem_drop]
        congr 1; simp; omega
  rw [get, get]
  have hp' := rising_iff.1 hp
  by_cases a : j + 1 < i
  · rw [dif_pos (by omega), dif_pos a]; exact hp' j (by omega)
  · by_cases b : j + 1 = i
    · rw [dif_pos (by omega), dif_neg (by omega), dif_pos b]
      have := h3 ⟨by omega, by omega⟩
      simpa only [show i - 1 = j from by omega] using this
    · by_cases d : j = i
      · rw [dif_neg (by omega), dif_pos d, dif_neg (by omega), dif_neg (by omega)]
        have := h4 (by omega)
        simpa only [show j + 1 - 1 = i from by omega] using this
      · rw [dif_neg (by omega), dif_neg d, dif_neg (by omega), dif_neg (by omega)]
        have := hp' (j - 1) (by omega)
        simpa only [show j - 1 + 1 = j + 1 - 1 from by omega] using this
theorem bins_back {p : List Str} {c : List Int} {i : Nat} {k : Str} {v : Int} (hi : i < c.length) (hp : i ≤ p.length) :
    bremN ((p.take i ++ [k]) ++ p.drop i) ((c.take (i + 1) ++ [v]) ++ c.drop (i + 1)) (i + 1) = (p, c) := by
  rw [bremN_1 (by omega) (by simp; omega) (by simp; omega)]
  have aux : ∀ {α : Type} (l : List α) (x : α) (n : Nat), n ≤ l.length → ((l.take n ++ [x]) ++ l.drop n).take n ++ ((l.take n ++ [x]) ++ l.drop n).drop (n + 1) = l := fun l x n h => by
    have e1 : ((l.take n ++ [x]) ++ l.drop n).take n = l.take n := by rw [List.append_assoc, List.take_append_of_le_length (by simp; omega), List.take_take, Nat.min_self]
    have e2 : ((l.take n ++ [x]) ++ l.drop n).drop (n + 1) = l.drop n := by rw [List.drop_left' (by simp; omega)]
    rw [e1, e2, List.take_append_drop]
  rw [show i + 1 - 1 = i from rfl, aux p k i hp, aux c v (i + 1) (by omega)]
end Go.Fw
