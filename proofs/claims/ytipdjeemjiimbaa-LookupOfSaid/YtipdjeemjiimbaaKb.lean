/- The common head of two texts, and a text between them. No condition. -/
import Derived.Test.YtipdjeemjiimbaaMg
import Derived.Test.YtipdjeemjiimbaaFv
set_option linter.unusedVariables false
set_option linter.unusedSimpArgs false
set_option linter.unnecessarySimpa false
namespace Go.Fw
open Go
/-- How long the common head is. -/
def commonFrom (a b : ByteArray) : Nat → Nat → Nat
  | 0, k => k
  | n + 1, k => if k < a.size ∧ k < b.size ∧ a[k]? = b[k]? then commonFrom a b n (k + 1) else k
def commonN (a b : Str) : Nat := commonFrom a.b b.b a.b.size 0
theorem commonFrom_same {a b : ByteArray} : ∀ {n k j : Nat}, j ≤ k + n → k ≤ j → j ≤ a.size → j ≤ b.size → (∀ i, i < j → a[i]? = b[i]?) → commonFrom a b n k = commonFrom a b (n + k - j) j
  | 0, k, j, h1, h2, _, _, _ => by
    obtain rfl : j = k := by omega
    simp
  | n + 1, k, j, h1, h2, h3, h4, h5 => by
    by_cases e : k = j
    · subst e; simp
    · rw [commonFrom, if_pos ⟨by omega, by omega, h5 k (by omega)⟩, commonFrom_same (n := n) (k := k + 1) (j := j) (by omega) (by omega) h3 h4 h5]
      congr 1; omega
theorem commonN_ne {a b : Str} {k : Nat} (h : ∀ i, i < k → a.b[i]? = b.b[i]?) (h1 : k < a.b.size) (h2 : k < b.b.size) (hn : a.b[k]? ≠ b.b[k]?) : commonN a b = k := by
  rw [commonN, commonFrom_same (j := k) (by omega) (by omega) (by omega) (by omega) h]
  obtain ⟨m, hm⟩ : ∃ m, a.b.size + 0 - k = m + 1 := ⟨a.b.size - k - 1, by omega⟩
  rw [hm, commonFrom, if_neg (by simp [hn])]
theorem commonN_end {a b : Str} {k : Nat} (h1 : k ≤ a.b.size) (h2 : k ≤ b.b.size) (h : ∀ i, i < k → a.b[i]? = b.b[i]?) (he : k = a.b.size ∨ k = b.b.size) : commonN a b = k := by
  rw [commonN, commonFrom_same (j := k) (by omega) (by omega) h1 h2 h]
  cases hm : a.b.size + 0 - k with
  | zero => rfl
  | succ m => rw [commonFrom, if_neg (by omega)]
theorem commonFrom_le (a b : ByteArray) : ∀ n k, k ≤ a.size → k ≤ b.size → commonFrom a b n k ≤ a.size ∧ commonFrom a b n k ≤ b.size
  | 0, k, h1, h2 => ⟨h1, h2⟩
  | n + 1, k, h1, h2 => by
    rw [commonFrom]
    split
    · rename_i h; exact commonFrom_le a b n (k + 1) (by omega) (by omega)
    · exact ⟨h1, h2⟩
theorem commonN_le (a b : Str) : commonN a b ≤ a.b.size ∧ commonN a b ≤ b.b.size := commonFrom_le _ _ _ _ (by omega) (by omega)
theorem commonFrom_pre {a b : ByteArray} : ∀ {n k : Nat}, (∀ i, i < k → a[i]? = b[i]?) → ∀ i, i < commonFrom a b n k → a[i]? = b[i]?
  | 0, k, h => h
  | n + 1, k, h => by
    rw [commonFrom]
    split
    · rename_i hc
      exact commonFrom_pre fun i hi => by
        by_cases e : i = k
        · subst e; exact hc.2.2
        · exact h i (by omega)
    · exact h
theorem common_pre (a b : Str) : ∀ i, i < commonN a b → a.b[i]? = b.b[i]? := commonFrom_pre fun i hi => by omega
theorem commonN_ne' {a b : Str} {k : Nat} (h : ∀ i, i < k → a.b[i]? = b.b[i]?) (h1 : k < a.b.size) (h2 : k < b.b.size) (hn : ¬ ((a.b[k]'h1).toNat : Int) = (b.b[k]'h2).toNat) : commonN a b = k :=
  commonN_ne h h1 h2 fun e => hn (by
    rw [getElem?_pos a.b k h1, getElem?_pos b.b k h2] at e
    simp only [Option.some.injEq] at e
    rw [e])
theorem common_lt {a b : Str} (h : a.lt b = true) : commonN a b < b.b.size := by
  obtain ⟨h1, h2⟩ := commonN_le a b
  by_cases e : commonN a b = b.b.size
  · have := blt_end (common_pre a b) (.inr e) h1 h2
    rw [show blt a.b b.b = true from h] at this
    simp at this
    omega
  · omega
/-- Between two texts: the second one's shortest head that is above the first one. -/
def betweenN (a b : Str) : Str × Bool := if a.lt b = true then (b.cut 0 (commonN a b + 1), true) else (Str.nil, false)
theorem betweenN_t {a b : Str} (h : a.lt b = true) : betweenN a b = (b.cut 0 (commonN a b + 1), true) := if_pos h
theorem betweenN_f {a b : Str} (h : a.lt b = false) : betweenN a b = (Str.nil, false) := if_neg (by simp [h])
theorem cut_size {b : Str} {n : Nat} (h : n ≤ b.b.size) : (b.cut 0 n).b.size = n := by
  show (b.b.extract 0 n).size = n
  rw [ByteArray.size_extract]; omega
theorem cut_get {b : Str} {n i : Nat} (h : n ≤ b.b.size) (hi : i < n) : (b.cut 0 n).b[i]? = b.b[i]? := by
  have h1 : i < (b.cut 0 n).b.size := by rw [cut_size h]; exact hi
  rw [getElem?_pos _ i h1, getElem?_pos _ i (by omega)]
  have h2 : ∀ hh, (b.b.extract 0 n)[i]'hh = b.b[i]'(by omega) := fun hh => by rw [ByteArray.getElem_extract]; simp
  exact congrArg some (h2 h1)
theorem lt_cut {a b : Str} {n : Nat} (hn : n ≤ b.b.size) : a.lt (b.cut 0 n) = (a.lt b && decide (commonN a b < n)) := by
  obtain ⟨h1, h2⟩ := commonN_le a b
  have hs := cut_size hn
  by_cases hk : commonN a b < n
  · have hp : ∀ i, i < commonN a b → a.b[i]? = (b.cut 0 n).b[i]? := fun i hi => by rw [cut_get hn (by omega)]; exact common_pre a b i hi
    rw [decide_eq_true hk, Bool.and_true]
    show blt a.b (b.cut 0 n).b = blt a.b b.b
    by_cases ha : commonN a b = a.b.size
    · rw [← blt_end hp (.inl ha) (by omega) (by omega), ← blt_end (common_pre a b) (.inl ha) (by omega) (by omega), hs]
      rw [decide_eq_true (by omega), decide_eq_true (by omega)]
    · have hlt : commonN a b < a.b.size := by omega
      have hlb : commonN a b < b.b.size := by omega
      have hlc : commonN a b < (b.cut 0 n).b.size := by omega
      have hg := cut_get hn hk
      rw [getElem?_pos (b.cut 0 n).b (commonN a b) hlc, getElem?_pos b.b (commonN a b) hlb] at hg
      simp only [Option.some.injEq] at hg
      have hne : (a.b[commonN a b]'hlt).toNat ≠ (b.b[commonN a b]'hlb).toNat := fun e => by
        have h5 : commonN a b + 1 ≤ commonN a b := by
          have h6 : ∀ i, i < commonN a b + 1 → a.b[i]? = b.b[i]? := fun i hi => by
            by_cases e2 : i = commonN a b
            · rw [e2, getElem?_pos a.b _ hlt, getElem?_pos b.b _ hlb, UInt8.toNat.inj e]
            · exact common_pre a b i (by omega)
          have h7 : commonN a b = commonFrom a.b b.b (a.b.size + 0 - (commonN a b + 1)) (commonN a b + 1) := by
            conv => lhs; unfold commonN
            exact commonFrom_same (by omega) (by omega) (by omega) (by omega) h6
          have h8 : ∀ n k, k ≤ commonFrom a.b b.b n k := by
            intro n
            induction n with
            | zero => intro k; exact Nat.le_refl _
            | succ n ih =>
              intro k
              rw [commonFrom]
              split
              · exact Nat.le_trans (Nat.le_succ k) (ih (k + 1))
              · exact Nat.le_refl _
          have := h8 (a.b.size + 0 - (commonN a b + 1)) (commonN a b + 1)
          omega
        omega
      rw [← blt_at hp hlt hlc (by rw [hg]; exact hne), ← blt_at (common_pre a b) hlt hlb hne, hg]
  · have hp : ∀ i, i < n → a.b[i]? = (b.cut 0 n).b[i]? := fun i hi => by rw [cut_get hn hi]; exact common_pre a b i (by omega)
    rw [decide_eq_false hk, Bool.and_false]
    show blt a.b (b.cut 0 n).b = false
    rw [← blt_end hp (.inr hs.symm) (by omega) (by omega), hs]
    exact decide_eq_false (by omega)
theorem between_at {a b : Str} {k : Nat} (hk : k ≤ b.b.size) (h : a.lt (b.cut 0 k) = true) (hm : ∀ j, j < k → a.lt (b.cut 0 j) = false) : betweenN a b = (b.cut 0 k, true) := by
  rw [lt_cut hk] at h
  simp only [Bool.and_eq_true, decide_eq_true_eq] at h
  obtain ⟨h1, h2⟩ := h
  rw [betweenN_t h1]
  by_cases e : commonN a b + 1 = k
  · rw [e]
  · have h3 := hm (commonN a b + 1) (by omega)
    rw [lt_cut (by omega), h1, decide_eq_true (by omega)] at h3
    cases h3
theorem between_no {a b : Str} (hm : ∀ j, j ≤ b.b.size → a.lt (b.cut 0 j) = false) : betweenN a b = (Str.nil, false) := by
  cases h1 : a.lt b
  · exact betweenN_f h1
  · have h2 := common_lt h1
    have h3 := hm (commonN a b + 1) (by omega)
    rw [lt_cut (by omega), h1, decide_eq_true (by omega)] at h3
    cases h3
/-- Rows in two parts, and the text between them. -/
def rowsN (l : List Pair) : List Pair × List Pair × Str × Bool :=
  if l.length < 2 then ([], [], Str.nil, false)
  else (l.take ((l.length + 1) / 2), l.drop ((l.length + 1) / 2), (betweenN (l.getD ((l.length + 1) / 2 - 1) default).key (l.getD ((l.length + 1) / 2) default).key).1, true)
theorem rowsN_f {l : List Pair} (h : l.length < 2) : rowsN l = ([], [], Str.nil, false) := if_pos h
theorem rowsN_t {l : List Pair} (h : ¬ l.length < 2) : rowsN l = (l.take ((l.length + 1) / 2), l.drop ((l.length + 1) / 2), (betweenN (l[(l.length + 1) / 2 - 1]'(by omega)).key (l[(l.length + 1) / 2]'(by omega)).key).1, true) := by
  rw [rowsN, if_neg h, getD_get (by omega), getD_get (by omega)]
end Go.Fw
