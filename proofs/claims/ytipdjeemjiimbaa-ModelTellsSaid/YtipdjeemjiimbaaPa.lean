/- Plain laws on texts as bytes: their order. Nothing of the program is named here. No condition. -/
import Derived.Test.YtipdjeemjiimbaaFp
set_option linter.unusedVariables false
set_option linter.unusedSimpArgs false
set_option linter.unnecessarySimpa false
namespace Go.Fw
open Go

theorem iv {k : IntKind} {a b : Int} (h : a = b) : Value.int k a = Value.int k b := by rw [h]

theorem nd_t {p : Prop} [Decidable p] (h : (!decide p) = true) : ¬ p := by simpa using h
theorem nd_f {p : Prop} [Decidable p] (h : (!decide p) = false) : p := by simpa using h

theorem bytesLess_at : ∀ (k : Nat) (l1 l2 : List UInt8) (h : ∀ i, i < k → l1[i]? = l2[i]?) (h1 : k < l1.length) (h2 : k < l2.length), l1[k] ≠ l2[k] → Op.bytesLess l1 l2 = decide (l1[k] < l2[k])
  | 0, x :: xs, y :: ys, _, _, _, hn => by
    simp only [List.getElem_cons_zero] at hn ⊢
    simp [Op.bytesLess, hn]
  | k + 1, x :: xs, y :: ys, h, h1, h2, hn => by
    have h0 := h 0 (by omega)
    simp at h0
    subst h0
    have ih := bytesLess_at k xs ys (fun i hi => by simpa using h (i + 1) (by omega)) (by simpa using h1) (by simpa using h2) (by simpa using hn)
    simp only [Op.bytesLess, List.getElem_cons_succ, ih]
    simp
  | _, [], _, _, h1, _, _ => by simp at h1
  | _, _ :: _, [], _, _, h2, _ => by simp at h2

theorem bytesLess_end : ∀ (k : Nat) (l1 l2 : List UInt8) (h : ∀ i, i < k → l1[i]? = l2[i]?), (k = l1.length ∨ k = l2.length) → k ≤ l1.length → k ≤ l2.length → Op.bytesLess l1 l2 = decide (l1.length < l2.length)
  | 0, l1, l2, _, h, _, _ => by
    cases l1 <;> cases l2 <;> simp [Op.bytesLess] at h ⊢
  | k + 1, x :: xs, y :: ys, h, h0, h1, h2 => by
    have h3 := h 0 (by omega)
    simp at h3
    subst h3
    have ih := bytesLess_end k xs ys (fun i hi => by simpa using h (i + 1) (by omega)) (by simpa using h0) (by simpa using h1) (by simpa using h2)
    simp [Op.bytesLess, ih]
  | k + 1, [], _, _, _, h1, _ => by simp at h1
  | k + 1, _ :: _, [], _, _, _, h2 => by simp at h2

theorem getElem?_data (a : ByteArray) (i : Nat) : a[i]? = a.toList[i]? := by
  rw [ByteArray.toList_eq]
  by_cases h : i < a.size
  · rw [getElem?_pos a i h, List.getElem?_eq_getElem (by simpa using h)]
    simp [ByteArray.getElem_eq_getElem_data]
  · rw [getElem?_neg a i h, List.getElem?_eq_none (by simpa using h)]
theorem size_data (a : ByteArray) : a.size = a.toList.length := by rw [ByteArray.toList_eq]; simp

theorem blt_at {a b : ByteArray} {k : Nat} (h : ∀ i, i < k → a[i]? = b[i]?) (h1 : k < a.size) (h2 : k < b.size) (hn : (a[k]'h1).toNat ≠ (b[k]'h2).toNat) : decide (((a[k]'h1).toNat : Int) < (b[k]'h2).toNat) = blt a b := by
  have e1 : ∀ (c : ByteArray) (hc : k < c.size), c.toList[k]'(by rw [← size_data]; exact hc) = c[k]'hc := fun c hc => by
    have := getElem?_data c k
    rw [getElem?_pos c k hc, List.getElem?_eq_getElem (by rw [← size_data]; exact hc)] at this
    exact (Option.some.inj this).symm
  unfold blt
  rw [bytesLess_at k a.toList b.toList (fun i hi => by rw [← getElem?_data, ← getElem?_data]; exact h i hi) (by rw [← size_data]; exact h1) (by rw [← size_data]; exact h2) (by
    rw [e1 a h1, e1 b h2]; exact fun e => hn (by rw [e]))]
  rw [e1 a h1, e1 b h2, Bool.eq_iff_iff]
  simp [UInt8.lt_iff_toNat_lt]
theorem blt_end {a b : ByteArray} {k : Nat} (h : ∀ i, i < k → a[i]? = b[i]?) (h0 : k = a.size ∨ k = b.size) (h1 : k ≤ a.size) (h2 : k ≤ b.size) : decide ((a.size : Int) < b.size) = blt a b := by
  unfold blt
  rw [bytesLess_end k a.toList b.toList (fun i hi => by rw [← getElem?_data, ← getElem?_data]; exact h i hi) (by rw [← size_data, ← size_data]; exact h0) (by rw [← size_data]; exact h1) (by rw [← size_data]; exact h2)]
  rw [← size_data, ← size_data, Bool.eq_iff_iff]
  simp
theorem same_succ {a b : ByteArray} {k : Nat} (h : ∀ i, i < k → a[i]? = b[i]?) (h1 : k < a.size) (h2 : k < b.size) (he : ((a[k]'h1).toNat : Int) = (b[k]'h2).toNat) : ∀ i, i < k + 1 → a[i]? = b[i]? := fun i hi => by
  by_cases e : i = k
  · subst e
    rw [getElem?_pos a i h1, getElem?_pos b i h2]
    congr 1
    exact UInt8.toNat_inj.1 (by omega)
  · exact h i (by omega)
end Go.Fw
