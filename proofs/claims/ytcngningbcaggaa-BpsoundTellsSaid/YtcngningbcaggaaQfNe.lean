/- The messages of some lists by their stamps: again and again the least of those that stand first. Plain Lean; nothing of the program is named here. No condition. -/
import Derived.Test.YtcngningbcaggaaQfNd
set_option linter.unusedVariables false
set_option linter.unusedSimpArgs false
set_option linter.unnecessarySimpa false

namespace Go.Fw
abbrev Ls := List (List Msg)
def stN (l : List Msg) : Int := Hd.st (l, 0)
theorem stN_at {l : List Msg} (h : 0 < l.length) : stN l = l[0].stamp := Hd.st_at (a := (l, 0)) h
structure Best (cur : Ls) (b : Nat) : Prop where
 lt : b < cur.length
 ne : 0 < cur[b].length
 min : ∀ j (h : j < cur.length), 0 < cur[j].length → stN cur[b] ≤ stN cur[j] ∧ (j < b → stN cur[b] < stN cur[j])
theorem Best.uniq {cur : Ls} {b c : Nat} (hb : Best cur b) (hc : Best cur c) : b = c := by
 have h1 := hb.min c hc.lt hc.ne
 have h2 := hc.min b hb.lt hb.ne
 rcases Nat.lt_trichotomy b c with h | h | h
 ·have := h2.2 h; omega
 ·exact h
 ·have := h1.2 h; omega
def totN (cur : Ls) : Nat := (cur.map List.length).sum
theorem totN_app (a b : Ls) : totN (a ++ b) = totN a + totN b := by simp [totN]
theorem totN_cons (a : List Msg) (b : Ls) : totN (a :: b) = a.length + totN b := by simp [totN]
open Classical in
noncomputable def mergeF : Nat → Ls → List Msg
 | 0, _ => []
 | f + 1, cur => if h : ∃ b, Best cur b then (cur[h.choose]'(h.choose_spec.lt))[0]'(h.choose_spec.ne) :: mergeF f (cur.set h.choose ((cur[h.choose]'(h.choose_spec.lt)).drop 1)) else []
noncomputable def mergeN (cur : Ls) : List Msg := mergeF (totN cur) cur
theorem mergeF_best {f : Nat} {cur : Ls} {b : Nat} (hb : Best cur b) : mergeF (f + 1) cur = (cur[b]'hb.lt)[0]'hb.ne :: mergeF f (cur.set b ((cur[b]'hb.lt).drop 1)) := by
 have h : ∃ b, Best cur b := ⟨b, hb⟩
 have e : h.choose = b := h.choose_spec.uniq hb
 rw [mergeF, dif_pos h]
 simp only [e]
theorem set_split {cur : Ls} {b : Nat} (h : b < cur.length) (t : List Msg) : cur.set b t = cur.take b ++ t :: cur.drop (b + 1) := by
 rw [List.set_eq_take_append_cons_drop, if_pos h]
theorem at_split {cur : Ls} {b : Nat} (h : b < cur.length) : cur = cur.take b ++ cur[b] :: cur.drop (b + 1) := by
 rw [← List.drop_eq_getElem_cons h, List.take_append_drop]
theorem totN_set {cur : Ls} {b : Nat} (hb : Best cur b) : totN (cur.set b ((cur[b]'hb.lt).drop 1)) + 1 = totN cur := by
 have h := hb.ne
 rw [set_split hb.lt]
 conv => rhs; rw [at_split hb.lt]
 rw [totN_app, totN_app, totN_cons, totN_cons, List.length_drop]
 omega
theorem merge_step {cur : Ls} {b : Nat} (hb : Best cur b) : mergeN cur = (cur[b]'hb.lt)[0]'hb.ne :: mergeN (cur.set b ((cur[b]'hb.lt).drop 1)) := by
 unfold mergeN
 rw [← totN_set hb, mergeF_best hb]
theorem totN_zero {cur : Ls} (h : ∀ i (hi : i < cur.length), cur[i].length = 0) : totN cur = 0 := by
 unfold totN
 rw [List.sum_eq_zero_iff_forall_eq_nat]
 intro x hx
 obtain ⟨l, hl, rfl⟩ := List.mem_map.1 hx
 obtain ⟨i, hi, rfl⟩ := List.getElem_of_mem hl
 exact h i hi
theorem merge_nil {cur : Ls} (h : ∀ i (hi : i < cur.length), cur[i].length = 0) : mergeN cur = [] := by
 unfold mergeN
 rw [totN_zero h]; rfl
def hdsF (k : Int) : Ls → List Hd
 | [] => []
 | l :: ls => (if 0 < l.length then [(l, k)] else []) ++ hdsF (k + 1) ls
theorem merge_tot : ∀ (n : Nat) (cur : Ls), totN cur = n → (mergeN cur).length ≤ n
 | 0, cur, h => by unfold mergeN; rw [h]; exact Nat.le_refl _
 | n + 1, cur, h => by
  by_cases hb : ∃ b, Best cur b
  ·obtain ⟨b, hb⟩ := hb
   rw [merge_step hb, List.length_cons]
   have := merge_tot n (cur.set b ((cur[b]'hb.lt).drop 1)) (by have := totN_set hb; omega)
   omega
  ·unfold mergeN; rw [h, mergeF, dif_neg hb]; simp
theorem merge_len (cur : Ls) : (mergeN cur).length ≤ totN cur := merge_tot _ cur rfl
end Go.Fw
