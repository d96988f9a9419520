/- The messages of some lists by their stamps: again and again the least of those that stand first. Plain Lean; nothing of the program is named here. No condition. -/
import Derived.Test.YtcngningbcaggaaQgNd
set_option linter.unusedVariables false
set_option linter.unusedSimpArgs false
set_option linter.unnecessarySimpa false

namespace Go.Fw
abbrev Ls := List (List Msg)
def stN (l : List Msg) : Int := Hd.st (l, 0)
theorem stN_at {l : List Msg} (h : 0 < l.length) : stN l = l[0].stamp := Hd.st_at (a := (l, 0)) h
structure Best (cur : Ls) (b : Nat) : Prop where
 lt : b < cur.length
 ne : 0 < cur[b].length
 min : ∀ j (h : j < cur.length), 0 < cur[j].length → stN cur[b] ≤ stN cur[j] ∧ (j < b → stN cur[b] < stN cur[j])
theorem Best.uniq {cur : Ls} {b c : Nat} (hb : Best cur b) (hc : Best cur c) : b = c := by
 have h1 := hb.min c hc.lt hc.ne
 have h2 := hc.min b hb.lt hb.ne
 rcases Nat.lt_trichotomy b c with h | h | h
 ·have := h2.2 h; omega
 ·exact h
 ·have := h1.2 h; omega
def totN (cur : Ls) : Nat := (cur.map List.length).sum
theorem totN_app (a b : Ls) : totN (a ++ b) = totN a + totN b := by simp [totN]
theorem totN_cons (a : List Msg) (b : Ls) : totN (a :: b) = a.length + totN b := by simp [totN]
open Classical in
noncomputable def mergeF : Nat → Ls → List Msg
 | 0, _ => []
 | f + 1, cur => if h : ∃ b, Best cur b then (cur[h.choose]'(h.choose_spec.lt))[0]'(h.choose_spec.ne) :: mergeF f (cur.set h.choose ((cur[h.choose]'(h.choose_spec.lt)).drop 1)) else []
noncomputable def mergeN (cur : Ls) : List Msg := mergeF (totN cur) cur
theorem mergeF_best {f : Nat} {cur : Ls} {b : Nat} (hb : Best cur b) : mergeF (f + 1) cur = (cur[b]'hb.lt)[0]'hb.ne :: mergeF f (cur.set b ((cur[b]'hb.lt).drop 1)) := by
 have h : ∃ b, Best cur b := ⟨b, hb⟩
 have e : h.choose = b := h.choose_spec.uniq hb
 rw [mergeF, dif_pos h]
 simp only [e]
theorem set_split {cur : Ls} {b : Nat} (h : b < cur.length) (t : List Msg) : cur.set b t = cur.take b ++ t :: cur.drop (b + 1) := by
 rw [List.set_eq_take_append_cons_drop, if_pos h]
theorem at_split {cur : Ls} {b : Nat} (h : b < cur.length) : cur = cur.take b ++ cur[b] :: cur.drop (b + 1) := by
 rw [← List.drop_eq_getElem_cons h, List.take_append_drop]
theorem totN_set {cur : Ls} {b : Nat} (hb : Best cur b) : totN (cur.set b ((cur[b]'hb.lt).drop 1)) + 1 = totN cur := by
 have h := hb.ne
 rw [set_split hb.lt]
 conv => rhs; rw [at_split hb.lt]
 rw [totN_app, totN_app, totN_cons, totN_cons, List.length_drop]
 omega
theorem merge_step {cur : Ls} {b : Nat} (hb : Best cur b) : mergeN cur = (cur[b]'hb.lt)[0]'hb.ne :: mergeN (cur.set b ((cur[b]'hb.lt).drop 1)) := by
 unfold mergeN
 rw [← totN_set hb, mergeF_best hb]
theorem totN_zero {cur : Ls} (h : ∀ i (hi : i < cur.length), cur[i].length = 0) : totN cur = 0 := by
 unfold totN
 rw [List.sum_eq_zero_iff_forall_eq_nat]
 intro x hx
 obtain ⟨l, hl, rfl⟩ := List.mem_map.1 hx
 obtain ⟨i, hi, rfl⟩ := List.getElem_of_mem hl
 exact h i hi
theorem merge_nil {cur : Ls} (h : ∀ i (hi : i < cur.length), cur[i].length = 0) : mergeN cur = [] := by
 unfold mergeN
 rw [totN_zero h]; rfl
def hdsF (k : Int) : Ls → List Hd
 | [] => []
 | l :: ls => (if 0 < l.length then [(l, k)] else []) ++ hdsF (k + 1) ls
theorem hdsF_app : ∀ (a b : Ls) (k : Int), hdsF k (a ++ b) = hdsF k a ++ hdsF (k + a.length) b
 | [], b, k => by simp [hdsF]
 | l :: a, b, k => by
  have e : k + ((l :: a).length : Nat) = k + 1 + (a.length : Nat) := by simp; omega
  rw [e]
  simp only [List.cons_append, hdsF, hdsF_app a b, List.append_assoc]
theorem hds_len : ∀ (ls : Ls) (k : Int), (hdsF k ls).length ≤ ls.length
 | [], _ => Nat.le_refl _
 | l :: ls, k => by
  have := hds_len ls (k + 1)
  unfold hdsF
  split <;> simp <;> omega
theorem hds_mem : ∀ {ls : Ls} {k : Int} {h : Hd}, h ∈ hdsF k ls ↔ ∃ i, ∃ hi : i < ls.length, h = (ls[i], k + (i : Nat)) ∧ 0 < ls[i].length
 | [], k, h => by simp [hdsF]
 | l :: ls, k, h => by
  rw [hdsF, List.mem_append, hds_mem]
  constructor
  ·rintro (h1 | ⟨i, hi, h1, h2⟩)
   ·split at h1
    ·rename_i h3
     rw [List.mem_singleton] at h1
     exact ⟨0, by simp, by simp [h1], h3⟩
    ·cases h1
   ·exact ⟨i + 1, by simp; omega, by rw [h1]; simp; omega, by simpa using h2⟩
  ·rintro ⟨i, hi, h1, h2⟩
   cases i with
   | zero =>
    left
    have h2 : 0 < l.length := h2
    rw [if_pos h2]
    simp [h1]
   | succ i => exact .inr ⟨i, by simp at hi; omega, by rw [h1]; simp; omega, by simpa using h2⟩
theorem hds_push {H : List Hd} {ls : Ls} {k : Nat} (hk : k < ls.length) (hp : H.Perm (hdsF 0 (ls.take k))) (hne : 0 < ls[k].length) : ((ls[k], (k : Int)) :: H).Perm (hdsF 0 (ls.take (k + 1))) := by
 rw [List.take_succ_eq_append_getElem hk, hdsF_app]
 have e : (List.take k ls).length = k := by rw [List.length_take]; omega
 rw [e]
 simp only [hdsF, if_pos hne, Int.zero_add, List.append_nil]
 exact (List.perm_append_singleton _ _).symm.trans (hp.append_right _)
theorem hds_skip {H : List Hd} {ls : Ls} {k : Nat} (hk : k < ls.length) (hp : H.Perm (hdsF 0 (ls.take k))) (hne : ¬ 0 < ls[k].length) : H.Perm (hdsF 0 (ls.take (k + 1))) := by
 rw [List.take_succ_eq_append_getElem hk, hdsF_app]
 simp only [hdsF, if_neg hne, List.append_nil]
 exact hp
theorem best_of {H : List Hd} {cur : Ls} (hH : Heap Hd.lt H) (hp : H.Perm (hdsF 0 cur)) (hl : 0 < H.length) : ∃ b, ∃ hb : Best cur b, nth H 0 = (cur[b]'hb.lt, (b : Int)) := by
 have hm : H[0] ∈ hdsF 0 cur := hp.mem_iff.1 (List.getElem_mem hl)
 obtain ⟨b, hb, e, hne⟩ := hds_mem.1 hm
 rw [Int.zero_add] at e
 refine ⟨b, ⟨hb, hne, fun j hj hjn => ?_⟩, by rw [nth_lt hl]; exact e⟩
 have hm2 : (cur[j], ((j : Nat) : Int)) ∈ H := hp.mem_iff.2 (hds_mem.2 ⟨j, hj, by rw [Int.zero_add], hjn⟩)
 obtain ⟨c, hc, e2⟩ := List.getElem_of_mem hm2
 have := heap_min Hd.lo hH c hc
 rw [nth_lt hc, nth_lt hl, e, e2] at this
 have h5 : (decide (stN cur[j] < stN cur[b]) || (decide (stN cur[j] = stN cur[b]) && decide (((j : Nat) : Int) < ((b : Nat) : Int)))) = false := this
 simp only [Bool.or_eq_false_iff, Bool.and_eq_false_iff, decide_eq_false_iff_not] at h5
 omega
theorem heap_rest {H H' : List Hd} {cur : Ls} {b : Nat} (hb : Best cur b) (hp : H.Perm (hdsF 0 cur)) (h : ((cur[b]'hb.lt, (b : Int)) :: H').Perm H) :
  H'.Perm (hdsF 0 (cur.take b) ++ hdsF (b + 1) (cur.drop (b + 1))) := by
 have e : hdsF 0 cur = hdsF 0 (cur.take b) ++ (cur[b]'hb.lt, (b : Int)) :: hdsF (b + 1) (cur.drop (b + 1)) := by
  conv => lhs; rw [at_split hb.lt]
  rw [hdsF_app]
  have e : (List.take b cur).length = b := by rw [List.length_take]; have := hb.lt; omega
  rw [e]
  simp only [hdsF, if_pos hb.ne, Int.zero_add, List.singleton_append]
 rw [e] at hp
 exact List.Perm.cons_inv (h.trans (hp.trans List.perm_middle))
theorem rest_t {cur : Ls} {b : Nat} (hb : b < cur.length) {t : List Msg} (ht : 0 < t.length) : hdsF 0 (cur.set b t) = hdsF 0 (cur.take b) ++ (t, (b : Int)) :: hdsF (b + 1) (cur.drop (b + 1)) := by
 rw [set_split hb, hdsF_app]
 have e : (List.take b cur).length = b := by rw [List.length_take]; omega
 rw [e]
 simp only [hdsF, if_pos ht, Int.zero_add, List.singleton_append]
theorem rest_f {cur : Ls} {b : Nat} (hb : b < cur.length) {t : List Msg} (ht : ¬ 0 < t.length) : hdsF 0 (cur.set b t) = hdsF 0 (cur.take b) ++ hdsF (b + 1) (cur.drop (b + 1)) := by
 rw [set_split hb, hdsF_app]
 have e : (List.take b cur).length = b := by rw [List.length_take]; omega
 rw [e]
 simp only [hdsF, if_neg ht, Int.zero_add, List.nil_append]
theorem mstep_t {H : List Hd} {cur : Ls} {b : Nat} (hH : Heap Hd.lt H) (hp : H.Perm (hdsF 0 cur)) (hl : 0 < H.length) (hb : Best cur b) (he : nth H 0 = (cur[b]'hb.lt, (b : Int))) {el : Hd} (hel : el = ((cur[b]'hb.lt).drop 1, (b : Int))) (ht : 0 < el.1.length) :
  Heap Hd.lt (pushL Hd.lt (popL Hd.lt H) el) ∧ (pushL Hd.lt (popL Hd.lt H) el).Perm (hdsF 0 (cur.set b ((cur[b]'hb.lt).drop 1))) := by
 obtain ⟨h1, h2, h3⟩ := pop_heap Hd.lo hH hl
 obtain ⟨h4, h5⟩ := push_heap Hd.lo h1 el
 refine ⟨h4, h5.trans ?_⟩
 rw [he] at h2
 subst hel
 rw [rest_t hb.lt ht]
 exact ((heap_rest hb hp h2).cons _).trans List.perm_middle.symm
theorem mstep_f {H : List Hd} {cur : Ls} {b : Nat} (hH : Heap Hd.lt H) (hp : H.Perm (hdsF 0 cur)) (hl : 0 < H.length) (hb : Best cur b) (he : nth H 0 = (cur[b]'hb.lt, (b : Int))) (ht : ¬ 0 < ((cur[b]'hb.lt).drop 1).length) :
  Heap Hd.lt (popL Hd.lt H) ∧ (popL Hd.lt H).Perm (hdsF 0 (cur.set b ((cur[b]'hb.lt).drop 1))) := by
 obtain ⟨h1, h2, h3⟩ := pop_heap Hd.lo hH hl
 rw [he] at h2
 rw [rest_f hb.lt ht]
 exact ⟨h1, heap_rest hb hp h2⟩
theorem merge_done {H : List Hd} {cur : Ls} (hp : H.Perm (hdsF 0 cur)) (h0 : H.length = 0) : mergeN cur = [] := by
 refine merge_nil fun i hi => ?_
 cases hc : cur[i].length with
 | zero => rfl
 | succ n =>
  have hm : (cur[i], ((i : Nat) : Int)) ∈ H := hp.mem_iff.2 (hds_mem.2 ⟨i, hi, by rw [Int.zero_add], om9⟩)
  rw [List.eq_nil_of_length_eq_zero h0] at hm; cases hm
theorem merge_tot : ∀ (n : Nat) (cur : Ls), totN cur = n → (mergeN cur).length ≤ n
 | 0, cur, h => by unfold mergeN; rw [h]; exact Nat.le_refl _
 | n + 1, cur, h => by
  by_cases hb : ∃ b, Best cur b
  ·obtain ⟨b, hb⟩ := hb
   rw [merge_step hb, List.length_cons]
   have := merge_tot n (cur.set b ((cur[b]'hb.lt).drop 1)) (by have := totN_set hb; omega)
   omega
  ·unfold mergeN; rw [h, mergeF, dif_neg hb]; simp
theorem merge_len (cur : Ls) : (mergeN cur).length ≤ totN cur := merge_tot _ cur rfl
end Go.Fw
