/- The messages of some lists by their stamps: again and again the least of those that stand first. Plain Lean; nothing of the program is named here. No condition. -/
import Derived.Test.YtebkfinhhpelbaaGreatQyNc
set_option linter.unusedVariables false
set_option linter.unusedSimpArgs false
set_option linter.unnecessarySimpa false
namespace Go.Fw
abbrev Ls := List (List Msg)
def stN (l : List Msg) : Int := Hd.st (l, 0)
theorem stN_at {l : List Msg} (h : 0 < l.length) : stN l = l[0].stamp := Hd.st_at (a := (l, 0)) h
structure Best (cur : Ls) (b : Nat) : Prop where
  lt : b < cur.length
  ne : 0 < cur[b].length
  min : ∀ j (h : j < cur.length), 0 < cur[j].length → stN cur[b] ≤ stN cur[j] ∧ (j < b → stN cur[b] < stN cur[j])
theorem Best.uniq {cur : Ls} {b c : Nat} (hb : Best cur b) (hc : Best cur c) : b = c := by
  have h1 := hb.min c hc.lt hc.ne
  have h2 := hc.min b hb.lt hb.ne
  rcases Nat.lt_trichotomy b c with h | h | h
  · have := h2.2 h; omega
  · exact h
  · have := h1.2 h; omega
def totN (cur : Ls) : Nat := (cur.map List.length).sum
theorem totN_app (a b : Ls) : totN (a ++ b) = totN a + totN b := by simp [totN]
theorem totN_cons (a : List Msg) (b : Ls) : totN (a :: b) = a.length + totN b := by simp [totN]
open Classical in
noncomputable def mergeF : Nat → Ls → List Msg
  | 0, _ => []
  | f + 1, cur => if h : ∃ b, Best cur b then (cur[h.choose]'(h.choose_spec.lt))[0]'(h.choose_spec.ne) :: mergeF f (cur.set h.choose ((cur[h.choose]'(h.choose_spec.lt)).drop 1)) else []
noncomputable def mergeN (cur : Ls) : List Msg := mergeF (totN cur) cur
theorem mergeF_best {f : Nat} {cur : Ls} {b : Nat} (hb : Best cur b) : mergeF (f + 1) cur = (cur[b]'hb.lt)[0]'hb.ne :: mergeF f (cur.set b ((cur[b]'hb.lt).drop 1)) := by
  have h : ∃ b, Best cur b := ⟨b, hb⟩
  have e : h.choose = b := h.choose_spec.uniq hb
  rw [mergeF, dif_pos h]
  simp only [e]
theorem set_split {cur : Ls} {b : Nat} (h : b < cur.length) (t : List Msg) : cur.set b t = cur.take b ++ t :: cur.drop (b + 1) := by
  rw [List.set_eq_take_append_cons_drop, if_pos h]
theorem at_split {cur : Ls} {b : Nat} (h : b < cur.length) : cur = cur.take b ++ cur[b] :: cur.drop (b + 1) := by
  rw [← List.drop_eq_getElem_cons h, List.take_append_drop]
theorem totN_set {cur : Ls} {b : Nat} (hb : Best cur b) : totN (cur.set b ((cur[b]'hb.lt).drop 1)) + 1 = totN cur := by
  have h := hb.ne
  rw [set_split hb.lt]
  conv => rhs; rw [at_split hb.lt]
  rw [totN_app, totN_app, totN_cons, totN_cons, List.length_drop]
  omega
theorem merge_step {cur : Ls} {b : Nat} (hb : Best cur b) : mergeN cur = (cur[b]'hb.lt)[0]'hb.ne :: mergeN (cur.set b ((cur[b]'hb.lt).drop 1)) := by
  unfold mergeN
  rw [← totN_set hb, mergeF_best hb]
theorem totN_zero {cur : Ls} (h : ∀ i (hi : i < cur.length), cur[i].length = 0) : totN cur = 0 := by
  unfold totN
  rw [List.sum_eq_zero_iff_forall_eq_nat]
  intro x hx
  obtain ⟨l, hl, rfl⟩ := List.mem_map.1 hx
  obtain ⟨i, hi, rfl⟩ := List.getElem_of_mem hl
  exact h i hi
theorem merge_nil {cur : Ls} (h : ∀ i (hi : i < cur.length), cur[i].length = 0) : mergeN cur = [] := by
  unfold mergeN
  rw [totN_zero h]; rfl
def hdsF (k : Int) : Ls → List Hd
  | [] => []
  | l :: ls => (if 0 < l.length then [(l, k)] else []) ++ hdsF (k + 1) ls
theorem merge_tot : ∀ (n : Nat) (cur : Ls), totN cur = n → (mergeN cur).length ≤ n
  | 0, cur, h => by unfold mergeN; rw [h]; exact Nat.le_refl _
  | n + 1, cur, h => by
    by_cases hb : ∃ b, Best cur b
    · obtain ⟨b, hb⟩ := hb
      rw [merge_step hb, List.length_cons]
      have := merge_tot n (cur.set b ((cur[b]'hb.lt).drop 1)) (by have := totN_set hb; omega)
      omega
    · unfold mergeN; rw [h, mergeF, dif_neg hb]; simp
theorem merge_len (cur : Ls) : (mergeN cur).length ≤ totN cur := merge_tot _ cur rfl
end Go.Fw
/- The messages of some lists by their stamps, by definition: how far each list has been read, and which comes next. Plain Lean; nothing of the program is named here. No condition. -/
set_option linter.unusedVariables false
set_option linter.unusedSimpArgs false
set_option linter.unnecessarySimpa false
namespace Go.Fw
abbrev nats (ps : List Nat) : List Int := ps.map fun n : Nat => (n : Int)
def curN (ls : Ls) (ps : List Nat) : Ls := List.zipWith (fun l p => l.drop p) ls ps
theorem curN_len {ls : Ls} {ps : List Nat} (h : ps.length = ls.length) : (curN ls ps).length = ls.length := by simp [curN, h]
theorem curN_at {ls : Ls} {ps : List Nat} {i : Nat} (h : i < ls.length) (h2 : i < ps.length) (h3 : i < (curN ls ps).length) : (curN ls ps)[i] = ls[i].drop ps[i] := by simp [curN]
theorem curN_atlen {ls : Ls} {ps : List Nat} {i : Nat} (h : i < ls.length) (h2 : i < ps.length) (h3 : i < (curN ls ps).length) : (curN ls ps)[i].length = ls[i].length - ps[i] := by rw [curN_at h h2, List.length_drop]
theorem curN_zero (ls : Ls) : curN ls (List.replicate ls.length 0) = ls := by
  refine List.ext_getElem (by rw [curN_len (by simp)]) fun i h1 h2 => ?_
  rw [curN_at h2 (by simpa using h2)]
  simp
theorem curN_st {ls : Ls} {ps : List Nat} {i : Nat} (h : i < ls.length) (h2 : i < ps.length) (h3 : i < (curN ls ps).length) (h4 : ps[i] < ls[i].length) : stN (curN ls ps)[i] = (ls[i])[ps[i]].stamp := by
  rw [curN_at h h2, stN_at (by rw [List.length_drop]; omega), List.getElem_drop]
  simp
theorem curN_hd {ls : Ls} {ps : List Nat} {i : Nat} (h : i < ls.length) (h2 : i < ps.length) (h3 : i < (curN ls ps).length) (h4 : ps[i] < ls[i].length) (h5 : 0 < (curN ls ps)[i].length) : ((curN ls ps)[i])[0] = (ls[i])[ps[i]] := by
  rw [List.getElem_of_eq (curN_at h h2 h3) h5, List.getElem_drop]
  simp
theorem curN_set {ls : Ls} {ps : List Nat} {b : Nat} (hl : ps.length = ls.length) (h : b < ls.length) (h2 : b < ps.length) (h3 : b < (curN ls ps).length) : (curN ls ps).set b ((curN ls ps)[b].drop 1) = curN ls (ps.set b (ps[b] + 1)) := by
  have e1 := curN_len hl
  have e2 := curN_len (ls := ls) (ps := ps.set b (ps[b] + 1)) (by rw [List.length_set]; exact hl)
  refine List.ext_getElem (by rw [List.length_set]; omega) fun i h4 h5 => ?_
  have e3 := curN_at (ls := ls) (ps := ps.set b (ps[b] + 1)) (i := i) (by omega) (by rw [List.length_set]; omega) h5
  rw [e3, List.getElem_set, List.getElem_set]
  split
  · rename_i e
    subst e
    rw [curN_at h h2, List.drop_drop]
  · rw [curN_at (by omega) (by omega)]
theorem len_tot {ls : Ls} {i : Nat} (h : i < ls.length) : ls[i].length ≤ totN ls := by
  conv => rhs; rw [at_split h]
  rw [totN_app, totN_cons]; omega
def BI (C : Ls) (j : Nat) (c : Int) : Prop := (c = -1 ∧ ∀ q (h : q < C.length), q < j → C[q].length = 0) ∨
  ∃ b : Nat, ∃ h : b < C.length, c = b ∧ b < j ∧ 0 < C[b].length ∧ ∀ q (hq : q < C.length), q < j → 0 < C[q].length → stN C[b] ≤ stN C[q] ∧ (q < b → stN C[b] < stN C[q])
theorem BI_nil (C : Ls) : BI C 0 (-1) := .inl ⟨rfl, fun q _ h => by omega⟩
theorem BI_skip {C : Ls} {j : Nat} {c : Int} (h : BI C j c) (hj : j < C.length) (hz : C[j].length = 0) : BI C (j + 1) c := by
  rcases h with ⟨h1, h2⟩ | ⟨b, hb, h1, h2, h3, h4⟩
  · exact .inl ⟨h1, fun q hq hqj => by
      by_cases e : q = j
      · subst e; exact hz
      · exact h2 q hq (by omega)⟩
  · exact .inr ⟨b, hb, h1, by omega, h3, fun q hq hqj hn => by
      by_cases e : q = j
      · subst e; omega
      · exact h4 q hq (by omega) hn⟩
theorem BI_first {C : Ls} {j : Nat} {c : Int} (h : BI C j c) (hc : c < 0) (hj : j < C.length) (hn : 0 < C[j].length) : BI C (j + 1) j := by
  rcases h with ⟨h1, h2⟩ | ⟨b, hb, h1, h2, h3, h4⟩
  · exact .inr ⟨j, hj, rfl, by omega, hn, fun q hq hqj hqn => by
      by_cases e : q = j
      · subst e; exact ⟨Int.le_refl _, fun h => by omega⟩
      · have := h2 q hq (by omega); omega⟩
  · omega
theorem BI_less {C : Ls} {j b : Nat} (h : BI C j b) (hb : b < C.length) (hj : j < C.length) (hn : 0 < C[j].length) (hl : stN C[j] < stN C[b]) : BI C (j + 1) j := by
  rcases h with ⟨h1, h2⟩ | ⟨b', hb', h1, h2, h3, h4⟩
  · omega
  · have e : b' = b := by omega
    subst e
    exact .inr ⟨j, hj, rfl, by omega, hn, fun q hq hqj hqn => by
      by_cases e : q = j
      · subst e; exact ⟨Int.le_refl _, fun h => by omega⟩
      · have := h4 q hq (by omega) hqn
        exact ⟨by omega, fun _ => by omega⟩⟩
theorem BI_keep {C : Ls} {j b : Nat} (h : BI C j b) (hb : b < C.length) (hj : j < C.length) (hl : ¬ stN C[j] < stN C[b]) : BI C (j + 1) b := by
  rcases h with ⟨h1, h2⟩ | ⟨b', hb', h1, h2, h3, h4⟩
  · omega
  · have e : b' = b := by omega
    subst e
    exact .inr ⟨b', hb', rfl, by omega, h3, fun q hq hqj hqn => by
      by_cases e : q = j
      · subst e; exact ⟨by omega, fun h => by omega⟩
      · exact h4 q hq (by omega) hqn⟩
theorem BI_best {C : Ls} {j : Nat} {c : Int} (h : BI C j c) (hc : ¬ c < 0) : ∃ b : Nat, ∃ hb : b < C.length, c = b ∧ b < j ∧ 0 < C[b].length := by
  rcases h with ⟨h1, h2⟩ | ⟨b, hb, h1, h2, h3, h4⟩
  · omega
  · exact ⟨b, hb, h1, h2, h3⟩
theorem BI_end {C : Ls} {j : Nat} {c : Int} (h : BI C j c) (hj : C.length ≤ j) (hc : c < 0) : mergeN C = [] := by
  rcases h with ⟨h1, h2⟩ | ⟨b, hb, h1, h2, h3, h4⟩
  · exact merge_nil fun i hi => h2 i hi (by omega)
  · omega
theorem BI_done {C : Ls} {j b : Nat} (h : BI C j b) (hj : C.length ≤ j) : Best C b := by
  rcases h with ⟨h1, h2⟩ | ⟨b', hb, h1, h2, h3, h4⟩
  · omega
  · have e : b' = b := by omega
    subst e
    exact ⟨hb, h3, fun q hq hqn => h4 q hq (by omega) hqn⟩
end Go.Fw
