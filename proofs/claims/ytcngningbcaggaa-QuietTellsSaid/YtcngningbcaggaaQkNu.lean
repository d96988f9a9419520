/- A seat in two: what its halves are, what lies below them, and what they stand for. Plain Lean; nothing of the program is named here. No condition. -/
import Derived.Test.YtcngningbcaggaaQkNr
set_option linter.unusedVariables false
set_option linter.unusedSimpArgs false
set_option linter.unnecessarySimpa false

namespace Go.Fw
open Go Go.RowKit
theorem route_app (A B : List Str) (q : Str) : routeN (A ++ B) q = routeN A q + routeN B q := by
 unfold routeN
 rw [List.filter_append, List.length_append]
theorem route_cut (P : List Str) (h : Nat) (q : Str) : routeN P q = routeN (P.take h) q + routeN (P.drop h) q := by
 rw [← route_app, List.take_append_drop]
theorem route_ins (P : List Str) (i : Nat) (k q : Str) : routeN ((P.take i ++ [k]) ++ P.drop i) q = routeN P q + if q.lt k = true then 0 else 1 := by
 have e : routeN [k] q = if q.lt k = true then 0 else 1 := by
  unfold routeN
  cases h : q.lt k <;> simp [List.filter_cons, h]
 rw [route_app, route_app, e, route_cut P i]
 omega
theorem route_left {P : List Str} (hr : rising P = true) {h : Nat} (hh : h < P.length) {q : Str} (hq : q.lt P[h] = true) : routeN (P.take h) q = routeN P q := by
 have e : routeN (P.drop h) q = 0 := by
  unfold routeN
  rw [List.length_eq_zero_iff, List.filter_eq_nil_iff]
  intro x hx
  obtain ⟨j, hj, rfl⟩ := List.getElem_of_mem hx
  rw [List.getElem_drop]
  rw [List.length_drop] at hj
  by_cases h0 : j = 0
  ·subst h0; simp [hq]
  ·simp [Str.lt_trans hq (rising_lt hr (h + j) h om9 om9)]
 rw [route_cut P h, e]; omega
theorem route_right {P : List Str} (hr : rising P = true) {h : Nat} (hh : h < P.length) {q : Str} (hq : q.lt P[h] = false) : routeN P q = (h + 1) + routeN (P.drop (h + 1)) q := by
 have e : routeN (P.take (h + 1)) q = h + 1 := by
  unfold routeN
  rw [List.filter_eq_self.2]
  ·rw [List.length_take]; omega
  ·intro x hx
   obtain ⟨j, hj, rfl⟩ := List.getElem_of_mem hx
   rw [List.getElem_take]
   rw [List.length_take] at hj
   cases h2 : q.lt P[j]
   ·rfl
   ·exfalso
    by_cases h0 : j = h
    ·subst h0; rw [hq] at h2; cases h2
    ·have := Str.lt_trans h2 (rising_lt hr h j om9 om9); rw [hq] at this; cases this
 rw [route_cut P (h + 1), e]
theorem getD_take {K : List Int} {h j : Nat} (hj : j < h) : (K.take h).getD j 0 = K.getD j 0 := by
 rw [List.getD_eq_getElem?_getD, List.getD_eq_getElem?_getD, List.getElem?_take, if_pos hj]
theorem getD_drop {K : List Int} {h j : Nat} : (K.drop h).getD j 0 = K.getD (h + j) 0 := by
 rw [List.getD_eq_getElem?_getD, List.getD_eq_getElem?_getD, List.getElem?_drop]
theorem kids_mk {l : List Nd} {x : Seat} (h0 : 0 < x.n.level) (h2 : rightN x.n.pivots x.n.kids.length = true) (h : ∀ j, j < x.n.kids.length → kidOk l x j = true) : (kidsO l x).isSome = true ∧ kidsD l x = kidsF l x x.n.kids.length := by
 have e := kidsO_t om9 om9 h2 h
 unfold kidsD
 rw [e]; exact ⟨rfl, rfl⟩
theorem kidOk_ext {l l' : List Nd} {x y : Seat} {i j : Nat} (hn : findN l (x.n.kids.getD i 0) = findN l' (y.n.kids.getD j 0)) (hl : x.n.level = y.n.level) : kidOk l x i = kidOk l' y j := by
 unfold kidOk; rw [hn, hl]
variable {l l' : List Nd} {K A : Seat}
theorem left_kids (hK : (kidsO l K).isSome = true) (h0 : ¬ K.n.level = 0) {h : Nat} (hh : h < K.n.pivots.length)
  (ep : A.n.pivots = K.n.pivots.take h) (ek : A.n.kids = K.n.kids.take (h + 1)) (el : A.n.level = K.n.level) (hs : ∀ q, A.s.has q = (K.s.has q && q.lt K.n.pivots[h]))
  (hm : ∀ s : Span, (∀ q, s.has q = true → A.s.has q = true) → mergeN [clips s A.n.msgs, clips s A.ms] = mergeN [clips s K.n.msgs, clips s K.ms])
  (hf : ∀ j, j < K.n.kids.length → findN l' (K.n.kids.getD j 0) = findN l (K.n.kids.getD j 0)) :
  (kidsO l' A).isSome = true ∧ kidsD l' A = (kidsD l K).take (h + 1) := by
 obtain ⟨h1, h2, h3, h4⟩ := kids_all hK h0
 obtain ⟨hr, hc⟩ := rightN_spec h3
 have hkl : A.n.kids.length = h + 1 := by rw [ek, List.length_take]; omega
 have hra : rising A.n.pivots = true := by rw [ep]; exact rising_take hr _
 have hpl : A.n.pivots.length = h := by rw [ep, List.length_take]; omega
 have hg : ∀ j, j < h + 1 → A.n.kids.getD j 0 = K.n.kids.getD j 0 := fun j hj => by rw [ek, getD_take hj]
 obtain ⟨g1, g2⟩ := kids_mk (l := l') (x := A) om9 (rightN_of hra om9) fun j hj => by
  rw [kidOk_ext (l' := l) (y := K) (j := j) (by rw [hg j om9, hf j om9]) el]
  exact h4 j om9
 refine ⟨g1, ?_⟩
 rw [g2, h1, hkl]
 unfold kidsF
 rw [← List.map_take, List.take_range, show min (h + 1) K.n.kids.length = h + 1 by omega]
 refine List.map_congr_left fun j hj => ?_
 have hj := List.mem_range.1 hj
 refine kidSt_ext (by rw [hg j hj, hf j om9]) (fun q => ?_) fun s hse => hm s fun q hq => ?_
 ·rw [meet_has, meet_has, range_has hra q om9, range_has hr q om9, hs q, ep]
  cases hk : q.lt K.n.pivots[h]
  ·have := route_right hr hh hk
   rw [decide_eq_false (show ¬ j = routeN K.n.pivots q by omega)]; simp
  ·rw [route_left hr hh hk]; simp
 ·rw [hse, meet_has, Bool.and_eq_true] at hq
  exact hq.1
theorem right_kids (hK : (kidsO l K).isSome = true) (h0 : ¬ K.n.level = 0) {h : Nat} (hh : h < K.n.pivots.length)
  (ep : A.n.pivots = K.n.pivots.drop (h + 1)) (ek : A.n.kids = K.n.kids.drop (h + 1)) (el : A.n.level = K.n.level) (hs : ∀ q, A.s.has q = (K.s.has q && !q.lt K.n.pivots[h]))
  (hm : ∀ s : Span, (∀ q, s.has q = true → A.s.has q = true) → mergeN [clips s A.n.msgs, clips s A.ms] = mergeN [clips s K.n.msgs, clips s K.ms])
  (hf : ∀ j, j < K.n.kids.length → findN l' (K.n.kids.getD j 0) = findN l (K.n.kids.getD j 0)) :
  (kidsO l' A).isSome = true ∧ kidsD l' A = (kidsD l K).drop (h + 1) := by
 obtain ⟨h1, h2, h3, h4⟩ := kids_all hK h0
 obtain ⟨hr, hc⟩ := rightN_spec h3
 have hkl : A.n.kids.length = K.n.kids.length - (h + 1) := by rw [ek, List.length_drop]
 have hra : rising A.n.pivots = true := by rw [ep]; exact rising_drop hr _
 have hpl : A.n.pivots.length = K.n.pivots.length - (h + 1) := by rw [ep, List.length_drop]
 have hg : ∀ j, A.n.kids.getD j 0 = K.n.kids.getD (h + 1 + j) 0 := fun j => by rw [ek, getD_drop]
 obtain ⟨g1, g2⟩ := kids_mk (l := l') (x := A) om9 (rightN_of hra om9) fun j hj => by
  rw [kidOk_ext (l' := l) (y := K) (j := h + 1 + j) (by rw [hg j, hf _ om9]) el]
  exact h4 _ om9
 refine ⟨g1, ?_⟩
 rw [g2, h1, hkl]
 refine List.ext_getElem (by simp [kidsF]) fun j hj hj2 => ?_
 have hj : j < K.n.kids.length - (h + 1) := by simpa [kidsF] using hj
 rw [List.getElem_drop]
 simp only [kidsF, List.getElem_map, List.getElem_range]
 refine kidSt_ext (by rw [hg j, hf _ om9]) (fun q => ?_) fun s hse => hm s fun q hq => ?_
 ·rw [meet_has, meet_has, range_has hra q om9, range_has hr q om9, hs q, ep]
  cases hk : q.lt K.n.pivots[h]
  ·have := route_right hr hh hk
   rw [this]
   simp
  ·have h5 := route_left hr hh hk
   have h6 : routeN (K.n.pivots.take h) q ≤ h := routeN_take_le _ _ _
   rw [decide_eq_false (show ¬ h + 1 + j = routeN K.n.pivots q by omega)]; simp
 ·rw [hse, meet_has, Bool.and_eq_true] at hq
  exact hq.1
theorem lo_in {s : Span} (h : s.empty = false) : s.has s.lo = true := by
 have := Span.empty_eq s
 rw [h] at this
 simpa using this
theorem span_has {s : Span} {q : Str} : s.has q = true ↔ q.lt s.lo = false ∧ (s.opn = true ∨ q.lt s.hi = true) := by
 unfold Span.has
 simp
theorem norm_cases {s : Span} (h : s.norm = s) (he : s.empty = false) : s.opn = true → s.hi = Str.nil := fun ho => by
 unfold Span.norm at h
 rw [if_neg (by simp [he]), if_pos ho] at h
 rw [← h]
theorem left_span {s a : Span} {k : Str} (hs : s.norm = s) (ha : a.norm = a) (hk : s.has k = true) (hk2 : k ≠ s.lo) (h : ∀ q, a.has q = (s.has q && q.lt k)) : a = ⟨s.lo, k, false⟩ ∧ s.lo.lt k = true := by
 have h1 := span_has.1 hk
 have h2 : s.lo.lt k = true := by
  cases e : s.lo.lt k
  ·exact absurd (Str.lt_total h1.1 e) hk2
  ·rfl
 refine ⟨?_, h2⟩
 rw [← ha, ← norm_id (s := ⟨s.lo, k, false⟩) (by simp [Span.empty, h2]) rfl]
 refine norm_ext fun q => ?_
 rw [h q, Bool.eq_iff_iff, Bool.and_eq_true, span_has, span_has]
 refine ⟨fun ⟨⟨g1, g2⟩, g3⟩ => ⟨g1, .inr g3⟩, fun ⟨g1, g2⟩ => ?_⟩
 have g2 : q.lt k = true := by rcases g2 with g | g; cases g; exact g
 refine ⟨⟨g1, ?_⟩, g2⟩
 rcases h1.2 with g | g
 ·exact .inl g
 ·exact .inr (Str.lt_trans g2 g)
theorem right_span {s a : Span} {k : Str} (hs : s.norm = s) (ha : a.norm = a) (hk : s.has k = true) (h : ∀ q, a.has q = (s.has q && !q.lt k)) : a = ⟨k, s.hi, s.opn⟩ := by
 have h1 := span_has.1 hk
 have he : (⟨k, s.hi, s.opn⟩ : Span).empty = false := by
  cases e : (⟨k, s.hi, s.opn⟩ : Span).empty
  ·rfl
  ·have := empty_iff.1 e k
   have h3 : (⟨k, s.hi, s.opn⟩ : Span).has k = true := span_has.2 ⟨Str.lt_irrefl k, h1.2⟩
   rw [h3] at this; cases this
 have hse : s.empty = false := by
  cases e : s.empty
  ·rfl
  ·have := empty_iff.1 e k; rw [hk] at this; cases this
 have hn : (⟨k, s.hi, s.opn⟩ : Span).norm = ⟨k, s.hi, s.opn⟩ := by
  unfold Span.norm
  rw [if_neg (by simp [he])]
  split
  ·rename_i ho
   rw [norm_cases hs hse ho]
  ·rfl
 rw [← ha, ← hn]
 refine norm_ext fun q => ?_
 rw [h q, Bool.eq_iff_iff, Bool.and_eq_true, span_has, span_has]
 refine ⟨fun ⟨⟨g1, g2⟩, g3⟩ => ⟨by simpa using g3, g2⟩, fun ⟨g1, g2⟩ => ⟨⟨?_, g2⟩, by simpa using g1⟩⟩
 have g1 : q.lt k = false := g1
 cases e : q.lt s.lo
 ·rfl
 ·have := Str.lt_of_lt_of_le e h1.1
  rw [g1] at this; cases this
theorem span_pt {m : Msg} (hm : m.R) (h4 : ¬ m.kind = 4) {q : Str} : m.span.has q = decide (q = m.key) := by
 unfold Msg.span
 rw [if_neg h4]
 exact point_has (by have := hm.1.2.1; omega)
theorem clip_in {m : Msg} {s : Span} (hm : m.R) (h : (m.clip s).2 = true) {q : Str} (hq : (m.clip s).1.span.has q = true) : m.span.has q = true ∧ s.has q = true := by
 by_cases h4 : m.kind = 4
 ·rw [clip_span h h4, meet_has, Bool.and_eq_true] at hq
  exact hq
 ·have e := (clip_of h)
  rw [e.2, if_neg h4] at hq
  refine ⟨hq, ?_⟩
  cases hs : s.has q
  ·exfalso
   have : (m.span.meet s).empty = true := empty_iff.2 fun p => by
    rw [meet_has, span_pt hm h4]
    by_cases ep : p = m.key
    ·rw [span_pt hm h4, decide_eq_true_eq] at hq
     rw [ep, ← hq, hs]; simp
    ·simp [ep]
   rw [this] at e
   exact absurd e.1 (by simp)
  ·rfl
theorem meet_sub {a s : Span} (h : ∀ q, a.has q = true → s.has q = true) : a.meet s = a.norm := by
 rw [← meet_norm]
 refine norm_ext fun q => ?_
 rw [meet_has]
 cases e : a.has q
 ·rfl
 ·rw [h q e]; rfl
theorem sub_meet {a s : Span} (h : a.meet s = a.norm) {q : Str} (hq : a.has q = true) : s.has q = true := by
 have h2 := meet_has a s q
 rw [h, norm_has, hq] at h2
 simpa using h2.symm
theorem view_halves {A B K : Seat} {k : Str} {h : Nat} (hP : PairsR K.n.rows) (hms : ∀ m ∈ K.ms, m.R) (ea : A.n.rows = K.n.rows.take h) (eb : B.n.rows = K.n.rows.drop h)
  (ha : ∀ q, A.s.has q = (K.s.has q && q.lt k)) (hb : ∀ q, B.s.has q = (K.s.has q && !q.lt k)) (h1 : ∀ i (hi : i < K.n.rows.length), i < h → K.n.rows[i].key.lt k = true) (h2 : ∀ i (hi : i < K.n.rows.length), h ≤ i → K.n.rows[i].key.lt k = false)
  (ma : clips A.s A.ms = clips A.s K.ms) (mb : clips B.s B.ms = clips B.s K.ms) : viewS A ++ viewS B = viewS K := by
 have hk : ∀ m ∈ K.ms, m.key.b.size < 140737488355328 := fun m hm => by have := (msgR_key (hms m hm)).1; omega
 have fa : (A.n.rows.filter fun p => A.s.has p.key) = K.n.rows.filter fun p => A.s.has p.key := by
  conv => rhs; rw [← List.take_append_drop h K.n.rows]
  rw [List.filter_append, ea, List.filter_eq_nil_iff (l := K.n.rows.drop h) |>.2 ?_, List.append_nil]
  intro p hp
  obtain ⟨i, hi, rfl⟩ := List.getElem_of_mem hp
  rw [List.length_drop] at hi
  rw [List.getElem_drop, ha, h2 _ om9 om9]; simp
 have fb : (B.n.rows.filter fun p => B.s.has p.key) = K.n.rows.filter fun p => B.s.has p.key := by
  conv => rhs; rw [← List.take_append_drop h K.n.rows]
  rw [List.filter_append, eb, List.filter_eq_nil_iff (l := K.n.rows.take h) |>.2 ?_, List.nil_append]
  intro p hp
  obtain ⟨i, hi, rfl⟩ := List.getElem_of_mem hp
  rw [List.length_take] at hi
  rw [List.getElem_take, hb, h1 _ om9 om9]; simp
 have hF := (hP.fold fun m hm => msgR_key (hms m hm)).srt (l := foldN K.n.rows K.ms)
 unfold viewS
 rw [fa, fb, ma, mb, view_fold hP.srt hk, view_fold hP.srt hk, view_fold hP.srt hk, filter_split hF K.s.has k]
 congr 1
 ·exact List.filter_congr fun p _ => ha _
 ·exact List.filter_congr fun p _ => hb _
end Go.Fw
