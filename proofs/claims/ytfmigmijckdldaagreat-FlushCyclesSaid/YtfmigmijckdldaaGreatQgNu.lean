/- A seat in two: what its halves are, what lies below them, and what they stand for. Plain Lean; nothing of the program is named here. No condition. -/
import Derived.Test.YtfmigmijckdldaaGreatQgNl
set_option linter.unusedVariables false
set_option linter.unusedSimpArgs false
set_option linter.unnecessarySimpa false
set_option maxRecDepth 100000
set_option maxHeartbeats 1600000

namespace Go.Fw
open Go Go.RowKit
theorem route_app (A B : List Str) (q : Str) : routeN (A ++ B) q = routeN A q + routeN B q := by
 unfold routeN
 rw [List.filter_append, List.length_append]
theorem route_cut (P : List Str) (h : Nat) (q : Str) : routeN P q = routeN (P.take h) q + routeN (P.drop h) q := by
 rw [← route_app, List.take_append_drop]
theorem route_ins (P : List Str) (i : Nat) (k q : Str) : routeN ((P.take i ++ [k]) ++ P.drop i) q = routeN P q + if q.lt k = true then 0 else 1 := by
 have e : routeN [k] q = if q.lt k = true then 0 else 1 := by
  unfold routeN
  cases h : q.lt k <;> simp [List.filter_cons, h]
 rw [route_app, route_app, e, route_cut P i]
 omega
theorem route_left {P : List Str} (hr : rising P = true) {h : Nat} (hh : h < P.length) {q : Str} (hq : q.lt P[h] = true) : routeN (P.take h) q = routeN P q := by
 have e : routeN (P.drop h) q = 0 := by
  unfold routeN
  rw [List.length_eq_zero_iff, List.filter_eq_nil_iff]
  intro x hx
  obtain ⟨j, hj, rfl⟩ := List.getElem_of_mem hx
  rw [List.getElem_drop]
  rw [List.length_drop] at hj
  by_cases h0 : j = 0
  ·subst h0; simp [hq]
  ·simp [Str.lt_trans hq (rising_lt hr (h + j) h om9 om9)]
 rw [route_cut P h, e]; omega
theorem route_right {P : List Str} (hr : rising P = true) {h : Nat} (hh : h < P.length) {q : Str} (hq : q.lt P[h] = false) : routeN P q = (h + 1) + routeN (P.drop (h + 1)) q := by
 have e : routeN (P.take (h + 1)) q = h + 1 := by
  unfold routeN
  rw [List.filter_eq_self.2]
  ·rw [List.length_take]; omega
  ·intro x hx
   obtain ⟨j, hj, rfl⟩ := List.getElem_of_mem hx
   rw [List.getElem_take]
   rw [List.length_take] at hj
   cases h2 : q.lt P[j]
   ·rfl
   ·exfalso
    by_cases h0 : j = h
    ·subst h0; rw [hq] at h2; cases h2
    ·have := Str.lt_trans h2 (rising_lt hr h j om9 om9); rw [hq] at this; cases this
 rw [route_cut P (h + 1), e]
theorem getD_take {K : List Int} {h j : Nat} (hj : j < h) : (K.take h).getD j 0 = K.getD j 0 := by
 rw [List.getD_eq_getElem?_getD, List.getD_eq_getElem?_getD, List.getElem?_take, if_pos hj]
theorem getD_drop {K : List Int} {h j : Nat} : (K.drop h).getD j 0 = K.getD (h + j) 0 := by
 rw [List.getD_eq_getElem?_getD, List.getD_eq_getElem?_getD, List.getElem?_drop]
theorem kids_mk {l : List Nd} {x : Seat} (h0 : 0 < x.n.level) (h2 : rightN x.n.pivots x.n.kids.length = true) (h : ∀ j, j < x.n.kids.length → kidOk l x j = true) : (kidsO l x).isSome = true ∧ kidsD l x = kidsF l x x.n.kids.length := by
 have e := kidsO_t om9 om9 h2 h
 unfold kidsD
 rw [e]; exact ⟨rfl, rfl⟩
theorem kidOk_ext {l l' : List Nd} {x y : Seat} {i j : Nat} (hn : findN l (x.n.kids.getD i 0) = findN l' (y.n.kids.getD j 0)) (hl : x.n.level = y.n.level) : kidOk l x i = kidOk l' y j := by
 unfold kidOk; rw [hn, hl]
variable {l l' : List Nd} {K A : Seat}
theorem left_kids (hK : (kidsO l K).isSome = true) (h0 : ¬ K.n.level = 0) {h : Nat} (hh : h < K.n.pivots.length)
  (ep : A.n.pivots = K.n.pivots.take h) (ek : A.n.kids = K.n.kids.take (h + 1)) (el : A.n.level = K.n.level) (hs : ∀ q, A.s.has q = (K.s.has q && q.lt K.n.pivots[h]))
  (hm : ∀ s : Span, (∀ q, s.has q = true → A.s.has q = true) → mergeN [clips s A.n.msgs, clips s A.ms] = mergeN [clips s K.n.msgs, clips s K.ms])
  (hf : ∀ j, j < K.n.kids.length → findN l' (K.n.kids.getD j 0) = findN l (K.n.kids.getD j 0)) :
  (kidsO l' A).isSome = true ∧ kidsD l' A = (kidsD l K).take (h + 1) := by
 obtain ⟨h1, h2, h3, h4⟩ := kids_all hK h0
 obtain ⟨hr, hc⟩ := rightN_spec h3
 have hkl : A.n.kids.length = h + 1 := by rw [ek, List.length_take]; omega
 have hra : rising A.n.pivots = true := by rw [ep]; exact rising_take hr _
 have hpl : A.n.pivots.length = h := by rw [ep, List.length_take]; omega
 have hg : ∀ j, j < h + 1 → A.n.kids.getD j 0 = K.n.kids.getD j 0 := fun j hj => by rw [ek, getD_take hj]
 obtain ⟨g1, g2⟩ := kids_mk (l := l') (x := A) om9 (rightN_of hra om9) fun j hj => by
  rw [kidOk_ext (l' := l) (y := K) (j := j) (by rw [hg j om9, hf j om9]) el]
  exact h4 j om9
 refine ⟨g1, ?_⟩
 rw [g2, h1, hkl]
 unfold kidsF
 rw [← List.map_take, List.take_range, show min (h + 1) K.n.kids.length = h + 1 by omega]
 refine List.map_congr_left fun j hj => ?_
 have hj := List.mem_range.1 hj
 refine kidSt_ext (by rw [hg j hj, hf j om9]) (fun q => ?_) fun s hse => hm s fun q hq => ?_
 ·rw [meet_has, meet_has, range_has hra q om9, range_has hr q om9, hs q, ep]
  cases hk : q.lt K.n.pivots[h]
  ·have := route_right hr hh hk
   rw [decide_eq_false (show ¬ j = routeN K.n.pivots q by omega)]; simp
  ·rw [route_left hr hh hk]; simp
 ·rw [hse, meet_has, Bool.and_eq_true] at hq
  exact hq.1
theorem right_kids (hK : (kidsO l K).isSome = true) (h0 : ¬ K.n.level = 0) {h : Nat} (hh : h < K.n.pivots.length)
  (ep : A.n.pivots = K.n.pivots.drop (h + 1)) (ek : A.n.kids = K.n.kids.drop (h + 1)) (el : A.n.level = K.n.level) (hs : ∀ q, A.s.has q = (K.s.has q && !q.lt K.n.pivots[h]))
  (hm : ∀ s : Span, (∀ q, s.has q = true → A.s.has q = true) → mergeN [clips s A.n.msgs, clips s A.ms] = mergeN [clips s K.n.msgs, clips s K.ms])
  (hf : ∀ j, j < K.n.kids.length → findN l' (K.n.kids.getD j 0) = findN l (K.n.kids.getD j 0)) :
  (kidsO l' A).isSome = true ∧ kidsD l' A = (kidsD l K).drop (h + 1) := by
 obtain ⟨h1, h2, h3, h4⟩ := kids_all hK h0
 obtain ⟨hr, hc⟩ := rightN_spec h3
 have hkl : A.n.kids.length = K.n.kids.length - (h + 1) := by rw [ek, List.length_drop]
 have hra : rising A.n.pivots = true := by rw [ep]; exact rising_drop hr _
 have hpl : A.n.pivots.length = K.n.pivots.length - (h + 1) := by rw [ep, List.length_drop]
 have hg : ∀ j, A.n.kids.getD j 0 = K.n.kids.getD (h + 1 + j) 0 := fun j => by rw [ek, getD_drop]
 obtain ⟨g1, g2⟩ := kids_mk (l := l') (x := A) om9 (rightN_of hra om9) fun j hj => by
  rw [kidOk_ext (l' := l) (y := K) (j := h + 1 + j) (by rw [hg j, hf _ om9]) el]
  exact h4 _ om9
 refine ⟨g1, ?_⟩
 rw [g2, h1, hkl]
 refine List.ext_getElem (by simp [kidsF]) fun j hj hj2 => ?_
 have hj : j < K.n.kids.length - (h + 1) := by simpa [kidsF] using hj
 rw [List.getElem_drop]
 simp only [kidsF, List.getElem_map, List.getElem_range]
 refine kidSt_ext (by rw [hg j, hf _ om9]) (fun q => ?_) fun s hse => hm s fun q hq => ?_
 ·rw [meet_has, meet_has, range_has hra q om9, range_has hr q om9, hs q, ep]
  cases hk : q.lt K.n.pivots[h]
  ·have := route_right hr hh hk
   rw [this]
   simp
  ·have h5 := route_left hr hh hk
   have h6 : routeN (K.n.pivots.take h) q ≤ h := routeN_take_le _ _ _
   rw [decide_eq_false (show ¬ h + 1 + j = routeN K.n.pivots q by omega)]; simp
 ·rw [hse, meet_has, Bool.and_eq_true] at hq
  exact hq.1
theorem lo_in {s : Span} (h : s.empty = false) : s.has s.lo = true := by
 have := Span.empty_eq s
 rw [h] at this
 simpa using this
theorem span_has {s : Span} {q : Str} : s.has q = true ↔ q.lt s.lo = false ∧ (s.opn = true ∨ q.lt s.hi = true) := by
 unfold Span.has
 simp
theorem norm_cases {s : Span} (h : s.norm = s) (he : s.empty = false) : s.opn = true → s.hi = Str.nil := fun ho => by
 unfold Span.norm at h
 rw [if_neg (by simp [he]), if_pos ho] at h
 rw [← h]
theorem left_span {s a : Span} {k : Str} (hs : s.norm = s) (ha : a.norm = a) (hk : s.has k = true) (hk2 : k ≠ s.lo) (h : ∀ q, a.has q = (s.has q && q.lt k)) : a = ⟨s.lo, k, false⟩ ∧ s.lo.lt k = true := by
 have h1 := span_has.1 hk
 have h2 : s.lo.lt k = true := by
  cases e : s.lo.lt k
  ·exact absurd (Str.lt_total h1.1 e) hk2
  ·rfl
 refine ⟨?_, h2⟩
 rw [← ha, ← norm_id (s := ⟨s.lo, k, false⟩) (by simp [Span.empty, h2]) rfl]
 refine norm_ext fun q => ?_
 rw [h q, Bool.eq_iff_iff, Bool.and_eq_true, span_has, span_has]
 refine ⟨fun ⟨⟨g1, g2⟩, g3⟩ => ⟨g1, .inr g3⟩, fun ⟨g1, g2⟩ => ?_⟩
 have g2 : q.lt k = true := by rcases g2 with g | g; cases g; exact g
 refine ⟨⟨g1, ?_⟩, g2⟩
 rcases h1.2 with g | g
 ·exact .inl g
 ·exact .inr (Str.lt_trans g2 g)
theorem right_span {s a : Span} {k : Str} (hs : s.norm = s) (ha : a.norm = a) (hk : s.has k = true) (h : ∀ q, a.has q = (s.has q && !q.lt k)) : a = ⟨k, s.hi, s.opn⟩ := by
 have h1 := span_has.1 hk
 have he : (⟨k, s.hi, s.opn⟩ : Span).empty = false := by
  cases e : (⟨k, s.hi, s.opn⟩ : Span).empty
  ·rfl
  ·have := empty_iff.1 e k
   have h3 : (⟨k, s.hi, s.opn⟩ : Span).has k = true := span_has.2 ⟨Str.lt_irrefl k, h1.2⟩
   rw [h3] at this; cases this
 have hse : s.empty = false := by
  cases e : s.empty
  ·rfl
  ·have := empty_iff.1 e k; rw [hk] at this; cases this
 have hn : (⟨k, s.hi, s.opn⟩ : Span).norm = ⟨k, s.hi, s.opn⟩ := by
  unfold Span.norm
  rw [if_neg (by simp [he])]
  split
  ·rename_i ho
   rw [norm_cases hs hse ho]
  ·rfl
 rw [← ha, ← hn]
 refine norm_ext fun q => ?_
 rw [h q, Bool.eq_iff_iff, Bool.and_eq_true, span_has, span_has]
 refine ⟨fun ⟨⟨g1, g2⟩, g3⟩ => ⟨by simpa using g3, g2⟩, fun ⟨g1, g2⟩ => ⟨⟨?_, g2⟩, by simpa using g1⟩⟩
 have g1 : q.lt k = false := g1
 cases e : q.lt s.lo
 ·rfl
 ·have := Str.lt_of_lt_of_le e h1.1
  rw [g1] at this; cases this
theorem span_pt {m : Msg} (hm : m.R) (h4 : ¬ m.kind = 4) {q : Str} : m.span.has q = decide (q = m.key) := by
 unfold Msg.span
 rw [if_neg h4]
 exact point_has (by have := hm.1.2.1; omega)
theorem clip_in {m : Msg} {s : Span} (hm : m.R) (h : (m.clip s).2 = true) {q : Str} (hq : (m.clip s).1.span.has q = true) : m.span.has q = true ∧ s.has q = true := by
 by_cases h4 : m.kind = 4
 ·rw [clip_span h h4, meet_has, Bool.and_eq_true] at hq
  exact hq
 ·have e := (clip_of h)
  rw [e.2, if_neg h4] at hq
  refine ⟨hq, ?_⟩
  cases hs : s.has q
  ·exfalso
   have : (m.span.meet s).empty = true := empty_iff.2 fun p => by
    rw [meet_has, span_pt hm h4]
    by_cases ep : p = m.key
    ·rw [span_pt hm h4, decide_eq_true_eq] at hq
     rw [ep, ← hq, hs]; simp
    ·simp [ep]
   rw [this] at e
   exact absurd e.1 (by simp)
  ·rfl
theorem meet_sub {a s : Span} (h : ∀ q, a.has q = true → s.has q = true) : a.meet s = a.norm := by
 rw [← meet_norm]
 refine norm_ext fun q => ?_
 rw [meet_has]
 cases e : a.has q
 ·rfl
 ·rw [h q e]; rfl
theorem sub_meet {a s : Span} (h : a.meet s = a.norm) {q : Str} (hq : a.has q = true) : s.has q = true := by
 have h2 := meet_has a s q
 rw [h, norm_has, hq] at h2
 simpa using h2.symm
theorem view_halves {A B K : Seat} {k : Str} {h : Nat} (hP : PairsR K.n.rows) (hms : ∀ m ∈ K.ms, m.R) (ea : A.n.rows = K.n.rows.take h) (eb : B.n.rows = K.n.rows.drop h)
  (ha : ∀ q, A.s.has q = (K.s.has q && q.lt k)) (hb : ∀ q, B.s.has q = (K.s.has q && !q.lt k)) (h1 : ∀ i (hi : i < K.n.rows.length), i < h → K.n.rows[i].key.lt k = true) (h2 : ∀ i (hi : i < K.n.rows.length), h ≤ i → K.n.rows[i].key.lt k = false)
  (ma : clips A.s A.ms = clips A.s K.ms) (mb : clips B.s B.ms = clips B.s K.ms) : viewS A ++ viewS B = viewS K := by
 have hk : ∀ m ∈ K.ms, m.key.b.size < 140737488355328 := fun m hm => by have := (msgR_key (hms m hm)).1; omega
 have fa : (A.n.rows.filter fun p => A.s.has p.key) = K.n.rows.filter fun p => A.s.has p.key := by
  conv => rhs; rw [← List.take_append_drop h K.n.rows]
  rw [List.filter_append, ea, List.filter_eq_nil_iff (l := K.n.rows.drop h) |>.2 ?_, List.append_nil]
  intro p hp
  obtain ⟨i, hi, rfl⟩ := List.getElem_of_mem hp
  rw [List.length_drop] at hi
  rw [List.getElem_drop, ha, h2 _ om9 om9]; simp
 have fb : (B.n.rows.filter fun p => B.s.has p.key) = K.n.rows.filter fun p => B.s.has p.key := by
  conv => rhs; rw [← List.take_append_drop h K.n.rows]
  rw [List.filter_append, eb, List.filter_eq_nil_iff (l := K.n.rows.take h) |>.2 ?_, List.nil_append]
  intro p hp
  obtain ⟨i, hi, rfl⟩ := List.getElem_of_mem hp
  rw [List.length_take] at hi
  rw [List.getElem_take, hb, h1 _ om9 om9]; simp
 have hF := (hP.fold fun m hm => msgR_key (hms m hm)).srt (l := foldN K.n.rows K.ms)
 unfold viewS
 rw [fa, fb, ma, mb, view_fold hP.srt hk, view_fold hP.srt hk, view_fold hP.srt hk, filter_split hF K.s.has k]
 congr 1
 ·exact List.filter_congr fun p _ => ha _
 ·exact List.filter_congr fun p _ => hb _
def isW (m : Msg) : Bool := decide (m.kind = 4)
def frontN (l : List Msg) : List Msg := if idxN isW l = -1 then l else if idxN isW l = 0 then l.take 1 else l.take (idxN isW l).toNat
def forF (P : List Str) (i : Int) (m : Msg) : Option Msg := if ((routeN P m.key : Nat) : Int) = i ∧ (m.clip (rangeN P i)).2 = true then some (m.clip (rangeN P i)).1 else none
def forN (P : List Str) (l : List Msg) (i : Int) : List Msg := (frontN l).filterMap (forF P i)
def Msg.zero : Msg := ⟨0, 0, Str.nil, Str.nil, false, Str.nil⟩
def withoutN (m : Msg) (s : Span) : Msg × Bool := if s.opn = true then (Msg.zero, false) else m.clip ⟨s.hi, Str.nil, true⟩
def leftN (P : List Str) (i : Int) (T : List Msg) (m : Msg) : Option Msg :=
 if m.stamp ∈ T.map Msg.stamp then (if m.kind = 4 ∧ (withoutN m (rangeN P i)).2 = true then some (withoutN m (rangeN P i)).1 else none) else some m
def restN (P : List Str) (i : Int) (T : List Msg) (l : List Msg) : List Msg := l.filterMap (leftN P i T)
theorem rest_append (P : List Str) (i : Int) (T A B : List Msg) : restN P i T (A ++ B) = restN P i T A ++ restN P i T B := List.filterMap_append
theorem rest_keep {P : List Str} {i : Int} {T : List Msg} : ∀ {l : List Msg}, (∀ m ∈ l, ¬ m.stamp ∈ T.map Msg.stamp) → restN P i T l = l
 | [], _ => rfl
 | m :: l, h => by
  have ih := rest_keep (P := P) (i := i) (T := T) (l := l) fun x hx => h x (List.mem_cons_of_mem _ hx)
  unfold restN at ih ⊢
  rw [List.filterMap_cons, show leftN P i T m = some m from if_neg (h m (by simp)), ih]
theorem rest_nil (P : List Str) (i : Int) (l : List Msg) : restN P i [] l = l := rest_keep fun m _ h => by cases h
theorem clipG {m : Msg} {s t : Span} (hst : ∀ k, m.span.has k = true → s.has k = true → t.has k = true) : (if (m.clip t).2 = true then (m.clip t).1.clip s else (⟨0, 0, Str.nil, Str.nil, false, Str.nil⟩, false)) = m.clip s := by
 cases h : (m.clip t).2
 ·rw [if_neg (by simp)]
  have h1 := clip_no.1 h
  have h2 : (m.span.meet s).empty = true := empty_iff.2 fun k => by
   have := empty_iff.1 h1 k
   rw [meet_has] at this ⊢
   cases hm : m.span.has k
   ·rfl
   ·rw [hm, Bool.true_and] at this
    cases hs : s.has k
    ·rfl
    ·rw [hst k hm hs] at this; cases this
  rw [clip_e h2]
 ·rw [if_pos rfl]
  by_cases k : m.kind = 4
  ·have hs := clip_span h k
   have k2 : (m.clip t).1.kind = 4 := by rw [(clip_of h).2, if_pos k]; exact k
   have e : (m.span.meet t).meet s = m.span.meet s := meet_ext fun q => by
    rw [meet_has]
    cases hm : m.span.has q
    ·simp
    ·cases hs : s.has q
     ·simp
     ·rw [hst q hm hs]; simp
   cases he : (m.span.meet s).empty
   ·rw [clip_4 (by rw [hs, e]; exact he) k2, clip_4 he k, hs, e, (clip_of h).2, if_pos k]
   ·rw [clip_e (by rw [hs, e]; exact he), clip_e he]
  ·rw [(clip_of h).2, if_neg k]
theorem clip_same {m : Msg} {s t : Span} (h : ∀ k, m.span.has k = true → s.has k = t.has k) : m.clip s = m.clip t := by
 have e : m.span.meet s = m.span.meet t := meet_ext fun k => by
  cases hm : m.span.has k
  ·rfl
  ·rw [h k hm]
 unfold Msg.clip
 rw [e]
theorem clips_none {s : Span} : ∀ {l : List Msg}, (∀ m ∈ l, ∀ k, m.span.has k = true → s.has k = false) → clips s l = []
 | [], _ => rfl
 | m :: l, h => by
  rw [clips_cons, if_neg, clips_none fun x hx => h x (List.mem_cons_of_mem _ hx)]
  rw [clip_no.2 (empty_iff.2 fun k => by
   rw [meet_has]
   cases hm : m.span.has k
   ·rfl
   ·rw [h m (by simp) k hm]; rfl)]
  simp
theorem point_span {m : Msg} (hR : m.R) (h : ¬ m.kind = 4) (k : Str) : m.span.has k = decide (k = m.key) := by
 have : m.span = ⟨m.key, m.key.next, false⟩ := by unfold Msg.span; rw [if_neg h]
 rw [this, point_has (by have := hR.1.2.1; omega)]
theorem point_clip {m : Msg} (hR : m.R) (h : ¬ m.kind = 4) (s : Span) : (m.clip s).2 = s.has m.key ∧ ((m.clip s).2 = true → (m.clip s).1 = m) := by
 refine ⟨?_, fun h2 => by rw [(clip_of h2).2, if_neg h]⟩
 cases h2 : (m.clip s).2
 ·have := empty_iff.1 (clip_no.1 h2) m.key
  rw [meet_has, point_span hR h, decide_eq_true rfl, Bool.true_and] at this
  exact this.symm
 ·cases h3 : s.has m.key
  ·exfalso
   have : (m.clip s).2 = false := clip_no.2 (empty_iff.2 fun k => by
    rw [meet_has, point_span hR h]
    by_cases e : k = m.key
    ·rw [e, h3]; simp
    ·simp [e])
   rw [this] at h2; cases h2
  ·rfl
theorem take_filter {α : Type} (g : α → Bool) : ∀ (F : List α) (n : Nat), ∃ q, (F.take q).filter g = (F.filter g).take n
 | [], n => ⟨0, by simp⟩
 | a :: F, 0 => ⟨0, by simp⟩
 | a :: F, n + 1 => by
  cases h : g a
  ·obtain ⟨q, hq⟩ := take_filter g F (n + 1)
   exact ⟨q + 1, by rw [List.take_succ_cons, List.filter_cons_of_neg (by simp [h]), List.filter_cons_of_neg (by simp [h]), hq]⟩
  ·obtain ⟨q, hq⟩ := take_filter g F n
   exact ⟨q + 1, by rw [List.take_succ_cons, List.filter_cons_of_pos h, List.filter_cons_of_pos h, hq, List.take_succ_cons]⟩
theorem front_cases (l : List Msg) : (∃ w R, l = w :: R ∧ w.kind = 4 ∧ frontN l = [w]) ∨ ∃ F R, l = F ++ R ∧ frontN l = F ∧ ∀ m ∈ F, ¬ m.kind = 4 := by
 rcases idxN_cases isW l with ⟨h, h2⟩ | ⟨k, hk, h, h2, h3⟩
 ·refine .inr ⟨l, [], by simp, by unfold frontN; rw [if_pos h], fun m hm e => ?_⟩
  have := h2 m hm
  simp [isW, e] at this
 ·cases k with
  | zero =>
   left
   match l, hk with
   | w :: R, _ => exact ⟨w, R, rfl, by simpa [isW] using h2, by unfold frontN; rw [if_neg (by rw [h]; decide), if_pos (by rw [h]; rfl)]; rfl⟩
  | succ k =>
   right
   refine ⟨l.take (k + 1), l.drop (k + 1), (List.take_append_drop _ _).symm, by unfold frontN; rw [if_neg (by rw [h]; omega), if_neg (by rw [h]; omega), h]; rfl, fun m hm e => ?_⟩
   obtain ⟨j, hj, rfl⟩ := List.getElem_of_mem hm
   rw [List.length_take] at hj
   rw [List.getElem_take] at e
   have := h3 j om9 om9
   simp [isW, e] at this
theorem rst_of {l : List Msg} (h : MsgsR l) : Rst l := (MsgsR.iff.1 h).2
inductive Moved (P : List Str) (i : Nat) (l T : List Msg) : Prop
 | none (hT : T = []) : Moved P i l T
 | wipe (w : Msg) (R : List Msg) (hl : l = w :: R) (hk : w.kind = 4) (hr : routeN P w.key = i) (hc : (w.clip (rangeN P i)).2 = true) (hT : T = [(w.clip (rangeN P i)).1])
   (hA : restN P i T l = (if (withoutN w (rangeN P i)).2 = true then [(withoutN w (rangeN P i)).1] else []) ++ R) : Moved P i l T
 | points (F R : List Msg) (hl : l = F ++ R) (hF : ∀ m ∈ F, ¬ m.kind = 4) (hT : T = F.filter fun m => decide (routeN P m.key = i)) (hA : restN P i T l = (F.filter fun m => !decide (routeN P m.key = i)) ++ R) : Moved P i l T
theorem rst_app {A B : List Msg} (h : Rst (A ++ B)) : Rst A ∧ Rst B ∧ ∀ a ∈ A, ∀ b ∈ B, a.stamp < b.stamp := List.pairwise_append.1 h
theorem rst_inj : ∀ {l : List Msg}, Rst l → ∀ {a b : Msg}, a ∈ l → b ∈ l → a.stamp = b.stamp → a = b
 | [], _, _, _, ha, _, _ => by cases ha
 | x :: l, h, a, b, ha, hb, e => by
  obtain ⟨h1, h2⟩ := List.pairwise_cons.1 h
  rcases List.mem_cons.1 ha with ea | ha2
  ·rcases List.mem_cons.1 hb with eb | hb2
   ·rw [ea, eb]
   ·have := h1 b hb2; rw [ea] at e; omega
  ·rcases List.mem_cons.1 hb with eb | hb2
   ·have := h1 a ha2; rw [eb] at e; omega
   ·exact rst_inj h2 ha2 hb2 e
theorem moved_of {P : List Str} {i : Nat} {l : List Msg} (hP : rising P = true) (hi : i ≤ P.length) (hm : MsgsR l) (n : Nat) : Moved P i l ((forN P l i).take n) := by
 have hR := (MsgsR.iff.1 hm).1
 have hs := rst_of hm
 rcases front_cases l with ⟨w, R, rfl, hk, hf⟩ | ⟨F, R, rfl, hf, hF⟩
 ·by_cases hT : (forN P (w :: R) i).take n = []
  ·exact .none hT
  ·have e0 : forN P (w :: R) i = (forF P i w).toList := by unfold forN; rw [hf]; cases h : forF P i w <;> simp [h]
   have hw : (routeN P w.key = i) ∧ (w.clip (rangeN P i)).2 = true := by
    by_cases h : ((routeN P w.key : Nat) : Int) = i ∧ (w.clip (rangeN P i)).2 = true
    ·exact ⟨om9, h.2⟩
    ·exact absurd (by rw [e0, show forF P i w = none from if_neg h]; simp) hT
   have e1 : forN P (w :: R) i = [(w.clip (rangeN P i)).1] := by rw [e0, show forF P i w = some _ from if_pos ⟨om9, hw.2⟩]; rfl
   have e2 : (forN P (w :: R) i).take n = [(w.clip (rangeN P i)).1] := by
    rw [e1] at hT ⊢
    cases n with
    | zero => exact absurd rfl hT
    | succ n => rw [List.take_succ_cons, List.take_nil]
   refine .wipe w R rfl hk hw.1 hw.2 e2 ?_
   rw [e2]
   have hst : (w.clip (rangeN P i)).1.stamp = w.stamp := clip_stamp hw.2
   rw [show w :: R = [w] ++ R from rfl, rest_append, rest_keep (l := R) fun m hm h => ?_]
   ·congr 1
    unfold restN leftN
    by_cases h : (withoutN w (rangeN P i)).2 = true
    ·rw [if_pos h]; simp [hst, hk, h]
    ·rw [if_neg h]; simp [hst, hk, h]
   ·have := (List.pairwise_cons.1 hs).1 m hm
    simp [hst] at h
    omega
 ·obtain ⟨q, hq⟩ := take_filter (fun m : Msg => decide (routeN P m.key = i)) F n
  have hRF : ∀ m ∈ F, m.R := fun m h => hR m (List.mem_append_left _ h)
  have hfor : ∀ (G : List Msg), (∀ m ∈ G, m ∈ F) → G.filterMap (forF P i) = G.filter fun m => decide (routeN P m.key = i) := fun G => by
   induction G with
   | nil => intro _; rfl
   | cons m G ih =>
    intro hG
    have hmF := hG m (by simp)
    have hc := point_clip (hRF m hmF) (hF m hmF) (rangeN P i)
    rw [range_has hP _ hi] at hc
    rw [List.filterMap_cons, ih fun x hx => hG x (List.mem_cons_of_mem _ hx)]
    by_cases e : routeN P m.key = i
    ·have h2 : (m.clip (rangeN P i)).2 = true := by rw [hc.1, decide_eq_true e.symm]
     rw [show forF P i m = some m from (if_pos ⟨om9, h2⟩).trans (congrArg some (hc.2 h2)), List.filter_cons_of_pos (by simp [e])]
    ·rw [show forF P i m = none from if_neg fun h => e om9, List.filter_cons_of_neg (by simp [e])]
  have hT : (forN P (F ++ R) i).take n = (F.take q).filter fun m => decide (routeN P m.key = i) := by
   unfold forN
   rw [hf, hfor F (fun m h => h), hq]
  refine .points (F.take q) (F.drop q ++ R) (by rw [← List.append_assoc, List.take_append_drop]) (fun m hm => hF m (List.mem_of_mem_take hm)) hT ?_
  rw [hT]
  have hl : F ++ R = F.take q ++ (F.drop q ++ R) := by rw [← List.append_assoc, List.take_append_drop]
  rw [hl] at hs ⊢
  obtain ⟨s1, s2, s3⟩ := rst_app hs
  rw [rest_append, rest_keep (l := F.drop q ++ R) fun m hm h => ?_]
  ·congr 1
   generalize hFq : F.take q = G at *
   have hGF : ∀ m ∈ G, ¬ m.kind = 4 := fun m hm => hF m (by rw [← hFq] at hm; exact List.mem_of_mem_take hm)
   have key : ∀ (H : List Msg), (∀ m ∈ H, m ∈ G) → restN P i (G.filter fun m => decide (routeN P m.key = i)) H = H.filter fun m => !decide (routeN P m.key = i) := fun H => by
    induction H with
    | nil => intro _; rfl
    | cons m H ih =>
     intro hH
     have hmG := hH m (by simp)
     have ih := ih fun x hx => hH x (List.mem_cons_of_mem _ hx)
     unfold restN at ih ⊢
     rw [List.filterMap_cons, ih]
     by_cases e : routeN P m.key = i
     ·have : m.stamp ∈ (G.filter fun m => decide (routeN P m.key = i)).map Msg.stamp := List.mem_map.2 ⟨m, List.mem_filter.2 ⟨hmG, by simp [e]⟩, rfl⟩
      rw [show leftN P i (G.filter fun m => decide (routeN P m.key = i)) m = none from (if_pos this).trans (if_neg fun h => hGF m hmG h.1), List.filter_cons_of_neg (by simp [e])]
     ·have : ¬ m.stamp ∈ (G.filter fun m => decide (routeN P m.key = i)).map Msg.stamp := fun h => by
       obtain ⟨x, hx, hxs⟩ := List.mem_map.1 h
       obtain ⟨hx1, hx2⟩ := List.mem_filter.1 hx
       rw [rst_inj s1 hx1 hmG hxs] at hx2
       simp [e] at hx2
      rw [show leftN P i (G.filter fun m => decide (routeN P m.key = i)) m = some m from if_neg this, List.filter_cons_of_pos (by simp [e])]
   exact key G fun m h => h
  ·obtain ⟨x, hx, hxs⟩ := List.mem_map.1 h
   have := s3 x (List.mem_filter.1 hx).1 m hm
   omega
section
variable {P : List Str} {i : Nat} {l T : List Msg} (hP : rising P = true) (hi : i ≤ P.length) (hm : MsgsR l) (h : Moved P i l T)
include hP hi hm h
theorem Moved.clips_in {s : Span} (hs : ∀ k, s.has k = true → (rangeN P i).has k = true) (hS : ∀ m ∈ l, ∀ k, m.span.has k = true → (rangeN P i).has k = true → s.has k = true) : clips s l = T ++ clips s (restN P i T l) := by
 have hR := (MsgsR.iff.1 hm).1
 cases h with
 | none hT => rw [hT, rest_nil]; rfl
 | wipe w R hl hk hr hc hT hA =>
  subst hl
  have e1 : w.clip s = w.clip (rangeN P i) := clip_same fun k hk => by
   cases h1 : (rangeN P i).has k
   ·cases h2 : s.has k
    ·rfl
    ·rw [hs k h2] at h1; cases h1
   ·exact hS w (by simp) k hk h1
  have e2 : clips s (if (withoutN w (rangeN P i)).2 = true then [(withoutN w (rangeN P i)).1] else []) = [] := by
   by_cases h2 : (withoutN w (rangeN P i)).2 = true
   ·rw [if_pos h2]
    unfold withoutN at h2 ⊢
    by_cases ho : (rangeN P i).opn = true
    ·rw [if_pos ho] at h2; cases h2
    ·rw [if_neg ho] at h2 ⊢
     refine clips_none fun m hm k hk2 => ?_
     rw [List.mem_singleton] at hm
     subst hm
     rw [clip_span h2 hk, meet_has, Bool.and_eq_true] at hk2
     cases h3 : s.has k
     ·rfl
     ·have a1 := (span_has.1 (hs k h3)).2
      have a2 := (span_has.1 hk2.2).1
      rcases a1 with a1 | a1
      ·exact absurd a1 ho
      ·rw [show (⟨(rangeN P i).hi, Str.nil, true⟩ : Span).lo = (rangeN P i).hi from rfl, a1] at a2; cases a2
   ·rw [if_neg h2]; rfl
  rw [hA, clips_append, e2, clips_cons, e1, if_pos hc, hT]; rfl
 | points F R hl hF hT hA =>
  subst hl
  have hRF : ∀ m ∈ F, m.R := fun m h => hR m (List.mem_append_left _ h)
  have key : ∀ (G : List Msg), (∀ m ∈ G, m ∈ F) → clips s G = G.filter (fun m => decide (routeN P m.key = i)) ∧ clips s (G.filter fun m => !decide (routeN P m.key = i)) = [] := fun G => by
   induction G with
   | nil => intro _; exact ⟨rfl, rfl⟩
   | cons m G ih =>
    intro hG
    have hmF := hG m (by simp)
    obtain ⟨i1, i2⟩ := ih fun x hx => hG x (List.mem_cons_of_mem _ hx)
    have hc := point_clip (hRF m hmF) (hF m hmF) s
    have hk : m.span.has m.key = true := by rw [point_span (hRF m hmF) (hF m hmF)]; simp
    have hrg := range_has hP m.key hi
    by_cases e : routeN P m.key = i
    ·have h1 : s.has m.key = true := hS m (List.mem_append_left _ hmF) m.key hk (by rw [hrg, decide_eq_true e.symm])
     rw [h1] at hc
     refine ⟨?_, by rw [List.filter_cons_of_neg (by simp [e])]; exact i2⟩
     rw [clips_cons, if_pos hc.1, hc.2 hc.1, i1, List.filter_cons_of_pos (by simp [e])]
    ·have h1 : s.has m.key = false := by
      cases h1 : s.has m.key
      ·rfl
      ·have := hs _ h1; rw [hrg, decide_eq_true_eq] at this; exact absurd this.symm e
     rw [h1] at hc
     refine ⟨?_, ?_⟩
     ·rw [clips_cons, if_neg (by simp [hc.1]), i1, List.filter_cons_of_neg (by simp [e])]
     ·rw [List.filter_cons_of_pos (by simp [e]), clips_cons, if_neg (by simp [hc.1]), i2]
  obtain ⟨k1, k2⟩ := key F fun m h => h
  rw [hA, clips_append, clips_append, k1, k2, hT]; rfl
theorem Moved.clips_out {t : Span} (ht : ∀ k, t.has k = true → (rangeN P i).has k = false) : clips t (restN P i T l) = clips t l := by
 have hR := (MsgsR.iff.1 hm).1
 cases h with
 | none hT => rw [hT, rest_nil]
 | wipe w R hl hk hr hc hT hA =>
  subst hl
  rw [hA, clips_append, clips_cons]
  have hwk : (rangeN P i).has w.key = true := by rw [range_has hP _ hi, decide_eq_true hr.symm]
  have hlo : ∀ k, w.span.has k = true → k.lt (rangeN P i).lo = false := fun k h1 => by
   have hsp : w.span = ⟨w.key, w.hi, w.opn⟩ := by unfold Msg.span; rw [if_pos hk]
   rw [hsp] at h1
   have a1 := (span_has.1 h1).1
   have a2 := (span_has.1 hwk).1
   exact Str.le_trans a2 a1
  have e2 : clips t (if (withoutN w (rangeN P i)).2 = true then [(withoutN w (rangeN P i)).1] else []) = if (w.clip t).2 = true then [(w.clip t).1] else [] := by
   unfold withoutN
   by_cases ho : (rangeN P i).opn = true
   ·rw [if_pos ho, if_neg (by simp), if_neg]
    ·rfl
    ·rw [clip_no.2 (empty_iff.2 fun k => by
      rw [meet_has]
      cases h1 : w.span.has k
      ·rfl
      ·cases h2 : t.has k
       ·rfl
       ·have := ht k h2
        rw [span_has.2 ⟨hlo k h1, .inl ho⟩] at this; cases this)]
     simp
   ·rw [if_neg ho]
    have e := clipG (m := w) (s := t) (t := ⟨(rangeN P i).hi, Str.nil, true⟩) fun k h1 h2 => by
     refine span_has.2 ⟨?_, .inl rfl⟩
     show k.lt (rangeN P i).hi = false
     cases h3 : k.lt (rangeN P i).hi
     ·rfl
     ·have := ht k h2
      rw [span_has.2 ⟨hlo k h1, .inr h3⟩] at this; cases this
    cases h2 : (w.clip ⟨(rangeN P i).hi, Str.nil, true⟩).2
    ·rw [h2, if_neg (by simp)] at e
     rw [← e, if_neg (by simp), if_neg (by simp)]; rfl
    ·rw [h2, if_pos rfl] at e
     rw [if_pos rfl, clips_cons, e]; rfl
  rw [e2]
  by_cases h2 : (w.clip t).2 = true
  ·rw [if_pos h2, if_pos h2]; rfl
  ·rw [if_neg h2, if_neg h2]; rfl
 | points F R hl hF hT hA =>
  subst hl
  have hRF : ∀ m ∈ F, m.R := fun m h => hR m (List.mem_append_left _ h)
  rw [hA, clips_append, clips_append]
  congr 1
  have key : ∀ (G : List Msg), (∀ m ∈ G, m ∈ F) → clips t (G.filter fun m => !decide (routeN P m.key = i)) = clips t G := fun G => by
   induction G with
   | nil => intro _; rfl
   | cons m G ih =>
    intro hG
    have hmF := hG m (by simp)
    have ih := ih fun x hx => hG x (List.mem_cons_of_mem _ hx)
    have hc := point_clip (hRF m hmF) (hF m hmF) t
    by_cases e : routeN P m.key = i
    ·have h1 : t.has m.key = false := by
      cases h1 : t.has m.key
      ·rfl
      ·have := ht _ h1; rw [range_has hP _ hi, decide_eq_false_iff_not] at this; exact absurd e.symm this
     rw [h1] at hc
     rw [List.filter_cons_of_neg (by simp [e]), ih, clips_cons, if_neg (by simp [hc.1])]
    ·rw [List.filter_cons_of_pos (by simp [e]), clips_cons, clips_cons, ih]
  exact key F fun m h => h
end
variable {c : Cfg} {l : List Nd} {ss : List Seat}
def Wst (l : List Msg) : Prop := l.Pairwise fun a b => a.stamp ≤ b.stamp
def ptS (k : Str) : Span := ⟨k, k.next, false⟩
structure Gp (l : List Nd) (ss : List Seat) (k : Str) (x : Seat) (W : List Msg) : Prop where
 mem : x ∈ ss
 has : x.s.has k = true
 wst : Wst W
 eq : clips (ptS k) W = clips (ptS k) x.ms
 fit : ∀ m ∈ W, m.R
 len : W.length ≤ 1024 * ((rootS l 0).n.level - x.n.level).toNat
theorem tree_len {most : Int} (h : treeN c l most = true) : (l.length : Int) ≤ most := by
 unfold treeN at h
 rw [Bool.and_eq_true, decide_eq_true_eq] at h
 exact h.1.2.2.1.1
section
variable {α : Type} {E : Env} {f : Fr} {G : GH} {M Mk Ms Mr : MH} {ops rest : List Oper} {q : Bool} {K : Kt} {d : Nat} {ty : TypeId} {pos : String} {aft : Array Edge} {t et : TypeId} {x y kk : Operand} {b : Nat} {k : Int} {m : List (Int × α)} {V : VEnc α}
end
def roomB (bud : Int) (ms : List Msg) (m : Msg) : Bool := decide (m.size ≤ bud - sizesN ms) && (ms.getLast?.all fun x => decide (x.stamp < m.stamp))
def addsN (bud : Int) : List Msg → List Msg → Nat
 | _, [] => 0
 | ms, m :: l => if roomB bud ms m = true then addsN bud (ms ++ [m]) l + 1 else 0
def movedN (leaf bud : Int) (k : Nd) (l : List Msg) : Nd × Nat :=
 if k.level = 0 then ({ k with rows := (drainN leaf k.rows l).1 }, (drainN leaf k.rows l).2) else ({ k with msgs := k.msgs ++ l.take (addsN bud k.msgs l) }, addsN bud k.msgs l)
def KidOf (p k : Nd) (i : Int) : Prop := 1 ≤ p.level ∧ k.level = p.level - 1 ∧ 0 ≤ i ∧ i < (p.kids.length : Int)
instance (p k : Nd) (i : Int) : Decidable (KidOf p k i) := by unfold KidOf; infer_instance
noncomputable def countN (leaf bud : Int) (p k : Nd) (i : Int) : Nat := if KidOf p k i then (movedN leaf bud k (forN p.pivots p.msgs i)).2 else 0
noncomputable def pourN (leaf bud : Int) (p k : Nd) (i : Int) : Nd × Nd × Nat :=
 if countN leaf bud p k i = 0 then (p, k, 0)
 else ({ p with msgs := restN p.pivots i ((forN p.pivots p.msgs i).take (countN leaf bud p k i)) p.msgs },
  { (movedN leaf bud k (forN p.pivots p.msgs i)).1 with seen := (((forN p.pivots p.msgs i).take (countN leaf bud p k i)).getLast?.getD Msg.zero).stamp }, countN leaf bud p k i)
theorem adds_le (bud : Int) : ∀ (l ms : List Msg), addsN bud ms l ≤ l.length
 | [], _ => Nat.le_refl _
 | m :: l, ms => by
  unfold addsN
  split
  ·have := adds_le bud l (ms ++ [m]); simp; omega
  ·omega
theorem moved_le (leaf bud : Int) (k : Nd) (l : List Msg) : (movedN leaf bud k l).2 ≤ l.length := by
 unfold movedN
 split
 ·exact drain_le _ _ _
 ·exact adds_le _ _ _
theorem sizes_app (A B : List Msg) : sizesN (A ++ B) = sizesN A + sizesN B := by simp [sizesN]
theorem adds_size (bud : Int) : ∀ (l ms : List Msg), sizesN ms ≤ bud → sizesN (ms ++ l.take (addsN bud ms l)) ≤ bud
 | [], ms, h => by simpa using h
 | m :: l, ms, h => by
  unfold addsN
  split
  ·rename_i hr
   have hr2 : m.size ≤ bud - sizesN ms := by unfold roomB at hr; rw [Bool.and_eq_true, decide_eq_true_eq] at hr; exact hr.1
   have := adds_size bud l (ms ++ [m]) (by rw [sizes_app]; show _ + (m.size + 0) ≤ _; omega)
   rw [List.append_assoc] at this
   exact this
  ·simpa using h
def Nd.spanN (n : Nd) : Span := if n.top = true then Span.all else Span.norm ⟨Str.nil, n.high, false⟩
theorem spanN_has (n : Nd) (k : Str) : n.spanN.has k = n.has k := by
 unfold Nd.spanN Nd.has
 cases n.top
 ·rw [if_neg (by simp), norm_has]
  unfold Span.has
  simp [Str.nil_le]
 ·rw [if_pos rfl, all_has]; rfl
def kidS (p : Nd) (i : Int) : Span := p.spanN.meet (rangeN p.pivots i)
def MayP (c : Cfg) (p k : Nd) (i : Int) : Prop := (p.R c.fan c.leaf c.bud ∧ k.R c.fan c.leaf c.bud ∧ KidOf p k i) ∧ (k.top = (kidS p i).opn ∧ k.high = (kidS p i).hi) ∧ ∀ j (h : j < p.msgs.length), (p.msgs[j].span.meet (kidS p i)).empty = false → k.seen < p.msgs[j].stamp
instance (c : Cfg) (p k : Nd) (i : Int) : Decidable (MayP c p k i) := by unfold MayP; infer_instance
theorem fits_iff {n : Nd} {m : Msg} (hm : m.R) : (n.top = true ∨ (m.span.opn = false ∧ n.high.lt m.span.hi = false)) ↔ ∀ k, m.span.has k = true → n.has k = true := by
 have hne : m.span.empty = false := by
  cases h : m.span.empty
  ·rfl
  ·have := empty_iff.1 h m.key; rw [Msg.has_key hm] at this; cases this
 have hlo : m.span.opn = true ∨ m.span.lo.lt m.span.hi = true := by
  have := hne; unfold Span.empty at this
  cases h : m.span.opn
  ·right; simpa [h] using this
  ·exact .inl rfl
 constructor
 ·rintro (h | ⟨h1, h2⟩) k hk
  ·unfold Nd.has; rw [h]; rfl
  ·have := (span_has.1 hk).2
   rcases this with h3 | h3
   ·rw [h1] at h3; cases h3
   ·unfold Nd.has; rw [Str.lt_of_lt_of_le h3 h2]; simp
 ·intro h
  cases ht : n.top
  ·right
   have key : ∀ q, m.span.has q = true → q.lt n.high = true := fun q hq => by
    have := h q hq; unfold Nd.has at this; rw [ht] at this; simpa using this
   -- the greater one of two texts
   have mx : m.span.has (if m.span.lo.lt n.high = true then n.high else m.span.lo) = true → False := fun hq => by
    have := key _ hq
    split at this
    ·rw [Str.lt_irrefl] at this; cases this
    ·rename_i h1; exact h1 this
   have hmx : (if m.span.lo.lt n.high = true then n.high else m.span.lo).lt m.span.lo = false := by
    split
    ·rename_i h1; exact Str.lt_asymm h1
    ·exact Str.lt_irrefl _
   cases ho : m.span.opn
   ·refine ⟨rfl, ?_⟩
    cases h2 : n.high.lt m.span.hi
    ·rfl
    ·exfalso
     refine mx (span_has.2 ⟨hmx, .inr ?_⟩)
     split
     ·exact h2
     ·rcases hlo with h3 | h3
      ·rw [ho] at h3; cases h3
      ·exact h3
   ·exact absurd (span_has.2 ⟨hmx, .inl ho⟩) (fun hq => mx hq)
  ·exact .inl rfl
theorem leftN_of {P : List Str} {i : Int} {T : List Msg} {m m' : Msg} (h : leftN P i T m = some m') : m' = m ∨ ((rangeN P i).opn = false ∧ (m.clip ⟨(rangeN P i).hi, Str.nil, true⟩).2 = true ∧ m' = (m.clip ⟨(rangeN P i).hi, Str.nil, true⟩).1) := by
 unfold leftN at h
 split at h
 ·split at h
  ·rename_i h2
   cases h
   right
   have h3 := h2.2
   unfold withoutN at h3 ⊢
   split at h3
   ·cases h3
   ·rename_i h4
    rw [if_neg h4]
    exact ⟨by simpa using h4, h3, rfl⟩
  ·cases h
 ·cases h; exact .inl rfl
theorem leftN_stamp {P : List Str} {i : Int} {T : List Msg} {m m' : Msg} (h : leftN P i T m = some m') : m'.stamp = m.stamp ∧ m'.size = m.size := by
 rcases leftN_of h with rfl | ⟨_, h2, rfl⟩
 ·exact ⟨rfl, rfl⟩
 ·exact ⟨clip_stamp h2, clip_size h2⟩
theorem rest_mem {P : List Str} {i : Int} {T l : List Msg} {m' : Msg} (h : m' ∈ restN P i T l) : ∃ m ∈ l, leftN P i T m = some m' := List.mem_filterMap.1 h
theorem rest_rst {P : List Str} {i : Int} {T l : List Msg} (h : Rst l) : Rst (restN P i T l) := by
 unfold Rst restN
 rw [List.pairwise_filterMap]
 refine List.Pairwise.imp (fun {a b} hab x hx y hy => ?_) h
 have := (leftN_stamp hx).1
 have := (leftN_stamp hy).1
 omega
theorem size_pos (m : Msg) : 0 ≤ m.size := by unfold Msg.size; split <;> omega
theorem rest_size (P : List Str) (i : Int) (T : List Msg) : ∀ (l : List Msg), sizesN (restN P i T l) ≤ sizesN l
 | [] => Int.le_refl _
 | m :: l => by
  have ih := rest_size P i T l
  have hp := size_pos m
  unfold restN at ih ⊢
  rw [List.filterMap_cons]
  have e : sizesN (m :: l) = m.size + sizesN l := by simp [sizesN]
  split
  ·omega
  ·rename_i m' h
   have := (leftN_stamp h).2
   have e2 : ∀ L, sizesN (m' :: L) = m'.size + sizesN L := fun L => by simp [sizesN]
   rw [e2]; omega
theorem rest_R {P : List Str} {i : Int} {T l : List Msg} (hP : ∀ k ∈ P, k.b.size ≤ 16) (hl : ∀ m ∈ l, m.R) {m' : Msg} (h : m' ∈ restN P i T l) : m'.R ∧ ∃ m ∈ l, m'.stamp = m.stamp ∧ ∀ q, m'.span.has q = true → m.span.has q = true := by
 obtain ⟨m, hm, h2⟩ := rest_mem h
 rcases leftN_of h2 with rfl | ⟨_, h3, rfl⟩
 ·exact ⟨hl _ hm, m', hm, rfl, fun q hq => hq⟩
 ·have hr := range_sizes (p := P) (i := i) (n := 16) hP
  exact ⟨clip_R (hl m hm) hr.2 (by show Str.nil.b.size ≤ 16; decide) h3, m, hm, clip_stamp h3, fun q hq => (clip_in (hl m hm) h3 hq).1⟩
theorem last_take {l : List Msg} {n : Nat} (h : 0 < n) (hl : n ≤ l.length) : ∃ x ∈ l.take n, (l.take n).getLast?.getD Msg.zero = x ∧ ∀ y ∈ l.take n, Rst l → y.stamp ≤ x.stamp := by
 obtain ⟨j, rfl⟩ : ∃ j, n = j + 1 := ⟨n - 1, om9⟩
 have e : l.take (j + 1) = l.take j ++ [l[j]] := List.take_succ_eq_append_getElem om9
 refine ⟨l[j], by rw [e]; exact List.mem_append_right _ (List.mem_singleton.2 rfl), by rw [e, List.getLast?_concat]; rfl, fun y hy hr => ?_⟩
 rw [e, List.mem_append, List.mem_singleton] at hy
 rcases hy with hy | rfl
 ·obtain ⟨q, hq, rfl⟩ := List.getElem_of_mem hy
  rw [List.length_take] at hq
  rw [List.getElem_take]
  have := List.pairwise_iff_getElem.1 hr q j om9 om9 om9
  omega
 ·omega
structure Poured (c : Cfg) (p k : Nd) (i : Int) (a b : Nd) (T : List Msg) : Prop where
 ne : 0 < T.length
 ea : a = { p with msgs := restN p.pivots i T p.msgs }
 eb : b = { k with rows := b.rows, msgs := b.msgs, seen := b.seen }
 leaf : k.level = 0 → b.msgs = k.msgs ∧ b.rows = foldN k.rows T ∧ (PairsR k.rows → (∀ m ∈ forN p.pivots p.msgs i, m.R) → (k.rows.length : Int) ≤ c.leaf → (b.rows.length : Int) ≤ c.leaf)
 inner : ¬ k.level = 0 → b.rows = k.rows ∧ b.msgs = k.msgs ++ T ∧ (sizesN k.msgs ≤ c.bud → sizesN b.msgs ≤ c.bud)
 seen : b.seen = (T.getLast?.getD Msg.zero).stamp
 take : ∃ n, 0 < n ∧ n ≤ (forN p.pivots p.msgs i).length ∧ T = (forN p.pivots p.msgs i).take n
theorem pour_cases (c : Cfg) (p k : Nd) (i : Int) : (pourN c.leaf c.bud p k i = (p, k, 0)) ∨ (KidOf p k i ∧ ∃ T, Poured c p k i (pourN c.leaf c.bud p k i).1 (pourN c.leaf c.bud p k i).2.1 T ∧ (pourN c.leaf c.bud p k i).2.2 = T.length) := by
 by_cases h : countN c.leaf c.bud p k i = 0
 ·left; unfold pourN; rw [if_pos h]
 ·right
  have hk : KidOf p k i := by
   unfold countN at h
   by_cases hk : KidOf p k i
   ·exact hk
   ·rw [if_neg hk] at h; exact absurd rfl h
  have hc : countN c.leaf c.bud p k i = (movedN c.leaf c.bud k (forN p.pivots p.msgs i)).2 := if_pos hk
  have hle := moved_le c.leaf c.bud k (forN p.pivots p.msgs i)
  rw [← hc] at hle
  refine ⟨hk, (forN p.pivots p.msgs i).take (countN c.leaf c.bud p k i), ?_, by unfold pourN; rw [if_neg h, List.length_take]; show countN c.leaf c.bud p k i = _; omega⟩
  unfold pourN
  rw [if_neg h]
  refine ⟨by rw [List.length_take]; omega, rfl, ?_, fun h0 => ?_, fun h0 => ?_, rfl, _, om9, hle, rfl⟩
  ·dsimp only
   unfold movedN
   split <;> rfl
  ·have hm : movedN c.leaf c.bud k (forN p.pivots p.msgs i) = ({ k with rows := (drainN c.leaf k.rows (forN p.pivots p.msgs i)).1 }, (drainN c.leaf k.rows (forN p.pivots p.msgs i)).2) := if_pos h0
   rw [hc, hm]
   dsimp only
   refine ⟨rfl, drain_fold _ _ _, fun h1 h2 hl => ?_⟩
   have := drain_len c.leaf (forN p.pivots p.msgs i) k.rows h1 h2
   omega
  ·have hm : movedN c.leaf c.bud k (forN p.pivots p.msgs i) = ({ k with msgs := k.msgs ++ (forN p.pivots p.msgs i).take (addsN c.bud k.msgs (forN p.pivots p.msgs i)) }, addsN c.bud k.msgs (forN p.pivots p.msgs i)) := if_neg h0
   rw [hc, hm]
   exact ⟨rfl, rfl, adds_size _ _ _⟩
theorem for_mem {P : List Str} {l : List Msg} {i : Int} {m : Msg} (h : m ∈ forN P l i) : ∃ a ∈ l, (a.clip (rangeN P i)).2 = true ∧ (a.clip (rangeN P i)).1 = m := by
 obtain ⟨a, ha, h2⟩ := List.mem_filterMap.1 h
 unfold forF at h2
 split at h2
 ·rename_i h3
  cases h2
  refine ⟨a, ?_, h3.2, rfl⟩
  unfold frontN at ha
  split at ha
  ·exact ha
  ·split at ha
   ·exact List.mem_of_mem_take ha
   ·exact List.mem_of_mem_take ha
 ·cases h2
theorem nd_pivots {c : Cfg} {n : Nd} (h : n.R c.fan c.leaf c.bud) : ∀ k ∈ n.pivots, k.b.size ≤ 16 := fun k hk => by
 have h4 := h.2.2.2
 by_cases h0 : n.level = 0
 ·rw [if_pos h0] at h4
  have := h4.1
  have e : n.pivots = [] := List.eq_nil_of_length_eq_zero om9
  rw [e] at hk; cases hk
 ·rw [if_neg h0] at h4
  obtain ⟨j, hj, rfl⟩ := List.getElem_of_mem hk
  exact (h4.2.2.2.2.2.1 j hj).2.1
theorem nd_high {c : Cfg} {n : Nd} (h : n.R c.fan c.leaf c.bud) : n.high.b.size ≤ 16 := by
 cases ht : n.top
 ·exact (h.2.2.1 ht).2.1
 ·rw [(h.2.1 ht).1]; decide
theorem span_sizes {c : Cfg} {n : Nd} (h : n.R c.fan c.leaf c.bud) : n.spanN.lo.b.size ≤ 16 ∧ n.spanN.hi.b.size ≤ 16 := by
 have h1 := nd_high h
 unfold Nd.spanN
 split
 ·exact ⟨by decide, by decide⟩
 ·unfold Span.norm
  split
  ·exact ⟨by decide, by decide⟩
  ·split
   ·exact ⟨by show Str.nil.b.size ≤ 16; decide, by show Str.nil.b.size ≤ 16; decide⟩
   ·exact ⟨by show Str.nil.b.size ≤ 16; decide, h1⟩
theorem kidS_has (p : Nd) (i : Int) (k : Str) : (kidS p i).has k = (p.has k && (rangeN p.pivots i).has k) := by unfold kidS; rw [meet_has, spanN_has]
structure Takes (c : Cfg) (p k : Nd) (i : Int) (T : List Msg) : Prop where
 R : ∀ m ∈ T, m.R
 up : ∀ m ∈ T, k.seen < m.stamp
 sp : ∀ m ∈ T, ∀ q, m.span.has q = true → (kidS p i).has q = true
 rst : Rst T
 late : ∀ m ∈ restN p.pivots i T p.msgs, (m.span.meet (kidS p i)).empty = false → ∀ x ∈ T, x.stamp < m.stamp
 clip : clips (kidS p i) p.msgs = T ++ clips (kidS p i) (restN p.pivots i T p.msgs)
theorem takes_of {c : Cfg} {p k : Nd} {i : Int} {a b : Nd} {T : List Msg} (h : MayP c p k i) (hp : Poured c p k i a b T) : Takes c p k i T := by
 obtain ⟨⟨hpR, hkR, hk⟩, hsp, hst⟩ := h
 obtain ⟨k1, k2, k3, k4⟩ := hk
 have hin : p.innerR c.fan c.bud := by have := hpR.2.2.2; rwa [if_neg om9] at this
 obtain ⟨j, rfl⟩ : ∃ j : Nat, i = j := ⟨i.toNat, om9⟩
 obtain ⟨hr1, hr2⟩ := rightN_spec hin.2.1
 have hj : j ≤ p.pivots.length := om9
 have hm := hin.2.2.1
 have hmR := (MsgsR.iff.1 hm).1
 obtain ⟨n, n1, n2, rfl⟩ := hp.take
 have mv := moved_of (P := p.pivots) hr1 hj hm n
 have hs : ∀ q, (kidS p j).has q = true → (rangeN p.pivots j).has q = true := fun q hq => by rw [kidS_has, Bool.and_eq_true] at hq; exact hq.2
 have hfit : ∀ m ∈ p.msgs, ∀ q, m.span.has q = true → p.has q = true := fun m hm' => by
  obtain ⟨x, hx, rfl⟩ := List.getElem_of_mem hm'
  exact (fits_iff (hmR _ hm')).1 (hin.2.2.2.2.2.2 x hx).2
 have hcl := mv.clips_in hr1 hj hm hs fun m hm' q h1 h2 => by rw [kidS_has, hfit m hm' q h1, h2]; rfl
 have hmem : ∀ m ∈ (forN p.pivots p.msgs (j : Int)).take n, ∃ a ∈ p.msgs, (a.clip (kidS p j)).2 = true ∧ (a.clip (kidS p j)).1 = m := fun m hm' => clips_mem (by rw [hcl]; exact List.mem_append_left _ hm')
 have hsz := meet_sizes (span_sizes hpR) (range_sizes (p := p.pivots) (i := (j : Int)) (nd_pivots hpR))
 have hrst := clips_rst (s := kidS p j) (rst_of hm)
 rw [hcl] at hrst
 refine ⟨fun m h => ?_, fun m h => ?_, fun m h q hq => ?_, (rst_app hrst).1, fun m h he x hx => ?_, hcl⟩
 ·obtain ⟨a, ha, h1, rfl⟩ := hmem m h
  exact clip_R (hmR a ha) hsz.1 hsz.2 h1
 ·obtain ⟨a, ha, h1, rfl⟩ := hmem m h
  rw [clip_stamp h1]
  obtain ⟨x, hx, rfl⟩ := List.getElem_of_mem ha
  exact hst x hx (clip_of h1).1
 ·obtain ⟨a, ha, h1, rfl⟩ := hmem m h
  exact (clip_in (hmR a ha) h1 hq).2
 ·have h1 : (m.clip (kidS p j)).2 = true := by
   cases h2 : (m.clip (kidS p j)).2
   ·rw [clip_no.1 h2] at he; cases he
   ·rfl
  have := (rst_app hrst).2.2 x hx (m.clip (kidS p j)).1 (List.mem_filterMap.2 ⟨m, h, if_pos h1⟩)
  rwa [clip_stamp h1] at this
theorem last_of {T : List Msg} (hr : Rst T) (hn : 0 < T.length) : (∃ x ∈ T, T.getLast?.getD Msg.zero = x) ∧ ∀ y ∈ T, y.stamp ≤ (T.getLast?.getD Msg.zero).stamp := by
 obtain ⟨x, h1, h2, h3⟩ := last_take (l := T) hn (Nat.le_refl _)
 rw [List.take_length] at h1 h2 h3
 rw [h2]
 exact ⟨⟨x, h1, rfl⟩, fun y hy => h3 y hy hr⟩
theorem rows_in {X : Span} {l : List Pair} {T : List Msg} (hl : PairsR l) (hT : ∀ m ∈ T, m.R) (h1 : ∀ p ∈ l, X.has p.key = true) (h2 : ∀ m ∈ T, ∀ q, m.span.has q = true → X.has q = true) : ∀ p ∈ foldN l T, X.has p.key = true := by
 induction T generalizing l with
 | nil => exact h1
 | cons m T ih =>
  have hR := hT m (by simp)
  have hR' := hR
  unfold Msg.R at hR'
  refine ih (l := takeN l m) (hl.takeM hR'.1.2.1 hR'.1.2.2.1) (fun x hx => hT x (List.mem_cons_of_mem _ hx)) (fun p hp => ?_) fun x hx => h2 x (List.mem_cons_of_mem _ hx)
  unfold takeN at hp
  split at hp
  ·exact h1 p ((List.mem_filter.1 hp).1)
  ·rw [withN_mid, List.mem_append, List.mem_append] at hp
   rcases hp with (hp | hp) | hp
   ·exact h1 p ((List.mem_filter.1 hp).1)
   ·unfold midN at hp
    split at hp
    ·rw [List.mem_singleton] at hp
     subst hp
     exact h2 m (by simp) _ (Msg.has_key hR)
    ·cases hp
   ·exact h1 p ((List.mem_filter.1 hp).1)
theorem pour_may {c : Cfg} {p k : Nd} {i : Int} {a b : Nd} {T : List Msg} (h : MayP c p k i) (hp : Poured c p k i a b T) : MayP c a b i ∧ k.seen < b.seen := by
 have tk := takes_of h hp
 obtain ⟨⟨hpR, hkR, hk⟩, hsp, hst⟩ := h
 obtain ⟨⟨xl, hxl, exl⟩, hlast⟩ := last_of tk.rst hp.ne
 have hseen : k.seen < b.seen := by rw [hp.seen, exl]; exact tk.up xl hxl
 have hin : p.innerR c.fan c.bud := by have h9 := hk.1; have := hpR.2.2.2; rwa [if_neg om9] at this
 have hmR := (MsgsR.iff.1 hin.2.2.1).1
 have aR : a.R c.fan c.leaf c.bud := by
  rw [hp.ea]
  refine ⟨hpR.1, hpR.2.1, hpR.2.2.1, ?_⟩
  rw [if_neg (show ¬ p.level = 0 by have := hk.1; omega)]
  obtain ⟨h1, h2, h3, h4, h5, h6, h7⟩ := hin
  refine ⟨h1, h2, MsgsR.iff.2 ⟨fun m hm => (rest_R (nd_pivots hpR) hmR hm).1, rest_rst (rst_of h3)⟩, Int.le_trans (rest_size _ _ _ _) h4, h5, h6, fun j hj => ?_⟩
  have hm := List.getElem_mem hj
  obtain ⟨r1, m, hm2, r2, r3⟩ := rest_R (nd_pivots hpR) hmR hm
  obtain ⟨x, hx, rfl⟩ := List.getElem_of_mem hm2
  have f := h7 x hx
  exact ⟨by show _ ≤ p.seen; rw [r2]; exact f.1, (fits_iff (n := { p with msgs := restN p.pivots i T p.msgs }) r1).2 fun q hq => (fits_iff (hmR _ hm2)).1 f.2 q (r3 q hq)⟩
 have hsame : kidS a i = kidS p i := by rw [hp.ea]; rfl
 have hb : b.top = k.top ∧ b.high = k.high ∧ b.level = k.level ∧ b.slot = k.slot ∧ b.right = k.right ∧ b.kids = k.kids ∧ b.pivots = k.pivots := by rw [hp.eb]; exact ⟨rfl, rfl, rfl, rfl, rfl, rfl, rfl⟩
 obtain ⟨b1, b2, b3, b4, b5, b6, b7⟩ := hb
 have kin : ∀ q, (kidS p i).has q = true → k.has q = true := fun q hq => by
  have := (span_has.1 hq).2
  unfold Nd.has
  rw [hsp.1, hsp.2]
  rcases this with h | h <;> simp [h]
 have bR : b.R c.fan c.leaf c.bud := by
  refine ⟨by rw [b3, b4]; have := hkR.1; omega, by rw [b1, b2, b5]; exact hkR.2.1, by rw [b1, b2, b5]; exact hkR.2.2.1, ?_⟩
  have h4 := hkR.2.2.2
  rw [b3]
  by_cases h0 : k.level = 0
  ·rw [if_pos h0] at h4 ⊢
   obtain ⟨e1, e2, e3⟩ := hp.leaf h0
   obtain ⟨l1, l2, l3, l4⟩ := h4
   have hrows : ∀ p ∈ b.rows, (Span.mk Str.nil k.high k.top).has p.key = true := by
    rw [e2]
    refine rows_in l3 tk.R (fun x hx => ?_) fun m hm q hq => ?_
    ·obtain ⟨j, hj, rfl⟩ := List.getElem_of_mem hx
     have := l4 j hj
     unfold Nd.has at this
     unfold Span.has
     simp [Str.nil_le] at this ⊢
     exact this
    ·have := kin q (tk.sp m hm q hq)
     unfold Nd.has at this
     unfold Span.has
     simp [Str.nil_le] at this ⊢
     exact this
   refine ⟨by rw [b7, b6, e1]; exact l1, e3 l3 (fun m hm => ?_) l2, by rw [e2]; exact PairsR.fold l3 fun m hm => msgR_sizes (tk.R m hm), fun j hj => ?_⟩
   ·obtain ⟨x, hx, h2, rfl⟩ := for_mem hm
    have hr := range_sizes (p := p.pivots) (i := i) (nd_pivots hpR)
    exact clip_R (hmR x hx) hr.1 hr.2 h2
   ·have := hrows _ (List.getElem_mem hj)
    unfold Span.has at this
    unfold Nd.has
    rw [b1, b2]
    simp [Str.nil_le] at this ⊢
    exact this
  ·rw [if_neg h0] at h4 ⊢
   obtain ⟨e1, e2, e3⟩ := hp.inner h0
   obtain ⟨l1, l2, l3, l4, l5, l6, l7⟩ := h4
   have hkm := (MsgsR.iff.1 l3).1
   have hold : ∀ m ∈ k.msgs, m.stamp ≤ k.seen := fun m hm => by
    obtain ⟨x, hx, rfl⟩ := List.getElem_of_mem hm
    exact (l7 x hx).1
   refine ⟨by rw [e1, b6]; exact l1, by rw [b6, b7]; exact l2, ?_, e3 l4, by rw [b6]; exact l5, fun j hj => ?_, fun j hj => ?_⟩
   ·rw [e2]
    refine MsgsR.iff.2 ⟨fun m hm => ?_, List.pairwise_append.2 ⟨rst_of l3, tk.rst, fun x hx y hy => ?_⟩⟩
    ·rcases List.mem_append.1 hm with hm | hm
     ·exact hkm m hm
     ·exact tk.R m hm
    ·have := hold x hx
     have := tk.up y hy
     omega
   ·have hh : b.has b.pivots[j] = k.has b.pivots[j] := by unfold Nd.has; rw [b1, b2]
    obtain ⟨q1, q2, q3⟩ := l6 j (by rw [← b7]; exact hj)
    have eb : b.pivots[j] = k.pivots[j]'(by rw [← b7]; exact hj) := by simp only [b7]
    exact ⟨by rw [eb]; exact q1, by rw [eb]; exact q2, by rw [hh, eb]; exact q3⟩
   ·have hm := List.getElem_mem hj
    have hbm : ∀ m ∈ b.msgs, b.fits m := fun m hm => by
     rw [e2] at hm
     rcases List.mem_append.1 hm with hm | hm
     ·obtain ⟨x, hx, rfl⟩ := List.getElem_of_mem hm
      have f := l7 x hx
      exact ⟨by have := f.1; omega, by rw [b1, b2]; exact f.2⟩
     ·refine ⟨by rw [hp.seen]; exact hlast m hm, ?_⟩
      rw [b1, b2]
      exact (fits_iff (n := k) (tk.R m hm)).2 fun q hq => kin q (tk.sp m hm q hq)
    exact hbm _ hm
 refine ⟨⟨⟨aR, bR, by rw [hp.ea]; unfold KidOf; rw [b3]; exact hk⟩, ⟨by rw [hsame, b1]; exact hsp.1, by rw [hsame, b2]; exact hsp.2⟩, fun j hj he => ?_⟩, hseen⟩
 rw [hsame] at he
 have e : a.msgs = restN p.pivots i T p.msgs := by rw [hp.ea]
 have hm : a.msgs[j] ∈ restN p.pivots i T p.msgs := by rw [← e]; exact List.getElem_mem hj
 rw [hp.seen, exl]
 exact tk.late _ hm he xl hxl
theorem front_mem {l : List Msg} {m : Msg} (h : m ∈ frontN l) : m ∈ l := by
 unfold frontN at h
 split at h
 ·exact h
 ·split at h
  ·exact List.mem_of_mem_take h
  ·exact List.mem_of_mem_take h
theorem front_len (l : List Msg) : (frontN l).length ≤ l.length := by
 unfold frontN
 split
 ·exact Nat.le_refl _
 ·split
  ·rw [List.length_take]; omega
  ·rw [List.length_take]; omega
theorem front_all {l : List Msg} (h : idxN isW l = -1) : l = frontN l := by unfold frontN; rw [if_pos h]
theorem front_one {l : List Msg} (h : ¬ idxN isW l = -1) (h2 : idxN isW l = 0) : (l.take 1).drop 0 = frontN l := by unfold frontN; rw [if_neg h, if_pos h2, List.drop_zero]
theorem front_take {l : List Msg} (h : ¬ idxN isW l = -1) (h2 : ¬ idxN isW l = 0) : (l.take (idxN isW l).toNat).drop 0 = frontN l := by unfold frontN; rw [if_neg h, if_neg h2, List.drop_zero]
theorem fm_succ {α β : Type} {f : α → Option β} {l : List α} {k : Nat} (hk : k < l.length) : (l.take (k + 1)).filterMap f = (l.take k).filterMap f ++ (f l[k]).toList := by
 rw [List.take_succ_eq_append_getElem hk, List.filterMap_append]
 cases h : f l[k] <;> simp [h]
theorem fm_t {α β : Type} {f : α → Option β} {l : List α} {k : Nat} {b : β} (hk : k < l.length) (h : f l[k] = some b) : (l.take (k + 1)).filterMap f = (l.take k).filterMap f ++ [b] := by rw [fm_succ hk, h]; rfl
theorem fm_f {α β : Type} {f : α → Option β} {l : List α} {k : Nat} (hk : k < l.length) (h : f l[k] = none) : (l.take (k + 1)).filterMap f = (l.take k).filterMap f := by rw [fm_succ hk, h]; simp
theorem fm_lek {α β : Type} (f : α → Option β) (l : List α) (k : Nat) : ((l.take k).filterMap f).length ≤ k := by
 have := List.length_filterMap_le f (l.take k)
 rw [List.length_take] at this
 omega
theorem for_t {P : List Str} {i : Int} {F : List Msg} {k : Nat} (hk : k < F.length) (h1 : ((routeN P F[k].key : Nat) : Int) = i) (h2 : (F[k].clip (rangeN P i)).2 = true) : (F.take (k + 1)).filterMap (forF P i) = (F.take k).filterMap (forF P i) ++ [(F[k].clip (rangeN P i)).1] := fm_t hk (if_pos ⟨h1, h2⟩)
theorem for_n {P : List Str} {i : Int} {F : List Msg} {k : Nat} (hk : k < F.length) (h : ¬ (((routeN P F[k].key : Nat) : Int) = i ∧ (F[k].clip (rangeN P i)).2 = true)) : (F.take (k + 1)).filterMap (forF P i) = (F.take k).filterMap (forF P i) := fm_f hk (if_neg h)
def addN (bud : Int) (ms : List Msg) (m : Msg) : List Msg × Bool := if roomB bud ms m = true then (ms ++ [m], true) else ([], false)
theorem addN_t {bud : Int} {ms : List Msg} {m : Msg} (h : roomB bud ms m = true) : addN bud ms m = (ms ++ [m], true) := if_pos h
theorem addN_f {bud : Int} {ms : List Msg} {m : Msg} (h : roomB bud ms m = false) : addN bud ms m = ([], false) := if_neg (by simp [h])
theorem room_iff {bud : Int} {ms : List Msg} {m : Msg} : roomB bud ms m = true ↔ m.size ≤ bud - sizesN ms ∧ ∀ h : 0 < ms.length, (ms[ms.length - 1]'om9).stamp < m.stamp := by
 unfold roomB
 rw [Bool.and_eq_true, decide_eq_true_eq]
 refine and_congr Iff.rfl ?_
 cases h : ms.getLast? with
 | none =>
  rw [List.getLast?_eq_none_iff] at h
  subst h
  simp
 | some x =>
  rw [List.getLast?_eq_getElem?] at h
  obtain ⟨h1, h2⟩ := List.getElem?_eq_some_iff.1 h
  simp only [Option.all_some, decide_eq_true_eq]
  exact ⟨fun h3 _ => by rw [h2]; exact h3, fun h3 => by have := h3 om9; rw [h2] at this; exact this⟩
theorem room_f1 {bud : Int} {ms : List Msg} {m : Msg} (h : ¬ m.size ≤ bud - sizesN ms) : roomB bud ms m = false := by
 cases hr : roomB bud ms m
 ·rfl
 ·exact absurd (room_iff.1 hr).1 h
theorem room_f2 {bud : Int} {ms : List Msg} {m : Msg} (h : 0 < ms.length) (h2 : m.stamp ≤ (ms[ms.length - 1]'om9).stamp) : roomB bud ms m = false := by
 cases hr : roomB bud ms m
 ·rfl
 ·have := (room_iff.1 hr).2 h; omega
theorem adds_stop {bud : Int} {ms l : List Msg} {k : Nat} (hk : k < l.length) (h : roomB bud ms l[k] = false) : addsN bud ms (l.drop k) = 0 := by
 rw [List.drop_eq_getElem_cons hk]
 unfold addsN
 rw [if_neg (by simp [h])]
theorem adds_next {bud : Int} {ms l : List Msg} {k : Nat} (hk : k < l.length) (h : roomB bud ms l[k] = true) : addsN bud ms (l.drop k) = addsN bud (ms ++ [l[k]]) (l.drop (k + 1)) + 1 := by
 rw [List.drop_eq_getElem_cons hk]
 conv => lhs; unfold addsN
 rw [if_pos h]
def AddsAt (bud : Int) (ms l : List Msg) (k : Nat) : Prop := addsN bud ms l = k + addsN bud (ms ++ l.take k) (l.drop k)
theorem AddsAt.zero (bud : Int) (ms l : List Msg) : AddsAt bud ms l 0 := by unfold AddsAt; simp
theorem AddsAt.succ {bud : Int} {ms l : List Msg} {k : Nat} (h : AddsAt bud ms l k) (hk : k < l.length) (hr : roomB bud (ms ++ l.take k) l[k] = true) : AddsAt bud ms l (k + 1) := by
 unfold AddsAt at h ⊢
 rw [h, adds_next hk hr, List.take_succ_eq_append_getElem hk, List.append_assoc]
 omega
theorem AddsAt.stop {bud : Int} {ms l : List Msg} {k : Nat} (h : AddsAt bud ms l k) (hk : k < l.length) (hr : roomB bud (ms ++ l.take k) l[k] = false) : addsN bud ms l = k := by
 unfold AddsAt at h
 rw [h, adds_stop hk hr]
 omega
theorem AddsAt.all {bud : Int} {ms l : List Msg} {k : Nat} (h : AddsAt bud ms l k) (hk : l.length ≤ k) : addsN bud ms l = k := by
 unfold AddsAt at h
 rw [h, List.drop_eq_nil_of_le hk]
 rfl
theorem moved_0 {leaf bud : Int} {k : Nd} {l : List Msg} (h : k.level = 0) : movedN leaf bud k l = ({ k with rows := (drainN leaf k.rows l).1 }, (drainN leaf k.rows l).2) := if_pos h
theorem moved_n {leaf bud : Int} {k : Nd} {l : List Msg} {j : Nat} (h : ¬ k.level = 0) (hj : addsN bud k.msgs l = j) : movedN leaf bud k l = ({ k with msgs := k.msgs ++ l.take j }, j) := by unfold movedN; rw [if_neg h, hj]
theorem count_t {leaf bud : Int} {p k : Nd} {i : Int} (h : KidOf p k i) : countN leaf bud p k i = (movedN leaf bud k (forN p.pivots p.msgs i)).2 := if_pos h
theorem count_f {leaf bud : Int} {p k : Nd} {i : Int} (h : ¬ KidOf p k i) : countN leaf bud p k i = 0 := if_neg h
theorem sizes_bound : ∀ {l : List Msg}, (∀ m ∈ l, m.key.b.size ≤ 16 ∧ m.val.b.size ≤ 16) → 0 ≤ sizesN l ∧ sizesN l ≤ 36 * l.length
 | [], _ => ⟨by simp [sizesN], by simp [sizesN]⟩
 | m :: l, h => by
  have ih := sizes_bound (l := l) fun x hx => h x (List.mem_cons_of_mem _ hx)
  have := size_36 (h m (by simp))
  have e : sizesN (m :: l) = m.size + sizesN l := by simp [sizesN]
  rw [e]
  simp only [List.length_cons]
  omega
def goneN (T : List Msg) : List (Int × Bool) := T.foldl (fun m x => putM m x.stamp true) []
theorem gone_succ {T : List Msg} {k : Nat} (hk : k < T.length) : goneN (T.take (k + 1)) = putM (goneN (T.take k)) T[k].stamp true := by
 unfold goneN
 rw [List.take_succ_eq_append_getElem hk, List.foldl_append]; rfl
theorem gone_get (s : Int) : ∀ (T : List Msg) (m : List (Int × Bool)), (getM (T.foldl (fun m x => putM m x.stamp true) m) s).getD false = (decide (s ∈ T.map Msg.stamp) || (getM m s).getD false)
 | [], m => by simp
 | x :: T, m => by
  rw [List.foldl_cons, gone_get s T, getM_put]
  by_cases h : s = x.stamp
  ·rw [if_pos h]
   simp [h]
  ·rw [if_neg h]
   simp [h]
theorem gone_has (T : List Msg) (s : Int) : (getM (goneN T) s).getD false = decide (s ∈ T.map Msg.stamp) := by
 unfold goneN
 rw [gone_get]
 simp [getM]
theorem add_snd (bud : Int) (ms : List Msg) (m : Msg) : (addN bud ms m).2 = roomB bud ms m := by
 unfold addN
 cases h : roomB bud ms m
 ·rw [if_neg (by simp)]
 ·rw [if_pos rfl]
theorem moved_len (leaf bud : Int) (k : Nd) (L : List Msg) : (L.take (movedN leaf bud k L).2).length = (movedN leaf bud k L).2 := by
 have := moved_le leaf bud k L
 rw [List.length_take]; omega
theorem pour_f0 {leaf bud : Int} {p k : Nd} {i : Int} (h : ¬ KidOf p k i) : pourN leaf bud p k i = (p, k, 0) := by unfold pourN; rw [if_pos (count_f h)]
theorem pour_f1 {leaf bud : Int} {p k : Nd} {i : Int} (hk : KidOf p k i) (h : ((forN p.pivots p.msgs i).take (movedN leaf bud k (forN p.pivots p.msgs i)).2).length = 0) : pourN leaf bud p k i = (p, k, 0) := by
 rw [moved_len] at h
 unfold pourN; rw [if_pos ((count_t hk).trans h)]
theorem last_get {T : List Msg} (h : 0 < T.length) : T.getLast?.getD Msg.zero = T[T.length - 1]'om9 := by
 rw [List.getLast?_eq_getElem?, List.getElem?_eq_getElem om9]; rfl
theorem pour_t {leaf bud : Int} {p k : Nd} {i : Int} {T : List Msg} (hk : KidOf p k i) (hT : T = (forN p.pivots p.msgs i).take (movedN leaf bud k (forN p.pivots p.msgs i)).2) (h : 0 < T.length) :
  pourN leaf bud p k i = ({ p with msgs := restN p.pivots i T p.msgs }, { (movedN leaf bud k (forN p.pivots p.msgs i)).1 with seen := (T[T.length - 1]'om9).stamp }, T.length) := by
 have e : T.length = countN leaf bud p k i := by rw [hT, moved_len, count_t hk]
 unfold pourN
 rw [if_neg om9, count_t hk, ← hT, last_get h, ← count_t hk, ← e]
theorem left_no {P : List Str} {i : Int} {T : List Msg} {m : Msg} (h : ¬ m.stamp ∈ T.map Msg.stamp) : leftN P i T m = some m := if_neg h
theorem left_w {P : List Str} {i : Int} {T : List Msg} {m : Msg} (h : m.stamp ∈ T.map Msg.stamp) (h4 : m.kind = 4) (hw : (withoutN m (rangeN P i)).2 = true) : leftN P i T m = some (withoutN m (rangeN P i)).1 := (if_pos h).trans (if_pos ⟨h4, hw⟩)
theorem left_n {P : List Str} {i : Int} {T : List Msg} {m : Msg} (h : m.stamp ∈ T.map Msg.stamp) (hw : ¬ (m.kind = 4 ∧ (withoutN m (rangeN P i)).2 = true)) : leftN P i T m = none := (if_pos h).trans (if_neg hw)
theorem restN_t {P : List Str} {i : Int} {T : List Msg} {l : List Msg} {k : Nat} {x : Msg} {n : Nd} (hk : k < l.length) (h : leftN P i T l[k] = some x) : ({ n with msgs := restN P i T (l.take k) ++ [x] } : Nd) = { n with msgs := restN P i T (l.take (k + 1)) } := by unfold restN; rw [fm_t hk h]
theorem restN_f {P : List Str} {i : Int} {T : List Msg} {l : List Msg} {k : Nat} {n : Nd} (hk : k < l.length) (h : leftN P i T l[k] = none) : ({ n with msgs := restN P i T (l.take k) } : Nd) = { n with msgs := restN P i T (l.take (k + 1)) } := by unfold restN; rw [fm_f hk h]
theorem without_ok {m : Msg} {s : Span} (h : m.Ok) : (withoutN m s).1.Ok := by
 unfold withoutN
 split
 ·exact ⟨⟨by decide, by decide⟩, ⟨by decide, by decide⟩⟩
 ·exact clip_ok h
theorem for_R {P : List Str} {l : List Msg} {i : Int} (hP : ∀ k ∈ P, k.b.size ≤ 16) (hl : ∀ m ∈ l, m.R) : ∀ m ∈ forN P l i, m.R := fun m hm => by
 obtain ⟨a, ha, h2, rfl⟩ := for_mem hm
 have hr := range_sizes (p := P) (i := i) (n := 16) hP
 exact clip_R (hl a ha) hr.1 hr.2 h2
theorem for_len (P : List Str) (l : List Msg) (i : Int) : (forN P l i).length ≤ l.length := Nat.le_trans (List.length_filterMap_le _ _) (front_len l)
theorem rest_len (P : List Str) (i : Int) (T l : List Msg) (k : Nat) : (restN P i T (l.take k)).length ≤ k := fm_lek _ _ _
def NmR (TN tm : TypeId) (b : Nat) (G : GH) (n : Nd) (M : MH) : Prop :=
 ∃ (pa : Option Addr) (pc : Nat) (ka : Option Addr) (kc : Nat) (vm : Value) (ra : Option Addr) (rc : Nat) (Mm : MH),
  M = (b, .cells (List.toArray [.int .i64 n.slot, .int .i64 n.level, .slice pa n.pivots.length pc, .slice ka n.kids.length kc, .string n.high.b, .bool n.top, .int .i64 n.right, .int .i64 n.seen, vm, .slice ra n.rows.length rc]) TN (0, 0)) :: Mm ∧
  SlR eStr G (.slice pa n.pivots.length pc) n.pivots ∧ SlR eInt G (.slice ka n.kids.length kc) n.kids ∧ OwnR eMsg tm G vm n.msgs Mm ∧ SlR ePair G (.slice ra n.rows.length rc) n.rows ∧ n.Ok
theorem NmR.mono {TN tm : TypeId} {b : Nat} {G G' : GH} {n : Nd} {M : MH} (hl : Le G G') (h : NmR TN tm b G n M) : NmR TN tm b G' n M := by
 obtain ⟨pa, pc, ka, kc, vm, ra, rc, Mm, h1, h2, h3, h4, h5, h6⟩ := h
 exact ⟨pa, pc, ka, kc, vm, ra, rc, Mm, h1, h2.mono hl, h3.mono hl, h4.mono hl, h5.mono hl, h6⟩
theorem NmR.cast {TN tm : TypeId} {b : Nat} {G : GH} {n n' : Nd} {M : MH} (h : NmR TN tm b G n M) (e : n = n') : NmR TN tm b G n' M := e ▸ h
end Go.Fw
namespace Go.Proofs.YtfmigmijckdldaaGreat
open Go Go.Fw Go.RowKit
attribute [local irreducible] Ok W WC
theorem mmsize_fc {G : GH} (ms : Int) (mk : Int) (mkey : Str) (mhi : Str) (mo : Bool) (mv : Str) :
    Fc Tryz.prog 93 [.agg #[iV ms, iV mk, sV mkey.b, sV mhi.b, .bool mo, sV mv.b]] G [] (fun v _ _ => v = iV (Msg.size (⟨ms, mk, mkey, mhi, mo, mv⟩ : Msg))) := by
 have h1 := mkey.le
 have h2 := mv.le
 refine Fc.go [.tmp 2] Tryz.func93 Tryz.ntmps93 rfl (fun w0 => (g9 2 ?_))
 refine W.box (L := [iV _, iV _, sV _, sV _, .bool _, sV _]) rfl rfl (fun b1 => (g9 11 ?_))
 refine WC.cd (fun h5 p5 => ?_) (fun h5 p5 => ?_)
 ·refine g9 8 ?_
  refine congrArg (Value.int .i64) ?_
  rw [Msg.size, if_pos p5]
 refine g9 17 ?_
 refine congrArg (Value.int .i64) ?_
 rw [Msg.size, if_neg p5]

theorem bsize_fc {G : GH} {v_l : Value} {l : List Msg} (h_l : SlR eMsg G v_l l) (hs : ∀ m ∈ l, m.key.b.size ≤ 16 ∧ m.val.b.size ≤ 16) :
    Fc Tryz.prog 162 [v_l] G [] (fun v _ _ => v = iV (sizesN l)) := by
 obtain ⟨sa_l, sc_l, rfl⟩ := h_l.form
 have hl := h_l.len47
 refine Fc.go [.tmp 2] Tryz.func162 Tryz.ntmps162 rfl (fun w0 => (g9 19 ?_))
 refine WC.loop (X := Nat) (fun k => [(3, iV (sizesN (l.take k))), (8, nt9 k), (6, lV sa_l l.length sc_l), (7, nt9 ((l).length))]) (fun k _ Ml => Ml = [] ∧ k ≤ l.length ∧ 0 ≤ sizesN (l.take k) ∧ sizesN (l.take k) ≤ 36 * k) (fun k => l.length - k) 0 hs9 ?_ ?_
 ·exact ⟨rfl, om9, by simp [sizesN], by simp [sizesN]⟩
 rintro k gG2 G2 _ hG2 ⟨rfl, hk, h0, h36⟩
 refine g9 6 ?_
 refine WC.cd (fun h9 p9 => ?_) (fun h9 p9 => ?_)
 ·have hz := sizes_succ (l := l) (k := k) om9
  have hz2 := size_36 (hs l[k] (List.getElem_mem _))
  have he : Msg.size ⟨l[k].stamp, l[k].kind, l[k].key, l[k].hi, l[k].opn, l[k].val⟩ = l[k].size := rfl
  refine g9 6 ?_
  refine (h_l.mono hG2).a2 (i := k) om9 (fun he3 hm4 => (g9 2 ?_))
  refine W.alloc zr90 (fun b8 => (g9 6 ?_))
  refine W.qcall (mmsize_fc _ _ _ _ _ _) rfl (g9 8 ?_)
  refine W.sub (sr9.cons _) (g9 2 ?_)
  exact ⟨Le.rfl, k + 1, ⟨(iv om9), eqv, eqv, eqv, trivial⟩, ⟨rfl, om9, om9, om9⟩, om9⟩
 refine g9 13 ?_
 refine congrArg (Value.int .i64) ?_
 rw [List.take_of_length_le om9]

theorem bfits_fc {G : GH} {v_l : Value} {l : List Msg} (h_l : SlR eMsg G v_l l) (ms : Int) (mk : Int) (mkey : Str) (mhi : Str) (mo : Bool) (mv : Str) (n : Int) (hs : ∀ m ∈ l, m.key.b.size ≤ 16 ∧ m.val.b.size ≤ 16) (hn : 0 ≤ n ∧ n ≤ 9223372036854775807) :
    Fc Tryz.prog 149 [v_l, .agg #[iV ms, iV mk, sV mkey.b, sV mhi.b, .bool mo, sV mv.b], iV n] G [] (fun v _ _ => v = .bool (decide (Msg.size (⟨ms, mk, mkey, mhi, mo, mv⟩ : Msg) ≤ n - sizesN l))) := by
 obtain ⟨sa_l, sc_l, rfl⟩ := h_l.form
 have hl := h_l.len47
 have hz0 := sizes_bound hs
 refine Fc.go [.tmp 6] Tryz.func149 Tryz.ntmps149 rfl (fun w0 => (g9 2 ?_))
 refine W.box (L := [iV _, iV _, sV _, sV _, .bool _, sV _]) rfl rfl (fun b9 => (g9 6 ?_))
 refine W.qcall (mmsize_fc _ _ _ _ _ _) rfl (g9 2 ?_)
 refine W.qcall (bsize_fc h_l (by assumption)) rfl (g9 7 ?_)
 rfl

theorem frw_fc {G : GH} (ms : Int) (mk : Int) (mkey : Str) (mhi : Str) (mo : Bool) (mv : Str) :
    Fc Tryz.prog 127 [.agg #[iV ms, iV mk, sV mkey.b, sV mhi.b, .bool mo, sV mv.b]] G [] (fun v _ _ => v = .bool (decide (mk = 4))) := by
 refine Fc.go [.tmp 2] Tryz.func127 Tryz.ntmps127 rfl (fun w0 => (g9 2 ?_))
 refine W.box (L := [iV _, iV _, sV _, sV _, .bool _, sV _]) rfl rfl (fun b10 => (g9 13 ?_))
 rfl

theorem ixw_fc {G : GH} {v_l : Value} {l : List Msg} (h_l : SlR eMsg G v_l l) :
    Fc Tryz.prog 126 [v_l, .func (.func 127) #[] #[]] G [] (fun v _ _ => v = iV (idxN isW l)) := by
 obtain ⟨sa_l, sc_l, rfl⟩ := h_l.form
 have hl := h_l.len47
 refine Fc.go [.tmp 4] Tryz.func126 Tryz.ntmps126 rfl (fun w0 => (g9 14 ?_))
 refine WC.loop (X := Nat) (fun k => [(8, nt9 k), (0, lV sa_l l.length sc_l), (1, .func (.func 127) #[] #[]), (7, nt9 ((l).length))]) (fun k _ Ml => Ml = [] ∧ k ≤ l.length ∧ ∀ j (h : j < l.length), j < k → isW l[j] = false) (fun k => l.length - k) 0 hs9 ?_ ?_
 ·exact ⟨rfl, om9, fun j _ h => by omega⟩
 rintro k gG11 G11 _ hG11 ⟨rfl, hk, hj⟩
 refine g9 6 ?_
 refine WC.cd (fun h9 p9 => ?_) (fun h9 p9 => ?_)
 ·refine g9 15 ?_
  refine (h_l.mono hG11).a2 (i := k) om9 (fun he12 hm13 => (g9 2 ?_))
  refine W.qcallV (fst := []) (caps := []) rfl (frw_fc _ _ _ _ _ _) rfl (g9 2 ?_)
  refine WC.cond rfl (fun h16 => ?_) (fun h16 => ?_)
  ·refine g9 13 ?_
   refine congrArg (Value.int .i64) ?_
   exact (idxN_at (q := isW) om9 h16 hj).symm
  refine g9 8 ?_
  exact ⟨Le.rfl, k + 1, hs9, ⟨rfl, om9, fun j h hji => by
      by_cases e2 : j = k
      · subst e2; exact h16
      · exact hj j h om9⟩, om9⟩
 refine g9 12 ?_
 refine congrArg (Value.int .i64) ?_
 exact (idxN_no (q := isW) (fun j h => hj j om9 om9)).symm

theorem front_fc {G : GH} {v_l : Value} {l : List Msg} (h_l : SlR eMsg G v_l l) :
    Fc Tryz.prog 92 [v_l] G [] (fun v G' M' => M' = [] ∧ ∃ u0, v = u0 ∧ SlR eMsg G' u0 (frontN l)) := by
 obtain ⟨sa_l, sc_l, rfl⟩ := h_l.form
 have hl := h_l.len47
 have hix := idxN_le isW l
 refine Fc.go [.tmp 2] Tryz.func92 Tryz.ntmps92 rfl (fun w0 => (g9 8 ?_))
 refine W.qcall (ixw_fc h_l) rfl (g9 16 ?_)
 refine WC.cd (fun h8 p8 => ?_) (fun h8 p8 => ?_)
 ·refine g9 3 ?_
  refine W.cS (clonem_fc h_l) rfl (fun sa_hv18 sc_hv18 G17 hG17 hv18 => (g9 7 ?_))
  refine ⟨rfl, _, rfl, ?_⟩
  · exact SlR.cast hv18 (front_all p8)
 refine g9 6 ?_
 refine WC.cd (fun h12 p12 => ?_) (fun h12 p12 => ?_)
 ·refine g9 9 ?_
  have hs24 := SlR.slice h_l (lo := 0) (hi := 1) om9 om9
  refine W.ok (ok_slice (0) (1) sl51 ty90 h_l rfl rfl ⟨_, _, rfl, om9⟩ ⟨om9, om9⟩) (W.cS (clonem_fc hs24) rfl (fun sa_hv26 sc_hv26 G25 hG25 hv26 => (g9 5 ?_)))
  refine ⟨rfl, _, rfl, ?_⟩
  · exact SlR.cast hv26 (front_one p8 p12)
 refine g9 7 ?_
 have hs32 := SlR.slice h_l (lo := 0) (hi := (idxN isW l).toNat) om9 om9
 refine W.ok (ok_slice (0) ((idxN isW l).toNat) sl51 ty90 h_l rfl rfl ⟨_, _, rfl, om9⟩ ⟨om9, om9⟩) (W.cS (clonem_fc hs32) rfl (fun sa_hv34 sc_hv34 G33 hG33 hv34 => (g9 5 ?_)))
 refine ⟨rfl, _, rfl, ?_⟩
 · exact SlR.cast hv34 (front_take p8 p12)

theorem for_fc {G : GH} {v_P : Value} {P : List Str} (h_P : SlR eStr G v_P P) {v_l : Value} {l : List Msg} (h_l : SlR eMsg G v_l l) (i : Int) (hks : ∀ m ∈ l, m.key.b.size < 140737488355328) (hr : rising P = true) (hi : i64 i) :
    Fc Tryz.prog 131 [v_P, v_l, iV i] G [] (fun v G' M' => M' = [] ∧ ∃ u0, v = u0 ∧ SlR eMsg G' u0 (forN P l i)) := by
 obtain ⟨sa_P, sc_P, rfl⟩ := h_P.form
 obtain ⟨sa_l, sc_l, rfl⟩ := h_l.form
 have hl := h_l.len47
 have hlb : l.length * 72 ≤ 140737488355328 := h_l.bytes
 have hfl := front_len l
 have hkf : ∀ m ∈ frontN l, m.key.b.size < 140737488355328 := fun m h => hks m (front_mem h)
 refine Fc.go [.tmp 6] Tryz.func131 Tryz.ntmps131 rfl (fun w0 => (g9 14 ?_))
 refine W.qcall (brange_fc h_P _ hi) rfl (W.alloc zr55 (fun b40 => (g9 7 ?_)))
 refine W.cS (front_fc h_l) rfl (fun sa_hv42 sc_hv42 G41 hG41 hv42 => (g9 5 ?_))
 refine WC.loop (X := (Nat) × Value × MH) (fun k => [(19, nt9 k.1), (8, pt9 b40), (0, lV sa_P P.length sc_P), (2, iV i), (17, lV sa_hv42 (frontN (l)).length sc_hv42), (18, nt9 ((frontN (l)).length)), (7, k.2.1)]) (fun k G Ml => Ml = ((b40, ce9 55 [sV (rangeN P i).lo.b, sV (rangeN P i).hi.b, .bool (rangeN P i).opn]) :: (k.2.2 ++ [])) ∧ OwnR eMsg 90 G k.2.1 (((frontN l).take k.1).filterMap (forF P i)) k.2.2 ∧ k.1 ≤ (frontN l).length) (fun k => (frontN l).length - k.1) (0, lV none 0 0, ([] : MH)) hs9 ?_ ?_
 ·exact ⟨rfl, (by exact OwnR.nil), om9⟩
 rintro ⟨k, v_7, M_7⟩ gG48 G48 _ hG48 ⟨rfl, ho_7, hk⟩
 try dsimp only at ho_7 hk
 have hfm := fm_lek (forF P i) (frontN l) k
 refine WC.fr (f := setL gG48 [(19, nt9 k), (8, pt9 b40), (0, lV sa_P P.length sc_P), (2, iV i), (17, lV sa_hv42 (frontN (l)).length sc_hv42), (18, nt9 ((frontN (l)).length)), (7, v_7)]) rfl (g9 6 ?_)
 refine WC.cd (fun h20 p20 => ?_) (fun h20 p20 => ?_)
 ·refine g9 6 ?_
  refine (hv42.mono hG48).a2 (i := k) om9 (fun he49 hm50 => (g9 2 ?_))
  refine W.alloc zr90 (fun b54 => (g9 9 ?_))
  refine W.qcall (broute_fc (h_P.mono lec) _ hr) rfl (g9 4 ?_)
  refine WC.cn (fun h28 p28 => ?_) (fun h28 p28 => ?_)
  ·refine g9 7 ?_
   refine W.sub (sr9.cons _) (g9 2 ?_)
   exact ⟨Le.rfl, (k + 1, v_7, M_7), hs9, ⟨rfl, (by have h := ho_7; rw [for_n om9 (fun hh => absurd hh.1 p28)]; exact h), om9⟩, om9⟩
  refine g9 6 ?_
  refine W.qcall (mclip_fc _ _ _ _ _ _ _ _ _ (hkf _ (List.getElem_mem (by omega : k < (frontN l).length)))) rfl (g9 3 ?_)
  refine W.alloc zr90 (fun b55 => (g9 9 ?_))
  refine WC.cond rfl (fun h32_1 => ?_) (fun h32_1 => ?_)
  ·refine g9 3 ?_
   refine W.lit (e := eMsg) (l := [(Msg.clip (frontN l)[k] (rangeN P i)).1]) (css := [[iV _, iV _, sV _, sV _, .bool _, sV _]]) sl51 ty90 zr90 rfl rfl rfl rfl rfl rfl ⟨⟨rfl, clip_ok (by assumption)⟩, trivial⟩ (fun bl56 G56 hG56 hv56 => (W.app (e := eMsg) sl51 ty90 zr90 rfl by90 rfl rfl ((ho_7.mono hG56)) (hv56) (pmC (pmC (pmC pr9))) (by show (List.length _ + 1) * 72 ≤ _; omega) (fun v57 Ms58 ho59 => (W.perm (pmC (pmC (pmC pr9))).symm (g9 7 ?_)))))
   refine W.sub ((sr9.cons _).cons _) (g9 2 ?_)
   exact ⟨hG56, (k + 1, v57, Ms58), hs9, ⟨rfl, (by have h := ho59; rw [for_t om9 p28 h32_1]; exact h), om9⟩, om9⟩
  refine g9 6 ?_
  refine W.sub ((sr9.cons _).cons _) (g9 2 ?_)
  exact ⟨Le.rfl, (k + 1, v_7, M_7), hs9, ⟨rfl, (by have h := ho_7; rw [for_n om9 (fun hh => absurd (h32_1.symm.trans hh.2) (by simp))]; exact h), om9⟩, om9⟩
 refine g9 11 ?_
 refine WC.giveO ho_7 (pmC pr9) (fun G60 hG60 hv60 => (g9 2 ?_))
 refine ⟨rfl, _, rfl, ?_⟩
 · have h := hv60; rw [List.take_of_length_le om9] at h; exact h

theorem clonemo9_fc {G : GH} {v_a : Value} {a : List Msg} (h_a : SlR eMsg G v_a a) :
    Fc Tryz.prog 99 [v_a] G [] (fun v G' M' => OwnR eMsg 90 G' v (a) M') := by
 obtain ⟨sa_a, sc_a, rfl⟩ := h_a.form
 have ha := h_a.bytes
 refine Fc.go [.tmp 2] Tryz.func99 Tryz.ntmps99 rfl (fun w0 => (g9 9 ?_))
 refine W.ok (ok_eqlNil sl51 rfl rfl) (g9 2 ?_)
 refine WC.cond rfl (fun h4 => ?_) (fun h4 => ?_)
 ·have hn := SlR.isNone h_a h4
  subst hn
  refine g9 8 ?_
  exact OwnR.nil
 refine g9 4 ?_
 refine W.lit0 (e := eMsg) sl51 ty90 zr90 rfl (fun v61 Ms62 ho63 => (W.mv (W.app (e := eMsg) sl51 ty90 zr90 rfl by90 rfl rfl (ho63) (h_a) pr9 (by simpa using ha) (fun v64 Ms65 ho66 => (g9 4 ?_)))))
 refine ⟨.inr rfl, [_], ⟨rfl, trivial⟩, Ms65, List.sublist_append_left _ _, ?_⟩
 have h := ho66
 rw [List.nil_append] at h
 exact h

theorem badd_fc {G : GH} {v_l : Value} {l : List Msg} (h_l : SlR eMsg G v_l l) (ms : Int) (mk : Int) (mkey : Str) (mhi : Str) (mo : Bool) (mv : Str) (n : Int) (hs : ∀ m ∈ l, m.key.b.size ≤ 16 ∧ m.val.b.size ≤ 16) (hn : 0 ≤ n ∧ n ≤ 9223372036854775807) (hmi : i64 ms ∧ i64 mk) (hl9 : l.length ≤ 1000000) :
    Fc Tryz.prog 134 [v_l, .agg #[iV ms, iV mk, sV mkey.b, sV mhi.b, .bool mo, sV mv.b], iV n] G [] (fun v G' M' => M' = [] ∧ ∃ r : List Msg × Bool, r = addN n l (⟨ms, mk, mkey, mhi, mo, mv⟩ : Msg) ∧ ∃ u0, v = .tuple #[u0, .bool (r.2)] ∧ SlR eMsg G' u0 (r.1)) := by
 obtain ⟨sa_l, sc_l, rfl⟩ := h_l.form
 have hl := h_l.len47
 have hlb : l.length * 72 ≤ 140737488355328 := h_l.bytes
 refine Fc.go [.tmp 6, .tmp 7] Tryz.func134 Tryz.ntmps134 rfl (fun w0 => (g9 2 ?_))
 refine W.box (L := [iV _, iV _, sV _, sV _, .bool _, sV _]) rfl rfl (fun b67 => (g9 10 ?_))
 refine W.qcall (bfits_fc h_l _ _ _ _ _ _ _ (by assumption) om9) rfl (g9 2 ?_)
 refine W.sp 13 rfl (fun h12 => ?_) (fun h12 => ?_)
 ·have q11 : ¬ (Msg.size (⟨ms, mk, mkey, mhi, mo, mv⟩ : Msg) ≤ n - sizesN l) := by simpa using h12
  refine g9 28 ?_
  refine ⟨rfl, _, (addN_f (room_f1 q11)).symm, _, rfl, ?_⟩
  · exact SlR.nil
 have q11 : Msg.size (⟨ms, mk, mkey, mhi, mo, mv⟩ : Msg) ≤ n - sizesN l := by simpa using h12
 refine g9 8 ?_
 refine W.sd 17 (fun h16 p16 => ?_) (fun h16 p16 => ?_)
 ·refine g9 9 ?_
  refine h_l.a2 (i := l.length - 1) om9 (fun he68 hm69 => (W.ok (ok_indexAddr (i := l.length - 1) sl51 ty90 h_l rfl rfl ⟨om9, om9⟩) (g9 15 ?_)))
  refine WC.cd (fun h27 p27 => ?_) (fun h27 p27 => ?_)
  ·refine g9 9 ?_
   refine ⟨rfl, _, (addN_f (room_f2 om9 (by dsimp only; omega))).symm, _, rfl, ?_⟩
   · exact SlR.nil
  refine g9 3 ?_
  refine WC.dw sr9.k9 (d9 [0, 2] ?_)
  refine WD.any [1, 3] (by kernel_rfl) rfl ⟨WD.ap ?_, WD.ap ?_, trivial⟩
  ·refine W.call (Mp := []) (clonemo9_fc h_l) rfl pr9 ?_
   rintro v74 G73 Ms75 hG73 ho76
   refine W.perm (pmC pr9).symm ?_
   have q80 := ho76.form
   refine match q80 with | ⟨sa77, sc78, e_79⟩ => ?_
   subst e_79
   refine W.nn (WD.a1 3 rfl (W.litO (e := eMsg) (l := [(⟨ms, mk, mkey, mhi, mo, mv⟩ : Msg)]) (css := [[iV _, iV _, sV _, sV _, .bool _, sV _]]) sl51 ty90 zr90 rfl rfl rfl rfl rfl rfl ⟨⟨rfl, hmi⟩, trivial⟩ (fun v81 Ms82 ho83 => (W.perm (pmC pr9).symm ?_))))
   have q87 := ho83.form
   refine match q87 with | ⟨sa84, sc85, e_86⟩ => ?_
   subst e_86
   refine W.nn (WD.a1 4 rfl (W.giveO ho83 (pmC pr9) (fun G88 hG88 hv88 => (W.app (e := eMsg) sl51 ty90 zr90 rfl by90 rfl rfl ((ho76.mono hG88)) (hv88) (pmC pr9) (by show (List.length _ + List.length _) * 72 ≤ _; simp; omega) (fun v89 Ms90 ho91 => (W.perm (pmC pr9).symm ?_))))))
   have q95 := ho91.form
   refine match q95 with | ⟨sa92, sc93, e_94⟩ => ?_
   subst e_94
   refine W.nn (d9 [5, 6] ?_)
   refine g9 2 ?_
   refine WC.giveO ho91 (pmC pr9) (fun G96 hG96 hv96 => (g9 2 ?_))
   refine ⟨rfl, _, (addN_t (room_iff.2 ⟨q11, fun h => by dsimp only; omega⟩)).symm, _, rfl, ?_⟩
   · exact hv96
  refine W.litO (e := eMsg) (l := [(⟨ms, mk, mkey, mhi, mo, mv⟩ : Msg)]) (css := [[iV _, iV _, sV _, sV _, .bool _, sV _]]) sl51 ty90 zr90 rfl rfl rfl rfl rfl rfl ⟨⟨rfl, hmi⟩, trivial⟩ (fun v97 Ms98 ho99 => (W.perm (pmC pr9).symm ?_))
  have q103 := ho99.form
  refine match q103 with | ⟨sa100, sc101, e_102⟩ => ?_
  subst e_102
  refine W.nn (WD.a1 1 rfl (W.call (Mp := []) (clonemo9_fc h_l) rfl pr9 ?_))
  rintro v105 G104 Ms106 hG104 ho107
  refine W.perm (pmC pr9).symm ?_
  have q111 := ho107.form
  refine match q111 with | ⟨sa108, sc109, e_110⟩ => ?_
  subst e_110
  refine W.nn (WD.a1 4 rfl (W.giveO (ho99.mono hG104) (pmC (pmA pr9)) (fun G112 hG112 hv112 => (W.app (e := eMsg) sl51 ty90 zr90 rfl by90 rfl rfl ((ho107.mono hG112)) (hv112) (pmC pr9) (by show (List.length _ + List.length _) * 72 ≤ _; simp; omega) (fun v113 Ms114 ho115 => (W.perm (pmC pr9).symm ?_))))))
  have q119 := ho115.form
  refine match q119 with | ⟨sa116, sc117, e_118⟩ => ?_
  subst e_118
  refine W.nn (d9 [5, 6] ?_)
  refine g9 2 ?_
  refine WC.giveO ho115 (pmC pr9) (fun G120 hG120 hv120 => (g9 2 ?_))
  refine ⟨rfl, _, (addN_t (room_iff.2 ⟨q11, fun h => by dsimp only; omega⟩)).symm, _, rfl, ?_⟩
  · exact hv120
 refine g9 19 ?_
 refine WC.dw sr9.k9 (d9 [0, 2] ?_)
 refine WD.any [1, 3] (by kernel_rfl) rfl ⟨WD.ap ?_, WD.ap ?_, trivial⟩
 ·refine W.call (Mp := []) (clonemo9_fc h_l) rfl pr9 ?_
  rintro v122 G121 Ms123 hG121 ho124
  refine W.perm (pmC pr9).symm ?_
  have q128 := ho124.form
  refine match q128 with | ⟨sa125, sc126, e_127⟩ => ?_
  subst e_127
  refine W.nn (WD.a1 3 rfl (W.litO (e := eMsg) (l := [(⟨ms, mk, mkey, mhi, mo, mv⟩ : Msg)]) (css := [[iV _, iV _, sV _, sV _, .bool _, sV _]]) sl51 ty90 zr90 rfl rfl rfl rfl rfl rfl ⟨⟨rfl, hmi⟩, trivial⟩ (fun v129 Ms130 ho131 => (W.perm (pmC pr9).symm ?_))))
  have q135 := ho131.form
  refine match q135 with | ⟨sa132, sc133, e_134⟩ => ?_
  subst e_134
  refine W.nn (WD.a1 4 rfl (W.giveO ho131 (pmC pr9) (fun G136 hG136 hv136 => (W.app (e := eMsg) sl51 ty90 zr90 rfl by90 rfl rfl ((ho124.mono hG136)) (hv136) (pmC pr9) (by show (List.length _ + List.length _) * 72 ≤ _; simp; omega) (fun v137 Ms138 ho139 => (W.perm (pmC pr9).symm ?_))))))
  have q143 := ho139.form
  refine match q143 with | ⟨sa140, sc141, e_142⟩ => ?_
  subst e_142
  refine W.nn (d9 [5, 6] ?_)
  refine g9 2 ?_
  refine WC.giveO ho139 (pmC pr9) (fun G144 hG144 hv144 => (g9 2 ?_))
  refine ⟨rfl, _, (addN_t (room_iff.2 ⟨q11, fun h => by omega⟩)).symm, _, rfl, ?_⟩
  · exact hv144
 refine W.litO (e := eMsg) (l := [(⟨ms, mk, mkey, mhi, mo, mv⟩ : Msg)]) (css := [[iV _, iV _, sV _, sV _, .bool _, sV _]]) sl51 ty90 zr90 rfl rfl rfl rfl rfl rfl ⟨⟨rfl, hmi⟩, trivial⟩ (fun v145 Ms146 ho147 => (W.perm (pmC pr9).symm ?_))
 have q151 := ho147.form
 refine match q151 with | ⟨sa148, sc149, e_150⟩ => ?_
 subst e_150
 refine W.nn (WD.a1 1 rfl (W.call (Mp := []) (clonemo9_fc h_l) rfl pr9 ?_))
 rintro v153 G152 Ms154 hG152 ho155
 refine W.perm (pmC pr9).symm ?_
 have q159 := ho155.form
 refine match q159 with | ⟨sa156, sc157, e_158⟩ => ?_
 subst e_158
 refine W.nn (WD.a1 4 rfl (W.giveO (ho147.mono hG152) (pmC (pmA pr9)) (fun G160 hG160 hv160 => (W.app (e := eMsg) sl51 ty90 zr90 rfl by90 rfl rfl ((ho155.mono hG160)) (hv160) (pmC pr9) (by show (List.length _ + List.length _) * 72 ≤ _; simp; omega) (fun v161 Ms162 ho163 => (W.perm (pmC pr9).symm ?_))))))
 have q167 := ho163.form
 refine match q167 with | ⟨sa164, sc165, e_166⟩ => ?_
 subst e_166
 refine W.nn (d9 [5, 6] ?_)
 refine g9 2 ?_
 refine WC.giveO ho163 (pmC pr9) (fun G168 hG168 hv168 => (g9 2 ?_))
 refine ⟨rfl, _, (addN_t (room_iff.2 ⟨q11, fun h => by omega⟩)).symm, _, rfl, ?_⟩
 · exact hv168

end Go.Proofs.YtfmigmijckdldaaGreat
