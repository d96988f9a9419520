/- A seat in two: what its halves are, what lies below them, and what they stand for. Plain Lean; nothing of the program is named here. No condition. -/
import Derived.Test.YtemoalimclnfkaaGreatQjNr
set_option linter.unusedVariables false
set_option linter.unusedSimpArgs false
set_option linter.unnecessarySimpa false

namespace Go.Fw
open Go Go.RowKit
theorem route_app (A B : List Str) (q : Str) : routeN (A ++ B) q = routeN A q + routeN B q := by
 unfold routeN
 rw [List.filter_append, List.length_append]
theorem route_cut (P : List Str) (h : Nat) (q : Str) : routeN P q = routeN (P.take h) q + routeN (P.drop h) q := by
 rw [← route_app, List.take_append_drop]
theorem route_ins (P : List Str) (i : Nat) (k q : Str) : routeN ((P.take i ++ [k]) ++ P.drop i) q = routeN P q + if q.lt k = true then 0 else 1 := by
 have e : routeN [k] q = if q.lt k = true then 0 else 1 := by
  unfold routeN
  cases h : q.lt k <;> simp [List.filter_cons, h]
 rw [route_app, route_app, e, route_cut P i]
 omega
theorem route_left {P : List Str} (hr : rising P = true) {h : Nat} (hh : h < P.length) {q : Str} (hq : q.lt P[h] = true) : routeN (P.take h) q = routeN P q := by
 have e : routeN (P.drop h) q = 0 := by
  unfold routeN
  rw [List.length_eq_zero_iff, List.filter_eq_nil_iff]
  intro x hx
  obtain ⟨j, hj, rfl⟩ := List.getElem_of_mem hx
  rw [List.getElem_drop]
  rw [List.length_drop] at hj
  by_cases h0 : j = 0
  ·subst h0; simp [hq]
  ·simp [Str.lt_trans hq (rising_lt hr (h + j) h om9 om9)]
 rw [route_cut P h, e]; omega
theorem route_right {P : List Str} (hr : rising P = true) {h : Nat} (hh : h < P.length) {q : Str} (hq : q.lt P[h] = false) : routeN P q = (h + 1) + routeN (P.drop (h + 1)) q := by
 have e : routeN (P.take (h + 1)) q = h + 1 := by
  unfold routeN
  rw [List.filter_eq_self.2]
  ·rw [List.length_take]; omega
  ·intro x hx
   obtain ⟨j, hj, rfl⟩ := List.getElem_of_mem hx
   rw [List.getElem_take]
   rw [List.length_take] at hj
   cases h2 : q.lt P[j]
   ·rfl
   ·exfalso
    by_cases h0 : j = h
    ·subst h0; rw [hq] at h2; cases h2
    ·have := Str.lt_trans h2 (rising_lt hr h j om9 om9); rw [hq] at this; cases this
 rw [route_cut P (h + 1), e]
theorem getD_take {K : List Int} {h j : Nat} (hj : j < h) : (K.take h).getD j 0 = K.getD j 0 := by
 rw [List.getD_eq_getElem?_getD, List.getD_eq_getElem?_getD, List.getElem?_take, if_pos hj]
theorem getD_drop {K : List Int} {h j : Nat} : (K.drop h).getD j 0 = K.getD (h + j) 0 := by
 rw [List.getD_eq_getElem?_getD, List.getD_eq_getElem?_getD, List.getElem?_drop]
theorem kids_mk {l : List Nd} {x : Seat} (h0 : 0 < x.n.level) (h2 : rightN x.n.pivots x.n.kids.length = true) (h : ∀ j, j < x.n.kids.length → kidOk l x j = true) : (kidsO l x).isSome = true ∧ kidsD l x = kidsF l x x.n.kids.length := by
 have e := kidsO_t om9 om9 h2 h
 unfold kidsD
 rw [e]; exact ⟨rfl, rfl⟩
theorem kidOk_ext {l l' : List Nd} {x y : Seat} {i j : Nat} (hn : findN l (x.n.kids.getD i 0) = findN l' (y.n.kids.getD j 0)) (hl : x.n.level = y.n.level) : kidOk l x i = kidOk l' y j := by
 unfold kidOk; rw [hn, hl]
variable {l l' : List Nd} {K A : Seat}
theorem left_kids (hK : (kidsO l K).isSome = true) (h0 : ¬ K.n.level = 0) {h : Nat} (hh : h < K.n.pivots.length)
  (ep : A.n.pivots = K.n.pivots.take h) (ek : A.n.kids = K.n.kids.take (h + 1)) (el : A.n.level = K.n.level) (hs : ∀ q, A.s.has q = (K.s.has q && q.lt K.n.pivots[h]))
  (hm : ∀ s : Span, (∀ q, s.has q = true → A.s.has q = true) → mergeN [clips s A.n.msgs, clips s A.ms] = mergeN [clips s K.n.msgs, clips s K.ms])
  (hf : ∀ j, j < K.n.kids.length → findN l' (K.n.kids.getD j 0) = findN l (K.n.kids.getD j 0)) :
  (kidsO l' A).isSome = true ∧ kidsD l' A = (kidsD l K).take (h + 1) := by
 obtain ⟨h1, h2, h3, h4⟩ := kids_all hK h0
 obtain ⟨hr, hc⟩ := rightN_spec h3
 have hkl : A.n.kids.length = h + 1 := by rw [ek, List.length_take]; omega
 have hra : rising A.n.pivots = true := by rw [ep]; exact rising_take hr _
 have hpl : A.n.pivots.length = h := by rw [ep, List.length_take]; omega
 have hg : ∀ j, j < h + 1 → A.n.kids.getD j 0 = K.n.kids.getD j 0 := fun j hj => by rw [ek, getD_take hj]
 obtain ⟨g1, g2⟩ := kids_mk (l := l') (x := A) om9 (rightN_of hra om9) fun j hj => by
  rw [kidOk_ext (l' := l) (y := K) (j := j) (by rw [hg j om9, hf j om9]) el]
  exact h4 j om9
 refine ⟨g1, ?_⟩
 rw [g2, h1, hkl]
 unfold kidsF
 rw [← List.map_take, List.take_range, show min (h + 1) K.n.kids.length = h + 1 by omega]
 refine List.map_congr_left fun j hj => ?_
 have hj := List.mem_range.1 hj
 refine kidSt_ext (by rw [hg j hj, hf j om9]) (fun q => ?_) fun s hse => hm s fun q hq => ?_
 ·rw [meet_has, meet_has, range_has hra q om9, range_has hr q om9, hs q, ep]
  cases hk : q.lt K.n.pivots[h]
  ·have := route_right hr hh hk
   rw [decide_eq_false (show ¬ j = routeN K.n.pivots q by omega)]; simp
  ·rw [route_left hr hh hk]; simp
 ·rw [hse, meet_has, Bool.and_eq_true] at hq
  exact hq.1
theorem right_kids (hK : (kidsO l K).isSome = true) (h0 : ¬ K.n.level = 0) {h : Nat} (hh : h < K.n.pivots.length)
  (ep : A.n.pivots = K.n.pivots.drop (h + 1)) (ek : A.n.kids = K.n.kids.drop (h + 1)) (el : A.n.level = K.n.level) (hs : ∀ q, A.s.has q = (K.s.has q && !q.lt K.n.pivots[h]))
  (hm : ∀ s : Span, (∀ q, s.has q = true → A.s.has q = true) → mergeN [clips s A.n.msgs, clips s A.ms] = mergeN [clips s K.n.msgs, clips s K.ms])
  (hf : ∀ j, j < K.n.kids.length → findN l' (K.n.kids.getD j 0) = findN l (K.n.kids.getD j 0)) :
  (kidsO l' A).isSome = true ∧ kidsD l' A = (kidsD l K).drop (h + 1) := by
 obtain ⟨h1, h2, h3, h4⟩ := kids_all hK h0
 obtain ⟨hr, hc⟩ := rightN_spec h3
 have hkl : A.n.kids.length = K.n.kids.length - (h + 1) := by rw [ek, List.length_drop]
 have hra : rising A.n.pivots = true := by rw [ep]; exact rising_drop hr _
 have hpl : A.n.pivots.length = K.n.pivots.length - (h + 1) := by rw [ep, List.length_drop]
 have hg : ∀ j, A.n.kids.getD j 0 = K.n.kids.getD (h + 1 + j) 0 := fun j => by rw [ek, getD_drop]
 obtain ⟨g1, g2⟩ := kids_mk (l := l') (x := A) om9 (rightN_of hra om9) fun j hj => by
  rw [kidOk_ext (l' := l) (y := K) (j := h + 1 + j) (by rw [hg j, hf _ om9]) el]
  exact h4 _ om9
 refine ⟨g1, ?_⟩
 rw [g2, h1, hkl]
 refine List.ext_getElem (by simp [kidsF]) fun j hj hj2 => ?_
 have hj : j < K.n.kids.length - (h + 1) := by simpa [kidsF] using hj
 rw [List.getElem_drop]
 simp only [kidsF, List.getElem_map, List.getElem_range]
 refine kidSt_ext (by rw [hg j, hf _ om9]) (fun q => ?_) fun s hse => hm s fun q hq => ?_
 ·rw [meet_has, meet_has, range_has hra q om9, range_has hr q om9, hs q, ep]
  cases hk : q.lt K.n.pivots[h]
  ·have := route_right hr hh hk
   rw [this]
   simp
  ·have h5 := route_left hr hh hk
   have h6 : routeN (K.n.pivots.take h) q ≤ h := routeN_take_le _ _ _
   rw [decide_eq_false (show ¬ h + 1 + j = routeN K.n.pivots q by omega)]; simp
 ·rw [hse, meet_has, Bool.and_eq_true] at hq
  exact hq.1
theorem lo_in {s : Span} (h : s.empty = false) : s.has s.lo = true := by
 have := Span.empty_eq s
 rw [h] at this
 simpa using this
theorem span_has {s : Span} {q : Str} : s.has q = true ↔ q.lt s.lo = false ∧ (s.opn = true ∨ q.lt s.hi = true) := by
 unfold Span.has
 simp
theorem norm_cases {s : Span} (h : s.norm = s) (he : s.empty = false) : s.opn = true → s.hi = Str.nil := fun ho => by
 unfold Span.norm at h
 rw [if_neg (by simp [he]), if_pos ho] at h
 rw [← h]
theorem left_span {s a : Span} {k : Str} (hs : s.norm = s) (ha : a.norm = a) (hk : s.has k = true) (hk2 : k ≠ s.lo) (h : ∀ q, a.has q = (s.has q && q.lt k)) : a = ⟨s.lo, k, false⟩ ∧ s.lo.lt k = true := by
 have h1 := span_has.1 hk
 have h2 : s.lo.lt k = true := by
  cases e : s.lo.lt k
  ·exact absurd (Str.lt_total h1.1 e) hk2
  ·rfl
 refine ⟨?_, h2⟩
 rw [← ha, ← norm_id (s := ⟨s.lo, k, false⟩) (by simp [Span.empty, h2]) rfl]
 refine norm_ext fun q => ?_
 rw [h q, Bool.eq_iff_iff, Bool.and_eq_true, span_has, span_has]
 refine ⟨fun ⟨⟨g1, g2⟩, g3⟩ => ⟨g1, .inr g3⟩, fun ⟨g1, g2⟩ => ?_⟩
 have g2 : q.lt k = true := by rcases g2 with g | g; cases g; exact g
 refine ⟨⟨g1, ?_⟩, g2⟩
 rcases h1.2 with g | g
 ·exact .inl g
 ·exact .inr (Str.lt_trans g2 g)
theorem right_span {s a : Span} {k : Str} (hs : s.norm = s) (ha : a.norm = a) (hk : s.has k = true) (h : ∀ q, a.has q = (s.has q && !q.lt k)) : a = ⟨k, s.hi, s.opn⟩ := by
 have h1 := span_has.1 hk
 have he : (⟨k, s.hi, s.opn⟩ : Span).empty = false := by
  cases e : (⟨k, s.hi, s.opn⟩ : Span).empty
  ·rfl
  ·have := empty_iff.1 e k
   have h3 : (⟨k, s.hi, s.opn⟩ : Span).has k = true := span_has.2 ⟨Str.lt_irrefl k, h1.2⟩
   rw [h3] at this; cases this
 have hse : s.empty = false := by
  cases e : s.empty
  ·rfl
  ·have := empty_iff.1 e k; rw [hk] at this; cases this
 have hn : (⟨k, s.hi, s.opn⟩ : Span).norm = ⟨k, s.hi, s.opn⟩ := by
  unfold Span.norm
  rw [if_neg (by simp [he])]
  split
  ·rename_i ho
   rw [norm_cases hs hse ho]
  ·rfl
 rw [← ha, ← hn]
 refine norm_ext fun q => ?_
 rw [h q, Bool.eq_iff_iff, Bool.and_eq_true, span_has, span_has]
 refine ⟨fun ⟨⟨g1, g2⟩, g3⟩ => ⟨by simpa using g3, g2⟩, fun ⟨g1, g2⟩ => ⟨⟨?_, g2⟩, by simpa using g1⟩⟩
 have g1 : q.lt k = false := g1
 cases e : q.lt s.lo
 ·rfl
 ·have := Str.lt_of_lt_of_le e h1.1
  rw [g1] at this; cases this
theorem span_pt {m : Msg} (hm : m.R) (h4 : ¬ m.kind = 4) {q : Str} : m.span.has q = decide (q = m.key) := by
 unfold Msg.span
 rw [if_neg h4]
 exact point_has (by have := hm.1.2.1; omega)
theorem clip_in {m : Msg} {s : Span} (hm : m.R) (h : (m.clip s).2 = true) {q : Str} (hq : (m.clip s).1.span.has q = true) : m.span.has q = true ∧ s.has q = true := by
 by_cases h4 : m.kind = 4
 ·rw [clip_span h h4, meet_has, Bool.and_eq_true] at hq
  exact hq
 ·have e := (clip_of h)
  rw [e.2, if_neg h4] at hq
  refine ⟨hq, ?_⟩
  cases hs : s.has q
  ·exfalso
   have : (m.span.meet s).empty = true := empty_iff.2 fun p => by
    rw [meet_has, span_pt hm h4]
    by_cases ep : p = m.key
    ·rw [span_pt hm h4, decide_eq_true_eq] at hq
     rw [ep, ← hq, hs]; simp
    ·simp [ep]
   rw [this] at e
   exact absurd e.1 (by simp)
  ·rfl
theorem meet_sub {a s : Span} (h : ∀ q, a.has q = true → s.has q = true) : a.meet s = a.norm := by
 rw [← meet_norm]
 refine norm_ext fun q => ?_
 rw [meet_has]
 cases e : a.has q
 ·rfl
 ·rw [h q e]; rfl
theorem sub_meet {a s : Span} (h : a.meet s = a.norm) {q : Str} (hq : a.has q = true) : s.has q = true := by
 have h2 := meet_has a s q
 rw [h, norm_has, hq] at h2
 simpa using h2.symm
theorem view_halves {A B K : Seat} {k : Str} {h : Nat} (hP : PairsR K.n.rows) (hms : ∀ m ∈ K.ms, m.R) (ea : A.n.rows = K.n.rows.take h) (eb : B.n.rows = K.n.rows.drop h)
  (ha : ∀ q, A.s.has q = (K.s.has q && q.lt k)) (hb : ∀ q, B.s.has q = (K.s.has q && !q.lt k)) (h1 : ∀ i (hi : i < K.n.rows.length), i < h → K.n.rows[i].key.lt k = true) (h2 : ∀ i (hi : i < K.n.rows.length), h ≤ i → K.n.rows[i].key.lt k = false)
  (ma : clips A.s A.ms = clips A.s K.ms) (mb : clips B.s B.ms = clips B.s K.ms) : viewS A ++ viewS B = viewS K := by
 have hk : ∀ m ∈ K.ms, m.key.b.size < 140737488355328 := fun m hm => by have := (msgR_key (hms m hm)).1; omega
 have fa : (A.n.rows.filter fun p => A.s.has p.key) = K.n.rows.filter fun p => A.s.has p.key := by
  conv => rhs; rw [← List.take_append_drop h K.n.rows]
  rw [List.filter_append, ea, List.filter_eq_nil_iff (l := K.n.rows.drop h) |>.2 ?_, List.append_nil]
  intro p hp
  obtain ⟨i, hi, rfl⟩ := List.getElem_of_mem hp
  rw [List.length_drop] at hi
  rw [List.getElem_drop, ha, h2 _ om9 om9]; simp
 have fb : (B.n.rows.filter fun p => B.s.has p.key) = K.n.rows.filter fun p => B.s.has p.key := by
  conv => rhs; rw [← List.take_append_drop h K.n.rows]
  rw [List.filter_append, eb, List.filter_eq_nil_iff (l := K.n.rows.take h) |>.2 ?_, List.nil_append]
  intro p hp
  obtain ⟨i, hi, rfl⟩ := List.getElem_of_mem hp
  rw [List.length_take] at hi
  rw [List.getElem_take, hb, h1 _ om9 om9]; simp
 have hF := (hP.fold fun m hm => msgR_key (hms m hm)).srt (l := foldN K.n.rows K.ms)
 unfold viewS
 rw [fa, fb, ma, mb, view_fold hP.srt hk, view_fold hP.srt hk, view_fold hP.srt hk, filter_split hF K.s.has k]
 congr 1
 ·exact List.filter_congr fun p _ => ha _
 ·exact List.filter_congr fun p _ => hb _
def isW (m : Msg) : Bool := decide (m.kind = 4)
def frontN (l : List Msg) : List Msg := if idxN isW l = -1 then l else if idxN isW l = 0 then l.take 1 else l.take (idxN isW l).toNat
def forF (P : List Str) (i : Int) (m : Msg) : Option Msg := if ((routeN P m.key : Nat) : Int) = i ∧ (m.clip (rangeN P i)).2 = true then some (m.clip (rangeN P i)).1 else none
def forN (P : List Str) (l : List Msg) (i : Int) : List Msg := (frontN l).filterMap (forF P i)
def Msg.zero : Msg := ⟨0, 0, Str.nil, Str.nil, false, Str.nil⟩
def withoutN (m : Msg) (s : Span) : Msg × Bool := if s.opn = true then (Msg.zero, false) else m.clip ⟨s.hi, Str.nil, true⟩
def leftN (P : List Str) (i : Int) (T : List Msg) (m : Msg) : Option Msg :=
 if m.stamp ∈ T.map Msg.stamp then (if m.kind = 4 ∧ (withoutN m (rangeN P i)).2 = true then some (withoutN m (rangeN P i)).1 else none) else some m
def restN (P : List Str) (i : Int) (T : List Msg) (l : List Msg) : List Msg := l.filterMap (leftN P i T)
inductive Moved (P : List Str) (i : Nat) (l T : List Msg) : Prop
 | none (hT : T = []) : Moved P i l T
 | wipe (w : Msg) (R : List Msg) (hl : l = w :: R) (hk : w.kind = 4) (hr : routeN P w.key = i) (hc : (w.clip (rangeN P i)).2 = true) (hT : T = [(w.clip (rangeN P i)).1])
   (hA : restN P i T l = (if (withoutN w (rangeN P i)).2 = true then [(withoutN w (rangeN P i)).1] else []) ++ R) : Moved P i l T
 | points (F R : List Msg) (hl : l = F ++ R) (hF : ∀ m ∈ F, ¬ m.kind = 4) (hT : T = F.filter fun m => decide (routeN P m.key = i)) (hA : restN P i T l = (F.filter fun m => !decide (routeN P m.key = i)) ++ R) : Moved P i l T
section
variable {P : List Str} {i : Nat} {l T : List Msg} (hP : rising P = true) (hi : i ≤ P.length) (hm : MsgsR l) (h : Moved P i l T)
include hP hi hm h
end
variable {c : Cfg} {l : List Nd} {ss : List Seat}
def Wst (l : List Msg) : Prop := l.Pairwise fun a b => a.stamp ≤ b.stamp
theorem Rst.wst {l : List Msg} (h : Rst l) : Wst l := h.imp fun h => Int.le_of_lt h
theorem merge_wst : ∀ (n : Nat) (C : Ls), totN C = n → (∀ L ∈ C, Wst L) → Wst (mergeN C) := by
 intro n
 induction n with
 | zero =>
  intro C h _
  rcases best_or C with h1 | ⟨b, hb⟩
  ·rw [merge_nil h1]; exact List.Pairwise.nil
  ·have := totN_set hb; omega
 | succ n ih =>
  intro C h hC
  rcases best_or C with h1 | ⟨b, hb⟩
  ·rw [merge_nil h1]; exact List.Pairwise.nil
  ·rw [merge_step hb]
   refine List.pairwise_cons.2 ⟨fun m hm => ?_, ih _ (by have := totN_set hb; omega) ?_⟩
   ·have hm2 : m ∈ C.flatten := (flat_best hb).mem_iff.1 (List.mem_cons_of_mem _ ((merge_perm _ _ rfl).mem_iff.1 hm))
    obtain ⟨L, hL, hmL⟩ := List.mem_flatten.1 hm2
    obtain ⟨j, hj, rfl⟩ := List.getElem_of_mem hL
    obtain ⟨q, hq, rfl⟩ := List.getElem_of_mem hmL
    have h3 := (hb.min j hj om9).1
    rw [stN_at hb.ne, stN_at (show 0 < C[j].length by omega)] at h3
    have h4 : (C[j][0]'om9).stamp ≤ C[j][q].stamp := by
     by_cases e0 : q = 0
     ·subst e0; exact Int.le_refl _
     ·exact List.pairwise_iff_getElem.1 (hC _ (List.getElem_mem hj)) 0 q om9 hq om9
    omega
   ·intro L hL
    rcases List.mem_or_eq_of_mem_set hL with h | h
    ·exact hC _ h
    ·subst h; exact List.Pairwise.sublist (List.drop_sublist _ _) (hC _ (List.getElem_mem _))
theorem clips_wst {s : Span} {A : List Msg} (h : Wst A) : Wst (clips s A) := by
 unfold Wst clips
 rw [List.pairwise_filterMap]
 refine List.Pairwise.imp (fun {a b} hab x hx y hy => ?_) h
 split at hx
 ·split at hy
  ·rename_i h1 h2
   cases hx; cases hy
   rw [clip_stamp h1, clip_stamp h2]; exact hab
  ·cases hy
 ·cases hx
theorem wst_eq : ∀ {A B : List Msg}, Wst A → Rst B → A.Perm B → A = B
 | [], B, _, _, h => h.symm.eq_nil.symm ▸ rfl
 | a :: A, [], _, _, h => absurd h.length_eq (by simp)
 | a :: A, b :: B, ha, hb, h => by
  have h1 := List.pairwise_cons.1 ha
  have h2 := List.pairwise_cons.1 hb
  have e : a = b := by
   have m1 : a ∈ b :: B := h.mem_iff.1 (by simp)
   have m2 : b ∈ a :: A := h.mem_iff.2 (by simp)
   rcases List.mem_cons.1 m1 with e | m1
   ·exact e
   ·rcases List.mem_cons.1 m2 with e | m2
    ·exact e.symm
    ·have := h2.1 a m1; have := h1.1 b m2; omega
  subst e
  rw [wst_eq h1.2 h2.2 (List.Perm.cons_inv h)]
theorem on_clip {m : Msg} {s : Span} {k : Str} (hk : s.has k = true) : (m.clip s).2 = true → (m.clip s).1.on k = m.on k := fun h => by
 by_cases h4 : m.kind = 4
 ·have h5 := clip_span h h4
  have k2 : (m.clip s).1.kind = 4 := by rw [(clip_of h).2, if_pos h4]; exact h4
  unfold Msg.on
  rw [h5, meet_has, hk, Bool.and_true, k2, h4]; rfl
 ·rw [(clip_of h).2, if_neg h4]
theorem ons_clips {s : Span} {k : Str} (hk : s.has k = true) : ∀ (A : List Msg) (o : Option Str), (clips s A).foldl (fun o m => (m.on k).apply o) o = A.foldl (fun o m => (m.on k).apply o) o
 | [], o => rfl
 | m :: A, o => by
  rw [clips_cons, List.foldl_cons]
  cases h : (m.clip s).2
  ·rw [if_neg (by simp), ons_clips hk A]
   have := empty_iff.1 (clip_no.1 h) k
   rw [meet_has, hk, Bool.and_true] at this
   have e : m.on k = Eff.zero := by unfold Msg.on; rw [if_pos (.inl this)]
   rw [e]; rfl
  ·rw [if_pos rfl, List.foldl_cons, on_clip hk h, ons_clips hk A]
theorem ons_clips' {s : Span} {k : Str} (hk : s.has k = true) (A : List Msg) (o : Option Str) : (onsN (clips s A) k).apply o = (onsN A k).apply o := by
 rw [onsN_apply, onsN_apply, ons_clips hk]
def ptS (k : Str) : Span := ⟨k, k.next, false⟩
theorem pt_in {k : Str} (hk : k.b.size < 140737488355328) {s : Span} (h : s.has k = true) : ∀ q, (ptS k).has q = true → s.has q = true := fun q hq => by
 rw [show (ptS k).has q = decide (q = k) from point_has hk] at hq
 rw [of_decide_eq_true hq]; exact h
structure Gp (l : List Nd) (ss : List Seat) (k : Str) (x : Seat) (W : List Msg) : Prop where
 mem : x ∈ ss
 has : x.s.has k = true
 wst : Wst W
 eq : clips (ptS k) W = clips (ptS k) x.ms
 fit : ∀ m ∈ W, m.R
 len : W.length ≤ 1024 * ((rootS l 0).n.level - x.n.level).toNat
theorem Gp.next (t : Tree c l ss) {k : Str} (hk : k.b.size < 140737488355328) {x : Seat} {W : List Msg} (g : Gp l ss k x W) (h0 : ¬ x.n.level ≤ 0) : Gp l ss k (kidSt l x (routeN x.n.pivots k)) (mergeN [x.n.msgs, W]) := by
 have h3 := t.right g.mem h0
 have hj := t.route g.mem h0 k
 have ha := t.at g.mem om9 hj
 have hh : (kidSt l x (routeN x.n.pivots k)).s.has k = true := by rw [kidSt_has h3 hj, g.has]; simp
 have hp := merge_perm _ [x.n.msgs, W] rfl
 have hf : [x.n.msgs, W].flatten = x.n.msgs ++ W := by simp
 rw [hf] at hp
 obtain ⟨q1, q2, q3⟩ := t.msgs g.mem
 have hms := t.kid_ms g.mem (t.rst x g.mem) (routeN x.n.pivots k)
 refine ⟨ha.1, hh, merge_wst _ _ rfl ?_, ?_, fun m hm => ?_, ?_⟩
 ·intro L hL
  simp only [List.mem_cons, List.not_mem_nil, or_false] at hL
  rcases hL with rfl | rfl
  ·exact q1.wst
  ·exact g.wst
 ·have e1 : clips (ptS k) (kidSt l x (routeN x.n.pivots k)).ms = clips (ptS k) (x.n.msgs ++ W) := by
   rw [hms.1, clips_append, clips_append, clips_clips (pt_in hk hh), clips_clips (pt_in hk hh), g.eq]
  refine (wst_eq (clips_wst (merge_wst _ _ rfl ?_)) (clips_rst hms.2) ((clips_perm hp).trans (List.Perm.of_eq e1.symm)))
  intro L hL
  simp only [List.mem_cons, List.not_mem_nil, or_false] at hL
  rcases hL with rfl | rfl
  ·exact q1.wst
  ·exact g.wst
 ·rcases List.mem_append.1 (hp.mem_iff.1 hm) with h | h
  ·exact q2 m h
  ·exact g.fit m h
 ·have h1 := hp.length_eq
  rw [List.length_append] at h1
  have h2 := t.msgs_len g.mem
  have h4 := g.len
  have h5 := t.ms_small x g.mem
  have : ((rootS l 0).n.level - (kidSt l x (routeN x.n.pivots k)).n.level).toNat = ((rootS l 0).n.level - x.n.level).toNat + 1 := om9
  rw [this]; omega
theorem Gp.get (t : Tree c l ss) {k : Str} (hk : k.b.size < 140737488355328) {x : Seat} {W : List Msg} (g : Gp l ss k x W) (h0 : x.n.level = 0) : Eff.apply (onsN W k) (getN x.n.rows k) = getN (mapN l) k := by
 have e := t.leaf_eq g.mem g.has h0
 rw [← t.lookup k, ← e]
 have h : (ptS k).has k = true := (point_has hk).trans (decide_eq_true rfl)
 rw [← ons_clips' h W, ← ons_clips' h x.ms, g.eq]
def WayC (G : GH) (cs : List Value) (s : Span) (ms : List Msg) : Prop := ∃ v, cs = [.string s.lo.b, .string s.hi.b, .bool s.opn, v] ∧ SlR eMsg G v ms
theorem WayC.mono {G G' : GH} {cs : List Value} {s : Span} {ms : List Msg} (hl : Le G G') (h : WayC G cs s ms) : WayC G' cs s ms := by
 obtain ⟨v, h1, h2⟩ := h
 exact ⟨v, h1, h2.mono hl⟩
section
variable {α : Type} {E : Env} {f : Fr} {G : GH} {M Mk Ms Mr : MH} {ops rest : List Oper} {q : Bool} {K : Kt} {d : Nat} {ty : TypeId} {pos : String} {aft : Array Edge} {t et : TypeId} {x y kk : Operand} {b : Nat} {k : Int} {m : List (Int × α)} {V : VEnc α}
end
def roomB (bud : Int) (ms : List Msg) (m : Msg) : Bool := decide (m.size ≤ bud - sizesN ms) && (ms.getLast?.all fun x => decide (x.stamp < m.stamp))
def addsN (bud : Int) : List Msg → List Msg → Nat
 | _, [] => 0
 | ms, m :: l => if roomB bud ms m = true then addsN bud (ms ++ [m]) l + 1 else 0
def movedN (leaf bud : Int) (k : Nd) (l : List Msg) : Nd × Nat :=
 if k.level = 0 then ({ k with rows := (drainN leaf k.rows l).1 }, (drainN leaf k.rows l).2) else ({ k with msgs := k.msgs ++ l.take (addsN bud k.msgs l) }, addsN bud k.msgs l)
def KidOf (p k : Nd) (i : Int) : Prop := 1 ≤ p.level ∧ k.level = p.level - 1 ∧ 0 ≤ i ∧ i < (p.kids.length : Int)
instance (p k : Nd) (i : Int) : Decidable (KidOf p k i) := by unfold KidOf; infer_instance
noncomputable def countN (leaf bud : Int) (p k : Nd) (i : Int) : Nat := if KidOf p k i then (movedN leaf bud k (forN p.pivots p.msgs i)).2 else 0
noncomputable def pourN (leaf bud : Int) (p k : Nd) (i : Int) : Nd × Nd × Nat :=
 if countN leaf bud p k i = 0 then (p, k, 0)
 else ({ p with msgs := restN p.pivots i ((forN p.pivots p.msgs i).take (countN leaf bud p k i)) p.msgs },
  { (movedN leaf bud k (forN p.pivots p.msgs i)).1 with seen := (((forN p.pivots p.msgs i).take (countN leaf bud p k i)).getLast?.getD Msg.zero).stamp }, countN leaf bud p k i)
def Nd.spanN (n : Nd) : Span := if n.top = true then Span.all else Span.norm ⟨Str.nil, n.high, false⟩
def kidS (p : Nd) (i : Int) : Span := p.spanN.meet (rangeN p.pivots i)
def MayP (c : Cfg) (p k : Nd) (i : Int) : Prop := (p.R c.fan c.leaf c.bud ∧ k.R c.fan c.leaf c.bud ∧ KidOf p k i) ∧ (k.top = (kidS p i).opn ∧ k.high = (kidS p i).hi) ∧ ∀ j (h : j < p.msgs.length), (p.msgs[j].span.meet (kidS p i)).empty = false → k.seen < p.msgs[j].stamp
instance (c : Cfg) (p k : Nd) (i : Int) : Decidable (MayP c p k i) := by unfold MayP; infer_instance
structure Poured (c : Cfg) (p k : Nd) (i : Int) (a b : Nd) (T : List Msg) : Prop where
 ne : 0 < T.length
 ea : a = { p with msgs := restN p.pivots i T p.msgs }
 eb : b = { k with rows := b.rows, msgs := b.msgs, seen := b.seen }
 leaf : k.level = 0 → b.msgs = k.msgs ∧ b.rows = foldN k.rows T ∧ (PairsR k.rows → (∀ m ∈ forN p.pivots p.msgs i, m.R) → (k.rows.length : Int) ≤ c.leaf → (b.rows.length : Int) ≤ c.leaf)
 inner : ¬ k.level = 0 → b.rows = k.rows ∧ b.msgs = k.msgs ++ T ∧ (sizesN k.msgs ≤ c.bud → sizesN b.msgs ≤ c.bud)
 seen : b.seen = (T.getLast?.getD Msg.zero).stamp
 take : ∃ n, 0 < n ∧ n ≤ (forN p.pivots p.msgs i).length ∧ T = (forN p.pivots p.msgs i).take n
structure Takes (c : Cfg) (p k : Nd) (i : Int) (T : List Msg) : Prop where
 R : ∀ m ∈ T, m.R
 up : ∀ m ∈ T, k.seen < m.stamp
 sp : ∀ m ∈ T, ∀ q, m.span.has q = true → (kidS p i).has q = true
 rst : Rst T
 late : ∀ m ∈ restN p.pivots i T p.msgs, (m.span.meet (kidS p i)).empty = false → ∀ x ∈ T, x.stamp < m.stamp
 clip : clips (kidS p i) p.msgs = T ++ clips (kidS p i) (restN p.pivots i T p.msgs)
def addN (bud : Int) (ms : List Msg) (m : Msg) : List Msg × Bool := if roomB bud ms m = true then (ms ++ [m], true) else ([], false)
theorem adds_next {bud : Int} {ms l : List Msg} {k : Nat} (hk : k < l.length) (h : roomB bud ms l[k] = true) : addsN bud ms (l.drop k) = addsN bud (ms ++ [l[k]]) (l.drop (k + 1)) + 1 := by
 rw [List.drop_eq_getElem_cons hk]
 conv => lhs; unfold addsN
 rw [if_pos h]
def AddsAt (bud : Int) (ms l : List Msg) (k : Nat) : Prop := addsN bud ms l = k + addsN bud (ms ++ l.take k) (l.drop k)
theorem AddsAt.zero (bud : Int) (ms l : List Msg) : AddsAt bud ms l 0 := by unfold AddsAt; simp
theorem AddsAt.succ {bud : Int} {ms l : List Msg} {k : Nat} (h : AddsAt bud ms l k) (hk : k < l.length) (hr : roomB bud (ms ++ l.take k) l[k] = true) : AddsAt bud ms l (k + 1) := by
 unfold AddsAt at h ⊢
 rw [h, adds_next hk hr, List.take_succ_eq_append_getElem hk, List.append_assoc]
 omega
theorem AddsAt.all {bud : Int} {ms l : List Msg} {k : Nat} (h : AddsAt bud ms l k) (hk : l.length ≤ k) : addsN bud ms l = k := by
 unfold AddsAt at h
 rw [h, List.drop_eq_nil_of_le hk]
 rfl
def goneN (T : List Msg) : List (Int × Bool) := T.foldl (fun m x => putM m x.stamp true) []
def someN (l : List Str) : List Str := Str.nil :: l.flatMap fun a => [a, a.next]
def Eff.D (e : Eff) : Prop := e.kind = 3 → e.val = Str.nil
def NmR (TN tm : TypeId) (b : Nat) (G : GH) (n : Nd) (M : MH) : Prop :=
 ∃ (pa : Option Addr) (pc : Nat) (ka : Option Addr) (kc : Nat) (vm : Value) (ra : Option Addr) (rc : Nat) (Mm : MH),
  M = (b, .cells (List.toArray [.int .i64 n.slot, .int .i64 n.level, .slice pa n.pivots.length pc, .slice ka n.kids.length kc, .string n.high.b, .bool n.top, .int .i64 n.right, .int .i64 n.seen, vm, .slice ra n.rows.length rc]) TN (0, 0)) :: Mm ∧
  SlR eStr G (.slice pa n.pivots.length pc) n.pivots ∧ SlR eInt G (.slice ka n.kids.length kc) n.kids ∧ OwnR eMsg tm G vm n.msgs Mm ∧ SlR ePair G (.slice ra n.rows.length rc) n.rows ∧ n.Ok
theorem NmR.mono {TN tm : TypeId} {b : Nat} {G G' : GH} {n : Nd} {M : MH} (hl : Le G G') (h : NmR TN tm b G n M) : NmR TN tm b G' n M := by
 obtain ⟨pa, pc, ka, kc, vm, ra, rc, Mm, h1, h2, h3, h4, h5, h6⟩ := h
 exact ⟨pa, pc, ka, kc, vm, ra, rc, Mm, h1, h2.mono hl, h3.mono hl, h4.mono hl, h5.mono hl, h6⟩
theorem NmR.cast {TN tm : TypeId} {b : Nat} {G : GH} {n n' : Nd} {M : MH} (h : NmR TN tm b G n M) (e : n = n') : NmR TN tm b G n' M := e ▸ h
structure PourPre (cb : Int) (p k : Nd) : Prop where
 hb : 0 ≤ cb ∧ cb ≤ 9223372036854775807
 hr : rising p.pivots = true
 hpv : ∀ q ∈ p.pivots, q.b.size ≤ 16
 hpm : ∀ m ∈ p.msgs, m.R
 hkm : ∀ m ∈ k.msgs, m.key.b.size ≤ 16 ∧ m.val.b.size ≤ 16
 hkr : PairsR k.rows
 hsz : k.msgs.length + p.msgs.length ≤ 100000 ∧ k.rows.length ≤ 100000
end Go.Fw
