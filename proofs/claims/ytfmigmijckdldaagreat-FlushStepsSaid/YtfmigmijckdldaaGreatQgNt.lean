/- What makes seats a tree's. Plain Lean; nothing of the program is named here. No condition. -/
import Derived.Test.YtfmigmijckdldaaGreatQgNl
set_option linter.unusedVariables false
set_option linter.unusedSimpArgs false
set_option linter.unnecessarySimpa false

namespace Go.Fw
open Go Go.RowKit
theorem kidsD_some {l : List Nd} {x : Seat} (h : (kidsO l x).isSome = true) : kidsO l x = some (kidsD l x) := by
 unfold kidsD
 cases e : kidsO l x with
 | none => rw [e] at h; cases h
 | some y => rfl
theorem kids_low {l : List Nd} {x y : Seat} (h : (kidsO l x).isSome = true) (hy : y ∈ kidsD l x) : y.n.level < x.n.level := by
 by_cases h0 : x.n.level = 0
 ·rw [kids_leaf h0] at hy; cases hy
 ·obtain ⟨h1, h2, h3, h4⟩ := kids_all h h0
  rw [h1] at hy
  obtain ⟨j, hj, rfl⟩ := List.mem_map.1 hy
  have := h4 j (List.mem_range.1 hj)
  unfold kidOk at this
  rw [Bool.and_eq_true, decide_eq_true_eq] at this
  have e : (kidSt l x j).n.level = x.n.level - 1 := this.2
  omega
theorem seats_of {l : List Nd} {root : Int} {T : List Seat} (h1 : (findN l root).2 = true) (h2 : T = rootS l root :: T.flatMap (kidsD l)) (h3 : ∀ x ∈ T, (kidsO l x).isSome = true) (h4 : T.length ≤ l.length) : seatsN l root = some T := by
 have key : ∀ (d i f : Nat), i + d = T.length → d < f → i ≤ (rootS l root :: (T.take i).flatMap (kidsD l)).length → seatsF l f i (rootS l root :: (T.take i).flatMap (kidsD l)) = some T := by
  intro d
  induction d with
  | zero =>
   intro i f hi hf hl
   rw [List.take_of_length_le (by omega), ← h2]
   obtain ⟨f, rfl⟩ : ∃ q, f = q + 1 := ⟨f - 1, by omega⟩
   exact seatsF_done (by omega)
  | succ d ih =>
   intro i f hi hf hl
   obtain ⟨f, rfl⟩ : ∃ q, f = q + 1 := ⟨f - 1, by omega⟩
   have hT : T = (rootS l root :: (T.take i).flatMap (kidsD l)) ++ (T.drop i).flatMap (kidsD l) := by
    rw [List.cons_append, ← List.flatMap_append, List.take_append_drop]; exact h2
   obtain ⟨O, hO⟩ : ∃ O, O = rootS l root :: (T.take i).flatMap (kidsD l) := ⟨_, rfl⟩
   rw [← hO] at hl hT ⊢
   have hTl := congrArg List.length hT
   rw [List.length_append] at hTl
   by_cases hlt : i < O.length
   ·have e : O[i] = T[i]'(by omega) := by
     have h5 := List.getElem_of_eq hT (show i < T.length by omega)
     rw [h5, List.getElem_append_left hlt]
    have hk : kidsO l O[i] = some (kidsD l (T[i]'(by omega))) := by rw [e]; exact kidsD_some (h3 _ (List.getElem_mem _))
    rw [seatsF_some hlt (by omega) hk]
    have e2 : O ++ kidsD l (T[i]'(by omega)) = rootS l root :: (T.take (i + 1)).flatMap (kidsD l) := by
     rw [hO, List.take_succ_eq_append_getElem (by omega), List.flatMap_append]; simp
    rw [e2]
    exact ih (i + 1) f (by omega) (by omega) (by rw [← e2, List.length_append]; omega)
   ·exfalso
    have hd : T.drop i = (T.drop i).flatMap (kidsD l) := by
     have h5 := congrArg (List.drop i) hT
     rw [List.drop_append, List.drop_of_length_le (l := O) (by omega), List.nil_append, show i - O.length = 0 by omega, List.drop_zero] at h5
     exact h5
    have h6 := fix_nil2 hd fun x hx y hy => kids_low (h3 x (List.mem_of_mem_drop hx)) hy
    have h7 := congrArg List.length h6
    rw [List.length_drop] at h7
    simp at h7
    omega
 unfold seatsN
 rw [if_pos h1]
 have := key T.length 0 (l.length + 2) (by omega) (by omega) (Nat.zero_le _)
 simpa using this
abbrev Key9 := Int × Int × Int
def Seat.key (x : Seat) : Key9 := (x.n.slot, x.n.level, x.n.right)
def LkK : List Key9 → Prop
 | [] => True
 | [x] => x.2.2 = -1
 | x :: y :: T => x.2.2 = (if y.2.1 = x.2.1 then y.1 else -1) ∧ LkK (y :: T)
theorem want_succ (x : Seat) (L : List Seat) (i : Nat) : wantN (x :: L) (i + 1) = wantN L i := by
 unfold wantN
 simp
theorem linked_iff : ∀ ss, LinkedP ss ↔ LkK (ss.map Seat.key)
 | [] => ⟨fun _ => trivial, fun _ i h => absurd h (Nat.not_lt_zero _)⟩
 | [x] => by
  constructor
  ·intro h
   have := h 0 (by simp)
   rw [wantN_f (by simp)] at this
   exact this
  ·intro h i hi
   have : i = 0 := by simp at hi; exact hi
   subst this
   rw [wantN_f (by simp)]
   exact h
 | x :: y :: T => by
  have ih := linked_iff (y :: T)
  have e : wantN (x :: y :: T) 0 = if y.n.level = x.n.level then y.n.slot else -1 := by
   unfold wantN
   simp
  constructor
  ·intro h
   refine ⟨?_, ih.1 fun i hi => ?_⟩
   ·have := h 0 (by simp)
    rw [e] at this
    exact this
   ·have := h (i + 1) (by simpa using hi)
    rw [want_succ] at this
    exact this
  ·intro h i hi
   cases i with
   | zero => rw [e]; exact h.1
   | succ i => rw [want_succ]; exact ih.2 h.2 i (by simpa using hi)
theorem lk_part {s v r y : Int} : ∀ (P S : List Key9), LkK (P ++ (s, v, r) :: S) → LkK (P ++ (s, v, y) :: (y, v, r) :: S)
 | [], [], h => ⟨(if_pos rfl).symm, h⟩
 | [], q :: S, h => ⟨(if_pos rfl).symm, h.1, h.2⟩
 | [p], S, h => by
  have h : p.2.2 = (if v = p.2.1 then s else -1) ∧ LkK ([] ++ (s, v, r) :: S) := h
  exact ⟨h.1, lk_part [] S h.2⟩
 | p :: q :: P, S, h => by
  have h : p.2.2 = (if q.2.1 = p.2.1 then q.1 else -1) ∧ LkK ((q :: P) ++ (s, v, r) :: S) := h
  exact ⟨h.1, lk_part (q :: P) S h.2⟩
theorem lk_head {s s' v r : Int} : ∀ (S : List Key9), LkK ((s, v, r) :: S) → LkK ((s', v, r) :: S)
 | [], h => h
 | q :: S, h => ⟨h.1, h.2⟩
theorem lk_lift {s v x y : Int} {S : List Key9} (h : LkK ((s, v, -1) :: S)) : LkK ((s, v + 1, -1) :: (x, v, y) :: (y, v, -1) :: S) :=
 ⟨(if_neg (by show ¬ v = v + 1; omega)).symm, (if_pos rfl).symm, lk_head S h⟩
theorem once_of {l : List Nd} {T : List Seat} (hs : SlotsP l) (hp : (T.map fun x : Seat => x.n.slot).Perm (l.map fun n : Nd => n.slot)) : OnceP l T := by
 refine ⟨by simpa using hp.length_eq.symm, fun i h => ?_⟩
 have h1 := (List.Perm.filter (fun q : Int => decide (q = l[i].slot)) hp).length_eq
 rw [filter_map9, filter_map9, List.length_map, List.length_map] at h1
 have h2 : (l.filter fun n => decide (n.slot = l[i].slot)).length = 1 := by
  have := atS_all hs l[i].slot
  unfold atS at this
  rw [this, (hs i h).1, dif_pos ⟨by omega, by omega, by omega⟩]
  rfl
 rw [← h2, ← h1]; rfl
theorem slots_nd {l : List Nd} (hs : SlotsP l) : (l.map fun n : Nd => n.slot).Nodup := by
 refine List.pairwise_iff_getElem.2 fun i j hi hj hij he => ?_
 rw [List.getElem_map, List.getElem_map] at he
 have h3 := (hs i (by simpa using hi)).1
 have h4 := (hs j (by simpa using hj)).1
 omega
variable {c : Cfg} {l : List Nd} {ss : List Seat}
theorem Tree.perm_s (t : Tree c l ss) : (ss.map fun x : Seat => x.n.slot).Perm (l.map fun n : Nd => n.slot) := by
 have := t.perm.map fun n : Nd => n.slot
 rwa [List.map_map] at this
theorem Tree.nodup_s (t : Tree c l ss) : (ss.map fun x : Seat => x.n.slot).Nodup := (t.perm_s.nodup_iff).2 (slots_nd t.slot)
theorem uniq_of : ∀ {L : List Seat}, (L.map fun x : Seat => x.n.slot).Nodup → ∀ {x y : Seat}, x ∈ L → y ∈ L → x.n.slot = y.n.slot → x = y
 | [], _, _, _, hx, _, _ => by cases hx
 | a :: L, h, x, y, hx, hy, e => by
  rw [List.map_cons, List.nodup_cons] at h
  rcases List.mem_cons.1 hx with e1 | h1
  ·rcases List.mem_cons.1 hy with e2 | h2
   ·rw [e1, e2]
   ·exact absurd (List.mem_map.2 ⟨y, h2, by rw [← e1]; exact e.symm⟩) h.1
  ·rcases List.mem_cons.1 hy with e2 | h2
   ·exact absurd (List.mem_map.2 ⟨x, h1, by rw [← e2]; exact e⟩) h.1
   ·exact uniq_of h.2 h1 h2 e
theorem Tree.uniq (t : Tree c l ss) {x y : Seat} (hx : x ∈ ss) (hy : y ∈ ss) (e : x.n.slot = y.n.slot) : x = y := uniq_of t.nodup_s hx hy e
theorem flat_uniq {f : Seat → List Seat} : ∀ {L : List Seat}, ((L.flatMap f).map fun x : Seat => x.n.slot).Nodup → ∀ {x z y y' : Seat}, x ∈ L → z ∈ L → y ∈ f x → y' ∈ f z → y.n.slot = y'.n.slot → x = z
 | [], _, _, _, _, _, hx, _, _, _, _ => by cases hx
 | a :: L, h, x, z, y, y', hx, hz, hy, hy', e => by
  rw [List.flatMap_cons, List.map_append, List.nodup_append] at h
  obtain ⟨h1, h2, h3⟩ := h
  rcases List.mem_cons.1 hx with e1 | g1
  ·rcases List.mem_cons.1 hz with e2 | g2
   ·rw [e1, e2]
   ·exact absurd e (h3 _ (List.mem_map.2 ⟨y, by rw [← e1]; exact hy, rfl⟩) _ (List.mem_map.2 ⟨y', List.mem_flatMap.2 ⟨z, g2, hy'⟩, rfl⟩))
  ·rcases List.mem_cons.1 hz with e2 | g2
   ·exact absurd e.symm (h3 _ (List.mem_map.2 ⟨y', by rw [← e2]; exact hy', rfl⟩) _ (List.mem_map.2 ⟨y, List.mem_flatMap.2 ⟨x, g1, hy⟩, rfl⟩))
   ·exact flat_uniq h2 g1 g2 hy hy' e
theorem flat_nd {f : Seat → List Seat} : ∀ {L : List Seat}, ((L.flatMap f).map fun x : Seat => x.n.slot).Nodup → ∀ {x : Seat}, x ∈ L → ((f x).map fun x : Seat => x.n.slot).Nodup
 | [], _, _, hx => by cases hx
 | a :: L, h, x, hx => by
  rw [List.flatMap_cons, List.map_append, List.nodup_append] at h
  rcases List.mem_cons.1 hx with rfl | hx
  ·exact h.1
  ·exact flat_nd h.2.1 hx
theorem Tree.tail_nd (t : Tree c l ss) : ((ss.flatMap (kidsD l)).map fun x : Seat => x.n.slot).Nodup := by
 have h := t.nodup_s
 rw [t.fix, List.map_cons, List.nodup_cons] at h
 exact h.2
theorem Tree.root_kid (t : Tree c l ss) {x y : Seat} (hx : x ∈ ss) (hy : y ∈ kidsD l x) : y.n.slot ≠ (rootS l 0).n.slot := fun e => by
 have h := t.nodup_s
 rw [t.fix, List.map_cons, List.nodup_cons] at h
 exact h.1 (List.mem_map.2 ⟨y, List.mem_flatMap.2 ⟨x, hx, hy⟩, e⟩)
theorem Tree.parent (t : Tree c l ss) {x z y y' : Seat} (hx : x ∈ ss) (hz : z ∈ ss) (hy : y ∈ kidsD l x) (hy' : y' ∈ kidsD l z) (e : y.n.slot = y'.n.slot) : x = z := flat_uniq t.tail_nd hx hz hy hy' e
theorem Tree.kid_nd (t : Tree c l ss) {x : Seat} (hx : x ∈ ss) {i j : Nat} (hi : i < (kidsD l x).length) (hj : j < (kidsD l x).length) (e : (kidsD l x)[i].n.slot = (kidsD l x)[j].n.slot) : i = j := by
 have h := flat_nd t.tail_nd hx
 have h2 := List.pairwise_iff_getElem.1 h
 simp only [List.length_map, List.getElem_map] at h2
 rcases Nat.lt_trichotomy i j with h3 | h3 | h3
 ·exact absurd e (h2 i j hi hj h3)
 ·exact h3
 ·exact absurd e.symm (h2 j i hj hi h3)
theorem tree_mk (hc : CfgR c) (hpos : 0 < l.length) (hsml : Sml l) (hs : SlotsP l) (hfix : ss = rootS l 0 :: ss.flatMap (kidsD l)) (hk : ∀ x ∈ ss, (kidsO l x).isSome = true)
  (hp : (ss.map fun x : Seat => x.n.slot).Perm (l.map fun n : Nd => n.slot)) (hlk : LkK (ss.map Seat.key)) (hlen : (l.length : Int) ≤ c.slots) (hseat : ∀ x ∈ ss, SeatP c x) : Tree c l ss :=
 ⟨hc, hpos, hsml, hs, seats_of (by have := find_at hs hpos; rw [show ((0 : Nat) : Int) = 0 from rfl] at this; rw [this]) hfix hk (by have := hp.length_eq; simp at this; omega),
  ⟨⟨once_of hs hp, (linked_iff ss).2 hlk, hlen⟩, fun i h => hseat _ (List.getElem_mem h)⟩⟩
theorem Tree.two (t : Tree c l ss) {x : Seat} (hx : x ∈ ss) (s : Span) : mergeN [clips s x.n.msgs, clips s x.ms] = clips s x.n.msgs ++ clips s x.ms ∧ Rst (clips s x.n.msgs ++ clips s x.ms) := by
 obtain ⟨h1, _, h3⟩ := t.msgs hx
 have hs := (t.seat hx).2.2.2
 refine merge_two (clips_rst h1) (clips_rst (t.rst x hx)) fun a ha b hb => ?_
 obtain ⟨a', ha', e1⟩ := clips_stamp ha
 obtain ⟨b', hb', e2⟩ := clips_stamp hb
 have := h3 a' ha'
 obtain ⟨i, hi, rfl⟩ := List.getElem_of_mem hb'
 have := hs i hi
 omega
theorem kidSt_ext {l l' : List Nd} {x y : Seat} {i j : Nat} (hn : (findN l (x.n.kids.getD i 0)).1 = (findN l' (y.n.kids.getD j 0)).1)
  (hs : ∀ q, (x.s.meet (rangeN x.n.pivots (i : Int))).has q = (y.s.meet (rangeN y.n.pivots (j : Int))).has q)
  (hm : ∀ s : Span, s = x.s.meet (rangeN x.n.pivots (i : Int)) → mergeN [clips s x.n.msgs, clips s x.ms] = mergeN [clips s y.n.msgs, clips s y.ms]) : kidSt l x i = kidSt l' y j := by
 have e : x.s.meet (rangeN x.n.pivots (i : Int)) = y.s.meet (rangeN y.n.pivots (j : Int)) := by
  rw [← meet_norm x.s, ← meet_norm y.s]
  exact norm_ext hs
 have h := hm _ rfl
 show (⟨_, _, _⟩ : Seat) = ⟨_, _, _⟩
 rw [hn, h, e]
end Go.Fw

namespace Go.Fw
open Go Go.RowKit
theorem route_app (A B : List Str) (q : Str) : routeN (A ++ B) q = routeN A q + routeN B q := by
 unfold routeN
 rw [List.filter_append, List.length_append]
theorem route_cut (P : List Str) (h : Nat) (q : Str) : routeN P q = routeN (P.take h) q + routeN (P.drop h) q := by
 rw [← route_app, List.take_append_drop]
theorem route_ins (P : List Str) (i : Nat) (k q : Str) : routeN ((P.take i ++ [k]) ++ P.drop i) q = routeN P q + if q.lt k = true then 0 else 1 := by
 have e : routeN [k] q = if q.lt k = true then 0 else 1 := by
  unfold routeN
  cases h : q.lt k <;> simp [List.filter_cons, h]
 rw [route_app, route_app, e, route_cut P i]
 omega
theorem route_left {P : List Str} (hr : rising P = true) {h : Nat} (hh : h < P.length) {q : Str} (hq : q.lt P[h] = true) : routeN (P.take h) q = routeN P q := by
 have e : routeN (P.drop h) q = 0 := by
  unfold routeN
  rw [List.length_eq_zero_iff, List.filter_eq_nil_iff]
  intro x hx
  obtain ⟨j, hj, rfl⟩ := List.getElem_of_mem hx
  rw [List.getElem_drop]
  rw [List.length_drop] at hj
  by_cases h0 : j = 0
  ·subst h0; simp [hq]
  ·simp [Str.lt_trans hq (rising_lt hr (h + j) h (by omega) (by omega))]
 rw [route_cut P h, e]; omega
theorem route_right {P : List Str} (hr : rising P = true) {h : Nat} (hh : h < P.length) {q : Str} (hq : q.lt P[h] = false) : routeN P q = (h + 1) + routeN (P.drop (h + 1)) q := by
 have e : routeN (P.take (h + 1)) q = h + 1 := by
  unfold routeN
  rw [List.filter_eq_self.2]
  ·rw [List.length_take]; omega
  ·intro x hx
   obtain ⟨j, hj, rfl⟩ := List.getElem_of_mem hx
   rw [List.getElem_take]
   rw [List.length_take] at hj
   cases h2 : q.lt P[j]
   ·rfl
   ·exfalso
    by_cases h0 : j = h
    ·subst h0; rw [hq] at h2; cases h2
    ·have := Str.lt_trans h2 (rising_lt hr h j (by omega) (by omega)); rw [hq] at this; cases this
 rw [route_cut P (h + 1), e]
theorem getD_take {K : List Int} {h j : Nat} (hj : j < h) : (K.take h).getD j 0 = K.getD j 0 := by
 rw [List.getD_eq_getElem?_getD, List.getD_eq_getElem?_getD, List.getElem?_take, if_pos hj]
theorem getD_drop {K : List Int} {h j : Nat} : (K.drop h).getD j 0 = K.getD (h + j) 0 := by
 rw [List.getD_eq_getElem?_getD, List.getD_eq_getElem?_getD, List.getElem?_drop]
theorem kids_mk {l : List Nd} {x : Seat} (h0 : 0 < x.n.level) (h2 : rightN x.n.pivots x.n.kids.length = true) (h : ∀ j, j < x.n.kids.length → kidOk l x j = true) : (kidsO l x).isSome = true ∧ kidsD l x = kidsF l x x.n.kids.length := by
 have e := kidsO_t (by omega) (by omega) h2 h
 unfold kidsD
 rw [e]; exact ⟨rfl, rfl⟩
theorem kidOk_ext {l l' : List Nd} {x y : Seat} {i j : Nat} (hn : findN l (x.n.kids.getD i 0) = findN l' (y.n.kids.getD j 0)) (hl : x.n.level = y.n.level) : kidOk l x i = kidOk l' y j := by
 unfold kidOk; rw [hn, hl]
variable {l l' : List Nd} {K A : Seat}
theorem left_kids (hK : (kidsO l K).isSome = true) (h0 : ¬ K.n.level = 0) {h : Nat} (hh : h < K.n.pivots.length)
  (ep : A.n.pivots = K.n.pivots.take h) (ek : A.n.kids = K.n.kids.take (h + 1)) (el : A.n.level = K.n.level) (hs : ∀ q, A.s.has q = (K.s.has q && q.lt K.n.pivots[h]))
  (hm : ∀ s : Span, (∀ q, s.has q = true → A.s.has q = true) → mergeN [clips s A.n.msgs, clips s A.ms] = mergeN [clips s K.n.msgs, clips s K.ms])
  (hf : ∀ j, j < K.n.kids.length → findN l' (K.n.kids.getD j 0) = findN l (K.n.kids.getD j 0)) :
  (kidsO l' A).isSome = true ∧ kidsD l' A = (kidsD l K).take (h + 1) := by
 obtain ⟨h1, h2, h3, h4⟩ := kids_all hK h0
 obtain ⟨hr, hc⟩ := rightN_spec h3
 have hkl : A.n.kids.length = h + 1 := by rw [ek, List.length_take]; omega
 have hra : rising A.n.pivots = true := by rw [ep]; exact rising_take hr _
 have hpl : A.n.pivots.length = h := by rw [ep, List.length_take]; omega
 have hg : ∀ j, j < h + 1 → A.n.kids.getD j 0 = K.n.kids.getD j 0 := fun j hj => by rw [ek, getD_take hj]
 obtain ⟨g1, g2⟩ := kids_mk (l := l') (x := A) (by omega) (rightN_of hra (by omega)) fun j hj => by
  rw [kidOk_ext (l' := l) (y := K) (j := j) (by rw [hg j (by omega), hf j (by omega)]) el]
  exact h4 j (by omega)
 refine ⟨g1, ?_⟩
 rw [g2, h1, hkl]
 unfold kidsF
 rw [← List.map_take, List.take_range, show min (h + 1) K.n.kids.length = h + 1 by omega]
 refine List.map_congr_left fun j hj => ?_
 have hj := List.mem_range.1 hj
 refine kidSt_ext (by rw [hg j hj, hf j (by omega)]) (fun q => ?_) fun s hse => hm s fun q hq => ?_
 ·rw [meet_has, meet_has, range_has hra q (by omega), range_has hr q (by omega), hs q, ep]
  cases hk : q.lt K.n.pivots[h]
  ·have := route_right hr hh hk
   rw [decide_eq_false (show ¬ j = routeN K.n.pivots q by omega)]; simp
  ·rw [route_left hr hh hk]; simp
 ·rw [hse, meet_has, Bool.and_eq_true] at hq
  exact hq.1
theorem right_kids (hK : (kidsO l K).isSome = true) (h0 : ¬ K.n.level = 0) {h : Nat} (hh : h < K.n.pivots.length)
  (ep : A.n.pivots = K.n.pivots.drop (h + 1)) (ek : A.n.kids = K.n.kids.drop (h + 1)) (el : A.n.level = K.n.level) (hs : ∀ q, A.s.has q = (K.s.has q && !q.lt K.n.pivots[h]))
  (hm : ∀ s : Span, (∀ q, s.has q = true → A.s.has q = true) → mergeN [clips s A.n.msgs, clips s A.ms] = mergeN [clips s K.n.msgs, clips s K.ms])
  (hf : ∀ j, j < K.n.kids.length → findN l' (K.n.kids.getD j 0) = findN l (K.n.kids.getD j 0)) :
  (kidsO l' A).isSome = true ∧ kidsD l' A = (kidsD l K).drop (h + 1) := by
 obtain ⟨h1, h2, h3, h4⟩ := kids_all hK h0
 obtain ⟨hr, hc⟩ := rightN_spec h3
 have hkl : A.n.kids.length = K.n.kids.length - (h + 1) := by rw [ek, List.length_drop]
 have hra : rising A.n.pivots = true := by rw [ep]; exact rising_drop hr _
 have hpl : A.n.pivots.length = K.n.pivots.length - (h + 1) := by rw [ep, List.length_drop]
 have hg : ∀ j, A.n.kids.getD j 0 = K.n.kids.getD (h + 1 + j) 0 := fun j => by rw [ek, getD_drop]
 obtain ⟨g1, g2⟩ := kids_mk (l := l') (x := A) (by omega) (rightN_of hra (by omega)) fun j hj => by
  rw [kidOk_ext (l' := l) (y := K) (j := h + 1 + j) (by rw [hg j, hf _ (by omega)]) el]
  exact h4 _ (by omega)
 refine ⟨g1, ?_⟩
 rw [g2, h1, hkl]
 refine List.ext_getElem (by simp [kidsF]) fun j hj hj2 => ?_
 have hj : j < K.n.kids.length - (h + 1) := by simpa [kidsF] using hj
 rw [List.getElem_drop]
 simp only [kidsF, List.getElem_map, List.getElem_range]
 refine kidSt_ext (by rw [hg j, hf _ (by omega)]) (fun q => ?_) fun s hse => hm s fun q hq => ?_
 ·rw [meet_has, meet_has, range_has hra q (by omega), range_has hr q (by omega), hs q, ep]
  cases hk : q.lt K.n.pivots[h]
  ·have := route_right hr hh hk
   rw [this]
   simp
  ·have h5 := route_left hr hh hk
   have h6 : routeN (K.n.pivots.take h) q ≤ h := routeN_take_le _ _ _
   rw [decide_eq_false (show ¬ h + 1 + j = routeN K.n.pivots q by omega)]; simp
 ·rw [hse, meet_has, Bool.and_eq_true] at hq
  exact hq.1
theorem lo_in {s : Span} (h : s.empty = false) : s.has s.lo = true := by
 have := Span.empty_eq s
 rw [h] at this
 simpa using this
theorem span_has {s : Span} {q : Str} : s.has q = true ↔ q.lt s.lo = false ∧ (s.opn = true ∨ q.lt s.hi = true) := by
 unfold Span.has
 simp
theorem norm_cases {s : Span} (h : s.norm = s) (he : s.empty = false) : s.opn = true → s.hi = Str.nil := fun ho => by
 unfold Span.norm at h
 rw [if_neg (by simp [he]), if_pos ho] at h
 rw [← h]
theorem left_span {s a : Span} {k : Str} (hs : s.norm = s) (ha : a.norm = a) (hk : s.has k = true) (hk2 : k ≠ s.lo) (h : ∀ q, a.has q = (s.has q && q.lt k)) : a = ⟨s.lo, k, false⟩ ∧ s.lo.lt k = true := by
 have h1 := span_has.1 hk
 have h2 : s.lo.lt k = true := by
  cases e : s.lo.lt k
  ·exact absurd (Str.lt_total h1.1 e) hk2
  ·rfl
 refine ⟨?_, h2⟩
 rw [← ha, ← norm_id (s := ⟨s.lo, k, false⟩) (by simp [Span.empty, h2]) rfl]
 refine norm_ext fun q => ?_
 rw [h q, Bool.eq_iff_iff, Bool.and_eq_true, span_has, span_has]
 refine ⟨fun ⟨⟨g1, g2⟩, g3⟩ => ⟨g1, .inr g3⟩, fun ⟨g1, g2⟩ => ?_⟩
 have g2 : q.lt k = true := by rcases g2 with g | g; cases g; exact g
 refine ⟨⟨g1, ?_⟩, g2⟩
 rcases h1.2 with g | g
 ·exact .inl g
 ·exact .inr (Str.lt_trans g2 g)
theorem right_span {s a : Span} {k : Str} (hs : s.norm = s) (ha : a.norm = a) (hk : s.has k = true) (h : ∀ q, a.has q = (s.has q && !q.lt k)) : a = ⟨k, s.hi, s.opn⟩ := by
 have h1 := span_has.1 hk
 have he : (⟨k, s.hi, s.opn⟩ : Span).empty = false := by
  cases e : (⟨k, s.hi, s.opn⟩ : Span).empty
  ·rfl
  ·have := empty_iff.1 e k
   have h3 : (⟨k, s.hi, s.opn⟩ : Span).has k = true := span_has.2 ⟨Str.lt_irrefl k, h1.2⟩
   rw [h3] at this; cases this
 have hse : s.empty = false := by
  cases e : s.empty
  ·rfl
  ·have := empty_iff.1 e k; rw [hk] at this; cases this
 have hn : (⟨k, s.hi, s.opn⟩ : Span).norm = ⟨k, s.hi, s.opn⟩ := by
  unfold Span.norm
  rw [if_neg (by simp [he])]
  split
  ·rename_i ho
   rw [norm_cases hs hse ho]
  ·rfl
 rw [← ha, ← hn]
 refine norm_ext fun q => ?_
 rw [h q, Bool.eq_iff_iff, Bool.and_eq_true, span_has, span_has]
 refine ⟨fun ⟨⟨g1, g2⟩, g3⟩ => ⟨by simpa using g3, g2⟩, fun ⟨g1, g2⟩ => ⟨⟨?_, g2⟩, by simpa using g1⟩⟩
 have g1 : q.lt k = false := g1
 cases e : q.lt s.lo
 ·rfl
 ·have := Str.lt_of_lt_of_le e h1.1
  rw [g1] at this; cases this
theorem span_pt {m : Msg} (hm : m.R) (h4 : ¬ m.kind = 4) {q : Str} : m.span.has q = decide (q = m.key) := by
 unfold Msg.span
 rw [if_neg h4]
 exact point_has (by have := hm.1.2.1; omega)
theorem clip_in {m : Msg} {s : Span} (hm : m.R) (h : (m.clip s).2 = true) {q : Str} (hq : (m.clip s).1.span.has q = true) : m.span.has q = true ∧ s.has q = true := by
 by_cases h4 : m.kind = 4
 ·rw [clip_span h h4, meet_has, Bool.and_eq_true] at hq
  exact hq
 ·have e := (clip_of h)
  rw [e.2, if_neg h4] at hq
  refine ⟨hq, ?_⟩
  cases hs : s.has q
  ·exfalso
   have : (m.span.meet s).empty = true := empty_iff.2 fun p => by
    rw [meet_has, span_pt hm h4]
    by_cases ep : p = m.key
    ·rw [span_pt hm h4, decide_eq_true_eq] at hq
     rw [ep, ← hq, hs]; simp
    ·simp [ep]
   rw [this] at e
   exact absurd e.1 (by simp)
  ·rfl
theorem meet_sub {a s : Span} (h : ∀ q, a.has q = true → s.has q = true) : a.meet s = a.norm := by
 rw [← meet_norm]
 refine norm_ext fun q => ?_
 rw [meet_has]
 cases e : a.has q
 ·rfl
 ·rw [h q e]; rfl
theorem sub_meet {a s : Span} (h : a.meet s = a.norm) {q : Str} (hq : a.has q = true) : s.has q = true := by
 have h2 := meet_has a s q
 rw [h, norm_has, hq] at h2
 simpa using h2.symm
theorem view_halves {A B K : Seat} {k : Str} {h : Nat} (hP : PairsR K.n.rows) (hms : ∀ m ∈ K.ms, m.R) (ea : A.n.rows = K.n.rows.take h) (eb : B.n.rows = K.n.rows.drop h)
  (ha : ∀ q, A.s.has q = (K.s.has q && q.lt k)) (hb : ∀ q, B.s.has q = (K.s.has q && !q.lt k)) (h1 : ∀ i (hi : i < K.n.rows.length), i < h → K.n.rows[i].key.lt k = true) (h2 : ∀ i (hi : i < K.n.rows.length), h ≤ i → K.n.rows[i].key.lt k = false)
  (ma : clips A.s A.ms = clips A.s K.ms) (mb : clips B.s B.ms = clips B.s K.ms) : viewS A ++ viewS B = viewS K := by
 have hk : ∀ m ∈ K.ms, m.key.b.size < 140737488355328 := fun m hm => by have := (msgR_key (hms m hm)).1; omega
 have fa : (A.n.rows.filter fun p => A.s.has p.key) = K.n.rows.filter fun p => A.s.has p.key := by
  conv => rhs; rw [← List.take_append_drop h K.n.rows]
  rw [List.filter_append, ea, List.filter_eq_nil_iff (l := K.n.rows.drop h) |>.2 ?_, List.append_nil]
  intro p hp
  obtain ⟨i, hi, rfl⟩ := List.getElem_of_mem hp
  rw [List.length_drop] at hi
  rw [List.getElem_drop, ha, h2 _ (by omega) (by omega)]; simp
 have fb : (B.n.rows.filter fun p => B.s.has p.key) = K.n.rows.filter fun p => B.s.has p.key := by
  conv => rhs; rw [← List.take_append_drop h K.n.rows]
  rw [List.filter_append, eb, List.filter_eq_nil_iff (l := K.n.rows.take h) |>.2 ?_, List.nil_append]
  intro p hp
  obtain ⟨i, hi, rfl⟩ := List.getElem_of_mem hp
  rw [List.length_take] at hi
  rw [List.getElem_take, hb, h1 _ (by omega) (by omega)]; simp
 have hF := (hP.fold fun m hm => msgR_key (hms m hm)).srt (l := foldN K.n.rows K.ms)
 unfold viewS
 rw [fa, fb, ma, mb, view_fold hP.srt hk, view_fold hP.srt hk, view_fold hP.srt hk, filter_split hF K.s.has k]
 congr 1
 ·exact List.filter_congr fun p _ => ha _
 ·exact List.filter_congr fun p _ => hb _
end Go.Fw
