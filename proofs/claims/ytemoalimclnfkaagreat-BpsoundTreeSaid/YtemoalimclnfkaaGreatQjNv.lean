/- A sound tree with one of its seats in two. Plain Lean; nothing of the program is named here. No condition. -/
import Derived.Test.YtemoalimclnfkaaGreatQjNu
set_option linter.unusedVariables false
set_option linter.unusedSimpArgs false
set_option linter.unnecessarySimpa false

namespace Go.Fw
open Go Go.RowKit
variable {c : Cfg} {l : List Nd} {ss : List Seat}
structure Halves (n a b : Nd) (k : Str) (h : Nat) : Prop where
 la : a.level = n.level
 lb : b.level = n.level
 aend : a.high = k ∧ a.top = false
 bend : b.high = n.high ∧ b.top = n.top ∧ b.right = n.right
 aright : a.right = b.slot
 leaf : n.level = 0 → 1 ≤ h ∧ h < n.rows.length ∧ a.rows = n.rows.take h ∧ b.rows = n.rows.drop h ∧ a.pivots = n.pivots ∧ b.pivots = n.pivots ∧ (∀ i (hi : i < n.rows.length), i < h → n.rows[i].key.lt k = true) ∧ ∀ i (hi : i < n.rows.length), h ≤ i → n.rows[i].key.lt k = false
 inner : ¬ n.level = 0 → a.rows = n.rows ∧ b.rows = n.rows ∧ ∃ hh : h < n.pivots.length, k = n.pivots[h] ∧ a.pivots = n.pivots.take h ∧ a.kids = n.kids.take (h + 1) ∧ b.pivots = n.pivots.drop (h + 1) ∧ b.kids = n.kids.drop (h + 1)
 size : k ≠ Str.nil ∧ k.b.size ≤ 16
theorem slots_set {l : List Nd} (hs : SlotsP l) {x : Nd} (hx : 0 ≤ x.slot ∧ x.slot < l.length) (hseen : x.seen ≤ 1099511627776) : SlotsP (l.set x.slot.toNat x) := fun i h => by
 rw [List.length_set] at h
 rw [List.getElem_set]
 split
 ·exact ⟨om9, hseen⟩
 ·exact hs i h
theorem slots_snoc {l : List Nd} (hs : SlotsP l) {x : Nd} (hx : x.slot = l.length) (hseen : x.seen ≤ 1099511627776) : SlotsP (l ++ [x]) := fun i h => by
 rw [List.length_append] at h
 by_cases e : i < l.length
 ·rw [List.getElem_append_left e]; exact hs i e
 ·rw [List.getElem_append_right om9]
  have : i = l.length := by simp at h; omega
  subst this
  simp [hx, hseen]
theorem getL_set {l : List Nd} {x : Nd} (hx : 0 ≤ x.slot ∧ x.slot < l.length) (i : Int) : getL (l.set x.slot.toNat x) i = if i = x.slot then x else getL l i := by
 by_cases e : i = x.slot
 ·rw [if_pos e, e]
  have := getL_at (l := l.set x.slot.toNat x) (k := x.slot.toNat) (by rw [List.length_set]; omega)
  rw [show ((x.slot.toNat : Nat) : Int) = x.slot by omega] at this
  rw [this, List.getElem_set_self]
 ·rw [if_neg e]
  unfold getL
  split
  ·rw [List.getD_eq_getElem?_getD, List.getD_eq_getElem?_getD, List.getElem?_set_ne om9]
  ·rfl
theorem getL_snoc {l : List Nd} {x : Nd} (i : Int) : getL (l ++ [x]) i = if i = l.length then x else getL l i := by
 by_cases e : i = l.length
 ·rw [if_pos e, e, getL_at (by simp)]
  simp
 ·rw [if_neg e]
  unfold getL
  split
  ·rename_i h0
   rw [List.getD_eq_getElem?_getD, List.getD_eq_getElem?_getD]
   by_cases h1 : i.toNat < l.length
   ·rw [List.getElem?_append_left h1]
   ·rw [List.getElem?_eq_none (by simp; omega), List.getElem?_eq_none om9]
  ·rfl
structure HSeat (K A B : Seat) (k : Str) (h : Nat) : Prop where
 hv : Halves K.n A.n B.n k h
 ha : ∀ q, A.s.has q = (K.s.has q && q.lt k)
 hb : ∀ q, B.s.has q = (K.s.has q && !q.lt k)
 na : A.s.norm = A.s
 nb : B.s.norm = B.s
 ma : ∀ s : Span, (∀ q, s.has q = true → A.s.has q = true) → mergeN [clips s A.n.msgs, clips s A.ms] = mergeN [clips s K.n.msgs, clips s K.ms]
 mb : ∀ s : Span, (∀ q, s.has q = true → B.s.has q = true) → mergeN [clips s B.n.msgs, clips s B.ms] = mergeN [clips s K.n.msgs, clips s K.ms]
theorem Tree.k_in (t : Tree c l ss) {K : Seat} (hK : K ∈ ss) {a b : Nd} {k : Str} {h : Nat} (hv : Halves K.n a b k h) (hk : K.n.has k = true) : K.s.has k = true ∧ k ≠ K.s.lo := by
 obtain ⟨⟨p1, p2⟩, p3, p4, p5⟩ := (t.seat hK).2.1
 have hend : K.s.opn = true ∨ k.lt K.s.hi = true := by
  unfold Nd.has at hk
  rw [p1, p2, Bool.or_eq_true] at hk
  exact hk
 by_cases h0 : K.n.level = 0
 ·obtain ⟨g1, g2, _, _, _, _, g3, g4⟩ := hv.leaf h0
  have e1 := (span_has.1 (p3 (h - 1) om9)).1
  have e2 := Str.lt_of_le_of_lt e1 (g3 (h - 1) om9 om9)
  exact ⟨span_has.2 ⟨Str.lt_asymm e2, hend⟩, fun e => by rw [← e, Str.lt_irrefl] at e2; cases e2⟩
 ·obtain ⟨_, _, hh, e, _⟩ := hv.inner h0
  have := p4 h hh
  rw [← e] at this
  exact this
theorem HSeat.placedA (t : Tree c l ss) {K A B : Seat} {k : Str} {h : Nat} (hK : K ∈ ss) (H : HSeat K A B k h) (hs : K.s.norm = K.s) (hk : K.n.has k = true)
  (hm : ∀ m ∈ A.n.msgs, ∃ m' ∈ K.n.msgs, (m'.clip ⟨Str.nil, k, false⟩).2 = true ∧ (m'.clip ⟨Str.nil, k, false⟩).1 = m) : PlacedP A := by
 obtain ⟨⟨p1, p2⟩, p3, p4, p5⟩ := (t.seat hK).2.1
 obtain ⟨k1, k2⟩ := t.k_in hK H.hv hk
 obtain ⟨e, hlo⟩ := left_span hs H.na k1 k2 H.ha
 have eo : A.s.opn = false := by rw [e]
 have eh : A.s.hi = k := by rw [e]
 have el : A.s.lo = K.s.lo := by rw [e]
 refine ⟨⟨by rw [eo]; exact H.hv.aend.2, by rw [eh]; exact H.hv.aend.1⟩, fun i hi => ?_, fun i hi => ?_, fun i hi => ?_⟩
 ·by_cases h0 : K.n.level = 0
  ·obtain ⟨g1, g2, ga, _, _, _, g3, g4⟩ := H.hv.leaf h0
   have hi2 := hi
   rw [ga, List.length_take] at hi2
   simp only [ga, List.getElem_take]
   rw [H.ha, p3 i om9, g3 i om9 om9]; rfl
  ·have ga := (H.hv.inner h0).1
   have gb := (t.inner hK h0).1.1
   rw [ga] at hi
   exact absurd hi om9
 ·by_cases h0 : K.n.level = 0
  ·have ga := (H.hv.leaf h0).2.2.2.2.1
   have gb := (t.leaf hK h0).1
   rw [ga] at hi
   exact absurd hi om9
  ·obtain ⟨_, _, hh, ek, ga, _, _, _⟩ := H.hv.inner h0
   have hi2 := hi
   rw [ga, List.length_take] at hi2
   simp only [ga, List.getElem_take]
   have hr := (rightN_spec (kids_all (t.kids hK) h0).2.2.1).1
   have := p4 i om9
   refine ⟨?_, by rw [el]; exact this.2⟩
   rw [H.ha, this.1, ek, rising_lt hr h i om9 hh]; rfl
 ·obtain ⟨m', hm', hc, e9⟩ := hm _ (List.getElem_mem hi)
  obtain ⟨j, hj, rfl⟩ := List.getElem_of_mem hm'
  refine meet_sub fun q hq => ?_
  rw [← e9] at hq
  have g := clip_in ((t.msgs hK).2.1 _ (List.getElem_mem hj)) hc hq
  rw [H.ha, sub_meet (p5 j hj) g.1]
  have := (span_has.1 g.2).2
  rcases this with h | h
  ·cases h
  ·rw [show q.lt k = true from h]; rfl
theorem HSeat.placedB (t : Tree c l ss) {K A B : Seat} {k : Str} {h : Nat} (hK : K ∈ ss) (H : HSeat K A B k h) (hs : K.s.norm = K.s) (hk : K.n.has k = true)
  (hm : ∀ m ∈ B.n.msgs, ∃ m' ∈ K.n.msgs, (m'.clip ⟨k, Str.nil, true⟩).2 = true ∧ (m'.clip ⟨k, Str.nil, true⟩).1 = m) : PlacedP B := by
 obtain ⟨⟨p1, p2⟩, p3, p4, p5⟩ := (t.seat hK).2.1
 obtain ⟨k1, k2⟩ := t.k_in hK H.hv hk
 have e := right_span hs H.nb k1 H.hb
 have eo : B.s.opn = K.s.opn := by rw [e]
 have eh : B.s.hi = K.s.hi := by rw [e]
 have el : B.s.lo = k := by rw [e]
 refine ⟨⟨by rw [eo, H.hv.bend.2.1]; exact p1, by rw [eh, H.hv.bend.1]; exact p2⟩, fun i hi => ?_, fun i hi => ?_, fun i hi => ?_⟩
 ·by_cases h0 : K.n.level = 0
  ·obtain ⟨g1, g2, _, ga, _, _, g3, g4⟩ := H.hv.leaf h0
   have hi2 := hi
   rw [ga, List.length_drop] at hi2
   simp only [ga, List.getElem_drop]
   rw [H.hb, p3 (h + i) om9, g4 (h + i) om9 om9]; rfl
  ·have ga := (H.hv.inner h0).2.1
   have gb := (t.inner hK h0).1.1
   rw [ga] at hi
   exact absurd hi om9
 ·by_cases h0 : K.n.level = 0
  ·have ga := (H.hv.leaf h0).2.2.2.2.2.1
   have gb := (t.leaf hK h0).1
   rw [ga] at hi
   exact absurd hi om9
  ·obtain ⟨_, _, hh, ek, _, _, ga, _⟩ := H.hv.inner h0
   have hi2 := hi
   rw [ga, List.length_drop] at hi2
   simp only [ga, List.getElem_drop]
   have hr := (rightN_spec (kids_all (t.kids hK) h0).2.2.1).1
   have := p4 (h + 1 + i) om9
   have hl := rising_lt hr (h + 1 + i) h om9 om9
   refine ⟨?_, ?_⟩
   ·rw [H.hb, this.1, ek, Str.lt_asymm hl]; rfl
   ·rw [el, ek]
    intro e2
    rw [e2, Str.lt_irrefl] at hl; cases hl
 ·obtain ⟨m', hm', hc, e9⟩ := hm _ (List.getElem_mem hi)
  obtain ⟨j, hj, rfl⟩ := List.getElem_of_mem hm'
  refine meet_sub fun q hq => ?_
  rw [← e9] at hq
  have g := clip_in ((t.msgs hK).2.1 _ (List.getElem_mem hj)) hc hq
  rw [H.hb, sub_meet (p5 j hj) g.1]
  have := (span_has.1 g.2).1
  rw [show q.lt k = false from this]; rfl
theorem HSeat.kids (t : Tree c l ss) {K A B : Seat} {k : Str} {h : Nat} {l' : List Nd} (hK : K ∈ ss) (H : HSeat K A B k h)
  (hf : ∀ j, j < K.n.kids.length → findN l' (K.n.kids.getD j 0) = findN l (K.n.kids.getD j 0)) : (kidsO l' A).isSome = true ∧ (kidsO l' B).isSome = true ∧ kidsD l' A ++ kidsD l' B = kidsD l K := by
 by_cases h0 : K.n.level = 0
 ·have ea : A.n.level = 0 := by rw [H.hv.la, h0]
  have eb : B.n.level = 0 := by rw [H.hv.lb, h0]
  rw [kidsO_0 ea, kidsO_0 eb, kids_leaf ea, kids_leaf eb, kids_leaf h0]
  exact ⟨rfl, rfl, rfl⟩
 ·obtain ⟨_, _, hh, ek, g1, g2, g3, g4⟩ := H.hv.inner h0
  have a1 := left_kids (l' := l') (t.kids hK) h0 hh g1 g2 H.hv.la (fun q => by rw [H.ha, ek]) H.ma hf
  have b1 := right_kids (l' := l') (t.kids hK) h0 hh g3 g4 H.hv.lb (fun q => by rw [H.hb, ek]) H.mb hf
  exact ⟨a1.1, b1.1, by rw [a1.2, b1.2, List.take_append_drop]⟩
theorem HSeat.view (t : Tree c l ss) {K A B : Seat} {k : Str} {h : Nat} (hK : K ∈ ss) (H : HSeat K A B k h) (ca : K.n.level = 0 → clips A.s A.ms = clips A.s K.ms) (cb : K.n.level = 0 → clips B.s B.ms = clips B.s K.ms) :
  (leavesS [A, B]).flatMap viewS = (leavesS [K]).flatMap viewS := by
 by_cases h0 : K.n.level = 0
 ·have ea : A.n.level = 0 := by rw [H.hv.la, h0]
  have eb : B.n.level = 0 := by rw [H.hv.lb, h0]
  obtain ⟨g1, g2, ga, gb, _, _, g3, g4⟩ := H.hv.leaf h0
  have := view_halves (t.rows hK) (t.fits K hK).2 ga gb H.ha H.hb g3 g4 (ca h0) (cb h0)
  simp only [leavesS, List.filter_cons, ea, eb, h0, decide_true, if_true, List.filter_nil, List.flatMap_cons, List.flatMap_nil, List.append_nil]
  exact this
 ·have ea : ¬ A.n.level = 0 := by rw [H.hv.la]; exact h0
  have eb : ¬ B.n.level = 0 := by rw [H.hv.lb]; exact h0
  simp [leavesS, List.filter_cons, ea, eb, h0]
theorem nds_R {c : Cfg} {n : Nd} (hc : CfgR c) (hR : n.R c.fan c.leaf c.bud) : NdS n := by
 obtain ⟨⟨q1, q2, q3⟩, q4, q5, q6⟩ := hR
 obtain ⟨c1, c2, c3, c4, c5⟩ := hc
 have hh : n.high.b.size ≤ 4000 := by
  cases e : n.top
  ·have := (q5 e).2.1; omega
  ·rw [(q4 e).1]; decide
 by_cases h0 : n.level = 0
 ·rw [if_pos h0] at q6
  obtain ⟨r1, r2, r3, r4⟩ := q6
  have e1 : n.msgs = [] := List.eq_nil_of_length_eq_zero om9
  have e2 : n.pivots = [] := List.eq_nil_of_length_eq_zero om9
  refine ⟨om9, om9, om9, om9, hh, (by rw [e1]; intro m hm; cases hm), (by rw [e2]; intro m hm; cases hm), fun p hp => ?_⟩
  have := (pairsR_iff.1 r3).1 p hp
  exact ⟨by have := this.1; omega, by have := this.2; omega⟩
 ·rw [if_neg h0] at q6
  obtain ⟨⟨r1, r2, r3⟩, r4, r5, r6, r7, r8, r9⟩ := q6
  have e1 : n.rows = [] := List.eq_nil_of_length_eq_zero r1
  have hp := (rightN_spec r4).2
  have hm : ∀ m ∈ n.msgs, m.R := (MsgsR.iff.1 r5).1
  have hl := sizes_len hm
  refine ⟨om9, om9, om9, om9, hh, fun m h => ?_, fun p h => ?_, (by rw [e1]; intro m hm; cases hm)⟩
  ·have := (hm m h).1
   exact ⟨om9, om9, om9⟩
  ·obtain ⟨i, hi, rfl⟩ := List.getElem_of_mem h
   have := (r8 i hi).2.1; omega
theorem sml_R {c : Cfg} {l : List Nd} (hc : CfgR c) (hl : l.length ≤ 4096) (h : ∀ n ∈ l, n.R c.fan c.leaf c.bud) : Sml l := ⟨hl, fun n hn => nds_R hc (h n hn)⟩
theorem slots_range {l : List Nd} (hs : SlotsP l) : (l.map fun n : Nd => n.slot) = (List.range l.length).map fun i : Nat => (i : Int) := by
 refine List.ext_getElem (by simp) fun i hi hj => ?_
 simp only [List.getElem_map, List.getElem_range]
 exact (hs i (by simpa using hi)).1
theorem flat_id {f : Seat → List Seat} : ∀ {L : List Seat}, (∀ y ∈ L, f y = [y]) → L.flatMap f = L
 | [], _ => rfl
 | y :: L, h => by rw [List.flatMap_cons, h y (by simp), flat_id fun z hz => h z (List.mem_cons_of_mem _ hz)]; rfl
theorem leaves_flat {f : Seat → List Seat} : ∀ {L : List Seat}, (∀ x ∈ L, (leavesS (f x)).flatMap viewS = (leavesS [x]).flatMap viewS) → (leavesS (L.flatMap f)).flatMap viewS = (leavesS L).flatMap viewS
 | [], _ => rfl
 | x :: L, h => by
  have ih := leaves_flat (f := f) (L := L) fun z hz => h z (List.mem_cons_of_mem _ hz)
  have e1 : leavesS ((x :: L).flatMap f) = leavesS (f x) ++ leavesS (L.flatMap f) := by unfold leavesS; rw [List.flatMap_cons, List.filter_append]
  have e2 : leavesS (x :: L) = leavesS [x] ++ leavesS L := by unfold leavesS; rw [← List.filter_append]; rfl
  rw [e1, e2, List.flatMap_append, List.flatMap_append, h x (by simp), ih]
theorem flat_fix {f K K' : Seat → List Seat} : ∀ {L : List Seat}, (∀ x ∈ L, (f x).flatMap K' = (K x).flatMap f) → (L.flatMap f).flatMap K' = (L.flatMap K).flatMap f
 | [], _ => rfl
 | x :: L, h => by
  rw [List.flatMap_cons, List.flatMap_cons, List.flatMap_append, List.flatMap_append, h x (by simp), flat_fix fun z hz => h z (List.mem_cons_of_mem _ hz)]
def adoptNd (n : Nd) (i : Nat) (k : Str) (v : Int) : Nd := { n with pivots := (n.pivots.take i ++ [k]) ++ n.pivots.drop i, kids := (n.kids.take (i + 1) ++ [v]) ++ n.kids.drop (i + 1) }
def partL (l : List Nd) (P : Nd) (i : Nat) (a b : Nd) (k : Str) : List Nd := ((l.set a.slot.toNat a).set P.slot.toNat (adoptNd P i k l.length)) ++ [b]
structure PartOf (c : Cfg) (l : List Nd) (ss : List Seat) (P : Seat) (i : Nat) (a b : Nd) (k : Str) (h : Nat) : Prop where
 t : Tree c l ss
 mem : P ∈ ss
 h0 : ¬ P.n.level = 0
 hi : i < P.n.kids.length
 hv : Halves (kidSt l P i).n a b k h
 sa : a.slot = (kidSt l P i).n.slot
 sb : b.slot = l.length
 ea : a.seen = (kidSt l P i).n.seen
 eb : b.seen = (kidSt l P i).n.seen
 m0 : (kidSt l P i).n.level = 0 → a.msgs = (kidSt l P i).n.msgs ∧ b.msgs = (kidSt l P i).n.msgs
 m1 : ¬ (kidSt l P i).n.level = 0 → a.msgs = clips ⟨Str.nil, k, false⟩ (kidSt l P i).n.msgs ∧ b.msgs = clips ⟨k, Str.nil, true⟩ (kidSt l P i).n.msgs
 nk : (kidSt l P i).n.has k = true
 aR : a.R c.fan c.leaf c.bud
 bR : b.R c.fan c.leaf c.bud
 kin : (rangeN P.n.pivots (i : Int)).has k = true
 klo : ¬ k = (rangeN P.n.pivots (i : Int)).lo
 full : (P.n.kids.length : Int) < c.fan
 room : (l.length : Int) < c.slots
 few : l.length < 4096
namespace PartOf
variable {c : Cfg} {l : List Nd} {ss : List Seat} {P : Seat} {i : Nat} {a b : Nd} {k : Str} {h : Nat}
theorem km (p : PartOf c l ss P i a b k h) : kidSt l P i ∈ ss ∧ (kidSt l P i).n.level = P.n.level - 1 := by
 have := p.t.at p.mem p.h0 p.hi
 exact ⟨this.1, this.2.2.2⟩
theorem ne (p : PartOf c l ss P i a b k h) {x y : Seat} (hx : x ∈ ss) (hy : y ∈ ss) (hl : x.n.level ≠ y.n.level) : x.n.slot ≠ y.n.slot := fun e => hl (by rw [p.t.uniq hx hy e])
theorem ksl (p : PartOf c l ss P i a b k h) : (kidSt l P i).n.slot ≠ P.n.slot := p.ne p.km.1 p.mem (by have := p.km.2; omega)
theorem sin (p : PartOf c l ss P i a b k h) {x : Seat} (hx : x ∈ ss) : 0 ≤ x.n.slot ∧ x.n.slot < l.length := (p.t.nd hx).1
theorem lseen (p : PartOf c l ss P i a b k h) {x : Seat} (hx : x ∈ ss) : x.n.seen ≤ 1099511627776 := by
 obtain ⟨j, hj, e⟩ := List.getElem_of_mem (p.t.nd hx).2.2
 rw [← e]; exact (p.t.slot j hj).2
theorem slots (p : PartOf c l ss P i a b k h) : SlotsP (partL l P.n i a b k) := by
 have hk := p.sin p.km.1
 have hp := p.sin p.mem
 have h1 := slots_set p.t.slot (x := a) (by rw [p.sa]; exact hk) (by rw [p.ea]; exact p.lseen p.km.1)
 have h2 := slots_set h1 (x := adoptNd P.n i k l.length) (by rw [List.length_set]; exact hp) (p.lseen p.mem)
 exact slots_snoc h2 (by rw [List.length_set, List.length_set]; exact p.sb) (by rw [p.eb]; exact p.lseen p.km.1)
theorem len (p : PartOf c l ss P i a b k h) : (partL l P.n i a b k).length = l.length + 1 := by
 unfold partL; rw [List.length_append, List.length_set, List.length_set]; rfl
theorem get (p : PartOf c l ss P i a b k h) (s : Int) : getL (partL l P.n i a b k) s = if s = l.length then b else if s = P.n.slot then adoptNd P.n i k l.length else if s = (kidSt l P i).n.slot then a else getL l s := by
 have hk := p.sin p.km.1
 have hp := p.sin p.mem
 unfold partL
 rw [getL_snoc, List.length_set, List.length_set]
 split
 ·rfl
 ·have e := getL_set (l := l.set a.slot.toNat a) (x := adoptNd P.n i k l.length) (by rw [List.length_set]; exact hp) s
  rw [show (adoptNd P.n i k l.length).slot = P.n.slot from rfl] at e
  rw [e]
  split
  ·rfl
  ·rw [getL_set (by rw [p.sa]; exact hk), p.sa]
theorem find (p : PartOf c l ss P i a b k h) (s : Int) : findN (partL l P.n i a b k) s = (if s = l.length then b else if s = P.n.slot then adoptNd P.n i k l.length else if s = (kidSt l P i).n.slot then a else getL l s, decide (0 ≤ s ∧ s < (l.length : Int) + 1)) := by
 rw [find_eq p.slots, p.get, p.len]
 congr 1
theorem find_x (p : PartOf c l ss P i a b k h) {x : Seat} (hx : x ∈ ss) (h1 : x.n.slot ≠ P.n.slot) (h2 : x.n.slot ≠ (kidSt l P i).n.slot) : findN (partL l P.n i a b k) x.n.slot = findN l x.n.slot := by
 have := p.sin hx
 rw [p.find, if_neg om9, if_neg h1, if_neg h2, find_eq p.t.slot, decide_eq_true om9, decide_eq_true om9]
theorem find_p (p : PartOf c l ss P i a b k h) : findN (partL l P.n i a b k) P.n.slot = (adoptNd P.n i k l.length, true) := by
 have := p.sin p.mem
 rw [p.find, if_neg om9, if_pos rfl, decide_eq_true om9]
theorem find_k (p : PartOf c l ss P i a b k h) : findN (partL l P.n i a b k) (kidSt l P i).n.slot = (a, true) := by
 have := p.sin p.km.1
 rw [p.find, if_neg om9, if_neg p.ksl, if_pos rfl, decide_eq_true om9]
theorem find_y (p : PartOf c l ss P i a b k h) : findN (partL l P.n i a b k) (l.length : Int) = (b, true) := by
 rw [p.find, if_pos rfl, decide_eq_true om9]
noncomputable def nP (l : List Nd) (P : Seat) (i : Nat) (k : Str) : Seat := ⟨adoptNd P.n i k l.length, P.s, P.ms⟩
noncomputable def nA (l : List Nd) (P : Seat) (i : Nat) (a b : Nd) (k : Str) : Seat := kidSt (partL l P.n i a b k) (nP l P i k) i
noncomputable def nB (l : List Nd) (P : Seat) (i : Nat) (a b : Nd) (k : Str) : Seat := kidSt (partL l P.n i a b k) (nP l P i k) (i + 1)
theorem slot_at (p : PartOf c l ss P i a b k h) {x : Seat} (hx : x ∈ ss) (h0 : ¬ x.n.level = 0) {j : Nat} (hj : j < x.n.kids.length) : x.n.kids.getD j 0 = (kidSt l x j).n.slot := by
 have e := (p.t.at hx h0 hj)
 rw [List.getD_eq_getElem?_getD, List.getElem?_eq_getElem hj, e.2.2.1, (getL_slot p.t.slot e.2.1).1]; rfl
theorem kid_j (p : PartOf c l ss P i a b k h) (j : Nat) : (nP l P i k).n.kids.getD j 0 = if j ≤ i then P.n.kids.getD j 0 else if j = i + 1 then (l.length : Int) else P.n.kids.getD (j - 1) 0 := by
 have hi := p.hi
 show ((P.n.kids.take (i + 1) ++ [(l.length : Int)]) ++ P.n.kids.drop (i + 1)).getD j 0 = _
 rw [List.getD_eq_getElem?_getD, List.getD_eq_getElem?_getD, List.getD_eq_getElem?_getD]
 have l1 : (P.n.kids.take (i + 1)).length = i + 1 := by rw [List.length_take]; omega
 by_cases h1 : j ≤ i
 ·rw [if_pos h1, List.getElem?_append_left (by rw [List.length_append, l1]; omega), List.getElem?_append_left om9, List.getElem?_take, if_pos om9]
 ·rw [if_neg h1]
  by_cases h2 : j = i + 1
  ·rw [if_pos h2, h2, List.getElem?_append_left (by rw [List.length_append, l1]; simp), List.getElem?_append_right om9, l1]; simp
  ·rw [if_neg h2, List.getElem?_append_right (by rw [List.length_append, l1]; simp; omega), List.getElem?_drop, List.length_append, l1]
   congr 2
   simp; omega
theorem rt (p : PartOf c l ss P i a b k h) : rising P.n.pivots = true ∧ P.n.kids.length = P.n.pivots.length + 1 := rightN_spec (kids_all (p.t.kids p.mem) p.h0).2.2.1
theorem rt' (p : PartOf c l ss P i a b k h) : rightN (nP l P i k).n.pivots (nP l P i k).n.kids.length = true := bins_right (kids_all (p.t.kids p.mem) p.h0).2.2.1 p.hi p.kin p.klo
theorem klen (p : PartOf c l ss P i a b k h) : (nP l P i k).n.kids.length = P.n.kids.length + 1 := by
 have := p.hi
 show ((P.n.kids.take (i + 1) ++ [(l.length : Int)]) ++ P.n.kids.drop (i + 1)).length = _
 simp; omega
theorem kroute (p : PartOf c l ss P i a b k h) : routeN P.n.pivots k = i := by
 have h1 := p.rt
 have h2 := p.kin
 rw [range_has h1.1 k (by have := p.hi; omega), decide_eq_true_eq] at h2
 exact h2.symm
theorem route (p : PartOf c l ss P i a b k h) (q : Str) : (q.lt k = true → routeN (nP l P i k).n.pivots q = routeN P.n.pivots q ∧ routeN P.n.pivots q ≤ i) ∧ (q.lt k = false → routeN (nP l P i k).n.pivots q = routeN P.n.pivots q + 1 ∧ i ≤ routeN P.n.pivots q) := by
 have e := route_ins P.n.pivots i k q
 have hk := p.kroute
 constructor
 ·intro hq
  rw [if_pos hq] at e
  have := route_mono (P := P.n.pivots) (p := k) (q := q) (Str.lt_asymm hq)
  exact ⟨by rw [← Nat.add_zero (routeN P.n.pivots q)]; exact e, om9⟩
 ·intro hq
  rw [if_neg (by simp [hq])] at e
  have := route_mono (P := P.n.pivots) (p := q) (q := k) hq
  exact ⟨e, om9⟩
theorem shas (p : PartOf c l ss P i a b k h) {j : Nat} (hj : j ≤ P.n.kids.length) (q : Str) : ((nP l P i k).s.meet (rangeN (nP l P i k).n.pivots (j : Int))).has q = (P.s.has q && decide (j = routeN (nP l P i k).n.pivots q)) := by
 obtain ⟨h1, h2⟩ := rightN_spec p.rt'
 have := p.klen
 rw [meet_has, range_has h1 q om9]; rfl
theorem khas (p : PartOf c l ss P i a b k h) {j : Nat} (hj : j < P.n.kids.length) (q : Str) : (kidSt l P j).s.has q = (P.s.has q && decide (j = routeN P.n.pivots q)) := kidSt_has (kids_all (p.t.kids p.mem) p.h0).2.2.1 hj q
theorem ha (p : PartOf c l ss P i a b k h) (q : Str) : (nA l P i a b k).s.has q = ((kidSt l P i).s.has q && q.lt k) := by
 have h1 := p.shas (j := i) (by have := p.hi; omega) q
 have h2 := p.khas p.hi q
 show ((nP l P i k).s.meet _).has q = _
 rw [h1, h2]
 cases hq : q.lt k
 ·have := (p.route q).2 hq
  rw [decide_eq_false om9]; simp
 ·have := (p.route q).1 hq
  rw [this.1]; simp
theorem hb (p : PartOf c l ss P i a b k h) (q : Str) : (nB l P i a b k).s.has q = ((kidSt l P i).s.has q && !q.lt k) := by
 have h1 := p.shas (j := i + 1) (by have := p.hi; omega) q
 have h2 := p.khas p.hi q
 show ((nP l P i k).s.meet (rangeN _ ((i + 1 : Nat) : Int))).has q = _
 rw [h1, h2]
 cases hq : q.lt k
 ·have := (p.route q).2 hq
  rw [this.1]; simp
 ·have := (p.route q).1 hq
  rw [decide_eq_false (show ¬ i + 1 = routeN (nP l P i k).n.pivots q by omega)]; simp
theorem ams (p : PartOf c l ss P i a b k h) : (nA l P i a b k).ms = clips (nA l P i a b k).s (kidSt l P i).ms := by
 have h1 := (p.t.two p.mem (nA l P i a b k).s).1
 have h2 := (p.t.kid_ms p.mem (p.t.rst P p.mem) i).1
 rw [h2, clips_append, clips_clips (fun q hq => by rw [p.ha, Bool.and_eq_true] at hq; exact hq.1), clips_clips (fun q hq => by rw [p.ha, Bool.and_eq_true] at hq; exact hq.1), ← h1]
 rfl
theorem bms (p : PartOf c l ss P i a b k h) : (nB l P i a b k).ms = clips (nB l P i a b k).s (kidSt l P i).ms := by
 have h1 := (p.t.two p.mem (nB l P i a b k).s).1
 have h2 := (p.t.kid_ms p.mem (p.t.rst P p.mem) i).1
 rw [h2, clips_append, clips_clips (fun q hq => by rw [p.hb, Bool.and_eq_true] at hq; exact hq.1), clips_clips (fun q hq => by rw [p.hb, Bool.and_eq_true] at hq; exact hq.1), ← h1]
 rfl
theorem an (p : PartOf c l ss P i a b k h) : (nA l P i a b k).n = a := by
 show (findN _ ((nP l P i k).n.kids.getD i 0)).1 = a
 rw [p.kid_j, if_pos (Nat.le_refl i), p.slot_at p.mem p.h0 p.hi, p.find_k]
theorem bn (p : PartOf c l ss P i a b k h) : (nB l P i a b k).n = b := by
 show (findN _ ((nP l P i k).n.kids.getD (i + 1) 0)).1 = b
 rw [p.kid_j, if_neg om9, if_pos rfl, p.find_y]
theorem hs (p : PartOf c l ss P i a b k h) : HSeat (kidSt l P i) (nA l P i a b k) (nB l P i a b k) k h := by
 refine ⟨by rw [p.an, p.bn]; exact p.hv, p.ha, p.hb, meet_norm _ _, meet_norm _ _, fun s hs => ?_, fun s hs => ?_⟩
 ·rw [p.an, p.ams, clips_clips hs]
  by_cases h0 : (kidSt l P i).n.level = 0
  ·rw [(p.m0 h0).1]
  ·rw [(p.m1 h0).1, clips_clips fun q hq => ?_]
   have := hs q hq
   rw [p.ha, Bool.and_eq_true] at this
   exact span_has.2 ⟨Str.nil_le q, .inr this.2⟩
 ·rw [p.bn, p.bms, clips_clips hs]
  by_cases h0 : (kidSt l P i).n.level = 0
  ·rw [(p.m0 h0).2]
  ·rw [(p.m1 h0).2, clips_clips fun q hq => ?_]
   have := hs q hq
   rw [p.hb, Bool.and_eq_true] at this
   exact span_has.2 ⟨by simpa using this.2, .inl rfl⟩
end PartOf
end Go.Fw
