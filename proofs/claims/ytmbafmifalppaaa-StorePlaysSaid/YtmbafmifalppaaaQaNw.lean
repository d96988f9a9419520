/- A sound tree with a kid in two is sound, and stands for the same map. Plain Lean; nothing of the program is named here. No condition. -/
import Derived.Test.YtmbafmifalppaaaQaNv
set_option linter.unusedVariables false
set_option linter.unusedSimpArgs false
set_option linter.unnecessarySimpa false

namespace Go.Fw
open Go Go.RowKit
theorem nds_R {c : Cfg} {n : Nd} (hc : CfgR c) (hR : n.R c.fan c.leaf c.bud) : NdS n := by
 obtain ⟨⟨q1, q2, q3⟩, q4, q5, q6⟩ := hR
 obtain ⟨c1, c2, c3, c4, c5⟩ := hc
 have hh : n.high.b.size ≤ 4000 := by
  cases e : n.top
  ·have := (q5 e).2.1; omega
  ·rw [(q4 e).1]; decide
 by_cases h0 : n.level = 0
 ·rw [if_pos h0] at q6
  obtain ⟨r1, r2, r3, r4⟩ := q6
  have e1 : n.msgs = [] := List.eq_nil_of_length_eq_zero (by omega)
  have e2 : n.pivots = [] := List.eq_nil_of_length_eq_zero (by omega)
  refine ⟨by omega, by omega, by omega, by omega, hh, (by rw [e1]; intro m hm; cases hm), (by rw [e2]; intro m hm; cases hm), fun p hp => ?_⟩
  have := (pairsR_iff.1 r3).1 p hp
  exact ⟨by have := this.1; omega, by have := this.2; omega⟩
 ·rw [if_neg h0] at q6
  obtain ⟨⟨r1, r2, r3⟩, r4, r5, r6, r7, r8, r9⟩ := q6
  have e1 : n.rows = [] := List.eq_nil_of_length_eq_zero r1
  have hp := (rightN_spec r4).2
  have hm : ∀ m ∈ n.msgs, m.R := (MsgsR.iff.1 r5).1
  have hl := sizes_len hm
  refine ⟨by omega, by omega, by omega, by omega, hh, fun m h => ?_, fun p h => ?_, (by rw [e1]; intro m hm; cases hm)⟩
  ·have := (hm m h).1
   exact ⟨by omega, by omega, by omega⟩
  ·obtain ⟨i, hi, rfl⟩ := List.getElem_of_mem h
   have := (r8 i hi).2.1; omega
theorem sml_R {c : Cfg} {l : List Nd} (hc : CfgR c) (hl : l.length ≤ 100) (h : ∀ n ∈ l, n.R c.fan c.leaf c.bud) : Sml l := ⟨hl, fun n hn => nds_R hc (h n hn)⟩
theorem slots_range {l : List Nd} (hs : SlotsP l) : (l.map fun n : Nd => n.slot) = (List.range l.length).map fun i : Nat => (i : Int) := by
 refine List.ext_getElem (by simp) fun i hi hj => ?_
 simp only [List.getElem_map, List.getElem_range]
 exact (hs i (by simpa using hi)).1
theorem flat_id {f : Seat → List Seat} : ∀ {L : List Seat}, (∀ y ∈ L, f y = [y]) → L.flatMap f = L
 | [], _ => rfl
 | y :: L, h => by rw [List.flatMap_cons, h y (by simp), flat_id fun z hz => h z (List.mem_cons_of_mem _ hz)]; rfl
theorem leaves_flat {f : Seat → List Seat} : ∀ {L : List Seat}, (∀ x ∈ L, (leavesS (f x)).flatMap viewS = (leavesS [x]).flatMap viewS) → (leavesS (L.flatMap f)).flatMap viewS = (leavesS L).flatMap viewS
 | [], _ => rfl
 | x :: L, h => by
  have ih := leaves_flat (f := f) (L := L) fun z hz => h z (List.mem_cons_of_mem _ hz)
  have e1 : leavesS ((x :: L).flatMap f) = leavesS (f x) ++ leavesS (L.flatMap f) := by unfold leavesS; rw [List.flatMap_cons, List.filter_append]
  have e2 : leavesS (x :: L) = leavesS [x] ++ leavesS L := by unfold leavesS; rw [← List.filter_append]; rfl
  rw [e1, e2, List.flatMap_append, List.flatMap_append, h x (by simp), ih]
theorem flat_fix {f K K' : Seat → List Seat} : ∀ {L : List Seat}, (∀ x ∈ L, (f x).flatMap K' = (K x).flatMap f) → (L.flatMap f).flatMap K' = (L.flatMap K).flatMap f
 | [], _ => rfl
 | x :: L, h => by
  rw [List.flatMap_cons, List.flatMap_cons, List.flatMap_append, List.flatMap_append, h x (by simp), flat_fix fun z hz => h z (List.mem_cons_of_mem _ hz)]
def adoptNd (n : Nd) (i : Nat) (k : Str) (v : Int) : Nd := { n with pivots := (n.pivots.take i ++ [k]) ++ n.pivots.drop i, kids := (n.kids.take (i + 1) ++ [v]) ++ n.kids.drop (i + 1) }
def partL (l : List Nd) (P : Nd) (i : Nat) (a b : Nd) (k : Str) : List Nd := ((l.set a.slot.toNat a).set P.slot.toNat (adoptNd P i k l.length)) ++ [b]
structure PartOf (c : Cfg) (l : List Nd) (ss : List Seat) (P : Seat) (i : Nat) (a b : Nd) (k : Str) (h : Nat) : Prop where
 t : Tree c l ss
 mem : P ∈ ss
 h0 : ¬ P.n.level = 0
 hi : i < P.n.kids.length
 hv : Halves (kidSt l P i).n a b k h
 sa : a.slot = (kidSt l P i).n.slot
 sb : b.slot = l.length
 ea : a.seen = (kidSt l P i).n.seen
 eb : b.seen = (kidSt l P i).n.seen
 m0 : (kidSt l P i).n.level = 0 → a.msgs = (kidSt l P i).n.msgs ∧ b.msgs = (kidSt l P i).n.msgs
 m1 : ¬ (kidSt l P i).n.level = 0 → a.msgs = clips ⟨Str.nil, k, false⟩ (kidSt l P i).n.msgs ∧ b.msgs = clips ⟨k, Str.nil, true⟩ (kidSt l P i).n.msgs
 nk : (kidSt l P i).n.has k = true
 aR : a.R c.fan c.leaf c.bud
 bR : b.R c.fan c.leaf c.bud
 kin : (rangeN P.n.pivots (i : Int)).has k = true
 klo : ¬ k = (rangeN P.n.pivots (i : Int)).lo
 full : (P.n.kids.length : Int) < c.fan
 room : (l.length : Int) < c.slots
 few : l.length < 100
namespace PartOf
variable {c : Cfg} {l : List Nd} {ss : List Seat} {P : Seat} {i : Nat} {a b : Nd} {k : Str} {h : Nat}
theorem km (p : PartOf c l ss P i a b k h) : kidSt l P i ∈ ss ∧ (kidSt l P i).n.level = P.n.level - 1 := by
 have := p.t.at p.mem p.h0 p.hi
 exact ⟨this.1, this.2.2.2⟩
theorem ne (p : PartOf c l ss P i a b k h) {x y : Seat} (hx : x ∈ ss) (hy : y ∈ ss) (hl : x.n.level ≠ y.n.level) : x.n.slot ≠ y.n.slot := fun e => hl (by rw [p.t.uniq hx hy e])
theorem ksl (p : PartOf c l ss P i a b k h) : (kidSt l P i).n.slot ≠ P.n.slot := p.ne p.km.1 p.mem (by have := p.km.2; omega)
theorem sin (p : PartOf c l ss P i a b k h) {x : Seat} (hx : x ∈ ss) : 0 ≤ x.n.slot ∧ x.n.slot < l.length := (p.t.nd hx).1
theorem lseen (p : PartOf c l ss P i a b k h) {x : Seat} (hx : x ∈ ss) : x.n.seen ≤ 1099511627776 := by
 obtain ⟨j, hj, e⟩ := List.getElem_of_mem (p.t.nd hx).2.2
 rw [← e]; exact (p.t.slot j hj).2
theorem slots (p : PartOf c l ss P i a b k h) : SlotsP (partL l P.n i a b k) := by
 have hk := p.sin p.km.1
 have hp := p.sin p.mem
 have h1 := slots_set p.t.slot (x := a) (by rw [p.sa]; exact hk) (by rw [p.ea]; exact p.lseen p.km.1)
 have h2 := slots_set h1 (x := adoptNd P.n i k l.length) (by rw [List.length_set]; exact hp) (p.lseen p.mem)
 exact slots_snoc h2 (by rw [List.length_set, List.length_set]; exact p.sb) (by rw [p.eb]; exact p.lseen p.km.1)
theorem len (p : PartOf c l ss P i a b k h) : (partL l P.n i a b k).length = l.length + 1 := by
 unfold partL; rw [List.length_append, List.length_set, List.length_set]; rfl
theorem get (p : PartOf c l ss P i a b k h) (s : Int) : getL (partL l P.n i a b k) s = if s = l.length then b else if s = P.n.slot then adoptNd P.n i k l.length else if s = (kidSt l P i).n.slot then a else getL l s := by
 have hk := p.sin p.km.1
 have hp := p.sin p.mem
 unfold partL
 rw [getL_snoc, List.length_set, List.length_set]
 split
 ·rfl
 ·have e := getL_set (l := l.set a.slot.toNat a) (x := adoptNd P.n i k l.length) (by rw [List.length_set]; exact hp) s
  rw [show (adoptNd P.n i k l.length).slot = P.n.slot from rfl] at e
  rw [e]
  split
  ·rfl
  ·rw [getL_set (by rw [p.sa]; exact hk), p.sa]
theorem find (p : PartOf c l ss P i a b k h) (s : Int) : findN (partL l P.n i a b k) s = (if s = l.length then b else if s = P.n.slot then adoptNd P.n i k l.length else if s = (kidSt l P i).n.slot then a else getL l s, decide (0 ≤ s ∧ s < (l.length : Int) + 1)) := by
 rw [find_eq p.slots, p.get, p.len]
 congr 1
theorem find_x (p : PartOf c l ss P i a b k h) {x : Seat} (hx : x ∈ ss) (h1 : x.n.slot ≠ P.n.slot) (h2 : x.n.slot ≠ (kidSt l P i).n.slot) : findN (partL l P.n i a b k) x.n.slot = findN l x.n.slot := by
 have := p.sin hx
 rw [p.find, if_neg (by omega), if_neg h1, if_neg h2, find_eq p.t.slot, decide_eq_true (by omega), decide_eq_true (by omega)]
theorem find_p (p : PartOf c l ss P i a b k h) : findN (partL l P.n i a b k) P.n.slot = (adoptNd P.n i k l.length, true) := by
 have := p.sin p.mem
 rw [p.find, if_neg (by omega), if_pos rfl, decide_eq_true (by omega)]
theorem find_k (p : PartOf c l ss P i a b k h) : findN (partL l P.n i a b k) (kidSt l P i).n.slot = (a, true) := by
 have := p.sin p.km.1
 rw [p.find, if_neg (by omega), if_neg p.ksl, if_pos rfl, decide_eq_true (by omega)]
theorem find_y (p : PartOf c l ss P i a b k h) : findN (partL l P.n i a b k) (l.length : Int) = (b, true) := by
 rw [p.find, if_pos rfl, decide_eq_true (by omega)]
noncomputable def nP (l : List Nd) (P : Seat) (i : Nat) (k : Str) : Seat := ⟨adoptNd P.n i k l.length, P.s, P.ms⟩
noncomputable def nA (l : List Nd) (P : Seat) (i : Nat) (a b : Nd) (k : Str) : Seat := kidSt (partL l P.n i a b k) (nP l P i k) i
noncomputable def nB (l : List Nd) (P : Seat) (i : Nat) (a b : Nd) (k : Str) : Seat := kidSt (partL l P.n i a b k) (nP l P i k) (i + 1)
theorem slot_at (p : PartOf c l ss P i a b k h) {x : Seat} (hx : x ∈ ss) (h0 : ¬ x.n.level = 0) {j : Nat} (hj : j < x.n.kids.length) : x.n.kids.getD j 0 = (kidSt l x j).n.slot := by
 have e := (p.t.at hx h0 hj)
 rw [List.getD_eq_getElem?_getD, List.getElem?_eq_getElem hj, e.2.2.1, (getL_slot p.t.slot e.2.1).1]; rfl
theorem kid_j (p : PartOf c l ss P i a b k h) (j : Nat) : (nP l P i k).n.kids.getD j 0 = if j ≤ i then P.n.kids.getD j 0 else if j = i + 1 then (l.length : Int) else P.n.kids.getD (j - 1) 0 := by
 have hi := p.hi
 show ((P.n.kids.take (i + 1) ++ [(l.length : Int)]) ++ P.n.kids.drop (i + 1)).getD j 0 = _
 rw [List.getD_eq_getElem?_getD, List.getD_eq_getElem?_getD, List.getD_eq_getElem?_getD]
 have l1 : (P.n.kids.take (i + 1)).length = i + 1 := by rw [List.length_take]; omega
 by_cases h1 : j ≤ i
 ·rw [if_pos h1, List.getElem?_append_left (by rw [List.length_append, l1]; omega), List.getElem?_append_left (by omega), List.getElem?_take, if_pos (by omega)]
 ·rw [if_neg h1]
  by_cases h2 : j = i + 1
  ·rw [if_pos h2, h2, List.getElem?_append_left (by rw [List.length_append, l1]; simp), List.getElem?_append_right (by omega), l1]; simp
  ·rw [if_neg h2, List.getElem?_append_right (by rw [List.length_append, l1]; simp; omega), List.getElem?_drop, List.length_append, l1]
   congr 2
   simp; omega
theorem rt (p : PartOf c l ss P i a b k h) : rising P.n.pivots = true ∧ P.n.kids.length = P.n.pivots.length + 1 := rightN_spec (kids_all (p.t.kids p.mem) p.h0).2.2.1
theorem rt' (p : PartOf c l ss P i a b k h) : rightN (nP l P i k).n.pivots (nP l P i k).n.kids.length = true := bins_right (kids_all (p.t.kids p.mem) p.h0).2.2.1 p.hi p.kin p.klo
theorem klen (p : PartOf c l ss P i a b k h) : (nP l P i k).n.kids.length = P.n.kids.length + 1 := by
 have := p.hi
 show ((P.n.kids.take (i + 1) ++ [(l.length : Int)]) ++ P.n.kids.drop (i + 1)).length = _
 simp; omega
theorem kroute (p : PartOf c l ss P i a b k h) : routeN P.n.pivots k = i := by
 have h1 := p.rt
 have h2 := p.kin
 rw [range_has h1.1 k (by have := p.hi; omega), decide_eq_true_eq] at h2
 exact h2.symm
theorem route (p : PartOf c l ss P i a b k h) (q : Str) : (q.lt k = true → routeN (nP l P i k).n.pivots q = routeN P.n.pivots q ∧ routeN P.n.pivots q ≤ i) ∧ (q.lt k = false → routeN (nP l P i k).n.pivots q = routeN P.n.pivots q + 1 ∧ i ≤ routeN P.n.pivots q) := by
 have e := route_ins P.n.pivots i k q
 have hk := p.kroute
 constructor
 ·intro hq
  rw [if_pos hq] at e
  have := route_mono (P := P.n.pivots) (p := k) (q := q) (Str.lt_asymm hq)
  exact ⟨by rw [← Nat.add_zero (routeN P.n.pivots q)]; exact e, by omega⟩
 ·intro hq
  rw [if_neg (by simp [hq])] at e
  have := route_mono (P := P.n.pivots) (p := q) (q := k) hq
  exact ⟨e, by omega⟩
theorem shas (p : PartOf c l ss P i a b k h) {j : Nat} (hj : j ≤ P.n.kids.length) (q : Str) : ((nP l P i k).s.meet (rangeN (nP l P i k).n.pivots (j : Int))).has q = (P.s.has q && decide (j = routeN (nP l P i k).n.pivots q)) := by
 obtain ⟨h1, h2⟩ := rightN_spec p.rt'
 have := p.klen
 rw [meet_has, range_has h1 q (by omega)]; rfl
theorem khas (p : PartOf c l ss P i a b k h) {j : Nat} (hj : j < P.n.kids.length) (q : Str) : (kidSt l P j).s.has q = (P.s.has q && decide (j = routeN P.n.pivots q)) := kidSt_has (kids_all (p.t.kids p.mem) p.h0).2.2.1 hj q
theorem ha (p : PartOf c l ss P i a b k h) (q : Str) : (nA l P i a b k).s.has q = ((kidSt l P i).s.has q && q.lt k) := by
 have h1 := p.shas (j := i) (by have := p.hi; omega) q
 have h2 := p.khas p.hi q
 show ((nP l P i k).s.meet _).has q = _
 rw [h1, h2]
 cases hq : q.lt k
 ·have := (p.route q).2 hq
  rw [decide_eq_false (by omega)]; simp
 ·have := (p.route q).1 hq
  rw [this.1]; simp
theorem hb (p : PartOf c l ss P i a b k h) (q : Str) : (nB l P i a b k).s.has q = ((kidSt l P i).s.has q && !q.lt k) := by
 have h1 := p.shas (j := i + 1) (by have := p.hi; omega) q
 have h2 := p.khas p.hi q
 show ((nP l P i k).s.meet (rangeN _ ((i + 1 : Nat) : Int))).has q = _
 rw [h1, h2]
 cases hq : q.lt k
 ·have := (p.route q).2 hq
  rw [this.1]; simp
 ·have := (p.route q).1 hq
  rw [decide_eq_false (show ¬ i + 1 = routeN (nP l P i k).n.pivots q by omega)]; simp
theorem ams (p : PartOf c l ss P i a b k h) : (nA l P i a b k).ms = clips (nA l P i a b k).s (kidSt l P i).ms := by
 have h1 := (p.t.two p.mem (nA l P i a b k).s).1
 have h2 := (p.t.kid_ms p.mem (p.t.rst P p.mem) i).1
 rw [h2, clips_append, clips_clips (fun q hq => by rw [p.ha, Bool.and_eq_true] at hq; exact hq.1), clips_clips (fun q hq => by rw [p.ha, Bool.and_eq_true] at hq; exact hq.1), ← h1]
 rfl
theorem bms (p : PartOf c l ss P i a b k h) : (nB l P i a b k).ms = clips (nB l P i a b k).s (kidSt l P i).ms := by
 have h1 := (p.t.two p.mem (nB l P i a b k).s).1
 have h2 := (p.t.kid_ms p.mem (p.t.rst P p.mem) i).1
 rw [h2, clips_append, clips_clips (fun q hq => by rw [p.hb, Bool.and_eq_true] at hq; exact hq.1), clips_clips (fun q hq => by rw [p.hb, Bool.and_eq_true] at hq; exact hq.1), ← h1]
 rfl
theorem an (p : PartOf c l ss P i a b k h) : (nA l P i a b k).n = a := by
 show (findN _ ((nP l P i k).n.kids.getD i 0)).1 = a
 rw [p.kid_j, if_pos (Nat.le_refl i), p.slot_at p.mem p.h0 p.hi, p.find_k]
theorem bn (p : PartOf c l ss P i a b k h) : (nB l P i a b k).n = b := by
 show (findN _ ((nP l P i k).n.kids.getD (i + 1) 0)).1 = b
 rw [p.kid_j, if_neg (by omega), if_pos rfl, p.find_y]
theorem hs (p : PartOf c l ss P i a b k h) : HSeat (kidSt l P i) (nA l P i a b k) (nB l P i a b k) k h := by
 refine ⟨by rw [p.an, p.bn]; exact p.hv, p.ha, p.hb, meet_norm _ _, meet_norm _ _, fun s hs => ?_, fun s hs => ?_⟩
 ·rw [p.an, p.ams, clips_clips hs]
  by_cases h0 : (kidSt l P i).n.level = 0
  ·rw [(p.m0 h0).1]
  ·rw [(p.m1 h0).1, clips_clips fun q hq => ?_]
   have := hs q hq
   rw [p.ha, Bool.and_eq_true] at this
   exact span_has.2 ⟨Str.nil_le q, .inr this.2⟩
 ·rw [p.bn, p.bms, clips_clips hs]
  by_cases h0 : (kidSt l P i).n.level = 0
  ·rw [(p.m0 h0).2]
  ·rw [(p.m1 h0).2, clips_clips fun q hq => ?_]
   have := hs q hq
   rw [p.hb, Bool.and_eq_true] at this
   exact span_has.2 ⟨by simpa using this.2, .inl rfl⟩
end PartOf
end Go.Fw
