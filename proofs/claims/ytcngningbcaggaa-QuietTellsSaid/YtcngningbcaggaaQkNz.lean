/- A sound tree whose root has got two kids is sound, and stands for the same map. Plain Lean; nothing of the program is named here. No condition. -/
import Derived.Test.YtcngningbcaggaaQkNx
set_option linter.unusedVariables false
set_option linter.unusedSimpArgs false
set_option linter.unnecessarySimpa false

namespace Go.Fw
open Go Go.RowKit
theorem merge_l {X : List Msg} (h : Rst X) : mergeN [X, []] = X := by
 have := (merge_two h List.Pairwise.nil fun a _ b hb => by cases hb).1
 rwa [List.append_nil] at this
theorem merge_r {X : List Msg} (h : Rst X) : mergeN [[], X] = X := (merge_two List.Pairwise.nil h fun a ha => by cases ha).1
def liftR (n : Nd) (k : Str) (x y : Int) : Nd := { n with level := n.level + 1, pivots := [k], kids := [x, y], rows := [], msgs := if n.level = 0 then [] else n.msgs }
def liftH (n z : Nd) (s : Int) : Nd := { z with slot := s, msgs := [], seen := if n.level = 0 then z.seen else 0 }
def liftN (n : Nd) (x y : Int) : Nd × Nd × Nd × Bool :=
 if (cleaveN n y).2.2.2 = true then (liftR n (cleaveN n y).2.2.1 x y, liftH n (cleaveN n y).1 x, liftH n (cleaveN n y).2.1 (cleaveN n y).2.1.slot, true) else (Nd.zero, Nd.zero, Nd.zero, false)
theorem liftN_t {n : Nd} {x y : Int} (h : (cleaveN n y).2.2.2 = true) : liftN n x y = (liftR n (cleaveN n y).2.2.1 x y, liftH n (cleaveN n y).1 x, liftH n (cleaveN n y).2.1 (cleaveN n y).2.1.slot, true) := if_pos h
theorem liftN_f {n : Nd} {x y : Int} (h : (cleaveN n y).2.2.2 = false) : liftN n x y = (Nd.zero, Nd.zero, Nd.zero, false) := if_neg (by simp [h])
def fullN (c : Cfg) (n : Nd) : Bool := if n.level = 0 then decide (c.leaf ≤ (n.rows.length : Int)) else decide (c.fan ≤ (n.kids.length : Int))
theorem lift_ok (n : Nd) (x y : Int) : (liftN n x y).2.2.2 = (cleaveN n y).2.2.2 := by
 cases h : (cleaveN n y).2.2.2
 ·rw [liftN_f h]
 ·rw [liftN_t h]
def liftL (l : List Nd) (r a b : Nd) : List Nd := (l.set 0 r) ++ [a, b]
structure LiftOf (c : Cfg) (l : List Nd) (ss : List Seat) (a0 b0 : Nd) (k : Str) (h : Nat) : Prop where
 t : Tree c l ss
 hv : Halves (rootS l 0).n a0 b0 k h
 sb : b0.slot = (l.length : Int) + 1
 ea : a0.seen = (rootS l 0).n.seen
 eb : b0.seen = (rootS l 0).n.seen
 nk : (rootS l 0).n.has k = true
 aR : a0.R c.fan c.leaf c.bud
 bR : b0.R c.fan c.leaf c.bud
 room : (l.length : Int) + 1 < c.slots
 few : l.length + 2 ≤ 4096
namespace LiftOf
variable {c : Cfg} {l : List Nd} {ss : List Seat} {a0 b0 : Nd} {k : Str} {h : Nat}
noncomputable def nn (l : List Nd) : Nd := (rootS l 0).n
noncomputable def la (l : List Nd) (a0 : Nd) : Nd := liftH (nn l) a0 (l.length : Int)
noncomputable def lb (l : List Nd) (b0 : Nd) : Nd := liftH (nn l) b0 ((l.length : Int) + 1)
noncomputable def lr (l : List Nd) (k : Str) : Nd := liftR (nn l) k (l.length : Int) ((l.length : Int) + 1)
noncomputable def ll (l : List Nd) (a0 b0 : Nd) (k : Str) : List Nd := liftL l (lr l k) (la l a0) (lb l b0)
theorem root0 (p : LiftOf c l ss a0 b0 k h) : (nn l).slot = 0 := p.t.root0
theorem seen (p : LiftOf c l ss a0 b0 k h) : (nn l).seen ≤ 1099511627776 ∧ 0 ≤ (nn l).seen := by
 obtain ⟨j, hj, e⟩ := List.getElem_of_mem (p.t.nd p.t.root).2.2
 have h1 := (p.t.slot j hj).2
 rw [e] at h1
 exact ⟨h1, (p.t.seat p.t.root).1.1.2.2⟩
theorem msgs (p : LiftOf c l ss a0 b0 k h) : (lr l k).msgs = (nn l).msgs := by
 show (if (nn l).level = 0 then [] else (nn l).msgs) = _
 split
 ·rename_i h0; exact (p.t.nomsgs p.t.root h0).symm
 ·rfl
theorem len (p : LiftOf c l ss a0 b0 k h) : (ll l a0 b0 k).length = l.length + 2 := by
 unfold ll liftL; rw [List.length_append, List.length_set]; rfl
theorem slots (p : LiftOf c l ss a0 b0 k h) : SlotsP (ll l a0 b0 k) := by
 have hp := p.t.pos
 have hs := p.seen
 have h1 := slots_set p.t.slot (x := lr l k) (by show 0 ≤ (nn l).slot ∧ _; rw [show (lr l k).slot = (nn l).slot from rfl, p.root0]; omega) hs.1
 rw [show (lr l k).slot.toNat = 0 from by rw [show (lr l k).slot = (nn l).slot from rfl, p.root0]; rfl] at h1
 have sA : (la l a0).seen ≤ 1099511627776 := by
  show (if (nn l).level = 0 then a0.seen else 0) ≤ _
  split
  ·rw [p.ea]; exact hs.1
  ·omega
 have sB : (lb l b0).seen ≤ 1099511627776 := by
  show (if (nn l).level = 0 then b0.seen else 0) ≤ _
  split
  ·rw [p.eb]; exact hs.1
  ·omega
 have h2 := slots_snoc h1 (x := la l a0) (by rw [List.length_set]; rfl) sA
 have h3 := slots_snoc h2 (x := lb l b0) (by rw [List.length_append, List.length_set]; rfl) sB
 rw [List.append_assoc] at h3
 exact h3
theorem get (p : LiftOf c l ss a0 b0 k h) (s : Int) : getL (ll l a0 b0 k) s = if s = (l.length : Int) + 1 then lb l b0 else if s = l.length then la l a0 else if s = 0 then lr l k else getL l s := by
 have hp := p.t.pos
 have e : ll l a0 b0 k = ((l.set (lr l k).slot.toNat (lr l k)) ++ [la l a0]) ++ [lb l b0] := by
  rw [show (lr l k).slot.toNat = 0 from by rw [show (lr l k).slot = (nn l).slot from rfl, p.root0]; rfl, List.append_assoc]; rfl
 have h0 : (lr l k).slot = 0 := p.root0
 rw [e, getL_snoc, getL_snoc, List.length_append, List.length_set, getL_set (by rw [h0]; omega), h0]
 rfl
theorem find (p : LiftOf c l ss a0 b0 k h) (s : Int) : findN (ll l a0 b0 k) s = (if s = (l.length : Int) + 1 then lb l b0 else if s = l.length then la l a0 else if s = 0 then lr l k else getL l s, decide (0 ≤ s ∧ s < (l.length : Int) + 2)) := by
 rw [find_eq p.slots, p.get, p.len]; rfl
theorem find_x (p : LiftOf c l ss a0 b0 k h) {x : Seat} (hx : x ∈ ss) (h1 : x.n.slot ≠ 0) : findN (ll l a0 b0 k) x.n.slot = findN l x.n.slot := by
 have := (p.t.nd hx).1
 rw [p.find, if_neg om9, if_neg om9, if_neg h1, find_eq p.t.slot, decide_eq_true om9, decide_eq_true om9]
theorem find_0 (p : LiftOf c l ss a0 b0 k h) : findN (ll l a0 b0 k) 0 = (lr l k, true) := by
 have := p.t.pos
 rw [p.find, if_neg om9, if_neg om9, if_pos rfl, decide_eq_true om9]
theorem find_a (p : LiftOf c l ss a0 b0 k h) : findN (ll l a0 b0 k) (l.length : Int) = (la l a0, true) := by
 rw [p.find, if_neg om9, if_pos rfl, decide_eq_true om9]
theorem find_b (p : LiftOf c l ss a0 b0 k h) : findN (ll l a0 b0 k) ((l.length : Int) + 1) = (lb l b0, true) := by
 rw [p.find, if_pos rfl, decide_eq_true om9]
noncomputable def nR (l : List Nd) (k : Str) : Seat := ⟨lr l k, Span.all, []⟩
noncomputable def nA (l : List Nd) (a0 b0 : Nd) (k : Str) : Seat := kidSt (ll l a0 b0 k) (nR l k) 0
noncomputable def nB (l : List Nd) (a0 b0 : Nd) (k : Str) : Seat := kidSt (ll l a0 b0 k) (nR l k) 1
theorem rroot (p : LiftOf c l ss a0 b0 k h) : rootS (ll l a0 b0 k) 0 = nR l k := by
 show (⟨(findN _ 0).1, _, _⟩ : Seat) = _
 rw [p.find_0]; rfl
theorem an (p : LiftOf c l ss a0 b0 k h) : (nA l a0 b0 k).n = la l a0 := by
 show (findN _ (l.length : Int)).1 = _
 rw [p.find_a]
theorem bn (p : LiftOf c l ss a0 b0 k h) : (nB l a0 b0 k).n = lb l b0 := by
 show (findN _ ((l.length : Int) + 1)).1 = _
 rw [p.find_b]
theorem route1 (k q : Str) : routeN [k] q = if q.lt k = true then 0 else 1 := by
 unfold routeN
 cases h : q.lt k <;> simp [List.filter_cons, h]
theorem ha (p : LiftOf c l ss a0 b0 k h) (q : Str) : (nA l a0 b0 k).s.has q = ((rootS l 0).s.has q && q.lt k) := by
 show (Span.all.meet (rangeN [k] ((0 : Nat) : Int))).has q = (Span.all.has q && _)
 rw [meet_has, range_has (by rfl) q (Nat.zero_le _), route1]
 cases q.lt k <;> simp
theorem hb (p : LiftOf c l ss a0 b0 k h) (q : Str) : (nB l a0 b0 k).s.has q = ((rootS l 0).s.has q && !q.lt k) := by
 show (Span.all.meet (rangeN [k] ((1 : Nat) : Int))).has q = (Span.all.has q && _)
 rw [meet_has, range_has (by rfl) q (by simp), route1]
 cases q.lt k <;> simp
theorem rst (p : LiftOf c l ss a0 b0 k h) : Rst (nn l).msgs := (p.t.msgs p.t.root).1
theorem ams (p : LiftOf c l ss a0 b0 k h) : (nA l a0 b0 k).ms = clips (nA l a0 b0 k).s (nn l).msgs := by
 show mergeN [clips (nA l a0 b0 k).s (lr l k).msgs, []] = _
 rw [p.msgs, merge_l (clips_rst p.rst)]
theorem bms (p : LiftOf c l ss a0 b0 k h) : (nB l a0 b0 k).ms = clips (nB l a0 b0 k).s (nn l).msgs := by
 show mergeN [clips (nB l a0 b0 k).s (lr l k).msgs, []] = _
 rw [p.msgs, merge_l (clips_rst p.rst)]
theorem hs (p : LiftOf c l ss a0 b0 k h) : HSeat (rootS l 0) (nA l a0 b0 k) (nB l a0 b0 k) k h := by
 refine ⟨?_, p.ha, p.hb, meet_norm _ _, meet_norm _ _, fun s hs => ?_, fun s hs => ?_⟩
 ·rw [p.an, p.bn]
  have hv := p.hv
  exact ⟨hv.la, hv.lb, hv.aend, hv.bend, hv.aright.trans p.sb, hv.leaf, hv.inner, hv.size⟩
 ·rw [p.an, p.ams, clips_clips hs]
  show mergeN [[], clips s (nn l).msgs] = mergeN [clips s (nn l).msgs, []]
  rw [merge_l (clips_rst p.rst), merge_r (clips_rst p.rst)]
 ·rw [p.bn, p.bms, clips_clips hs]
  show mergeN [[], clips s (nn l).msgs] = mergeN [clips s (nn l).msgs, []]
  rw [merge_l (clips_rst p.rst), merge_r (clips_rst p.rst)]
theorem slot_at (p : LiftOf c l ss a0 b0 k h) {x : Seat} (hx : x ∈ ss) (h0 : ¬ x.n.level = 0) {j : Nat} (hj : j < x.n.kids.length) : x.n.kids.getD j 0 = (kidSt l x j).n.slot := by
 have e := (p.t.at hx h0 hj)
 rw [List.getD_eq_getElem?_getD, List.getElem?_eq_getElem hj, e.2.2.1, (getL_slot p.t.slot e.2.1).1]; rfl
theorem kid0 (p : LiftOf c l ss a0 b0 k h) {x : Seat} (hx : x ∈ ss) (h0 : ¬ x.n.level = 0) {j : Nat} (hj : j < x.n.kids.length) : findN (ll l a0 b0 k) (x.n.kids.getD j 0) = findN l (x.n.kids.getD j 0) := by
 rw [p.slot_at hx h0 hj]
 refine p.find_x (p.t.at hx h0 hj).1 fun e => ?_
 have hin : kidSt l x j ∈ kidsD l x := by rw [(kids_all (p.t.kids hx) h0).1]; exact List.mem_map.2 ⟨j, List.mem_range.2 hj, rfl⟩
 exact p.t.root_kid hx hin (by rw [e]; exact p.t.root0.symm)
theorem fixK (p : LiftOf c l ss a0 b0 k h) : (kidsO (ll l a0 b0 k) (nA l a0 b0 k)).isSome = true ∧ (kidsO (ll l a0 b0 k) (nB l a0 b0 k)).isSome = true ∧ kidsD (ll l a0 b0 k) (nA l a0 b0 k) ++ kidsD (ll l a0 b0 k) (nB l a0 b0 k) = kidsD l (rootS l 0) := by
 refine HSeat.kids p.t p.t.root p.hs fun j hj => ?_
 by_cases h0 : (rootS l 0).n.level = 0
 ·have := (p.t.leaf p.t.root h0).1
  omega
 ·exact p.kid0 p.t.root h0 hj
theorem fixR (p : LiftOf c l ss a0 b0 k h) : (kidsO (ll l a0 b0 k) (nR l k)).isSome = true ∧ kidsD (ll l a0 b0 k) (nR l k) = [nA l a0 b0 k, nB l a0 b0 k] := by
 have hl := p.t.lvl p.t.root
 obtain ⟨g1, g2⟩ := kids_mk (l := ll l a0 b0 k) (x := nR l k) (by show 0 < (nn l).level + 1; have : 0 ≤ (nn l).level := hl; omega) (by rfl) fun j hj => by
  have hj : j < 2 := hj
  have e : ∀ z : Nd, z.level = (nn l).level → decide (z.level = (nR l k).n.level - 1) = true := fun z hz => by
   rw [decide_eq_true_eq, hz]
   show _ = (nn l).level + 1 - 1
   omega
  unfold kidOk
  rcases Nat.lt_or_ge j 1 with h | h
  ·have : j = 0 := om9
   subst this
   show ((findN _ (l.length : Int)).2 && _) = true
   rw [show (nR l k).n.kids.getD 0 0 = (l.length : Int) from rfl, p.find_a]
   exact e (la l a0) p.hv.la
  ·have : j = 1 := om9
   subst this
   show ((findN _ ((l.length : Int) + 1)).2 && _) = true
   rw [show (nR l k).n.kids.getD 1 0 = (l.length : Int) + 1 from rfl, p.find_b]
   exact e (lb l b0) p.hv.lb
 exact ⟨g1, g2⟩
theorem fixX (p : LiftOf c l ss a0 b0 k h) {x : Seat} (hx : x ∈ ss) : (kidsO (ll l a0 b0 k) x).isSome = true ∧ kidsD (ll l a0 b0 k) x = kidsD l x := by
 by_cases h0 : x.n.level = 0
 ·rw [kidsO_0 h0, kids_leaf h0, kids_leaf h0]; exact ⟨rfl, rfl⟩
 ·obtain ⟨h1, h2, h3, h4⟩ := kids_all (p.t.kids hx) h0
  obtain ⟨g1, g2⟩ := kids_mk (l := ll l a0 b0 k) (x := x) h2 h3 fun j hj => by
   rw [kidOk_ext (l' := l) (y := x) (j := j) (p.kid0 hx h0 hj) rfl]; exact h4 j hj
  refine ⟨g1, ?_⟩
  rw [g2, h1]
  exact List.map_congr_left fun j hj => kidSt_ext (by rw [p.kid0 hx h0 (List.mem_range.1 hj)]) (fun _ => rfl) fun _ _ => rfl
noncomputable def rest (l : List Nd) (ss : List Seat) : List Seat := ss.flatMap (kidsD l)
theorem in_rest (p : LiftOf c l ss a0 b0 k h) {x : Seat} (hx : x ∈ rest l ss) : x ∈ ss := by
 rw [p.t.fix]; exact List.mem_cons_of_mem _ hx
theorem rest_fix (p : LiftOf c l ss a0 b0 k h) : rest l ss = kidsD l (rootS l 0) ++ (rest l ss).flatMap (kidsD l) := by
 have h1 : rest l ss = (rootS l 0 :: rest l ss).flatMap (kidsD l) := by
  conv => lhs; unfold rest; rw [p.t.fix]
  rfl
 rw [List.flatMap_cons] at h1
 exact h1
theorem flat_same {f g : Seat → List Seat} : ∀ {L : List Seat}, (∀ x ∈ L, f x = g x) → L.flatMap f = L.flatMap g
 | [], _ => rfl
 | x :: L, h => by rw [List.flatMap_cons, List.flatMap_cons, h x (by simp), flat_same fun z hz => h z (List.mem_cons_of_mem _ hz)]
noncomputable def seats (l : List Nd) (ss : List Seat) (a0 b0 : Nd) (k : Str) : List Seat := nR l k :: nA l a0 b0 k :: nB l a0 b0 k :: rest l ss
theorem fix (p : LiftOf c l ss a0 b0 k h) : seats l ss a0 b0 k = rootS (ll l a0 b0 k) 0 :: (seats l ss a0 b0 k).flatMap (kidsD (ll l a0 b0 k)) := by
 rw [p.rroot]
 unfold seats
 rw [List.flatMap_cons, List.flatMap_cons, List.flatMap_cons, p.fixR.2, ← List.append_assoc (kidsD _ (nA l a0 b0 k)), p.fixK.2.2, flat_same fun x hx => (p.fixX (p.in_rest hx)).2, ← p.rest_fix]
 rfl
theorem top (p : LiftOf c l ss a0 b0 k h) : (nn l).top = true ∧ (nn l).high = Str.nil ∧ (nn l).right = -1 := by
 have h1 := (p.t.seat p.t.root).2.1.1.1
 have h2 : (nn l).top = true := h1
 have h3 := (p.t.seat p.t.root).1.2.1 h2
 exact ⟨h2, h3.1, h3.2⟩
theorem perm (p : LiftOf c l ss a0 b0 k h) : ((seats l ss a0 b0 k).map fun x : Seat => x.n.slot).Perm ((ll l a0 b0 k).map fun n : Nd => n.slot) := by
 have h4 : ((ll l a0 b0 k).map fun n : Nd => n.slot) = (l.map fun n : Nd => n.slot) ++ [(l.length : Int), (l.length : Int) + 1] := by
  rw [slots_range p.slots, slots_range p.t.slot, p.len, List.range_succ, List.range_succ, List.map_append, List.map_append, List.append_assoc]; rfl
 have h5 := p.t.perm_s
 rw [p.t.fix] at h5
 rw [h4]
 refine List.Perm.trans ?_ (List.Perm.append_right _ h5)
 unfold seats
 rw [List.map_cons, List.map_cons, List.map_cons, List.map_cons, p.an, p.bn, List.cons_append]
 rw [show (nR l k).n.slot = (rootS l 0).n.slot from rfl]
 refine List.Perm.cons _ ?_
 exact (List.perm_append_comm (l₁ := [(l.length : Int), (l.length : Int) + 1]))
theorem lk (p : LiftOf c l ss a0 b0 k h) : LkK ((seats l ss a0 b0 k).map Seat.key) := by
 have h1 := (linked_iff ss).1 p.t.q.1.2.1
 rw [p.t.fix, List.map_cons] at h1
 have e0 : Seat.key (rootS l 0) = ((nn l).slot, (nn l).level, -1) := by
  show ((nn l).slot, (nn l).level, (nn l).right) = _
  rw [p.top.2.2]
 rw [e0] at h1
 have h2 := lk_lift (x := (l.length : Int)) (y := (l.length : Int) + 1) h1
 unfold seats
 rw [List.map_cons, List.map_cons, List.map_cons]
 have e1 : Seat.key (nR l k) = ((nn l).slot, (nn l).level + 1, -1) := by
  show ((nn l).slot, (nn l).level + 1, (nn l).right) = _
  rw [p.top.2.2]
 have e2 : Seat.key (nA l a0 b0 k) = ((l.length : Int), (nn l).level, (l.length : Int) + 1) := by
  unfold Seat.key; rw [p.an]
  show ((l.length : Int), a0.level, a0.right) = _
  rw [p.hv.la, p.hv.aright, p.sb]; rfl
 have e3 : Seat.key (nB l a0 b0 k) = ((l.length : Int) + 1, (nn l).level, -1) := by
  unfold Seat.key; rw [p.bn]
  show ((l.length : Int) + 1, b0.level, b0.right) = _
  rw [p.hv.lb, p.hv.bend.2.2, show (rootS l 0).n.right = (nn l).right from rfl, p.top.2.2]; rfl
 rw [e1, e2, e3]
 exact h2
theorem halfR (p : LiftOf c l ss a0 b0 k h) {z : Nd} (hz : z.R c.fan c.leaf c.bud) (s : Int) (hs : 0 ≤ s) : (liftH (nn l) z s).R c.fan c.leaf c.bud := by
 obtain ⟨⟨q1, q2, q3⟩, q4, q5, q6⟩ := hz
 have hc := p.t.cfg.2.2.1
 refine ⟨⟨hs, q2, ?_⟩, q4, q5, ?_⟩
 ·show 0 ≤ (if (nn l).level = 0 then z.seen else 0)
  split <;> omega
 ·by_cases h0 : z.level = 0
  ·rw [if_pos h0] at q6
   rw [if_pos (show (liftH (nn l) z s).level = 0 from h0)]
   obtain ⟨r1, r2, r3, r4⟩ := q6
   exact ⟨by show z.pivots.length + z.kids.length + 0 = 0; omega, r2, r3, r4⟩
  ·rw [if_neg h0] at q6
   rw [if_neg (show ¬ (liftH (nn l) z s).level = 0 from h0)]
   obtain ⟨r1, r4, r5, r6, r7, r8, r9⟩ := q6
   exact ⟨r1, r4, (fun i hi => absurd hi (Nat.not_lt_zero _)), by show (0 : Int) ≤ _; omega, r7, r8, fun i hi => absurd hi (Nat.not_lt_zero _)⟩
theorem rR (p : LiftOf c l ss a0 b0 k h) : (lr l k).R c.fan c.leaf c.bud := by
 obtain ⟨⟨q1, q2, q3⟩, q4, q5, q6⟩ := (p.t.seat p.t.root).1
 have hc := p.t.cfg
 have h0 : ¬ (lr l k).level = 0 := by show ¬ (nn l).level + 1 = 0; have : 0 ≤ (nn l).level := q2; omega
 have hn : MsgsR (lr l k).msgs ∧ sizesN (lr l k).msgs ≤ c.bud ∧ ∀ i (h : i < (lr l k).msgs.length), (lr l k).fits (lr l k).msgs[i] := by
  by_cases h1 : (nn l).level = 0
  ·have e : (lr l k).msgs = [] := if_pos h1
   rw [e]
   exact ⟨fun i hi => absurd hi (Nat.not_lt_zero _), by show (0 : Int) ≤ _; have := hc.2.2.1; omega, fun i hi => absurd hi (Nat.not_lt_zero _)⟩
  ·have q6 : (nn l).innerR c.fan c.bud := p.t.inner p.t.root h1
   obtain ⟨r1, r4, r5, r6, r7, r8, r9⟩ := q6
   have e := p.msgs
   refine ⟨by rw [e]; exact r5, by rw [e]; exact r6, fun i hi => ?_⟩
   have hi2 : i < (nn l).msgs.length := by rw [← e]; exact hi
   have e2 : (lr l k).msgs[i] = (nn l).msgs[i] := by simp only [e]
   rw [e2]; exact r9 i hi2
 refine ⟨⟨q1, by show 0 ≤ (nn l).level + 1; have : 0 ≤ (nn l).level := q2; omega, q3⟩, q4, q5, ?_⟩
 rw [if_neg h0]
 refine ⟨⟨rfl, by show 2 ≤ 2; omega, by show ((2 : Nat) : Int) ≤ _; have := hc.1; omega⟩, by rfl, hn.1, hn.2.1, fun i hi => ?_, fun i hi => ?_, hn.2.2⟩
 ·have hm : (lr l k).kids[i] ∈ [(l.length : Int), (l.length : Int) + 1] := List.getElem_mem hi
  simp only [List.mem_cons, List.not_mem_nil, or_false] at hm
  omega
 ·have hm : (lr l k).pivots[i] ∈ [k] := List.getElem_mem hi
  rw [List.mem_singleton] at hm
  rw [hm]
  exact ⟨p.hv.size.1, p.hv.size.2, p.nk⟩
theorem rP (p : LiftOf c l ss a0 b0 k h) : PlacedP (nR l k) := by
 obtain ⟨p0, p3, p4, p5⟩ := (p.t.seat p.t.root).2.1
 refine ⟨p0, fun i hi => absurd hi (Nat.not_lt_zero _), fun i hi => ?_, fun i hi => ?_⟩
 ·have hm : (nR l k).n.pivots[i] ∈ [k] := List.getElem_mem hi
  rw [List.mem_singleton] at hm
  rw [hm]
  exact ⟨all_has k, p.hv.size.1⟩
 ·have e : (nR l k).n.msgs = (nn l).msgs := p.msgs
  have e2 : (nR l k).n.msgs[i] = (nn l).msgs[i]'(by rw [← e]; exact hi) := by simp only [e]
  rw [e2]
  exact p5 i (by rw [show (rootS l 0).n.msgs = (nn l).msgs from rfl, ← e]; exact hi)
theorem seatP (p : LiftOf c l ss a0 b0 k h) : ∀ z ∈ seats l ss a0 b0 k, SeatP c z := fun z hz => by
 have hsl := p.room
 have st : ∀ {s : Span} {ms : List Msg} {e : Nd}, e.seen = (nn l).seen → ms = clips s (nn l).msgs → ∀ j (hj : j < ms.length), (if (nn l).level = 0 then e.seen else 0) < ms[j].stamp := fun es e j hj => by
  subst e
  by_cases h0 : (nn l).level = 0
  ·have : (nn l).msgs = [] := p.t.nomsgs p.t.root h0
   rw [this] at hj
   exact absurd hj (Nat.not_lt_zero _)
  ·rw [if_neg h0]
   obtain ⟨m0, hm0, e⟩ := clips_stamp (List.getElem_mem hj)
   have := ((p.t.msgs p.t.root).2.1 m0 hm0).1.1
   rw [e]; omega
 unfold seats at hz
 simp only [List.mem_cons] at hz
 have nil : ∀ {s : Span} (m : Msg), m ∈ ([] : List Msg) → ∃ m' ∈ (rootS l 0).n.msgs, (m'.clip s).2 = true ∧ (m'.clip s).1 = m := fun m hm => by cases hm
 rcases hz with rfl | rfl | rfl | hz
 ·exact ⟨p.rR, p.rP, by show (nn l).slot < _; rw [p.root0]; omega, fun j hj => absurd hj (Nat.not_lt_zero _)⟩
 ·refine ⟨by rw [p.an]; exact p.halfR p.aR _ om9, HSeat.placedA p.t p.t.root p.hs (by rfl) p.nk (by rw [p.an]; exact nil), by rw [p.an]; show (l.length : Int) < _; omega, fun j hj => ?_⟩
  rw [p.an]; exact st p.ea p.ams j hj
 ·refine ⟨by rw [p.bn]; exact p.halfR p.bR _ om9, HSeat.placedB p.t p.t.root p.hs (by rfl) p.nk (by rw [p.bn]; exact nil), by rw [p.bn]; show (l.length : Int) + 1 < _; omega, fun j hj => ?_⟩
  rw [p.bn]; exact st p.eb p.bms j hj
 ·exact p.t.seat (p.in_rest hz)
theorem tree (p : LiftOf c l ss a0 b0 k h) : Tree c (ll l a0 b0 k) (seats l ss a0 b0 k) := by
 have hfew := p.few
 have hroom := p.room
 refine tree_mk p.t.cfg (by rw [p.len]; omega) (sml_R p.t.cfg (by rw [p.len]; omega) fun n hn => ?_) p.slots p.fix (fun z hz => ?_) p.perm p.lk (by rw [p.len]; omega) p.seatP
 ·have old : ∀ n ∈ l, n.R c.fan c.leaf c.bud := fun n hn => by
   have := (p.t.perm.mem_iff).2 hn
   obtain ⟨x, hx, rfl⟩ := List.mem_map.1 this
   exact (p.t.seat hx).1
  unfold ll liftL at hn
  rcases List.mem_append.1 hn with hn | hn
  ·rcases List.mem_or_eq_of_mem_set hn with hn | rfl
   ·exact old n hn
   ·exact p.rR
  ·simp only [List.mem_cons, List.not_mem_nil, or_false] at hn
   rcases hn with rfl | rfl
   ·exact p.halfR p.aR _ om9
   ·exact p.halfR p.bR _ om9
 ·unfold seats at hz
  simp only [List.mem_cons] at hz
  rcases hz with rfl | rfl | rfl | hz
  ·exact p.fixR.1
  ·exact p.fixK.1
  ·exact p.fixK.2.1
  ·exact (p.fixX (p.in_rest hz)).1
theorem map (p : LiftOf c l ss a0 b0 k h) : mapN (ll l a0 b0 k) = mapN l := by
 rw [mapN_t p.tree.sts, mapN_t p.t.sts]
 have h1 := HSeat.view p.t p.t.root p.hs (fun _ => by rw [p.ams, clips_clips fun _ h => h]; rw [show (nn l).msgs = [] from p.t.nomsgs p.t.root (by assumption)]; rfl) (fun _ => by rw [p.bms, clips_clips fun _ h => h]; rw [show (nn l).msgs = [] from p.t.nomsgs p.t.root (by assumption)]; rfl)
 have e2 : ¬ (nR l k).n.level = 0 := by show ¬ (nn l).level + 1 = 0; have : 0 ≤ (nn l).level := p.t.lvl p.t.root; omega
 have e3 : leavesS ss = leavesS [rootS l 0] ++ leavesS (rest l ss) := by
  conv => lhs; rw [p.t.fix]
  unfold leavesS
  rw [← List.filter_append]; rfl
 have e4 : leavesS (seats l ss a0 b0 k) = leavesS [nA l a0 b0 k, nB l a0 b0 k] ++ leavesS (rest l ss) := by
  unfold leavesS
  rw [← List.filter_append]
  unfold seats
  rw [List.filter_cons, if_neg (by simpa using e2)]; rfl
 rw [e3, e4, List.flatMap_append, List.flatMap_append, h1]
end LiftOf
theorem lift_of {c : Cfg} {l : List Nd} {ss : List Seat} (t : Tree c l ss) (room : (l.length : Int) + 1 < c.slots) (few : l.length + 2 ≤ 4096)
  (hc : (liftN (rootS l 0).n l.length ((l.length : Int) + 1)).2.2.2 = true) :
  ∃ T, Tree c (liftL l (liftN (rootS l 0).n l.length ((l.length : Int) + 1)).1 (liftN (rootS l 0).n l.length ((l.length : Int) + 1)).2.1 (liftN (rootS l 0).n l.length ((l.length : Int) + 1)).2.2.1) T ∧
   mapN (liftL l (liftN (rootS l 0).n l.length ((l.length : Int) + 1)).1 (liftN (rootS l 0).n l.length ((l.length : Int) + 1)).2.1 (liftN (rootS l 0).n l.length ((l.length : Int) + 1)).2.2.1) = mapN l := by
 rw [lift_ok] at hc
 have hR := (t.seat t.root).1
 have hRR := cleave_R (slot := (l.length : Int) + 1) hR om9 hc
 obtain ⟨a, b, k, h, e, hv, g1, g2, g3, g4, g5, g6, g7⟩ := cleave_halves (y := (l.length : Int) + 1) hR hc
 rw [liftN_t hc, e]
 rw [e] at hRR
 have p : LiftOf c l ss a b k h := ⟨t, hv, g2, g3, g4, g7, hRR.1, hRR.2.1, room, few⟩
 have e9 : liftH (rootS l 0).n b b.slot = LiftOf.lb l b := by rw [g2]; rfl
 dsimp only
 rw [e9]
 exact ⟨_, p.tree, p.map⟩
end Go.Fw
