/- A sound tree whose root has got two kids is sound, and stands for the same map. Plain Lean; nothing of the program is named here. No condition. -/
import Derived.Test.YtemoalimclnfkaaGreatQjNx
set_option linter.unusedVariables false
set_option linter.unusedSimpArgs false
set_option linter.unnecessarySimpa false

namespace Go.Fw
open Go Go.RowKit
theorem merge_l {X : List Msg} (h : Rst X) : mergeN [X, []] = X := by
 have := (merge_two h List.Pairwise.nil fun a _ b hb => by cases hb).1
 rwa [List.append_nil] at this
theorem merge_r {X : List Msg} (h : Rst X) : mergeN [[], X] = X := (merge_two List.Pairwise.nil h fun a ha => by cases ha).1
def liftR (n : Nd) (k : Str) (x y : Int) : Nd := { n with level := n.level + 1, pivots := [k], kids := [x, y], rows := [], msgs := if n.level = 0 then [] else n.msgs }
def liftH (n z : Nd) (s : Int) : Nd := { z with slot := s, msgs := [], seen := if n.level = 0 then z.seen else 0 }
def liftN (n : Nd) (x y : Int) : Nd × Nd × Nd × Bool :=
 if (cleaveN n y).2.2.2 = true then (liftR n (cleaveN n y).2.2.1 x y, liftH n (cleaveN n y).1 x, liftH n (cleaveN n y).2.1 (cleaveN n y).2.1.slot, true) else (Nd.zero, Nd.zero, Nd.zero, false)
def fullN (c : Cfg) (n : Nd) : Bool := if n.level = 0 then decide (c.leaf ≤ (n.rows.length : Int)) else decide (c.fan ≤ (n.kids.length : Int))
def liftL (l : List Nd) (r a b : Nd) : List Nd := (l.set 0 r) ++ [a, b]
structure LiftOf (c : Cfg) (l : List Nd) (ss : List Seat) (a0 b0 : Nd) (k : Str) (h : Nat) : Prop where
 t : Tree c l ss
 hv : Halves (rootS l 0).n a0 b0 k h
 sb : b0.slot = (l.length : Int) + 1
 ea : a0.seen = (rootS l 0).n.seen
 eb : b0.seen = (rootS l 0).n.seen
 nk : (rootS l 0).n.has k = true
 aR : a0.R c.fan c.leaf c.bud
 bR : b0.R c.fan c.leaf c.bud
 room : (l.length : Int) + 1 < c.slots
 few : l.length + 2 ≤ 4096
namespace LiftOf
variable {c : Cfg} {l : List Nd} {ss : List Seat} {a0 b0 : Nd} {k : Str} {h : Nat}
noncomputable def nn (l : List Nd) : Nd := (rootS l 0).n
noncomputable def la (l : List Nd) (a0 : Nd) : Nd := liftH (nn l) a0 (l.length : Int)
noncomputable def lb (l : List Nd) (b0 : Nd) : Nd := liftH (nn l) b0 ((l.length : Int) + 1)
noncomputable def lr (l : List Nd) (k : Str) : Nd := liftR (nn l) k (l.length : Int) ((l.length : Int) + 1)
noncomputable def ll (l : List Nd) (a0 b0 : Nd) (k : Str) : List Nd := liftL l (lr l k) (la l a0) (lb l b0)
theorem root0 (p : LiftOf c l ss a0 b0 k h) : (nn l).slot = 0 := p.t.root0
theorem seen (p : LiftOf c l ss a0 b0 k h) : (nn l).seen ≤ 1099511627776 ∧ 0 ≤ (nn l).seen := by
 obtain ⟨j, hj, e⟩ := List.getElem_of_mem (p.t.nd p.t.root).2.2
 have h1 := (p.t.slot j hj).2
 rw [e] at h1
 exact ⟨h1, (p.t.seat p.t.root).1.1.2.2⟩
theorem msgs (p : LiftOf c l ss a0 b0 k h) : (lr l k).msgs = (nn l).msgs := by
 show (if (nn l).level = 0 then [] else (nn l).msgs) = _
 split
 ·rename_i h0; exact (p.t.nomsgs p.t.root h0).symm
 ·rfl
theorem len (p : LiftOf c l ss a0 b0 k h) : (ll l a0 b0 k).length = l.length + 2 := by
 unfold ll liftL; rw [List.length_append, List.length_set]; rfl
theorem slots (p : LiftOf c l ss a0 b0 k h) : SlotsP (ll l a0 b0 k) := by
 have hp := p.t.pos
 have hs := p.seen
 have h1 := slots_set p.t.slot (x := lr l k) (by show 0 ≤ (nn l).slot ∧ _; rw [show (lr l k).slot = (nn l).slot from rfl, p.root0]; omega) hs.1
 rw [show (lr l k).slot.toNat = 0 from by rw [show (lr l k).slot = (nn l).slot from rfl, p.root0]; rfl] at h1
 have sA : (la l a0).seen ≤ 1099511627776 := by
  show (if (nn l).level = 0 then a0.seen else 0) ≤ _
  split
  ·rw [p.ea]; exact hs.1
  ·omega
 have sB : (lb l b0).seen ≤ 1099511627776 := by
  show (if (nn l).level = 0 then b0.seen else 0) ≤ _
  split
  ·rw [p.eb]; exact hs.1
  ·omega
 have h2 := slots_snoc h1 (x := la l a0) (by rw [List.length_set]; rfl) sA
 have h3 := slots_snoc h2 (x := lb l b0) (by rw [List.length_append, List.length_set]; rfl) sB
 rw [List.append_assoc] at h3
 exact h3
theorem get (p : LiftOf c l ss a0 b0 k h) (s : Int) : getL (ll l a0 b0 k) s = if s = (l.length : Int) + 1 then lb l b0 else if s = l.length then la l a0 else if s = 0 then lr l k else getL l s := by
 have hp := p.t.pos
 have e : ll l a0 b0 k = ((l.set (lr l k).slot.toNat (lr l k)) ++ [la l a0]) ++ [lb l b0] := by
  rw [show (lr l k).slot.toNat = 0 from by rw [show (lr l k).slot = (nn l).slot from rfl, p.root0]; rfl, List.append_assoc]; rfl
 have h0 : (lr l k).slot = 0 := p.root0
 rw [e, getL_snoc, getL_snoc, List.length_append, List.length_set, getL_set (by rw [h0]; omega), h0]
 rfl
theorem find (p : LiftOf c l ss a0 b0 k h) (s : Int) : findN (ll l a0 b0 k) s = (if s = (l.length : Int) + 1 then lb l b0 else if s = l.length then la l a0 else if s = 0 then lr l k else getL l s, decide (0 ≤ s ∧ s < (l.length : Int) + 2)) := by
 rw [find_eq p.slots, p.get, p.len]; rfl
theorem find_x (p : LiftOf c l ss a0 b0 k h) {x : Seat} (hx : x ∈ ss) (h1 : x.n.slot ≠ 0) : findN (ll l a0 b0 k) x.n.slot = findN l x.n.slot := by
 have := (p.t.nd hx).1
 rw [p.find, if_neg om9, if_neg om9, if_neg h1, find_eq p.t.slot, decide_eq_true om9, decide_eq_true om9]
theorem find_0 (p : LiftOf c l ss a0 b0 k h) : findN (ll l a0 b0 k) 0 = (lr l k, true) := by
 have := p.t.pos
 rw [p.find, if_neg om9, if_neg om9, if_pos rfl, decide_eq_true om9]
theorem find_a (p : LiftOf c l ss a0 b0 k h) : findN (ll l a0 b0 k) (l.length : Int) = (la l a0, true) := by
 rw [p.find, if_neg om9, if_pos rfl, decide_eq_true om9]
theorem find_b (p : LiftOf c l ss a0 b0 k h) : findN (ll l a0 b0 k) ((l.length : Int) + 1) = (lb l b0, true) := by
 rw [p.find, if_pos rfl, decide_eq_true om9]
noncomputable def nR (l : List Nd) (k : Str) : Seat := ⟨lr l k, Span.all, []⟩
noncomputable def nA (l : List Nd) (a0 b0 : Nd) (k : Str) : Seat := kidSt (ll l a0 b0 k) (nR l k) 0
noncomputable def nB (l : List Nd) (a0 b0 : Nd) (k : Str) : Seat := kidSt (ll l a0 b0 k) (nR l k) 1
theorem rroot (p : LiftOf c l ss a0 b0 k h) : rootS (ll l a0 b0 k) 0 = nR l k := by
 show (⟨(findN _ 0).1, _, _⟩ : Seat) = _
 rw [p.find_0]; rfl
theorem an (p : LiftOf c l ss a0 b0 k h) : (nA l a0 b0 k).n = la l a0 := by
 show (findN _ (l.length : Int)).1 = _
 rw [p.find_a]
theorem bn (p : LiftOf c l ss a0 b0 k h) : (nB l a0 b0 k).n = lb l b0 := by
 show (findN _ ((l.length : Int) + 1)).1 = _
 rw [p.find_b]
theorem route1 (k q : Str) : routeN [k] q = if q.lt k = true then 0 else 1 := by
 unfold routeN
 cases h : q.lt k <;> simp [List.filter_cons, h]
theorem ha (p : LiftOf c l ss a0 b0 k h) (q : Str) : (nA l a0 b0 k).s.has q = ((rootS l 0).s.has q && q.lt k) := by
 show (Span.all.meet (rangeN [k] ((0 : Nat) : Int))).has q = (Span.all.has q && _)
 rw [meet_has, range_has (by rfl) q (Nat.zero_le _), route1]
 cases q.lt k <;> simp
theorem hb (p : LiftOf c l ss a0 b0 k h) (q : Str) : (nB l a0 b0 k).s.has q = ((rootS l 0).s.has q && !q.lt k) := by
 show (Span.all.meet (rangeN [k] ((1 : Nat) : Int))).has q = (Span.all.has q && _)
 rw [meet_has, range_has (by rfl) q (by simp), route1]
 cases q.lt k <;> simp
theorem rst (p : LiftOf c l ss a0 b0 k h) : Rst (nn l).msgs := (p.t.msgs p.t.root).1
theorem ams (p : LiftOf c l ss a0 b0 k h) : (nA l a0 b0 k).ms = clips (nA l a0 b0 k).s (nn l).msgs := by
 show mergeN [clips (nA l a0 b0 k).s (lr l k).msgs, []] = _
 rw [p.msgs, merge_l (clips_rst p.rst)]
theorem bms (p : LiftOf c l ss a0 b0 k h) : (nB l a0 b0 k).ms = clips (nB l a0 b0 k).s (nn l).msgs := by
 show mergeN [clips (nB l a0 b0 k).s (lr l k).msgs, []] = _
 rw [p.msgs, merge_l (clips_rst p.rst)]
theorem hs (p : LiftOf c l ss a0 b0 k h) : HSeat (rootS l 0) (nA l a0 b0 k) (nB l a0 b0 k) k h := by
 refine ⟨?_, p.ha, p.hb, meet_norm _ _, meet_norm _ _, fun s hs => ?_, fun s hs => ?_⟩
 ·rw [p.an, p.bn]
  have hv := p.hv
  exact ⟨hv.la, hv.lb, hv.aend, hv.bend, hv.aright.trans p.sb, hv.leaf, hv.inner, hv.size⟩
 ·rw [p.an, p.ams, clips_clips hs]
  show mergeN [[], clips s (nn l).msgs] = mergeN [clips s (nn l).msgs, []]
  rw [merge_l (clips_rst p.rst), merge_r (clips_rst p.rst)]
 ·rw [p.bn, p.bms, clips_clips hs]
  show mergeN [[], clips s (nn l).msgs] = mergeN [clips s (nn l).msgs, []]
  rw [merge_l (clips_rst p.rst), merge_r (clips_rst p.rst)]
theorem slot_at (p : LiftOf c l ss a0 b0 k h) {x : Seat} (hx : x ∈ ss) (h0 : ¬ x.n.level = 0) {j : Nat} (hj : j < x.n.kids.length) : x.n.kids.getD j 0 = (kidSt l x j).n.slot := by
 have e := (p.t.at hx h0 hj)
 rw [List.getD_eq_getElem?_getD, List.getElem?_eq_getElem hj, e.2.2.1, (getL_slot p.t.slot e.2.1).1]; rfl
theorem kid0 (p : LiftOf c l ss a0 b0 k h) {x : Seat} (hx : x ∈ ss) (h0 : ¬ x.n.level = 0) {j : Nat} (hj : j < x.n.kids.length) : findN (ll l a0 b0 k) (x.n.kids.getD j 0) = findN l (x.n.kids.getD j 0) := by
 rw [p.slot_at hx h0 hj]
 refine p.find_x (p.t.at hx h0 hj).1 fun e => ?_
 have hin : kidSt l x j ∈ kidsD l x := by rw [(kids_all (p.t.kids hx) h0).1]; exact List.mem_map.2 ⟨j, List.mem_range.2 hj, rfl⟩
 exact p.t.root_kid hx hin (by rw [e]; exact p.t.root0.symm)
theorem fixK (p : LiftOf c l ss a0 b0 k h) : (kidsO (ll l a0 b0 k) (nA l a0 b0 k)).isSome = true ∧ (kidsO (ll l a0 b0 k) (nB l a0 b0 k)).isSome = true ∧ kidsD (ll l a0 b0 k) (nA l a0 b0 k) ++ kidsD (ll l a0 b0 k) (nB l a0 b0 k) = kidsD l (rootS l 0) := by
 refine HSeat.kids p.t p.t.root p.hs fun j hj => ?_
 by_cases h0 : (rootS l 0).n.level = 0
 ·have := (p.t.leaf p.t.root h0).1
  omega
 ·exact p.kid0 p.t.root h0 hj
theorem fixR (p : LiftOf c l ss a0 b0 k h) : (kidsO (ll l a0 b0 k) (nR l k)).isSome = true ∧ kidsD (ll l a0 b0 k) (nR l k) = [nA l a0 b0 k, nB l a0 b0 k] := by
 have hl := p.t.lvl p.t.root
 obtain ⟨g1, g2⟩ := kids_mk (l := ll l a0 b0 k) (x := nR l k) (by show 0 < (nn l).level + 1; have : 0 ≤ (nn l).level := hl; omega) (by rfl) fun j hj => by
  have hj : j < 2 := hj
  have e : ∀ z : Nd, z.level = (nn l).level → decide (z.level = (nR l k).n.level - 1) = true := fun z hz => by
   rw [decide_eq_true_eq, hz]
   show _ = (nn l).level + 1 - 1
   omega
  unfold kidOk
  rcases Nat.lt_or_ge j 1 with h | h
  ·have : j = 0 := om9
   subst this
   show ((findN _ (l.length : Int)).2 && _) = true
   rw [show (nR l k).n.kids.getD 0 0 = (l.length : Int) from rfl, p.find_a]
   exact e (la l a0) p.hv.la
  ·have : j = 1 := om9
   subst this
   show ((findN _ ((l.length : Int) + 1)).2 && _) = true
   rw [show (nR l k).n.kids.getD 1 0 = (l.length : Int) + 1 from rfl, p.find_b]
   exact e (lb l b0) p.hv.lb
 exact ⟨g1, g2⟩
theorem fixX (p : LiftOf c l ss a0 b0 k h) {x : Seat} (hx : x ∈ ss) : (kidsO (ll l a0 b0 k) x).isSome = true ∧ kidsD (ll l a0 b0 k) x = kidsD l x := by
 by_cases h0 : x.n.level = 0
 ·rw [kidsO_0 h0, kids_leaf h0, kids_leaf h0]; exact ⟨rfl, rfl⟩
 ·obtain ⟨h1, h2, h3, h4⟩ := kids_all (p.t.kids hx) h0
  obtain ⟨g1, g2⟩ := kids_mk (l := ll l a0 b0 k) (x := x) h2 h3 fun j hj => by
   rw [kidOk_ext (l' := l) (y := x) (j := j) (p.kid0 hx h0 hj) rfl]; exact h4 j hj
  refine ⟨g1, ?_⟩
  rw [g2, h1]
  exact List.map_congr_left fun j hj => kidSt_ext (by rw [p.kid0 hx h0 (List.mem_range.1 hj)]) (fun _ => rfl) fun _ _ => rfl
noncomputable def rest (l : List Nd) (ss : List Seat) : List Seat := ss.flatMap (kidsD l)
theorem in_rest (p : LiftOf c l ss a0 b0 k h) {x : Seat} (hx : x ∈ rest l ss) : x ∈ ss := by
 rw [p.t.fix]; exact List.mem_cons_of_mem _ hx
theorem rest_fix (p : LiftOf c l ss a0 b0 k h) : rest l ss = kidsD l (rootS l 0) ++ (rest l ss).flatMap (kidsD l) := by
 have h1 : rest l ss = (rootS l 0 :: rest l ss).flatMap (kidsD l) := by
  conv => lhs; unfold rest; rw [p.t.fix]
  rfl
 rw [List.flatMap_cons] at h1
 exact h1
theorem flat_same {f g : Seat → List Seat} : ∀ {L : List Seat}, (∀ x ∈ L, f x = g x) → L.flatMap f = L.flatMap g
 | [], _ => rfl
 | x :: L, h => by rw [List.flatMap_cons, List.flatMap_cons, h x (by simp), flat_same fun z hz => h z (List.mem_cons_of_mem _ hz)]
noncomputable def seats (l : List Nd) (ss : List Seat) (a0 b0 : Nd) (k : Str) : List Seat := nR l k :: nA l a0 b0 k :: nB l a0 b0 k :: rest l ss
theorem fix (p : LiftOf c l ss a0 b0 k h) : seats l ss a0 b0 k = rootS (ll l a0 b0 k) 0 :: (seats l ss a0 b0 k).flatMap (kidsD (ll l a0 b0 k)) := by
 rw [p.rroot]
 unfold seats
 rw [List.flatMap_cons, List.flatMap_cons, List.flatMap_cons, p.fixR.2, ← List.append_assoc (kidsD _ (nA l a0 b0 k)), p.fixK.2.2, flat_same fun x hx => (p.fixX (p.in_rest hx)).2, ← p.rest_fix]
 rfl
theorem top (p : LiftOf c l ss a0 b0 k h) : (nn l).top = true ∧ (nn l).high = Str.nil ∧ (nn l).right = -1 := by
 have h1 := (p.t.seat p.t.root).2.1.1.1
 have h2 : (nn l).top = true := h1
 have h3 := (p.t.seat p.t.root).1.2.1 h2
 exact ⟨h2, h3.1, h3.2⟩
theorem perm (p : LiftOf c l ss a0 b0 k h) : ((seats l ss a0 b0 k).map fun x : Seat => x.n.slot).Perm ((ll l a0 b0 k).map fun n : Nd => n.slot) := by
 have h4 : ((ll l a0 b0 k).map fun n : Nd => n.slot) = (l.map fun n : Nd => n.slot) ++ [(l.length : Int), (l.length : Int) + 1] := by
  rw [slots_range p.slots, slots_range p.t.slot, p.len, List.range_succ, List.range_succ, List.map_append, List.map_append, List.append_assoc]; rfl
 have h5 := p.t.perm_s
 rw [p.t.fix] at h5
 rw [h4]
 refine List.Perm.trans ?_ (List.Perm.append_right _ h5)
 unfold seats
 rw [List.map_cons, List.map_cons, List.map_cons, List.map_cons, p.an, p.bn, List.cons_append]
 rw [show (nR l k).n.slot = (rootS l 0).n.slot from rfl]
 refine List.Perm.cons _ ?_
 exact (List.perm_append_comm (l₁ := [(l.length : Int), (l.length : Int) + 1]))
theorem lk (p : LiftOf c l ss a0 b0 k h) : LkK ((seats l ss a0 b0 k).map Seat.key) := by
 have h1 := (linked_iff ss).1 p.t.q.1.2.1
 rw [p.t.fix, List.map_cons] at h1
 have e0 : Seat.key (rootS l 0) = ((nn l).slot, (nn l).level, -1) := by
  show ((nn l).slot, (nn l).level, (nn l).right) = _
  rw [p.top.2.2]
 rw [e0] at h1
 have h2 := lk_lift (x := (l.length : Int)) (y := (l.length : Int) + 1) h1
 unfold seats
 rw [List.map_cons, List.map_cons, List.map_cons]
 have e1 : Seat.key (nR l k) = ((nn l).slot, (nn l).level + 1, -1) := by
  show ((nn l).slot, (nn l).level + 1, (nn l).right) = _
  rw [p.top.2.2]
 have e2 : Seat.key (nA l a0 b0 k) = ((l.length : Int), (nn l).level, (l.length : Int) + 1) := by
  unfold Seat.key; rw [p.an]
  show ((l.length : Int), a0.level, a0.right) = _
  rw [p.hv.la, p.hv.aright, p.sb]; rfl
 have e3 : Seat.key (nB l a0 b0 k) = ((l.length : Int) + 1, (nn l).level, -1) := by
  unfold Seat.key; rw [p.bn]
  show ((l.length : Int) + 1, b0.level, b0.right) = _
  rw [p.hv.lb, p.hv.bend.2.2, show (rootS l 0).n.right = (nn l).right from rfl, p.top.2.2]; rfl
 rw [e1, e2, e3]
 exact h2
theorem halfR (p : LiftOf c l ss a0 b0 k h) {z : Nd} (hz : z.R c.fan c.leaf c.bud) (s : Int) (hs : 0 ≤ s) : (liftH (nn l) z s).R c.fan c.leaf c.bud := by
 obtain ⟨⟨q1, q2, q3⟩, q4, q5, q6⟩ := hz
 have hc := p.t.cfg.2.2.1
 refine ⟨⟨hs, q2, ?_⟩, q4, q5, ?_⟩
 ·show 0 ≤ (if (nn l).level = 0 then z.seen else 0)
  split <;> omega
 ·by_cases h0 : z.level = 0
  ·rw [if_pos h0] at q6
   rw [if_pos (show (liftH (nn l) z s).level = 0 from h0)]
   obtain ⟨r1, r2, r3, r4⟩ := q6
   exact ⟨by show z.pivots.length + z.kids.length + 0 = 0; omega, r2, r3, r4⟩
  ·rw [if_neg h0] at q6
   rw [if_neg (show ¬ (liftH (nn l) z s).level = 0 from h0)]
   obtain ⟨r1, r4, r5, r6, r7, r8, r9⟩ := q6
   exact ⟨r1, r4, (fun i hi => absurd hi (Nat.not_lt_zero _)), by show (0 : Int) ≤ _; omega, r7, r8, fun i hi => absurd hi (Nat.not_lt_zero _)⟩
theorem rR (p : LiftOf c l ss a0 b0 k h) : (lr l k).R c.fan c.leaf c.bud := by
 obtain ⟨⟨q1, q2, q3⟩, q4, q5, q6⟩ := (p.t.seat p.t.root).1
 have hc := p.t.cfg
 have h0 : ¬ (lr l k).level = 0 := by show ¬ (nn l).level + 1 = 0; have : 0 ≤ (nn l).level := q2; omega
 have hn : MsgsR (lr l k).msgs ∧ sizesN (lr l k).msgs ≤ c.bud ∧ ∀ i (h : i < (lr l k).msgs.length), (lr l k).fits (lr l k).msgs[i] := by
  by_cases h1 : (nn l).level = 0
  ·have e : (lr l k).msgs = [] := if_pos h1
   rw [e]
   exact ⟨fun i hi => absurd hi (Nat.not_lt_zero _), by show (0 : Int) ≤ _; have := hc.2.2.1; omega, fun i hi => absurd hi (Nat.not_lt_zero _)⟩
  ·have q6 : (nn l).innerR c.fan c.bud := p.t.inner p.t.root h1
   obtain ⟨r1, r4, r5, r6, r7, r8, r9⟩ := q6
   have e := p.msgs
   refine ⟨by rw [e]; exact r5, by rw [e]; exact r6, fun i hi => ?_⟩
   have hi2 : i < (nn l).msgs.length := by rw [← e]; exact hi
   have e2 : (lr l k).msgs[i] = (nn l).msgs[i] := by simp only [e]
   rw [e2]; exact r9 i hi2
 refine ⟨⟨q1, by show 0 ≤ (nn l).level + 1; have : 0 ≤ (nn l).level := q2; omega, q3⟩, q4, q5, ?_⟩
 rw [if_neg h0]
 refine ⟨⟨rfl, by show 2 ≤ 2; omega, by show ((2 : Nat) : Int) ≤ _; have := hc.1; omega⟩, by rfl, hn.1, hn.2.1, fun i hi => ?_, fun i hi => ?_, hn.2.2⟩
 ·have hm : (lr l k).kids[i] ∈ [(l.length : Int), (l.length : Int) + 1] := List.getElem_mem hi
  simp only [List.mem_cons, List.not_mem_nil, or_false] at hm
  omega
 ·have hm : (lr l k).pivots[i] ∈ [k] := List.getElem_mem hi
  rw [List.mem_singleton] at hm
  rw [hm]
  exact ⟨p.hv.size.1, p.hv.size.2, p.nk⟩
theorem rP (p : LiftOf c l ss a0 b0 k h) : PlacedP (nR l k) := by
 obtain ⟨p0, p3, p4, p5⟩ := (p.t.seat p.t.root).2.1
 refine ⟨p0, fun i hi => absurd hi (Nat.not_lt_zero _), fun i hi => ?_, fun i hi => ?_⟩
 ·have hm : (nR l k).n.pivots[i] ∈ [k] := List.getElem_mem hi
  rw [List.mem_singleton] at hm
  rw [hm]
  exact ⟨all_has k, p.hv.size.1⟩
 ·have e : (nR l k).n.msgs = (nn l).msgs := p.msgs
  have e2 : (nR l k).n.msgs[i] = (nn l).msgs[i]'(by rw [← e]; exact hi) := by simp only [e]
  rw [e2]
  exact p5 i (by rw [show (rootS l 0).n.msgs = (nn l).msgs from rfl, ← e]; exact hi)
theorem seatP (p : LiftOf c l ss a0 b0 k h) : ∀ z ∈ seats l ss a0 b0 k, SeatP c z := fun z hz => by
 have hsl := p.room
 have st : ∀ {s : Span} {ms : List Msg} {e : Nd}, e.seen = (nn l).seen → ms = clips s (nn l).msgs → ∀ j (hj : j < ms.length), (if (nn l).level = 0 then e.seen else 0) < ms[j].stamp := fun es e j hj => by
  subst e
  by_cases h0 : (nn l).level = 0
  ·have : (nn l).msgs = [] := p.t.nomsgs p.t.root h0
   rw [this] at hj
   exact absurd hj (Nat.not_lt_zero _)
  ·rw [if_neg h0]
   obtain ⟨m0, hm0, e⟩ := clips_stamp (List.getElem_mem hj)
   have := ((p.t.msgs p.t.root).2.1 m0 hm0).1.1
   rw [e]; omega
 unfold seats at hz
 simp only [List.mem_cons] at hz
 have nil : ∀ {s : Span} (m : Msg), m ∈ ([] : List Msg) → ∃ m' ∈ (rootS l 0).n.msgs, (m'.clip s).2 = true ∧ (m'.clip s).1 = m := fun m hm => by cases hm
 rcases hz with rfl | rfl | rfl | hz
 ·exact ⟨p.rR, p.rP, by show (nn l).slot < _; rw [p.root0]; omega, fun j hj => absurd hj (Nat.not_lt_zero _)⟩
 ·refine ⟨by rw [p.an]; exact p.halfR p.aR _ om9, HSeat.placedA p.t p.t.root p.hs (by rfl) p.nk (by rw [p.an]; exact nil), by rw [p.an]; show (l.length : Int) < _; omega, fun j hj => ?_⟩
  rw [p.an]; exact st p.ea p.ams j hj
 ·refine ⟨by rw [p.bn]; exact p.halfR p.bR _ om9, HSeat.placedB p.t p.t.root p.hs (by rfl) p.nk (by rw [p.bn]; exact nil), by rw [p.bn]; show (l.length : Int) + 1 < _; omega, fun j hj => ?_⟩
  rw [p.bn]; exact st p.eb p.bms j hj
 ·exact p.t.seat (p.in_rest hz)
theorem tree (p : LiftOf c l ss a0 b0 k h) : Tree c (ll l a0 b0 k) (seats l ss a0 b0 k) := by
 have hfew := p.few
 have hroom := p.room
 refine tree_mk p.t.cfg (by rw [p.len]; omega) (sml_R p.t.cfg (by rw [p.len]; omega) fun n hn => ?_) p.slots p.fix (fun z hz => ?_) p.perm p.lk (by rw [p.len]; omega) p.seatP
 ·have old : ∀ n ∈ l, n.R c.fan c.leaf c.bud := fun n hn => by
   have := (p.t.perm.mem_iff).2 hn
   obtain ⟨x, hx, rfl⟩ := List.mem_map.1 this
   exact (p.t.seat hx).1
  unfold ll liftL at hn
  rcases List.mem_append.1 hn with hn | hn
  ·rcases List.mem_or_eq_of_mem_set hn with hn | rfl
   ·exact old n hn
   ·exact p.rR
  ·simp only [List.mem_cons, List.not_mem_nil, or_false] at hn
   rcases hn with rfl | rfl
   ·exact p.halfR p.aR _ om9
   ·exact p.halfR p.bR _ om9
 ·unfold seats at hz
  simp only [List.mem_cons] at hz
  rcases hz with rfl | rfl | rfl | hz
  ·exact p.fixR.1
  ·exact p.fixK.1
  ·exact p.fixK.2.1
  ·exact (p.fixX (p.in_rest hz)).1
theorem map (p : LiftOf c l ss a0 b0 k h) : mapN (ll l a0 b0 k) = mapN l := by
 rw [mapN_t p.tree.sts, mapN_t p.t.sts]
 have h1 := HSeat.view p.t p.t.root p.hs (fun _ => by rw [p.ams, clips_clips fun _ h => h]; rw [show (nn l).msgs = [] from p.t.nomsgs p.t.root (by assumption)]; rfl) (fun _ => by rw [p.bms, clips_clips fun _ h => h]; rw [show (nn l).msgs = [] from p.t.nomsgs p.t.root (by assumption)]; rfl)
 have e2 : ¬ (nR l k).n.level = 0 := by show ¬ (nn l).level + 1 = 0; have : 0 ≤ (nn l).level := p.t.lvl p.t.root; omega
 have e3 : leavesS ss = leavesS [rootS l 0] ++ leavesS (rest l ss) := by
  conv => lhs; rw [p.t.fix]
  unfold leavesS
  rw [← List.filter_append]; rfl
 have e4 : leavesS (seats l ss a0 b0 k) = leavesS [nA l a0 b0 k, nB l a0 b0 k] ++ leavesS (rest l ss) := by
  unfold leavesS
  rw [← List.filter_append]
  unfold seats
  rw [List.filter_cons, if_neg (by simpa using e2)]; rfl
 rw [e3, e4, List.flatMap_append, List.flatMap_append, h1]
end LiftOf
def tk (l : List Nd) (x : Nd) : List Nd := l ++ [{ x with slot := l.length }]
def liftS (c : Cfg) (l : List Nd) : Int × List Nd :=
 if (liftN (getL l 0) l.length ((l.length : Int) + 1)).2.2.2 = false then (6, l)
 else if c.slots.toNat - l.length < 2 then (4, l)
 else (0, liftL l (liftN (getL l 0) l.length ((l.length : Int) + 1)).1 (liftN (getL l 0) l.length ((l.length : Int) + 1)).2.1 (liftN (getL l 0) l.length ((l.length : Int) + 1)).2.2.1)
theorem Tree.sound {c : Cfg} {l : List Nd} {ss : List Seat} (t : Tree c l ss) : soundN c l = true := by rw [soundN_t t.sts]; exact decide_eq_true t.q
def kdN (l : List Nd) (p : Int) (i : Nat) : Int := (getL l p).kids.getD i 0
def cutP (l : List Nd) (p : Int) (i : Nat) : Nd × Nd × Str × Bool := cleaveN (getL l (kdN l p i)) l.length
def adP (l : List Nd) (p : Int) (i : Nat) : Nd × Bool := adoptN (getL l p) i (cutP l p i).2.2.1 l.length
def lstP (l : List Nd) (p : Int) (i : Nat) : List Nd := ((l.set (cutP l p i).1.slot.toNat (cutP l p i).1).set p.toNat (adP l p i).1) ++ [(cutP l p i).2.1]
def partS (c : Cfg) (l : List Nd) (p : Int) (i : Nat) : Int × List Nd :=
 if ¬ (0 ≤ p ∧ p < l.length) ∨ (getL l p).kids.length ≤ i ∨ ¬ (0 ≤ kdN l p i ∧ kdN l p i < l.length) then (8, l)
 else if fullN c (getL l p) = true then (9, l)
 else if (cutP l p i).2.2.2 = false ∨ (adP l p i).2 = false then (6, l)
 else if ¬ (l.length : Int) < c.slots then (4, l)
 else (0, lstP l p i)
def partI (c : Cfg) (l : List Nd) (p i : Int) : Int × List Nd := if i < 0 then (8, l) else partS c l p i.toNat
theorem OwnR.cast {α : Type} {e : Enc α} {T : TypeId} {G : GH} {v : Value} {l l' : List α} {Ms : MH} (h : OwnR e T G v l Ms) (h2 : l = l') : OwnR e T G v l' Ms := h2 ▸ h
def wOf (P : List Str) (F : List Msg) (i : Nat) : Int := sizesN (F.filter fun m => decide (routeN P m.key = i))
def bestTo (w : Nat → Int) : Nat → Nat
 | 0 => 0
 | k + 1 => if w (bestTo w k) < w k then k else bestTo w k
def victimN (P : List Str) (l : List Msg) : Int × Bool := if l.length = 0 then (0, false) else (((bestTo (wOf P (frontN l)) (P.length + 1) : Nat) : Int), true)
def wts (P : List Str) (F : List Msg) : List Int := (List.range (P.length + 1)).map (wOf P F)
def chooseN (c : Cfg) (n : Nd) (k : Str) : Int × Int :=
 if n.level = 0 then (0, 0) else if n.slot = 0 ∧ fullN c n = true then (1, 0) else (2, if (victimN n.pivots n.msgs).2 = true then (victimN n.pivots n.msgs).1 else ((routeN n.pivots k : Nat) : Int))
noncomputable def decideN (c : Cfg) (p k : Nd) (i : Int) : Int :=
 if 0 < k.level ∧ fullN c k = true then (if fullN c p = true then 0 else 3) else if 0 < countN c.leaf c.bud p k i then 4 else if 0 < k.level then 5 else if 0 < (forN p.pivots p.msgs i).length then (if fullN c p = true then 0 else 3) else 0
theorem norm_empty9 (s : Span) : s.norm.empty = s.empty := by
 rw [Bool.eq_iff_iff, empty_iff, empty_iff]
 exact ⟨fun h k => by rw [← norm_has]; exact h k, fun h k => by rw [norm_has]; exact h k⟩
def lastS (A : List Msg) : Int := (A.getLast?.map Msg.stamp).getD 0
section
variable {c : Cfg} {p k : Nd} {i : Int}
end
def ChoosePre (n : Nd) : Prop := ¬ n.level = 0 → rising n.pivots = true ∧ (∀ m ∈ n.msgs, m.key.b.size ≤ 16 ∧ m.val.b.size ≤ 16) ∧ n.msgs.length ≤ 100000 ∧ n.pivots.length ≤ 100000
/-! ## A span in two -/
def loS (s : Span) (p : Str) : Span := s.meet ⟨Str.nil, p, false⟩
def hiS (s : Span) (p : Str) : Span := s.meet ⟨p, Str.nil, true⟩
theorem loS_has (s : Span) (p q : Str) : (loS s p).has q = (s.has q && q.lt p) := by
  unfold loS
  rw [meet_has]
  unfold Span.has
  rw [Str.nil_le]; rfl
theorem hiS_has (s : Span) (p q : Str) : (hiS s p).has q = (s.has q && !q.lt p) := by
  unfold hiS
  rw [meet_has]
  unfold Span.has
  simp
theorem loS_norm (s : Span) (p : Str) : (loS s p).norm = loS s p := meet_norm _ _
theorem hiS_norm (s : Span) (p : Str) : (hiS s p).norm = hiS s p := meet_norm _ _
theorem span_eq {a b : Span} (ha : a.norm = a) (hb : b.norm = b) (h : ∀ q, a.has q = b.has q) : a = b := by rw [← ha, ← hb, norm_ext h]
theorem ne_of_has {s : Span} {q : Str} (h : s.has q = true) : s.empty = false := by
  cases he : s.empty
  · rfl
  · rw [empty_iff.1 he q] at h; cases h
theorem norm_lo9 {s : Span} (h : s.empty = false) : s.norm.lo = s.lo := by
  unfold Span.norm
  rw [if_neg (by simp [h])]
  split <;> rfl
theorem loS_lo {s : Span} {p q : Str} (h : (loS s p).has q = true) : (loS s p).lo = s.lo := by
  have he := ne_of_has h
  unfold loS Span.meet at he ⊢
  rw [norm_empty9] at he
  rw [norm_lo9 he]
  dsimp only
  rw [if_neg (by rw [Str.nil_le]; simp)]
theorem hiS_eq {s : Span} (hs : s.norm = s) {p : Str} (h : s.has p = true) : hiS s p = ⟨p, s.hi, s.opn⟩ := right_span hs (hiS_norm s p) h (hiS_has s p)
theorem lt_ne {a b : Str} (h : a.lt b = true) : a ≠ b := fun e => by rw [e, Str.lt_irrefl] at h; cases h
theorem lo_le {s : Span} {q : Str} (h : s.has q = true) : q.lt s.lo = false := (span_has.1 h).1
theorem lt_of {a b : Str} (h : b.lt a = false) (k : a ≠ b) : a.lt b = true := by
  cases h2 : a.lt b
  · exact absurd (Str.lt_total h2 h) k
  · rfl
section
variable {α : Type} {P : Span → α → Prop}
/-! ## Chains -/
def Ch (P : Span → α → Prop) : Span → List Str → List α → Prop
  | s, [], cs => ∃ c, cs = [c] ∧ P s c
  | s, p :: ps, cs => ∃ c ds, cs = c :: ds ∧ s.has p = true ∧ p ≠ s.lo ∧ P (loS s p) c ∧ Ch P (hiS s p) ps ds
theorem Ch.len : ∀ {ps : List Str} {s : Span} {cs : List α}, Ch P s ps cs → cs.length = ps.length + 1
  | [], _, _, ⟨c, rfl, _⟩ => rfl
  | p :: ps, _, _, ⟨c, ds, rfl, _, _, _, h⟩ => by rw [List.length_cons, h.len, List.length_cons]
theorem ch_one {s : Span} {c : α} : Ch P s [] [c] ↔ P s c := ⟨fun ⟨d, h, h2⟩ => by cases h; exact h2, fun h => ⟨c, rfl, h⟩⟩
theorem ch_cons {s : Span} {p : Str} {ps : List Str} {c : α} {cs : List α} : Ch P s (p :: ps) (c :: cs) ↔ s.has p = true ∧ p ≠ s.lo ∧ P (loS s p) c ∧ Ch P (hiS s p) ps cs :=
  ⟨fun ⟨d, ds, h, h2⟩ => by cases h; exact h2, fun h => ⟨c, cs, rfl, h⟩⟩
theorem ch_app : ∀ {A : List Str} {s : Span} {p : Str} {B : List Str} {C D : List α}, s.norm = s → C.length = A.length + 1 → (Ch P s (A ++ p :: B) (C ++ D) ↔ s.has p = true ∧ p ≠ s.lo ∧ Ch P (loS s p) A C ∧ Ch P (hiS s p) B D)
  | [], s, p, B, C, D, hs, hC => by
    match C, hC with
    | [c], _ => rw [List.nil_append, List.singleton_append, ch_cons, ch_one]
  | q :: A, s, p, B, C, D, hs, hC => by
    match C, hC with
    | c :: C, hC =>
      have hC : C.length = A.length + 1 := by simpa using hC
      rw [List.cons_append, List.cons_append, ch_cons, ch_cons, ch_app (hiS_norm s q) hC]
      constructor
      · rintro ⟨h1, h2, h3, h4, h5, h6, h7⟩
        rw [hiS_has, Bool.and_eq_true, Bool.not_eq_true'] at h4
        rw [hiS_eq hs h1] at h5
        have h8 : q.lt p = true := lt_of h4.2 (fun e => h5 e.symm)
        have h9 : p ≠ s.lo := fun e => by have := lo_le h1; rw [← e, h8] at this; cases this
        have h10 : (loS s p).has q = true := by rw [loS_has, h1, h8]; rfl
        have e1 : loS (loS s p) q = loS s q := span_eq (loS_norm _ _) (loS_norm _ _) fun x => by
          rw [loS_has, loS_has, loS_has]
          cases h : x.lt q
          · simp
          · rw [show x.lt p = true from Str.lt_of_lt_of_le h (Str.lt_asymm h8)]; simp
        have e2 : hiS (loS s p) q = loS (hiS s q) p := span_eq (hiS_norm _ _) (loS_norm _ _) fun x => by
          rw [hiS_has, loS_has, loS_has, hiS_has]
          cases s.has x <;> cases x.lt p <;> cases x.lt q <;> rfl
        have e3 : hiS (hiS s q) p = hiS s p := span_eq (hiS_norm _ _) (hiS_norm _ _) fun x => by
          rw [hiS_has, hiS_has, hiS_has]
          cases h : x.lt p
          · rw [show x.lt q = false from Str.le_trans (Str.lt_asymm h8) h]; simp
          · simp
        refine ⟨h4.1, h9, ⟨h10, by rw [loS_lo h10]; exact h2, by rw [e1]; exact h3, by rw [e2]; exact h6⟩, by rw [← e3]; exact h7⟩
      · rintro ⟨h1, h2, ⟨h3, h4, h5, h6⟩, h7⟩
        have h3' := h3
        rw [loS_has, Bool.and_eq_true] at h3
        have h8 : q.lt p = true := h3.2
        have e1 : loS (loS s p) q = loS s q := span_eq (loS_norm _ _) (loS_norm _ _) fun x => by
          rw [loS_has, loS_has, loS_has]
          cases h : x.lt q
          · simp
          · rw [show x.lt p = true from Str.lt_of_lt_of_le h (Str.lt_asymm h8)]; simp
        have e2 : hiS (loS s p) q = loS (hiS s q) p := span_eq (hiS_norm _ _) (loS_norm _ _) fun x => by
          rw [hiS_has, loS_has, loS_has, hiS_has]
          cases s.has x <;> cases x.lt p <;> cases x.lt q <;> rfl
        have e3 : hiS (hiS s q) p = hiS s p := span_eq (hiS_norm _ _) (hiS_norm _ _) fun x => by
          rw [hiS_has, hiS_has, hiS_has]
          cases h : x.lt p
          · rw [show x.lt q = false from Str.le_trans (Str.lt_asymm h8) h]; simp
          · simp
        rw [loS_lo h3'] at h4
        refine ⟨h3.1, h4, by rw [← e1]; exact h5, ?_, ?_, by rw [← e2]; exact h6, by rw [e3]; exact h7⟩
        · rw [hiS_has, h1, Str.lt_asymm h8]; rfl
        · rw [hiS_eq hs h3.1]; exact fun e => lt_ne h8 e.symm
theorem Ch.piv : ∀ {ps : List Str} {s : Span} {cs : List α}, s.norm = s → Ch P s ps cs → rising ps = true ∧ ∀ p ∈ ps, s.has p = true ∧ p ≠ s.lo
  | [], _, _, _, _ => ⟨rfl, fun p h => by cases h⟩
  | p :: ps, s, _, hs, ⟨c, ds, rfl, h1, h2, _, h⟩ => by
    obtain ⟨h3, h4⟩ := Ch.piv (hiS_norm s p) h
    have h5 : ∀ q ∈ ps, s.has q = true ∧ p.lt q = true := fun q hq => by
      obtain ⟨h6, h7⟩ := h4 q hq
      rw [hiS_has, Bool.and_eq_true, Bool.not_eq_true'] at h6
      rw [hiS_eq hs h1] at h7
      exact ⟨h6.1, lt_of h6.2 fun e => h7 e.symm⟩
    refine ⟨rising_iff.2 fun i hi => ?_, fun q hq => ?_⟩
    · cases i with
      | zero =>
        have hi : 0 < ps.length := by simpa using hi
        exact (h5 _ (List.getElem_mem hi)).2
      | succ i =>
        have := rising_iff.1 h3 i (by simpa using hi)
        simpa using this
    · rcases List.mem_cons.1 hq with rfl | hq
      · exact ⟨h1, h2⟩
      · refine ⟨(h5 q hq).1, fun e => ?_⟩
        have := lo_le h1
        rw [← e, (h5 q hq).2] at this; cases this
theorem Ch.right_part {s : Span} {ps : List Str} {cs : List α} (hs : s.norm = s) (h : Ch P s ps cs) {i : Nat} (hi : i ≤ ps.length) :
    ∃ u : Span, u.norm = u ∧ (∀ q, u.has q = (s.has q && (decide (i = 0) || !q.lt (ps.getD (i - 1) Str.nil)))) ∧ Ch P u (ps.drop i) (cs.drop i) ∧ ∀ Q D, Ch P u Q D → Ch P s (ps.take i ++ Q) (cs.take i ++ D) := by
  cases i with
  | zero => exact ⟨s, hs, fun q => by simp, h, fun Q D hQ => hQ⟩
  | succ i =>
    have hl := h.len
    have e : ps.take i ++ ps[i] :: ps.drop (i + 1) = ps := by rw [← List.drop_eq_getElem_cons (by omega), List.take_append_drop]
    have e2 : cs.take (i + 1) ++ cs.drop (i + 1) = cs := List.take_append_drop _ _
    have e3 : ps.take (i + 1) = ps.take i ++ [ps[i]] := List.take_succ_eq_append_getElem (by omega)
    have hc : (cs.take (i + 1)).length = (ps.take i).length + 1 := by rw [List.length_take, List.length_take]; omega
    have h2 := h
    rw [← e, ← e2, ch_app hs hc] at h2
    obtain ⟨a1, a2, a3, a4⟩ := h2
    refine ⟨hiS s ps[i], hiS_norm _ _, fun q => ?_, a4, fun Q D hQ => ?_⟩
    · rw [hiS_has, show i + 1 - 1 = i from rfl, List.getD_eq_getElem?_getD, List.getElem?_eq_getElem (by omega)]; simp
    · rw [e3, List.append_assoc, List.singleton_append, ch_app hs hc]
      exact ⟨a1, a2, a3, hQ⟩
theorem Ch.left_part {s : Span} {ps : List Str} {cs : List α} (hs : s.norm = s) (h : Ch P s ps cs) {m : Nat} (hm : m ≤ ps.length) :
    ∃ u : Span, u.norm = u ∧ (∀ q, u.has q = (s.has q && (decide (m = ps.length) || q.lt (ps.getD m Str.nil)))) ∧ Ch P u (ps.take m) (cs.take (m + 1)) ∧ ∀ Q D, Ch P u Q D → Ch P s (Q ++ ps.drop m) (D ++ cs.drop (m + 1)) := by
  have hl := h.len
  by_cases e : m = ps.length
  · refine ⟨s, hs, fun q => by simp [e], ?_, fun Q D hQ => ?_⟩
    · rw [List.take_of_length_le (by omega), List.take_of_length_le (by omega)]; exact h
    · rw [List.drop_of_length_le (by omega), List.drop_of_length_le (by omega), List.append_nil, List.append_nil]; exact hQ
  · have hd : ps.drop m = ps[m]'(by omega) :: ps.drop (m + 1) := List.drop_eq_getElem_cons (by omega)
    have e1 : ps.take m ++ ps[m]'(by omega) :: ps.drop (m + 1) = ps := by rw [← hd, List.take_append_drop]
    have e2 : cs.take (m + 1) ++ cs.drop (m + 1) = cs := List.take_append_drop _ _
    have hc : (cs.take (m + 1)).length = (ps.take m).length + 1 := by rw [List.length_take, List.length_take]; omega
    have h2 : Ch P s (ps.take m ++ ps[m]'(by omega) :: ps.drop (m + 1)) (cs.take (m + 1) ++ cs.drop (m + 1)) := by rw [e1, e2]; exact h
    rw [ch_app hs hc] at h2
    obtain ⟨a1, a2, a3, a4⟩ := h2
    refine ⟨loS s (ps[m]'(by omega)), loS_norm _ _, fun q => ?_, a3, fun Q D hQ => ?_⟩
    · rw [loS_has, List.getD_eq_getElem?_getD, List.getElem?_eq_getElem (by omega), decide_eq_false e]; rfl
    · rw [hd, ch_app hs hQ.len]
      exact ⟨a1, a2, hQ, a4⟩
theorem Ch.mid {s : Span} {ps : List Str} {cs : List α} (hs : s.norm = s) (h : Ch P s ps cs) {i m : Nat} (hi : i + m ≤ ps.length) :
    ∃ u : Span, u.norm = u ∧ (∀ q, u.has q = (s.has q && (decide (i = 0) || !q.lt (ps.getD (i - 1) Str.nil)) && (decide (i + m = ps.length) || q.lt (ps.getD (i + m) Str.nil)))) ∧ Ch P u ((ps.drop i).take m) ((cs.drop i).take (m + 1)) ∧
      ∀ Q D, Ch P u Q D → Ch P s (ps.take i ++ (Q ++ ps.drop (i + m))) (cs.take i ++ (D ++ cs.drop (i + m + 1))) := by
  obtain ⟨u, h1, h2, h3, h4⟩ := h.right_part hs (i := i) (by omega)
  obtain ⟨v, k1, k2, k3, k4⟩ := h3.left_part h1 (m := m) (by rw [List.length_drop]; omega)
  refine ⟨v, k1, fun q => ?_, k3, fun Q D hQ => ?_⟩
  · rw [k2, h2, List.length_drop]
    have e1 : (ps.drop i).getD m Str.nil = ps.getD (i + m) Str.nil := by rw [List.getD_eq_getElem?_getD, List.getD_eq_getElem?_getD, List.getElem?_drop]
    have e2 : decide (m = ps.length - i) = decide (i + m = ps.length) := decide_eq_decide.2 (by omega)
    rw [e1, e2]
  · have := h4 _ _ (k4 Q D hQ)
    rwa [List.drop_drop, List.drop_drop, show i + (m + 1) = i + m + 1 from rfl] at this
theorem Ch.at {s : Span} {ps : List Str} {cs : List α} (hs : s.norm = s) (h : Ch P s ps cs) {i : Nat} (hi : i ≤ ps.length) :
    ∃ u : Span, ∃ h' : i < cs.length, u.norm = u ∧ (∀ q, u.has q = (s.has q && decide (i = routeN ps q))) ∧ P u cs[i] ∧ ∀ Q D, Ch P u Q D → Ch P s (ps.take i ++ (Q ++ ps.drop i)) (cs.take i ++ (D ++ cs.drop (i + 1))) := by
  have hl := h.len
  have hr := (h.piv hs).1
  obtain ⟨u, h1, h2, h3, h4⟩ := h.mid hs (i := i) (m := 0) (by omega)
  have hi2 : i < cs.length := by omega
  rw [List.take_zero, List.drop_eq_getElem_cons hi2, List.take_succ_cons, List.take_zero, ch_one] at h3
  refine ⟨u, hi2, h1, fun q => ?_, h3, fun Q D hQ => ?_⟩
  · rw [h2, Bool.and_assoc]
    congr 1
    have hrg := range_has hr q hi
    rw [← hrg]
    unfold rangeN
    rw [if_neg (by omega), norm_has]
    unfold Span.has
    dsimp only
    rw [Nat.add_zero, Int.toNat_natCast]
    have e2 : (((i : Int) - 1).toNat) = i - 1 := by omega
    rw [e2]
    have e3 : decide ((ps.length : Int) ≤ (i : Int)) = decide (i = ps.length) := decide_eq_decide.2 (by omega)
    rw [e3]
    by_cases e0 : i = 0
    · rw [if_neg (by omega), Str.nil_le, decide_eq_true e0]; simp
    · rw [if_pos (by omega), decide_eq_false e0]; simp
  · exact h4 Q D hQ
end
end Go.Fw
