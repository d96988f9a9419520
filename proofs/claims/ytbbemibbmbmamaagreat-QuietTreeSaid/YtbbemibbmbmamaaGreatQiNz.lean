/- A sound tree whose root has got two kids is sound, and stands for the same map. Plain Lean; nothing of the program is named here. No condition. -/
import Derived.Test.YtbbemibbmbmamaaGreatQiOk
set_option linter.unusedVariables false
set_option linter.unusedSimpArgs false
set_option linter.unnecessarySimpa false
set_option maxRecDepth 100000

namespace Go.Fw
open Go Go.RowKit
theorem ZdK {X : List Msg} (h : Rst X) : ZO [X, []] = X := by
 have := (ZaU h List.Pairwise.nil fun a _ b hb => by cases hb).1
 rwa [List.append_nil] at this
theorem Zi9 {X : List Msg} (h : Rst X) : ZO [[], X] = X := (ZaU List.Pairwise.nil h fun a ha => by cases ha).1
def Jl (n : Nd) (k : Str) (x y : Int) : Nd := { n with level := n.level + 1, pivots := [k], kids := [x, y], rows := [], msgs := if n.level = 0 then [] else n.msgs }
def Yl (n z : Nd) (s : Int) : Nd := { z with slot := s, msgs := [], seen := if n.level = 0 then z.seen else 0 }
def Z0 (n : Nd) (x y : Int) : Nd × Nd × Nd × Bool :=
 if (Zo n y).2.2.2 = true then (Jl n (Zo n y).2.2.1 x y, Yl n (Zo n y).1 x, Yl n (Zo n y).2.1 (Zo n y).2.1.slot, true) else (Nd.zero, Nd.zero, Nd.zero, false)
theorem ZaG {n : Nd} {x y : Int} (h : (Zo n y).2.2.2 = true) : Z0 n x y = (Jl n (Zo n y).2.2.1 x y, Yl n (Zo n y).1 x, Yl n (Zo n y).2.1 (Zo n y).2.1.slot, true) := if_pos h
theorem Zja {n : Nd} {x y : Int} (h : (Zo n y).2.2.2 = false) : Z0 n x y = (Nd.zero, Nd.zero, Nd.zero, false) := if_neg (by simp [h])
theorem Zo1 {n : Nd} {x y : Int} (h : (Zo n y).2.2.2 = true) (h0 : ¬ n.level = 0) : Z0 n x y = ({ n with level := n.level + 1, pivots := [(Zo n y).2.2.1], kids := [x, y], rows := [] }, { (Zo n y).1 with slot := x, msgs := [], seen := 0 }, { (Zo n y).2.1 with msgs := [], seen := 0 }, true) := by
 rw [ZaG h]; unfold Jl Yl; rw [if_neg h0, if_neg h0, if_neg h0]
theorem Zo2 {n : Nd} {x y : Int} (h : (Zo n y).2.2.2 = true) (h0 : n.level = 0) : Z0 n x y = ({ n with level := n.level + 1, pivots := [(Zo n y).2.2.1], kids := [x, y], rows := [], msgs := [] }, { (Zo n y).1 with slot := x, msgs := [] }, { (Zo n y).2.1 with msgs := [] }, true) := by
 rw [ZaG h]; unfold Jl Yl; rw [if_pos h0, if_pos h0, if_pos h0]
def ZF (c : Cfg) (n : Nd) : Bool := if n.level = 0 then decide (c.leaf ≤ (n.rows.length : Int)) else decide (c.fan ≤ (n.kids.length : Int))
theorem J7 (n : Nd) (x y : Int) : (Z0 n x y).2.2.2 = (Zo n y).2.2.2 := by
 cases h : (Zo n y).2.2.2
 ·rw [Zja h]
 ·rw [ZaG h]
def YU (l : List Nd) (r a b : Nd) : List Nd := (l.set 0 r) ++ [a, b]
structure LiftOf (c : Cfg) (l : List Nd) (ss : List Seat) (a0 b0 : Nd) (k : Str) (h : Nat) : Prop where
 t : Tree c l ss
 hv : Halves (Zg l 0).n a0 b0 k h
 sb : b0.slot = (l.length : Int) + 1
 ea : a0.seen = (Zg l 0).n.seen
 eb : b0.seen = (Zg l 0).n.seen
 nk : (Zg l 0).n.has k = true
 aR : a0.R c.fan c.leaf c.bud
 bR : b0.R c.fan c.leaf c.bud
 room : (l.length : Int) + 1 < c.slots
 few : l.length + 2 ≤ 4096
namespace LiftOf
variable {c : Cfg} {l : List Nd} {ss : List Seat} {a0 b0 : Nd} {k : Str} {h : Nat}
noncomputable def nn (l : List Nd) : Nd := (Zg l 0).n
noncomputable def la (l : List Nd) (a0 : Nd) : Nd := Yl (nn l) a0 (l.length : Int)
noncomputable def lb (l : List Nd) (b0 : Nd) : Nd := Yl (nn l) b0 ((l.length : Int) + 1)
noncomputable def lr (l : List Nd) (k : Str) : Nd := Jl (nn l) k (l.length : Int) ((l.length : Int) + 1)
noncomputable def ll (l : List Nd) (a0 b0 : Nd) (k : Str) : List Nd := YU l (lr l k) (la l a0) (lb l b0)
theorem root0 (p : LiftOf c l ss a0 b0 k h) : (nn l).slot = 0 := p.t.root0
theorem seen (p : LiftOf c l ss a0 b0 k h) : (nn l).seen ≤ 1099511627776 ∧ 0 ≤ (nn l).seen := by
 obtain ⟨j, hj, e⟩ := List.getElem_of_mem (p.t.nd p.t.root).2.2
 have h1 := (p.t.slot j hj).2
 rw [e] at h1
 exact ⟨h1, (p.t.seat p.t.root).1.1.2.2⟩
theorem msgs (p : LiftOf c l ss a0 b0 k h) : (lr l k).msgs = (nn l).msgs := by
 show (if (nn l).level = 0 then [] else (nn l).msgs) = _
 split
 ·rename_i h0; exact (p.t.nomsgs p.t.root h0).symm
 ·rfl
theorem len (p : LiftOf c l ss a0 b0 k h) : (ll l a0 b0 k).length = l.length + 2 := by
 unfold ll YU; rw [List.length_append, List.length_set]; rfl
theorem slots (p : LiftOf c l ss a0 b0 k h) : SlotsP (ll l a0 b0 k) := by
 have hp := p.t.pos
 have hs := p.seen
 have h1 := ZbY p.t.slot (x := lr l k) (by show 0 ≤ (nn l).slot ∧ _; rw [show (lr l k).slot = (nn l).slot from rfl, p.root0]; omega) hs.1
 rw [show (lr l k).slot.toNat = 0 from by rw [show (lr l k).slot = (nn l).slot from rfl, p.root0]; rfl] at h1
 have sA : (la l a0).seen ≤ 1099511627776 := by
  show (if (nn l).level = 0 then a0.seen else 0) ≤ _
  split
  ·rw [p.ea]; exact hs.1
  ·omega
 have sB : (lb l b0).seen ≤ 1099511627776 := by
  show (if (nn l).level = 0 then b0.seen else 0) ≤ _
  split
  ·rw [p.eb]; exact hs.1
  ·omega
 have h2 := ZfW h1 (x := la l a0) (by rw [List.length_set]; rfl) sA
 have h3 := ZfW h2 (x := lb l b0) (by rw [List.length_append, List.length_set]; rfl) sB
 rw [List.append_assoc] at h3
 exact h3
theorem get (p : LiftOf c l ss a0 b0 k h) (s : Int) : Za (ll l a0 b0 k) s = if s = (l.length : Int) + 1 then lb l b0 else if s = l.length then la l a0 else if s = 0 then lr l k else Za l s := by
 have hp := p.t.pos
 have e : ll l a0 b0 k = ((l.set (lr l k).slot.toNat (lr l k)) ++ [la l a0]) ++ [lb l b0] := by
  rw [show (lr l k).slot.toNat = 0 from by rw [show (lr l k).slot = (nn l).slot from rfl, p.root0]; rfl, List.append_assoc]; rfl
 have h0 : (lr l k).slot = 0 := p.root0
 rw [e, ZcG, ZcG, List.length_append, List.length_set, ZaK (by rw [h0]; omega), h0]
 rfl
theorem find (p : LiftOf c l ss a0 b0 k h) (s : Int) : Zq (ll l a0 b0 k) s = (if s = (l.length : Int) + 1 then lb l b0 else if s = l.length then la l a0 else if s = 0 then lr l k else Za l s, decide (0 ≤ s ∧ s < (l.length : Int) + 2)) := by
 rw [ZaE p.slots, p.get, p.len]; rfl
theorem find_x (p : LiftOf c l ss a0 b0 k h) {x : Seat} (hx : x ∈ ss) (h1 : x.n.slot ≠ 0) : Zq (ll l a0 b0 k) x.n.slot = Zq l x.n.slot := by
 have := (p.t.nd hx).1
 rw [p.find, if_neg om9, if_neg om9, if_neg h1, ZaE p.t.slot, decide_eq_true om9, decide_eq_true om9]
theorem find_0 (p : LiftOf c l ss a0 b0 k h) : Zq (ll l a0 b0 k) 0 = (lr l k, true) := by
 have := p.t.pos
 rw [p.find, if_neg om9, if_neg om9, if_pos rfl, decide_eq_true om9]
theorem find_a (p : LiftOf c l ss a0 b0 k h) : Zq (ll l a0 b0 k) (l.length : Int) = (la l a0, true) := by
 rw [p.find, if_neg om9, if_pos rfl, decide_eq_true om9]
theorem find_b (p : LiftOf c l ss a0 b0 k h) : Zq (ll l a0 b0 k) ((l.length : Int) + 1) = (lb l b0, true) := by
 rw [p.find, if_pos rfl, decide_eq_true om9]
noncomputable def nR (l : List Nd) (k : Str) : Seat := ⟨lr l k, Span.all, []⟩
noncomputable def nA (l : List Nd) (a0 b0 : Nd) (k : Str) : Seat := Zb (ll l a0 b0 k) (nR l k) 0
noncomputable def nB (l : List Nd) (a0 b0 : Nd) (k : Str) : Seat := Zb (ll l a0 b0 k) (nR l k) 1
theorem rroot (p : LiftOf c l ss a0 b0 k h) : Zg (ll l a0 b0 k) 0 = nR l k := by
 show (⟨(Zq _ 0).1, _, _⟩ : Seat) = _
 rw [p.find_0]; rfl
theorem an (p : LiftOf c l ss a0 b0 k h) : (nA l a0 b0 k).n = la l a0 := by
 show (Zq _ (l.length : Int)).1 = _
 rw [p.find_a]
theorem bn (p : LiftOf c l ss a0 b0 k h) : (nB l a0 b0 k).n = lb l b0 := by
 show (Zq _ ((l.length : Int) + 1)).1 = _
 rw [p.find_b]
theorem route1 (k q : Str) : Ze [k] q = if q.lt k = true then 0 else 1 := by
 unfold Ze
 cases h : q.lt k <;> simp [List.filter_cons, h]
theorem ha (p : LiftOf c l ss a0 b0 k h) (q : Str) : (nA l a0 b0 k).s.has q = ((Zg l 0).s.has q && q.lt k) := by
 show (Span.all.meet (Zf [k] ((0 : Nat) : Int))).has q = (Span.all.has q && _)
 rw [ZH, Xz (by rfl) q (Nat.zero_le _), route1]
 cases q.lt k <;> simp
theorem hb (p : LiftOf c l ss a0 b0 k h) (q : Str) : (nB l a0 b0 k).s.has q = ((Zg l 0).s.has q && !q.lt k) := by
 show (Span.all.meet (Zf [k] ((1 : Nat) : Int))).has q = (Span.all.has q && _)
 rw [ZH, Xz (by rfl) q (by simp), route1]
 cases q.lt k <;> simp
theorem rst (p : LiftOf c l ss a0 b0 k h) : Rst (nn l).msgs := (p.t.msgs p.t.root).1
theorem ams (p : LiftOf c l ss a0 b0 k h) : (nA l a0 b0 k).ms = Zc (nA l a0 b0 k).s (nn l).msgs := by
 show ZO [Zc (nA l a0 b0 k).s (lr l k).msgs, []] = _
 rw [p.msgs, ZdK (Jw p.rst)]
theorem bms (p : LiftOf c l ss a0 b0 k h) : (nB l a0 b0 k).ms = Zc (nB l a0 b0 k).s (nn l).msgs := by
 show ZO [Zc (nB l a0 b0 k).s (lr l k).msgs, []] = _
 rw [p.msgs, ZdK (Jw p.rst)]
theorem hs (p : LiftOf c l ss a0 b0 k h) : HSeat (Zg l 0) (nA l a0 b0 k) (nB l a0 b0 k) k h := by
 refine ⟨?_, p.ha, p.hb, XT _ _, XT _ _, fun s hs => ?_, fun s hs => ?_⟩
 ·rw [p.an, p.bn]
  have hv := p.hv
  exact ⟨hv.la, hv.lb, hv.aend, hv.bend, hv.aright.trans p.sb, hv.leaf, hv.inner, hv.size⟩
 ·rw [p.an, p.ams, XJ hs]
  show ZO [[], Zc s (nn l).msgs] = ZO [Zc s (nn l).msgs, []]
  rw [ZdK (Jw p.rst), Zi9 (Jw p.rst)]
 ·rw [p.bn, p.bms, XJ hs]
  show ZO [[], Zc s (nn l).msgs] = ZO [Zc s (nn l).msgs, []]
  rw [ZdK (Jw p.rst), Zi9 (Jw p.rst)]
theorem slot_at (p : LiftOf c l ss a0 b0 k h) {x : Seat} (hx : x ∈ ss) (h0 : ¬ x.n.level = 0) {j : Nat} (hj : j < x.n.kids.length) : x.n.kids.getD j 0 = (Zb l x j).n.slot := by
 have e := (p.t.at hx h0 hj)
 rw [List.getD_eq_getElem?_getD, List.getElem?_eq_getElem hj, e.2.2.1, (Yv p.t.slot e.2.1).1]; rfl
theorem kid0 (p : LiftOf c l ss a0 b0 k h) {x : Seat} (hx : x ∈ ss) (h0 : ¬ x.n.level = 0) {j : Nat} (hj : j < x.n.kids.length) : Zq (ll l a0 b0 k) (x.n.kids.getD j 0) = Zq l (x.n.kids.getD j 0) := by
 rw [p.slot_at hx h0 hj]
 refine p.find_x (p.t.at hx h0 hj).1 fun e => ?_
 have hin : Zb l x j ∈ Zj l x := by rw [(Z5 (p.t.kids hx) h0).1]; exact List.mem_map.2 ⟨j, List.mem_range.2 hj, rfl⟩
 exact p.t.root_kid hx hin (by rw [e]; exact p.t.root0.symm)
theorem fixK (p : LiftOf c l ss a0 b0 k h) : (Z4 (ll l a0 b0 k) (nA l a0 b0 k)).isSome = true ∧ (Z4 (ll l a0 b0 k) (nB l a0 b0 k)).isSome = true ∧ Zj (ll l a0 b0 k) (nA l a0 b0 k) ++ Zj (ll l a0 b0 k) (nB l a0 b0 k) = Zj l (Zg l 0) := by
 refine HSeat.kids p.t p.t.root p.hs fun j hj => ?_
 by_cases h0 : (Zg l 0).n.level = 0
 ·have := (p.t.leaf p.t.root h0).1
  omega
 ·exact p.kid0 p.t.root h0 hj
theorem fixR (p : LiftOf c l ss a0 b0 k h) : (Z4 (ll l a0 b0 k) (nR l k)).isSome = true ∧ Zj (ll l a0 b0 k) (nR l k) = [nA l a0 b0 k, nB l a0 b0 k] := by
 have hl := p.t.lvl p.t.root
 obtain ⟨g1, g2⟩ := ZaV (l := ll l a0 b0 k) (x := nR l k) (by show 0 < (nn l).level + 1; have : 0 ≤ (nn l).level := hl; omega) (by rfl) fun j hj => by
  have hj : j < 2 := hj
  have e : ∀ z : Nd, z.level = (nn l).level → decide (z.level = (nR l k).n.level - 1) = true := fun z hz => by
   rw [decide_eq_true_eq, hz]
   show _ = (nn l).level + 1 - 1
   omega
  unfold XC
  rcases Nat.lt_or_ge j 1 with h | h
  ·have : j = 0 := om9
   subst this
   show ((Zq _ (l.length : Int)).2 && _) = true
   rw [show (nR l k).n.kids.getD 0 0 = (l.length : Int) from rfl, p.find_a]
   exact e (la l a0) p.hv.la
  ·have : j = 1 := om9
   subst this
   show ((Zq _ ((l.length : Int) + 1)).2 && _) = true
   rw [show (nR l k).n.kids.getD 1 0 = (l.length : Int) + 1 from rfl, p.find_b]
   exact e (lb l b0) p.hv.lb
 exact ⟨g1, g2⟩
theorem fixX (p : LiftOf c l ss a0 b0 k h) {x : Seat} (hx : x ∈ ss) : (Z4 (ll l a0 b0 k) x).isSome = true ∧ Zj (ll l a0 b0 k) x = Zj l x := by
 by_cases h0 : x.n.level = 0
 ·rw [ZaS h0, Xq h0, Xq h0]; exact ⟨rfl, rfl⟩
 ·obtain ⟨h1, h2, h3, h4⟩ := Z5 (p.t.kids hx) h0
  obtain ⟨g1, g2⟩ := ZaV (l := ll l a0 b0 k) (x := x) h2 h3 fun j hj => by
   rw [ZbS (l' := l) (y := x) (j := j) (p.kid0 hx h0 hj) rfl]; exact h4 j hj
  refine ⟨g1, ?_⟩
  rw [g2, h1]
  exact List.map_congr_left fun j hj => ZbR (by rw [p.kid0 hx h0 (List.mem_range.1 hj)]) (fun _ => rfl) fun _ _ => rfl
noncomputable def rest (l : List Nd) (ss : List Seat) : List Seat := ss.flatMap (Zj l)
theorem in_rest (p : LiftOf c l ss a0 b0 k h) {x : Seat} (hx : x ∈ rest l ss) : x ∈ ss := by
 rw [p.t.fix]; exact List.mem_cons_of_mem _ hx
theorem rest_fix (p : LiftOf c l ss a0 b0 k h) : rest l ss = Zj l (Zg l 0) ++ (rest l ss).flatMap (Zj l) := by
 have h1 : rest l ss = (Zg l 0 :: rest l ss).flatMap (Zj l) := by
  conv => lhs; unfold rest; rw [p.t.fix]
  rfl
 rw [List.flatMap_cons] at h1
 exact h1
theorem flat_same {f g : Seat → List Seat} : ∀ {L : List Seat}, (∀ x ∈ L, f x = g x) → L.flatMap f = L.flatMap g
 | [], _ => rfl
 | x :: L, h => by rw [List.flatMap_cons, List.flatMap_cons, h x (by simp), flat_same fun z hz => h z (List.mem_cons_of_mem _ hz)]
noncomputable def seats (l : List Nd) (ss : List Seat) (a0 b0 : Nd) (k : Str) : List Seat := nR l k :: nA l a0 b0 k :: nB l a0 b0 k :: rest l ss
theorem fix (p : LiftOf c l ss a0 b0 k h) : seats l ss a0 b0 k = Zg (ll l a0 b0 k) 0 :: (seats l ss a0 b0 k).flatMap (Zj (ll l a0 b0 k)) := by
 rw [p.rroot]
 unfold seats
 rw [List.flatMap_cons, List.flatMap_cons, List.flatMap_cons, p.fixR.2, ← List.append_assoc (Zj _ (nA l a0 b0 k)), p.fixK.2.2, flat_same fun x hx => (p.fixX (p.in_rest hx)).2, ← p.rest_fix]
 rfl
theorem top (p : LiftOf c l ss a0 b0 k h) : (nn l).top = true ∧ (nn l).high = Str.nil ∧ (nn l).right = -1 := by
 have h1 := (p.t.seat p.t.root).2.1.1.1
 have h2 : (nn l).top = true := h1
 have h3 := (p.t.seat p.t.root).1.2.1 h2
 exact ⟨h2, h3.1, h3.2⟩
theorem perm (p : LiftOf c l ss a0 b0 k h) : ((seats l ss a0 b0 k).map fun x : Seat => x.n.slot).Perm ((ll l a0 b0 k).map fun n : Nd => n.slot) := by
 have h4 : ((ll l a0 b0 k).map fun n : Nd => n.slot) = (l.map fun n : Nd => n.slot) ++ [(l.length : Int), (l.length : Int) + 1] := by
  rw [ZaY p.slots, ZaY p.t.slot, p.len, List.range_succ, List.range_succ, List.map_append, List.map_append, List.append_assoc]; rfl
 have h5 := p.t.perm_s
 rw [p.t.fix] at h5
 rw [h4]
 refine List.Perm.trans ?_ (List.Perm.append_right _ h5)
 unfold seats
 rw [List.map_cons, List.map_cons, List.map_cons, List.map_cons, p.an, p.bn, List.cons_append]
 rw [show (nR l k).n.slot = (Zg l 0).n.slot from rfl]
 refine List.Perm.cons _ ?_
 exact (List.perm_append_comm (l₁ := [(l.length : Int), (l.length : Int) + 1]))
theorem lk (p : LiftOf c l ss a0 b0 k h) : LkK ((seats l ss a0 b0 k).map Seat.key) := by
 have h1 := (Zbk ss).1 p.t.q.1.2.1
 rw [p.t.fix, List.map_cons] at h1
 have e0 : Seat.key (Zg l 0) = ((nn l).slot, (nn l).level, -1) := by
  show ((nn l).slot, (nn l).level, (nn l).right) = _
  rw [p.top.2.2]
 rw [e0] at h1
 have h2 := ZoO (x := (l.length : Int)) (y := (l.length : Int) + 1) h1
 unfold seats
 rw [List.map_cons, List.map_cons, List.map_cons]
 have e1 : Seat.key (nR l k) = ((nn l).slot, (nn l).level + 1, -1) := by
  show ((nn l).slot, (nn l).level + 1, (nn l).right) = _
  rw [p.top.2.2]
 have e2 : Seat.key (nA l a0 b0 k) = ((l.length : Int), (nn l).level, (l.length : Int) + 1) := by
  unfold Seat.key; rw [p.an]
  show ((l.length : Int), a0.level, a0.right) = _
  rw [p.hv.la, p.hv.aright, p.sb]; rfl
 have e3 : Seat.key (nB l a0 b0 k) = ((l.length : Int) + 1, (nn l).level, -1) := by
  unfold Seat.key; rw [p.bn]
  show ((l.length : Int) + 1, b0.level, b0.right) = _
  rw [p.hv.lb, p.hv.bend.2.2, show (Zg l 0).n.right = (nn l).right from rfl, p.top.2.2]; rfl
 rw [e1, e2, e3]
 exact h2
theorem halfR (p : LiftOf c l ss a0 b0 k h) {z : Nd} (hz : z.R c.fan c.leaf c.bud) (s : Int) (hs : 0 ≤ s) : (Yl (nn l) z s).R c.fan c.leaf c.bud := by
 obtain ⟨⟨q1, q2, q3⟩, q4, q5, q6⟩ := hz
 have hc := p.t.cfg.2.2.1
 refine ⟨⟨hs, q2, ?_⟩, q4, q5, ?_⟩
 ·show 0 ≤ (if (nn l).level = 0 then z.seen else 0)
  split <;> omega
 ·by_cases h0 : z.level = 0
  ·rw [if_pos h0] at q6
   rw [if_pos (show (Yl (nn l) z s).level = 0 from h0)]
   obtain ⟨r1, r2, r3, r4⟩ := q6
   exact ⟨by show z.pivots.length + z.kids.length + 0 = 0; omega, r2, r3, r4⟩
  ·rw [if_neg h0] at q6
   rw [if_neg (show ¬ (Yl (nn l) z s).level = 0 from h0)]
   obtain ⟨r1, r4, r5, r6, r7, r8, r9⟩ := q6
   exact ⟨r1, r4, (fun i hi => absurd hi (Nat.not_lt_zero _)), by show (0 : Int) ≤ _; omega, r7, r8, fun i hi => absurd hi (Nat.not_lt_zero _)⟩
theorem rR (p : LiftOf c l ss a0 b0 k h) : (lr l k).R c.fan c.leaf c.bud := by
 obtain ⟨⟨q1, q2, q3⟩, q4, q5, q6⟩ := (p.t.seat p.t.root).1
 have hc := p.t.cfg
 have h0 : ¬ (lr l k).level = 0 := by show ¬ (nn l).level + 1 = 0; have : 0 ≤ (nn l).level := q2; omega
 have hn : MsgsR (lr l k).msgs ∧ Zz (lr l k).msgs ≤ c.bud ∧ ∀ i (h : i < (lr l k).msgs.length), (lr l k).fits (lr l k).msgs[i] := by
  by_cases h1 : (nn l).level = 0
  ·have e : (lr l k).msgs = [] := if_pos h1
   rw [e]
   exact ⟨fun i hi => absurd hi (Nat.not_lt_zero _), by show (0 : Int) ≤ _; have := hc.2.2.1; omega, fun i hi => absurd hi (Nat.not_lt_zero _)⟩
  ·have q6 : (nn l).innerR c.fan c.bud := p.t.inner p.t.root h1
   obtain ⟨r1, r4, r5, r6, r7, r8, r9⟩ := q6
   have e := p.msgs
   refine ⟨by rw [e]; exact r5, by rw [e]; exact r6, fun i hi => ?_⟩
   have hi2 : i < (nn l).msgs.length := by rw [← e]; exact hi
   have e2 : (lr l k).msgs[i] = (nn l).msgs[i] := by simp only [e]
   rw [e2]; exact r9 i hi2
 refine ⟨⟨q1, by show 0 ≤ (nn l).level + 1; have : 0 ≤ (nn l).level := q2; omega, q3⟩, q4, q5, ?_⟩
 rw [if_neg h0]
 refine ⟨⟨rfl, by show 2 ≤ 2; omega, by show ((2 : Nat) : Int) ≤ _; have := hc.1; omega⟩, by rfl, hn.1, hn.2.1, fun i hi => ?_, fun i hi => ?_, hn.2.2⟩
 ·have hm : (lr l k).kids[i] ∈ [(l.length : Int), (l.length : Int) + 1] := List.getElem_mem hi
  simp only [List.mem_cons, List.not_mem_nil, or_false] at hm
  omega
 ·have hm : (lr l k).pivots[i] ∈ [k] := List.getElem_mem hi
  rw [List.mem_singleton] at hm
  rw [hm]
  exact ⟨p.hv.size.1, p.hv.size.2, p.nk⟩
theorem rP (p : LiftOf c l ss a0 b0 k h) : PlacedP (nR l k) := by
 obtain ⟨p0, p3, p4, p5⟩ := (p.t.seat p.t.root).2.1
 refine ⟨p0, fun i hi => absurd hi (Nat.not_lt_zero _), fun i hi => ?_, fun i hi => ?_⟩
 ·have hm : (nR l k).n.pivots[i] ∈ [k] := List.getElem_mem hi
  rw [List.mem_singleton] at hm
  rw [hm]
  exact ⟨ZaF k, p.hv.size.1⟩
 ·have e : (nR l k).n.msgs = (nn l).msgs := p.msgs
  have e2 : (nR l k).n.msgs[i] = (nn l).msgs[i]'(by rw [← e]; exact hi) := by simp only [e]
  rw [e2]
  exact p5 i (by rw [show (Zg l 0).n.msgs = (nn l).msgs from rfl, ← e]; exact hi)
theorem seatP (p : LiftOf c l ss a0 b0 k h) : ∀ z ∈ seats l ss a0 b0 k, SeatP c z := fun z hz => by
 have hsl := p.room
 have st : ∀ {s : Span} {ms : List Msg} {e : Nd}, e.seen = (nn l).seen → ms = Zc s (nn l).msgs → ∀ j (hj : j < ms.length), (if (nn l).level = 0 then e.seen else 0) < ms[j].stamp := fun es e j hj => by
  subst e
  by_cases h0 : (nn l).level = 0
  ·have : (nn l).msgs = [] := p.t.nomsgs p.t.root h0
   rw [this] at hj
   exact absurd hj (Nat.not_lt_zero _)
  ·rw [if_neg h0]
   obtain ⟨m0, hm0, e⟩ := JL (List.getElem_mem hj)
   have := ((p.t.msgs p.t.root).2.1 m0 hm0).1.1
   rw [e]; omega
 unfold seats at hz
 simp only [List.mem_cons] at hz
 have nil : ∀ {s : Span} (m : Msg), m ∈ ([] : List Msg) → ∃ m' ∈ (Zg l 0).n.msgs, (m'.clip s).2 = true ∧ (m'.clip s).1 = m := fun m hm => by cases hm
 rcases hz with rfl | rfl | rfl | hz
 ·exact ⟨p.rR, p.rP, by show (nn l).slot < _; rw [p.root0]; omega, fun j hj => absurd hj (Nat.not_lt_zero _)⟩
 ·refine ⟨by rw [p.an]; exact p.halfR p.aR _ om9, HSeat.placedA p.t p.t.root p.hs (by rfl) p.nk (by rw [p.an]; exact nil), by rw [p.an]; show (l.length : Int) < _; omega, fun j hj => ?_⟩
  rw [p.an]; exact st p.ea p.ams j hj
 ·refine ⟨by rw [p.bn]; exact p.halfR p.bR _ om9, HSeat.placedB p.t p.t.root p.hs (by rfl) p.nk (by rw [p.bn]; exact nil), by rw [p.bn]; show (l.length : Int) + 1 < _; omega, fun j hj => ?_⟩
  rw [p.bn]; exact st p.eb p.bms j hj
 ·exact p.t.seat (p.in_rest hz)
theorem tree (p : LiftOf c l ss a0 b0 k h) : Tree c (ll l a0 b0 k) (seats l ss a0 b0 k) := by
 have hfew := p.few
 have hroom := p.room
 refine ZdH p.t.cfg (by rw [p.len]; omega) (Zd3 p.t.cfg (by rw [p.len]; omega) fun n hn => ?_) p.slots p.fix (fun z hz => ?_) p.perm p.lk (by rw [p.len]; omega) p.seatP
 ·have old : ∀ n ∈ l, n.R c.fan c.leaf c.bud := fun n hn => by
   have := (p.t.perm.mem_iff).2 hn
   obtain ⟨x, hx, rfl⟩ := List.mem_map.1 this
   exact (p.t.seat hx).1
  unfold ll YU at hn
  rcases List.mem_append.1 hn with hn | hn
  ·rcases List.mem_or_eq_of_mem_set hn with hn | rfl
   ·exact old n hn
   ·exact p.rR
  ·simp only [List.mem_cons, List.not_mem_nil, or_false] at hn
   rcases hn with rfl | rfl
   ·exact p.halfR p.aR _ om9
   ·exact p.halfR p.bR _ om9
 ·unfold seats at hz
  simp only [List.mem_cons] at hz
  rcases hz with rfl | rfl | rfl | hz
  ·exact p.fixR.1
  ·exact p.fixK.1
  ·exact p.fixK.2.1
  ·exact (p.fixX (p.in_rest hz)).1
theorem map (p : LiftOf c l ss a0 b0 k h) : Zl (ll l a0 b0 k) = Zl l := by
 rw [Jx p.tree.sts, Jx p.t.sts]
 have h1 := HSeat.view p.t p.t.root p.hs (fun _ => by rw [p.ams, XJ fun _ h => h]; rw [show (nn l).msgs = [] from p.t.nomsgs p.t.root (by assumption)]; rfl) (fun _ => by rw [p.bms, XJ fun _ h => h]; rw [show (nn l).msgs = [] from p.t.nomsgs p.t.root (by assumption)]; rfl)
 have e2 : ¬ (nR l k).n.level = 0 := by show ¬ (nn l).level + 1 = 0; have : 0 ≤ (nn l).level := p.t.lvl p.t.root; omega
 have e3 : ZE ss = ZE [Zg l 0] ++ ZE (rest l ss) := by
  conv => lhs; rw [p.t.fix]
  unfold ZE
  rw [← List.filter_append]; rfl
 have e4 : ZE (seats l ss a0 b0 k) = ZE [nA l a0 b0 k, nB l a0 b0 k] ++ ZE (rest l ss) := by
  unfold ZE
  rw [← List.filter_append]
  unfold seats
  rw [List.filter_cons, if_neg (by simpa using e2)]; rfl
 rw [e3, e4, List.flatMap_append, List.flatMap_append, h1]
end LiftOf
theorem Zo3 {c : Cfg} {l : List Nd} {ss : List Seat} (t : Tree c l ss) (room : (l.length : Int) + 1 < c.slots) (few : l.length + 2 ≤ 4096)
  (hc : (Z0 (Zg l 0).n l.length ((l.length : Int) + 1)).2.2.2 = true) :
  ∃ T, Tree c (YU l (Z0 (Zg l 0).n l.length ((l.length : Int) + 1)).1 (Z0 (Zg l 0).n l.length ((l.length : Int) + 1)).2.1 (Z0 (Zg l 0).n l.length ((l.length : Int) + 1)).2.2.1) T ∧
   Zl (YU l (Z0 (Zg l 0).n l.length ((l.length : Int) + 1)).1 (Z0 (Zg l 0).n l.length ((l.length : Int) + 1)).2.1 (Z0 (Zg l 0).n l.length ((l.length : Int) + 1)).2.2.1) = Zl l := by
 rw [J7] at hc
 have hR := (t.seat t.root).1
 have hRR := Zhu (slot := (l.length : Int) + 1) hR om9 hc
 obtain ⟨a, b, k, h, e, hv, g1, g2, g3, g4, g5, g6, g7⟩ := Zd2 (y := (l.length : Int) + 1) hR hc
 rw [ZaG hc, e]
 rw [e] at hRR
 have p : LiftOf c l ss a b k h := ⟨t, hv, g2, g3, g4, g7, hRR.1, hRR.2.1, room, few⟩
 have e9 : Yl (Zg l 0).n b b.slot = LiftOf.lb l b := by rw [g2]; rfl
 dsimp only
 rw [e9]
 exact ⟨_, p.tree, p.map⟩
theorem Jy (n : Nd) (i : Int) : (Zo n i).2.2.2 = (ZN n).2.2.2 := by
 cases h : (ZN n).2.2.2
 ·rw [ZbB h]
 ·rw [XQ h]
theorem ZdL (n : Nd) (x y x' y' : Int) : (Z0 n x y).2.2.2 = (Z0 n x' y').2.2.2 := by rw [J7, J7, Jy, Jy]
def tk (l : List Nd) (x : Nd) : List Nd := l ++ [{ x with slot := l.length }]
theorem ZaW (l : List Nd) (x : Nd) : (tk l x).length = l.length + 1 := by simp [tk]
theorem Zjb {n : Nat} {l : List Nd} {x : Nd} (h : l.length < n) : J3 n l x = (((l.length : Int), 0), tk l x) := Ze6 h
def ZI (c : Cfg) (l : List Nd) : Int × List Nd :=
 if (Z0 (Za l 0) l.length ((l.length : Int) + 1)).2.2.2 = false then (6, l)
 else if c.slots.toNat - l.length < 2 then (4, l)
 else (0, YU l (Z0 (Za l 0) l.length ((l.length : Int) + 1)).1 (Z0 (Za l 0) l.length ((l.length : Int) + 1)).2.1 (Z0 (Za l 0) l.length ((l.length : Int) + 1)).2.2.1)
theorem ZdM {c : Cfg} {l : List Nd} {x y : Int} (h : (Z0 (Za l 0) x y).2.2.2 = false) : ZI c l = (6, l) := if_pos (by rw [ZdL _ _ _ x y]; exact h)
theorem Zbl {c : Cfg} {l : List Nd} {x y : Int} (h : (Z0 (Za l 0) x y).2.2.2 = true) (hr : c.slots.toNat - l.length < 2) : ZI c l = (4, l) := by
 unfold ZI; rw [if_neg (by rw [ZdL _ _ _ x y, h]; simp), if_pos hr]
theorem ZbT {c : Cfg} {l : List Nd} {x y : Int} (h : (Z0 (Za l 0) x y).2.2.2 = true) (hr : ¬ c.slots.toNat - l.length < 2) :
  ZI c l = (0, YU l (Z0 (Za l 0) l.length ((l.length : Int) + 1)).1 (Z0 (Za l 0) l.length ((l.length : Int) + 1)).2.1 (Z0 (Za l 0) l.length ((l.length : Int) + 1)).2.2.1) := by
 unfold ZI; rw [if_neg (by rw [ZdL _ _ _ x y, h]; simp), if_neg hr]
theorem Zo4 {n : Nd} {x y : Int} (h : (Z0 n x y).2.2.2 = true) (hk : (Zo n y).2.1.slot = y) : (Z0 n x y).1.slot = n.slot ∧ (Z0 n x y).2.1.slot = x ∧ (Z0 n x y).2.2.1.slot = y := by
 rw [J7] at h
 rw [ZaG h]
 exact ⟨rfl, rfl, hk⟩
theorem Zo5 {n : Nd} {y : Int} (h : (Zo n y).2.2.2 = true) : (Zo n y).2.1.slot = y := by
 rw [Jy] at h
 rw [XQ h]
theorem Zo6 {n : Nd} {x y x' y' : Int} (h : (Z0 n x' y').2.2.2 = true) : (Z0 n x y).1.slot = n.slot ∧ (Z0 n x y).2.1.slot = x ∧ (Z0 n x y).2.2.1.slot = y := by
 have h2 : (Z0 n x y).2.2.2 = true := by rw [ZdL n x y x' y']; exact h
 exact Zo4 h2 (Zo5 (by rw [← J7 n x y]; exact h2))
theorem Zjc {l : List Nd} {A B : List Nd} {x y : Nd} (h : l = A ++ x :: B) (hy : y.slot.toNat = A.length) : l.set y.slot.toNat y = A ++ y :: B := by
 rw [h, hy, List.set_append_right _ _ (Nat.le_refl _), Nat.sub_self]; rfl
theorem Zo7 {l : List Nd} {n r a b : Nd} (hr : r.slot = 0) (ha : a.slot = l.length) (hb : b.slot = (l.length : Int) + 1) (hp : 0 < l.length) : (((tk (tk l n) n).set r.slot.toNat r).set a.slot.toNat a).set b.slot.toNat b = YU l r a b := by
 have e1 : (tk (tk l n) n).set r.slot.toNat r = l.set 0 r ++ [{ n with slot := l.length }, { n with slot := (tk l n).length }] := by
  unfold tk
  rw [hr, List.append_assoc]
  show List.set _ 0 r = _
  rw [List.set_append_left _ _ hp]; rfl
 have l0 : (l.set 0 r).length = l.length := List.length_set
 rw [e1, Zjc (A := l.set 0 r) (B := [{ n with slot := (tk l n).length }]) (x := { n with slot := l.length }) rfl (by rw [l0]; omega)]
 rw [Zjc (A := l.set 0 r ++ [a]) (B := []) (x := { n with slot := (tk l n).length }) (by simp) (by rw [List.length_append, l0]; simp; omega)]
 unfold YU
 simp
theorem Zjd {c : Cfg} {l : List Nd} {ss : List Seat} (t : Tree c l ss) : ∃ T, Tree c (ZI c l).2 T ∧ Zl (ZI c l).2 = Zl l := by
 have hr : (Zg l 0).n = Za l 0 := t.rootn
 by_cases h1 : (Z0 (Za l 0) l.length ((l.length : Int) + 1)).2.2.2 = true
 ·by_cases h2 : c.slots.toNat - l.length < 2
  ·rw [Zbl h1 h2]; exact ⟨ss, t, rfl⟩
  ·rw [ZbT h1 h2]
   have hsl := t.cfg.2.2.2.1.2
   have := Zo3 t om9 om9 (by rw [hr]; exact h1)
   rw [hr] at this
   exact this
 ·rw [ZdM (by simpa using h1)]; exact ⟨ss, t, rfl⟩
theorem ZfC (n : Nd) (i j : Int) : (Zo n i).2.2.1 = (Zo n j).2.2.1 := by
 cases h : (ZN n).2.2.2
 ·rw [ZbB h, ZbB h]
 ·rw [XQ h, XQ h]
theorem Zje (n : Nd) (i j : Int) : (Zo n i).2.2.2 = (Zo n j).2.2.2 := by rw [Jy, Jy]
theorem Zo8 (p : List Str) (c : List Int) (i : Nat) (k : Str) (v w : Int) : (X6 p c i k v).2.length = (X6 p c i k w).2.length := by
 unfold X6
 split
 ·rfl
 ·simp
theorem Zjf (n : Nd) (i : Nat) (k : Str) (v w : Int) : (Y9 n i k v).2 = (Y9 n i k w).2 := by
 unfold Y9
 rw [Zo8 _ _ _ _ v w]
 split <;> rfl
def kdN (l : List Nd) (p : Int) (i : Nat) : Int := (Za l p).kids.getD i 0
def ZR (l : List Nd) (p : Int) (i : Nat) : Nd × Nd × Str × Bool := Zo (Za l (kdN l p i)) l.length
def adP (l : List Nd) (p : Int) (i : Nat) : Nd × Bool := Y9 (Za l p) i (ZR l p i).2.2.1 l.length
def Jz (l : List Nd) (p : Int) (i : Nat) : List Nd := ((l.set (ZR l p i).1.slot.toNat (ZR l p i).1).set p.toNat (adP l p i).1) ++ [(ZR l p i).2.1]
def Xk (c : Cfg) (l : List Nd) (p : Int) (i : Nat) : Int × List Nd :=
 if ¬ (0 ≤ p ∧ p < l.length) ∨ (Za l p).kids.length ≤ i ∨ ¬ (0 ≤ kdN l p i ∧ kdN l p i < l.length) then (8, l)
 else if ZF c (Za l p) = true then (9, l)
 else if (ZR l p i).2.2.2 = false ∨ (adP l p i).2 = false then (6, l)
 else if ¬ (l.length : Int) < c.slots then (4, l)
 else (0, Jz l p i)
def ZD (c : Cfg) (l : List Nd) (p i : Int) : Int × List Nd := if i < 0 then (8, l) else Xk c l p i.toNat
theorem ZaH {c : Cfg} {l : List Nd} {p : Int} {i : Nat} (h : ¬ (0 ≤ p ∧ p < l.length) ∨ (Za l p).kids.length ≤ i ∨ ¬ (0 ≤ kdN l p i ∧ kdN l p i < l.length)) : Xk c l p i = (8, l) := if_pos h
theorem ZfD {c : Cfg} {l : List Nd} {p : Int} {i : Nat} (h1 : 0 ≤ p ∧ p < l.length) (h2 : ¬ (Za l p).kids.length ≤ i) (h3 : 0 ≤ kdN l p i ∧ kdN l p i < l.length) (h : ZF c (Za l p) = true) : Xk c l p i = (9, l) := by
 unfold Xk; rw [if_neg (by rintro (h | h | h); exact h h1; exact h2 h; exact h h3), if_pos h]
theorem ZbU {c : Cfg} {l : List Nd} {p : Int} {i : Nat} (h1 : 0 ≤ p ∧ p < l.length) (h2 : ¬ (Za l p).kids.length ≤ i) (h3 : 0 ≤ kdN l p i ∧ kdN l p i < l.length) (h4 : ZF c (Za l p) = false) (h : (ZR l p i).2.2.2 = false ∨ (adP l p i).2 = false) : Xk c l p i = (6, l) := by
 unfold Xk; rw [if_neg (by rintro (h | h | h); exact h h1; exact h2 h; exact h h3), if_neg (by rw [h4]; simp), if_pos h]
theorem ZdN {c : Cfg} {l : List Nd} {p : Int} {i : Nat} (h1 : 0 ≤ p ∧ p < l.length) (h2 : ¬ (Za l p).kids.length ≤ i) (h3 : 0 ≤ kdN l p i ∧ kdN l p i < l.length) (h4 : ZF c (Za l p) = false) (h5 : (ZR l p i).2.2.2 = true) (h6 : (adP l p i).2 = true) (h : ¬ (l.length : Int) < c.slots) : Xk c l p i = (4, l) := by
 unfold Xk; rw [if_neg (by rintro (h | h | h); exact h h1; exact h2 h; exact h h3), if_neg (by rw [h4]; simp), if_neg (by rw [h5, h6]; simp), if_pos h]
theorem ZdO {c : Cfg} {l : List Nd} {p : Int} {i : Nat} (h1 : 0 ≤ p ∧ p < l.length) (h2 : ¬ (Za l p).kids.length ≤ i) (h3 : 0 ≤ kdN l p i ∧ kdN l p i < l.length) (h4 : ZF c (Za l p) = false) (h5 : (ZR l p i).2.2.2 = true) (h6 : (adP l p i).2 = true) (h : (l.length : Int) < c.slots) : Xk c l p i = (0, Jz l p i) := by
 unfold Xk; rw [if_neg (by rintro (h | h | h); exact h h1; exact h2 h; exact h h3), if_neg (by rw [h4]; simp), if_neg (by rw [h5, h6]; simp), if_neg (by simpa using h)]
theorem ZfE {l : List Nd} {p : Int} {i : Nat} (h : (ZR l p i).2.2.2 = true) : (ZR l p i).1.slot = (Za l (kdN l p i)).slot ∧ (ZR l p i).2.1.slot = l.length := by
 have hh : (ZN (Za l (kdN l p i))).2.2.2 = true := by rw [← Jy _ (l.length : Int)]; exact h
 unfold ZR
 rw [XQ hh]
 refine ⟨?_, rfl⟩
 show (ZN (Za l (kdN l p i))).1.slot = _
 by_cases h0 : (Za l (kdN l p i)).level = 0
 ·rw [Zav h0]
 ·cases h2 : YB (Za l (kdN l p i)).pivots (Za l (kdN l p i)).kids.length
  ·rw [Za8 h0 h2]
  ·rw [Zaw h0 h2]
theorem Zjg {l : List Nd} {p : Int} {i : Nat} (h : (adP l p i).2 = true) : (adP l p i).1.slot = (Za l p).slot := by
 unfold adP Y9 at *
 split
 ·rename_i h2; rw [if_pos h2] at h; cases h
 ·rfl
theorem Zo9 {l : List Nd} {n a b r : Nd} {p : Int} (ha : 0 ≤ a.slot ∧ a.slot < l.length) (hb : b.slot = l.length) (hr : r.slot = p) (hp : 0 ≤ p ∧ p < l.length) :
  (((tk l n).set a.slot.toNat a).set b.slot.toNat b).set r.slot.toNat r = ((l.set a.slot.toNat a).set p.toNat r) ++ [b] := by
 unfold tk
 rw [List.set_append_left _ _ om9, hb, hr]
 have l1 : (l.set a.slot.toNat a).length = l.length := List.length_set
 rw [show ((l.length : Int)).toNat = (l.set a.slot.toNat a).length by rw [l1]; omega, List.set_append_right _ _ (Nat.le_refl _), Nat.sub_self, List.set_append_left _ _ om9]
 rfl
theorem Zpa {c : Cfg} {l : List Nd} {ss : List Seat} (t : Tree c l ss) (p i : Int) : ∃ T, Tree c (ZD c l p i).2 T ∧ Zl (ZD c l p i).2 = Zl l := by
 unfold ZD
 split
 ·exact ⟨ss, t, rfl⟩
 ·generalize i.toNat = j
  by_cases h1 : 0 ≤ p ∧ p < l.length
  ·by_cases h2 : (Za l p).kids.length ≤ j
   ·rw [ZaH (.inr (.inl h2))]; exact ⟨ss, t, rfl⟩
   ·by_cases h3 : 0 ≤ kdN l p j ∧ kdN l p j < l.length
    ·cases h4 : ZF c (Za l p)
     ·by_cases h5 : (ZR l p j).2.2.2 = true
      ·by_cases h6 : (adP l p j).2 = true
       ·by_cases h7 : (l.length : Int) < c.slots
        ·rw [ZdO h1 h2 h3 h4 h5 h6 h7]
         obtain ⟨g1, g2⟩ := Yv t.slot h1
         obtain ⟨P, hP, eP⟩ := List.mem_map.1 ((t.perm.mem_iff).2 g2)
         have hj : j < P.n.kids.length := by rw [eP]; omega
         have h0 : ¬ P.n.level = 0 := fun h0 => by have := (t.leaf hP h0).1; omega
         have hat := t.at hP h0 hj
         have ek : (Zb l P j).n = Za l (kdN l p j) := by
          rw [hat.2.2.1]
          unfold kdN
          rw [← eP, List.getD_eq_getElem?_getD, List.getElem?_eq_getElem hj]; rfl
         have hfull : (P.n.kids.length : Int) < c.fan := by
          unfold ZF at h4
          rw [if_neg (by rw [← eP]; exact h0), decide_eq_false_iff_not] at h4
          rw [eP]; omega
         unfold adP ZR at h6
         unfold ZR at h5
         rw [← ek] at h5 h6
         rw [← eP] at h6
         have hsl := t.cfg.2.2.2.1.2
         have key := ZpL t hP h0 hj hfull h7 om9 h5 h6
         obtain ⟨e9, h, q⟩ := key
         have el : Jz l p j = ZT l P.n j (Zo (Zb l P j).n l.length).1 (Zo (Zb l P j).n l.length).2.1 (Zo (Zb l P j).n l.length).2.2.1 := by
          unfold Jz adP ZR ZT
          rw [← ek, ← eP, e9]
          have : P.n.slot = p := by rw [eP]; exact g1
          rw [this]
         rw [el]
         exact ⟨_, q.tree, q.map⟩
        ·rw [ZdN h1 h2 h3 h4 h5 h6 h7]; exact ⟨ss, t, rfl⟩
       ·rw [ZbU h1 h2 h3 h4 (.inr (by simpa using h6))]; exact ⟨ss, t, rfl⟩
      ·rw [ZbU h1 h2 h3 h4 (.inl (by simpa using h5))]; exact ⟨ss, t, rfl⟩
     ·rw [ZfD h1 h2 h3 h4]; exact ⟨ss, t, rfl⟩
    ·rw [ZaH (.inr (.inr h3))]; exact ⟨ss, t, rfl⟩
  ·rw [ZaH (.inl h1)]; exact ⟨ss, t, rfl⟩
theorem OwnR.cast {α : Type} {e : Enc α} {T : TypeId} {G : GH} {v : Value} {l l' : List α} {Ms : MH} (h : OwnR e T G v l Ms) (h2 : l = l') : OwnR e T G v l' Ms := h2 ▸ h
def wOf (P : List Str) (F : List Msg) (i : Nat) : Int := Zz (F.filter fun m => decide (Ze P m.key = i))
def YX (w : Nat → Int) : Nat → Nat
 | 0 => 0
 | k + 1 => if w (YX w k) < w k then k else YX w k
theorem Zpb {w : Nat → Int} {k : Nat} (h : w (YX w k) < w k) : YX w (k + 1) = k := if_pos h
theorem Zpc {w : Nat → Int} {k : Nat} (h : ¬ w (YX w k) < w k) : YX w (k + 1) = YX w k := if_neg h
theorem ZfF (w : Nat → Int) : ∀ k, YX w k < k ∨ (k = 0 ∧ YX w k = 0)
 | 0 => .inr ⟨rfl, rfl⟩
 | k + 1 => by
  left
  unfold YX
  split
  ·omega
  ·rcases ZfF w k with h | h <;> omega
theorem ZfG (w : Nat → Int) : ∀ k j, j < k → w j ≤ w (YX w k)
 | 0, j, h => absurd h (Nat.not_lt_zero j)
 | k + 1, j, h => by
  unfold YX
  split
  ·rename_i h2
   by_cases e : j = k
   ·rw [e]; exact Int.le_refl _
   ·have := ZfG w k j om9; omega
  ·rename_i h2
   by_cases e : j = k
   ·rw [e]; omega
   ·exact ZfG w k j om9
def XE (P : List Str) (l : List Msg) : Int × Bool := if l.length = 0 then (0, false) else (((YX (wOf P (Zk l)) (P.length + 1) : Nat) : Int), true)
theorem ZfH (P : List Str) (F : List Msg) (i : Nat) : 0 ≤ wOf P F i := by
  unfold wOf
  generalize F.filter _ = L
  induction L with
  | nil => exact Int.le_refl 0
  | cons m L ih => have := ZjH m; have e : Zz (m :: L) = m.size + Zz L := by simp [Zz]
                   rw [e]; omega
theorem Zpd (P : List Str) (F : List Msg) (i : Nat) (h : ∀ m ∈ F, m.key.b.size ≤ 16 ∧ m.val.b.size ≤ 16) : wOf P F i ≤ 36 * F.length := by
 have h1 := Zd6 (l := F.filter fun m => decide (Ze P m.key = i)) fun m hm => h m (List.mem_filter.1 hm).1
 have h2 := List.length_filter_le (fun m : Msg => decide (Ze P m.key = i)) F
 have := h1.2
 unfold wOf
 omega
theorem Zjh {P : List Str} {F : List Msg} {q i : Nat} (hq : q < F.length) (h : Ze P F[q].key = i) : wOf P (F.take (q + 1)) i = wOf P (F.take q) i + F[q].size := by
 unfold wOf
 rw [Zdj (p := fun m : Msg => decide (Ze P m.key = i)) hq (by simp [h]), ZdY]
 simp [Zz]
theorem Zpe {P : List Str} {F : List Msg} {q i : Nat} (hq : q < F.length) (h : ¬ Ze P F[q].key = i) : wOf P (F.take (q + 1)) i = wOf P (F.take q) i := by
 unfold wOf
 rw [Zcp (p := fun m : Msg => decide (Ze P m.key = i)) hq (by simp [h])]
theorem Zpf {l : List Msg} (h : 0 < l.length) : 0 < (Zk l).length := by
 unfold Zk
 have h1 := Zff isW l
 split
 ·exact h
 ·split
  ·rw [List.length_take]; omega
  ·rw [List.length_take]; omega
theorem Zpg {P : List Str} {l : List Msg} (h : 0 < l.length) : 0 < wOf P (Zk l) (YX (wOf P (Zk l)) (P.length + 1)) := by
 have h0 := Zpf h
 have hr : Ze P ((Zk l)[0]).key ≤ P.length := List.length_filter_le _ _
 have hm := ZfG (wOf P (Zk l)) (P.length + 1) (Ze P ((Zk l)[0]).key) om9
 have : 0 < wOf P (Zk l) (Ze P ((Zk l)[0]).key) := by
  have e : (Zk l).take 1 ++ (Zk l).drop 1 = Zk l := List.take_append_drop _ _
  have h1 := Zjh (P := P) (F := Zk l) (q := 0) h0 rfl
  have h2 : 0 < ((Zk l)[0]).size := by unfold Msg.size; split <;> omega
  have h3 : wOf P (Zk l) (Ze P ((Zk l)[0]).key) = wOf P ((Zk l).take 1) (Ze P ((Zk l)[0]).key) + wOf P ((Zk l).drop 1) (Ze P ((Zk l)[0]).key) := by
   generalize Ze P ((Zk l)[0]).key = z
   conv => lhs; rw [← e]
   unfold wOf
   rw [List.filter_append, ZdY]
  have h4 := ZfH P ((Zk l).take 0) (Ze P ((Zk l)[0]).key)
  have h5 := ZfH P ((Zk l).drop 1) (Ze P ((Zk l)[0]).key)
  rw [h3]
  rw [show (0 + 1 : Nat) = 1 from rfl] at h1
  omega
 omega
theorem Zji {P : List Str} {l : List Msg} (h : ¬ 0 < l.length) : XE P l = (0, false) := by unfold XE; rw [if_pos om9]
theorem ZfI {P : List Str} {l : List Msg} (h : 0 < l.length) : XE P l = (((YX (wOf P (Zk l)) (P.length + 1) : Nat) : Int), true) := by unfold XE; rw [if_neg om9]
theorem Zph {P : List Str} {l : List Msg} : 0 ≤ (XE P l).1 ∧ (XE P l).1 ≤ P.length := by
 unfold XE
 split
 ·exact ⟨Int.le_refl 0, om9⟩
 ·rcases ZfF (wOf P (Zk l)) (P.length + 1) with h | h
  ·dsimp only; omega
  ·omega
def wts (P : List Str) (F : List Msg) : List Int := (List.range (P.length + 1)).map (wOf P F)
theorem ZcE (P : List Str) (F : List Msg) : (wts P F).length = P.length + 1 := by simp [wts]
theorem ZaI {P : List Str} {F : List Msg} {i : Nat} (h : i < (wts P F).length) : (wts P F)[i] = wOf P F i := by simp [wts]
theorem Zpi (P : List Str) : List.replicate (P.length + 1) (0 : Int) = wts P [] := by
 refine List.ext_getElem (by simp [wts]) fun i h1 h2 => ?_
 rw [ZaI h2]
 simp [wOf, Zz]
theorem Zjj {P : List Str} {F : List Msg} {q : Nat} (hq : q < F.length) (h : Ze P F[q].key < (wts P (F.take q)).length) : (wts P (F.take q)).set (Ze P F[q].key) ((wts P (F.take q))[Ze P F[q].key] + F[q].size) = wts P (F.take (q + 1)) := by
 refine List.ext_getElem (by rw [List.length_set, ZcE, ZcE]) fun i h1 h2 => ?_
 rw [ZaI h2, List.getElem_set]
 rw [List.length_set] at h1
 split
 ·rename_i e
  subst e
  rw [ZaI h1, Zjh hq rfl]
 ·rename_i e
  rw [ZaI h1, Zpe hq e]
def Zw (c : Cfg) (n : Nd) (k : Str) : Int × Int :=
 if n.level = 0 then (0, 0) else if n.slot = 0 ∧ ZF c n = true then (1, 0) else (2, if (XE n.pivots n.msgs).2 = true then (XE n.pivots n.msgs).1 else ((Ze n.pivots k : Nat) : Int))
noncomputable def ZV (c : Cfg) (p k : Nd) (i : Int) : Int :=
 if 0 < k.level ∧ ZF c k = true then (if ZF c p = true then 0 else 3) else if 0 < ZS c.leaf c.bud p k i then 4 else if 0 < k.level then 5 else if 0 < (Zd p.pivots p.msgs i).length then (if ZF c p = true then 0 else 3) else 0
theorem Zpj (leaf bud : Int) (p k : Nd) (i : Int) : (ZW leaf bud p k i).2.2 = ZS leaf bud p k i := by
 unfold ZW
 split
 ·rename_i h; rw [h]
 ·rfl
theorem Zjk {c : Cfg} {n : Nd} {k : Str} (h : n.level = 0) : Zw c n k = (0, 0) := if_pos h
theorem ZfJ {c : Cfg} {n : Nd} {k : Str} (h : ¬ n.level = 0) (h2 : n.slot = 0) (h3 : ZF c n = true) : Zw c n k = (1, 0) := by unfold Zw; rw [if_neg h, if_pos ⟨h2, h3⟩]
theorem ZfK {c : Cfg} {n : Nd} {k : Str} (h : ¬ n.level = 0) (h2 : ¬ (n.slot = 0 ∧ ZF c n = true)) (h3 : (XE n.pivots n.msgs).2 = true) : Zw c n k = (2, (XE n.pivots n.msgs).1) := by unfold Zw; rw [if_neg h, if_neg h2, if_pos h3]
theorem ZfL {c : Cfg} {n : Nd} {k : Str} (h : ¬ n.level = 0) (h2 : ¬ (n.slot = 0 ∧ ZF c n = true)) (h3 : (XE n.pivots n.msgs).2 = false) : Zw c n k = (2, ((Ze n.pivots k : Nat) : Int)) := by unfold Zw; rw [if_neg h, if_neg h2, if_neg (by simp [h3])]
section
variable {c : Cfg} {p k : Nd} {i : Int}
theorem Zjl (h : 0 < k.level) (h2 : ZF c k = true) : ZV c p k i = if ZF c p = true then 0 else 3 := if_pos ⟨h, h2⟩
theorem ZdP (h : ¬ (0 < k.level ∧ ZF c k = true)) (hc : 0 < ZS c.leaf c.bud p k i) : ZV c p k i = 4 := by unfold ZV; rw [if_neg h, if_pos hc]
theorem ZdQ (h : ¬ (0 < k.level ∧ ZF c k = true)) (hc : ¬ 0 < ZS c.leaf c.bud p k i) (h0 : 0 < k.level) : ZV c p k i = 5 := by unfold ZV; rw [if_neg h, if_neg hc, if_pos h0]
theorem ZdR (hc : ¬ 0 < ZS c.leaf c.bud p k i) (h0 : ¬ 0 < k.level) (hw : 0 < (Zd p.pivots p.msgs i).length) : ZV c p k i = if ZF c p = true then 0 else 3 := by unfold ZV; rw [if_neg (fun h => h0 h.1), if_neg hc, if_neg h0, if_pos hw]
theorem ZdS (hc : ¬ 0 < ZS c.leaf c.bud p k i) (h0 : ¬ 0 < k.level) (hw : ¬ 0 < (Zd p.pivots p.msgs i).length) : ZV c p k i = 0 := by unfold ZV; rw [if_neg (fun h => h0 h.1), if_neg hc, if_neg h0, if_neg hw]
end
def ChoosePre (n : Nd) : Prop := ¬ n.level = 0 → ZZ n.pivots = true ∧ (∀ m ∈ n.msgs, m.key.b.size ≤ 16 ∧ m.val.b.size ≤ 16) ∧ n.msgs.length ≤ 100000 ∧ n.pivots.length ≤ 100000
theorem Zpk {c : Cfg} {n : Nd} (h : n.R c.fan c.leaf c.bud) (s : NdS n) : ChoosePre n := fun h0 => by
 have h4 := h.2.2.2
 rw [if_neg h0] at h4
 obtain ⟨_, s2, s3, _⟩ := s
 exact ⟨(YM h4.2.1).1, fun m hm => Y1 (Zf6 h m hm), om9, om9⟩
structure Act25 where
 kind : Int
 n : Nd
instance : Inhabited Act25 := ⟨⟨0, Nd.zero⟩⟩
theorem Zpl {l : List Nd} {i : Int} (h : ¬ (0 ≤ i ∧ i < l.length)) : Za l i = Nd.zero := by
 unfold Za
 by_cases h0 : 0 ≤ i
 ·rw [if_pos h0, List.getD_eq_getElem?_getD, List.getElem?_eq_none om9]; rfl
 ·rw [if_neg h0]
theorem X7 {l : List Nd} {i : Int} (h : 0 ≤ i ∧ i < l.length) : Za l i = l[i.toNat]'om9 := by
 have := Ju (l := l) (k := i.toNat) om9
 rwa [show ((i.toNat : Nat) : Int) = i by omega] at this
def Zh (l : List Nd) (a i : Int) : Nd := Za l ((Za l a).kids.getD i.toNat 0)
noncomputable def Xu (c : Cfg) (l : List Nd) (a i : Int) : (Int × Int × Int) × List Nd :=
 if ZV c (Za l a) (Zh l a i) i = 3 then (if (ZD c l a i).1 = 0 then ((3, a, 0), (ZD c l a i).2) else ((0, a, (ZD c l a i).1), (ZD c l a i).2))
 else if ZV c (Za l a) (Zh l a i) i = 4 then ((4, a, 0), ZQ l (ZW c.leaf c.bud (Za l a) (Zh l a i) i).1 (ZW c.leaf c.bud (Za l a) (Zh l a i) i).2.1)
 else if ZV c (Za l a) (Zh l a i) i = 5 then ((5, (Zh l a i).slot, 0), l)
 else ((0, a, 0), l)
noncomputable def Zs (c : Cfg) (l : List Nd) (a : Int) (k : Str) : (Int × Int × Int) × List Nd :=
 if (Zw c (Za l a) k).1 = 0 then ((0, a, 0), l)
 else if (Zw c (Za l a) k).1 = 1 then (if (ZI c l).1 = 0 then ((1, a, 0), (ZI c l).2) else ((0, a, (ZI c l).1), (ZI c l).2))
 else Xu c l a (Zw c (Za l a) k).2
theorem X8 {c : Cfg} {l : List Nd} {a : Int} {k : Str} (h : (Zw c (Za l a) k).1 = 0) : Zs c l a k = ((0, a, 0), l) := if_pos h
theorem X9 {c : Cfg} {l : List Nd} {a : Int} {k : Str} (h : (Zw c (Za l a) k).1 = 1) (h2 : (ZI c l).1 = 0) : Zs c l a k = ((1, a, 0), (ZI c l).2) := by unfold Zs; rw [if_neg om9, if_pos h, if_pos h2]
theorem Ja {c : Cfg} {l : List Nd} {a : Int} {k : Str} (h : (Zw c (Za l a) k).1 = 1) (h2 : ¬ (ZI c l).1 = 0) : Zs c l a k = ((0, a, (ZI c l).1), (ZI c l).2) := by unfold Zs; rw [if_neg om9, if_pos h, if_neg h2]
theorem XU {c : Cfg} {l : List Nd} {a : Int} {k : Str} (h : (Zw c (Za l a) k).1 = 2) : Zs c l a k = Xu c l a (Zw c (Za l a) k).2 := by unfold Zs; rw [if_neg om9, if_neg om9]
section
variable {c : Cfg} {l : List Nd} {a i : Int}
theorem XV (h : ZV c (Za l a) (Zh l a i) i = 3) (h2 : (ZD c l a i).1 = 0) : Xu c l a i = ((3, a, 0), (ZD c l a i).2) := by unfold Xu; rw [if_pos h, if_pos h2]
theorem XW (h : ZV c (Za l a) (Zh l a i) i = 3) (h2 : ¬ (ZD c l a i).1 = 0) : Xu c l a i = ((0, a, (ZD c l a i).1), (ZD c l a i).2) := by unfold Xu; rw [if_pos h, if_neg h2]
theorem YO (h : ZV c (Za l a) (Zh l a i) i = 4) : Xu c l a i = ((4, a, 0), ZQ l (ZW c.leaf c.bud (Za l a) (Zh l a i) i).1 (ZW c.leaf c.bud (Za l a) (Zh l a i) i).2.1) := by unfold Xu; rw [if_neg om9, if_pos h]
theorem XX (h : ZV c (Za l a) (Zh l a i) i = 5) : Xu c l a i = ((5, (Zh l a i).slot, 0), l) := by unfold Xu; rw [if_neg om9, if_neg om9, if_pos h]
theorem Jm (h : ZV c (Za l a) (Zh l a i) i = 0) : Xu c l a i = ((0, a, 0), l) := by unfold Xu; rw [if_neg om9, if_neg om9, if_neg om9]
theorem XK (c : Cfg) (p k : Nd) (i : Int) : ZV c p k i = 0 ∨ ZV c p k i = 3 ∨ (ZV c p k i = 4 ∧ 0 < ZS c.leaf c.bud p k i) ∨ ZV c p k i = 5 := by
 unfold ZV
 split
 ·split
  ·exact .inl rfl
  ·exact .inr (.inl rfl)
 ·split
  ·rename_i h; exact .inr (.inr (.inl ⟨rfl, h⟩))
  ·split
   ·exact .inr (.inr (.inr rfl))
   ·split
    ·split
     ·exact .inl rfl
     ·exact .inr (.inl rfl)
    ·exact .inl rfl
end
theorem Jb (c : Cfg) (n : Nd) (k : Str) : (Zw c n k).1 = 0 ∨ (Zw c n k).1 = 1 ∨ ((Zw c n k).1 = 2 ∧ ¬ n.level = 0 ∧ ((Zw c n k).2 = (XE n.pivots n.msgs).1 ∨ (Zw c n k).2 = ((Ze n.pivots k : Nat) : Int))) := by
 unfold Zw
 split
 ·exact .inl rfl
 ·rename_i h0
  split
  ·exact .inr (.inl rfl)
  ·refine .inr (.inr ⟨rfl, h0, ?_⟩)
   dsimp only
   split
   ·exact .inl rfl
   ·exact .inr rfl
theorem Tree.seat_of {c : Cfg} {l : List Nd} {ss : List Seat} (t : Tree c l ss) {a : Int} (ha : 0 ≤ a ∧ a < l.length) : ∃ P ∈ ss, P.n = Za l a := by
 have hm : Za l a ∈ l := by rw [X7 ha]; exact List.getElem_mem _
 have := (t.perm.mem_iff).2 hm
 obtain ⟨P, hP, e⟩ := List.mem_map.1 this
 exact ⟨P, hP, e⟩
structure StepAt (c : Cfg) (l : List Nd) (ss : List Seat) (a i : Int) (P : Seat) : Prop where
 mem : P ∈ ss
 n : P.n = Za l a
 h0 : ¬ P.n.level = 0
 hi : 0 ≤ i ∧ i < (P.n.kids.length : Int)
 slot : P.n.slot = a
 kid : (Zb l P i.toNat).n = Zh l a i
 kin : 0 ≤ (Za l a).kids.getD i.toNat 0 ∧ (Za l a).kids.getD i.toNat 0 < (l.length : Int)
 ksl : (Zh l a i).slot = (Za l a).kids.getD i.toNat 0
 kof : KidOf (Za l a) (Zh l a i) i
theorem Jn {c : Cfg} {l : List Nd} {ss : List Seat} (t : Tree c l ss) {a i : Int} (ha : 0 ≤ a ∧ a < l.length) (h0 : ¬ (Za l a).level = 0) (hi : 0 ≤ i ∧ i < ((Za l a).kids.length : Int)) : ∃ P, StepAt c l ss a i P := by
 obtain ⟨P, hP, e⟩ := t.seat_of ha
 have hP0 : ¬ P.n.level = 0 := by rw [e]; exact h0
 have hj : i.toNat < P.n.kids.length := by rw [e]; omega
 have h1 := t.at hP hP0 hj
 have ek : (Za l a).kids.getD i.toNat 0 = P.n.kids[i.toNat] := by rw [← e, List.getD_eq_getElem?_getD, List.getElem?_eq_getElem hj]; rfl
 have hs := (Yv t.slot ha).1
 have hks := (Yv t.slot h1.2.1).1
 have hl := t.lvl hP
 refine ⟨P, hP, e, hP0, by rw [e]; exact hi, by rw [e, hs], by rw [h1.2.2.1]; unfold Zh; rw [ek], by rw [ek]; exact h1.2.1, by unfold Zh; rw [ek]; exact hks, ?_⟩
 unfold KidOf Zh
 rw [ek, ← h1.2.2.1, h1.2.2.2, ← e]
 exact ⟨om9, rfl, om9, by rw [e]; exact hi.2⟩
theorem JA {c : Cfg} {l : List Nd} {ss : List Seat} (t : Tree c l ss) {a : Int} {k : Str} (ha : 0 ≤ a ∧ a < l.length) (h : (Zw c (Za l a) k).1 = 2) : ¬ (Za l a).level = 0 ∧ 0 ≤ (Zw c (Za l a) k).2 ∧ (Zw c (Za l a) k).2 < ((Za l a).kids.length : Int) := by
 obtain ⟨P, hP, e⟩ := t.seat_of ha
 rcases Jb c (Za l a) k with h1 | h1 | ⟨_, h0, h1⟩
 ·omega
 ·omega
 ·refine ⟨h0, ?_⟩
  have hr := (YM (Z5 (t.kids hP) (by rw [e]; exact h0)).2.2.1).2
  rw [e] at hr
  rcases h1 with h1 | h1
  ·rw [h1]
   have := Zph (P := (Za l a).pivots) (l := (Za l a).msgs)
   omega
  ·rw [h1]
   have : Ze (Za l a).pivots k ≤ (Za l a).pivots.length := List.length_filter_le _ _
   omega
theorem StepAt.pour {c : Cfg} {l : List Nd} {ss : List Seat} {a i : Int} {P : Seat} (t : Tree c l ss) (s : StepAt c l ss a i P) (h : 0 < ZS c.leaf c.bud (Za l a) (Zh l a i) i) :
  ∃ T, PourOf c l ss P i.toNat (ZW c.leaf c.bud (Za l a) (Zh l a i) i).1 (ZW c.leaf c.bud (Za l a) (Zh l a i) i).2.1 T := by
 rcases ZpI c (Za l a) (Zh l a i) i with e | ⟨hk, T, hp, e⟩
 ·have := Zpj c.leaf c.bud (Za l a) (Zh l a i) i
  rw [e] at this
  dsimp only at this
  omega
 ·refine ⟨T, t, s.mem, s.h0, by have := s.hi; omega, ?_⟩
  have hc : ((i.toNat : Nat) : Int) = i := by have := s.hi; omega
  rw [s.kid, s.n, hc]
  exact hp
theorem Zpm {c : Cfg} {l : List Nd} {ss : List Seat} (t : Tree c l ss) {a i : Int} (ha : 0 ≤ a ∧ a < l.length) (h0 : ¬ (Za l a).level = 0) (hi : 0 ≤ i ∧ i < ((Za l a).kids.length : Int)) : ∃ T, Tree c (Xu c l a i).2 T ∧ Zl (Xu c l a i).2 = Zl l := by
 obtain ⟨P, s⟩ := Jn t ha h0 hi
 rcases XK c (Za l a) (Zh l a i) i with h | h | ⟨h, h2⟩ | h
 ·rw [Jm h]; exact ⟨ss, t, rfl⟩
 ·obtain ⟨T, h1, h2⟩ := Zpa t a i
  by_cases h3 : (ZD c l a i).1 = 0
  ·rw [XV h h3]; exact ⟨T, h1, h2⟩
  ·rw [XW h h3]; exact ⟨T, h1, h2⟩
 ·rw [YO h]
  obtain ⟨T, p⟩ := s.pour t h2
  exact ⟨_, p.tree, p.map⟩
 ·rw [XX h]; exact ⟨ss, t, rfl⟩
theorem J8 {c : Cfg} {l : List Nd} {ss : List Seat} (t : Tree c l ss) {a : Int} (ha : 0 ≤ a ∧ a < l.length) (k : Str) : ∃ T, Tree c (Zs c l a k).2 T ∧ Zl (Zs c l a k).2 = Zl l := by
 rcases Jb c (Za l a) k with h | h | ⟨h, _⟩
 ·rw [X8 h]; exact ⟨ss, t, rfl⟩
 ·obtain ⟨T, h1, h2⟩ := Zjd t
  by_cases h3 : (ZI c l).1 = 0
  ·rw [X9 h h3]; exact ⟨T, h1, h2⟩
  ·rw [Ja h h3]; exact ⟨T, h1, h2⟩
 ·rw [XU h]
  obtain ⟨h0, hi⟩ := JA t ha h
  exact Zpm t ha h0 hi
theorem Xv {K : (Int × Int × Int) × List Nd} {w n e w0 n0 e0 : Int} {L : List Nd} (hE : K = ((w0, n0, e0), L)) (h1 : w = w0) (h2 : n = n0) (h3 : e = e0) :
  Value.tuple #[.int .i64 w, .int .i64 n, .int .i64 e] = .tuple #[.int .i64 K.1.1, .int .i64 K.1.2.1, .int .i64 K.1.2.2] := by rw [hE, h1, h2, h3]
theorem Zjm {c : Cfg} {p k : Nd} {i : Int} (h3 : ¬ ZV c p k i = 3) (h4 : ¬ ZV c p k i = 4) (h5 : ¬ ZV c p k i = 5) : ZV c p k i = 0 := by
 rcases XK c p k i with h | h | ⟨h, _⟩ | h
 ·exact h
 ·exact absurd h h3
 ·exact absurd h h4
 ·exact absurd h h5
theorem Zjn {c : Cfg} {n : Nd} {k : Str} (h1 : ¬ (Zw c n k).1 = 1) (h2 : ¬ (Zw c n k).1 = 2) : (Zw c n k).1 = 0 := by
 rcases Jb c n k with h | h | ⟨h, _⟩
 ·exact h
 ·exact absurd h h1
 ·exact absurd h h2
theorem Zpn (c : Cfg) (l : List Nd) : l.length ≤ (ZI c l).2.length := by
 unfold ZI
 split
 ·exact Nat.le_refl _
 ·split
  ·exact Nat.le_refl _
  ·unfold YU
   simp
theorem ZfM (c : Cfg) (l : List Nd) (p i : Int) : l.length ≤ (ZD c l p i).2.length := by
 unfold ZD
 split
 ·exact Nat.le_refl _
 ·unfold Xk
  split
  ·exact Nat.le_refl _
  ·split
   ·exact Nat.le_refl _
   ·split
    ·exact Nat.le_refl _
    ·split
     ·exact Nat.le_refl _
     ·unfold Jz
      simp
theorem Zjo (l : List Nd) (a b : Nd) : l.length ≤ (ZQ l a b).length := by unfold ZQ; simp
theorem Zpo (c : Cfg) (l : List Nd) (a i : Int) : l.length ≤ (Xu c l a i).2.length := by
 have hp := ZfM c l a i
 rcases XK c (Za l a) (Zh l a i) i with h | h | ⟨h, h2⟩ | h
 ·rw [Jm h]; exact Nat.le_refl _
 ·by_cases h3 : (ZD c l a i).1 = 0
  ·rw [XV h h3]; exact hp
  ·rw [XW h h3]; exact hp
 ·rw [YO h]; exact Zjo _ _ _
 ·rw [XX h]; exact Nat.le_refl _
theorem Zpp (c : Cfg) (l : List Nd) (a : Int) (k : Str) : l.length ≤ (Zs c l a k).2.length := by
 have hl := Zpn c l
 rcases Jb c (Za l a) k with h | h | ⟨h, _⟩
 ·rw [X8 h]; exact Nat.le_refl _
 ·by_cases h3 : (ZI c l).1 = 0
  ·rw [X9 h h3]; exact hl
  ·rw [Ja h h3]; exact hl
 ·rw [XU h]; exact Zpo c l a _
theorem Zaj {c : Cfg} {l : List Nd} {ss : List Seat} (t : Tree c l ss) {a : Int} (ha : 0 ≤ a ∧ a < l.length) (k : Str) : 0 ≤ (Zs c l a k).1.2.1 ∧ (Zs c l a k).1.2.1 < ((Zs c l a k).2.length : Int) := by
 have hg := Zpp c l a k
 rcases Jb c (Za l a) k with h | h | ⟨h, _⟩
 ·rw [X8 h]; exact ha
 ·by_cases h3 : (ZI c l).1 = 0
  ·rw [X9 h h3] at hg ⊢; exact ⟨ha.1, by show a < _; dsimp only at hg ⊢; omega⟩
  ·rw [Ja h h3] at hg ⊢; exact ⟨ha.1, by show a < _; dsimp only at hg ⊢; omega⟩
 ·obtain ⟨h0, hi⟩ := JA t ha h
  obtain ⟨P, s⟩ := Jn t ha h0 hi
  have hpg := ZfM c l a (Zw c (Za l a) k).2
  rw [XU h]
  rcases XK c (Za l a) (Zh l a (Zw c (Za l a) k).2) (Zw c (Za l a) k).2 with h | h | ⟨h, h2⟩ | h
  ·rw [Jm h]; exact ha
  ·by_cases h3 : (ZD c l a (Zw c (Za l a) k).2).1 = 0
   ·rw [XV h h3]; exact ⟨ha.1, by dsimp only; omega⟩
   ·rw [XW h h3]; exact ⟨ha.1, by dsimp only; omega⟩
  ·rw [YO h]
   have := Zjo l (ZW c.leaf c.bud (Za l a) (Zh l a (Zw c (Za l a) k).2) (Zw c (Za l a) k).2).1 (ZW c.leaf c.bud (Za l a) (Zh l a (Zw c (Za l a) k).2) (Zw c (Za l a) k).2).2.1
   exact ⟨ha.1, by dsimp only; omega⟩
  ·rw [XX h]
   show 0 ≤ (Zh _ _ _).slot ∧ (Zh _ _ _).slot < _
   rw [s.ksl]
   exact s.kin
noncomputable def Ym (c : Cfg) (k : Str) : Nat → List Nd → Int → Int → Option (Int × Int × List Nd)
 | 0, _, _, _ => none
 | m + 1, l, a, n => if (Zs c l a k).1.1 = 0 then some (n, (Zs c l a k).1.2.2, (Zs c l a k).2) else Ym c k m (Zs c l a k).2 (Zs c l a k).1.2.1 (if (Zs c l a k).1.1 = 5 then n else n + 1)
theorem Y2 {c : Cfg} {k : Str} {m : Nat} {l : List Nd} {a n : Int} (h : (Zs c l a k).1.1 = 0) : Ym c k (m + 1) l a n = some (n, (Zs c l a k).1.2.2, (Zs c l a k).2) := if_pos h
theorem Jc {c : Cfg} {k : Str} {m : Nat} {l : List Nd} {a n : Int} (h : (Zs c l a k).1.1 = 5) : Ym c k (m + 1) l a n = Ym c k m (Zs c l a k).2 (Zs c l a k).1.2.1 n := by
 show (if _ then _ else _) = _
 rw [if_neg om9, if_pos h]
theorem Xa {c : Cfg} {k : Str} {m : Nat} {l : List Nd} {a n : Int} (h : ¬ (Zs c l a k).1.1 = 0) (h2 : ¬ (Zs c l a k).1.1 = 5) : Ym c k (m + 1) l a n = Ym c k m (Zs c l a k).2 (Zs c l a k).1.2.1 (n + 1) := by
 show (if _ then _ else _) = _
 rw [if_neg h, if_neg h2]
theorem ZbV {c : Cfg} {k : Str} : ∀ (m : Nat) {l : List Nd} {ss : List Seat} {a n : Int} {r : Int × Int × List Nd}, Tree c l ss → 0 ≤ a ∧ a < l.length → Ym c k m l a n = some r → ∃ T, Tree c r.2.2 T ∧ Zl r.2.2 = Zl l
 | 0, _, _, _, _, _, _, _, h => by cases h
 | m + 1, l, ss, a, n, r, t, ha, h => by
  obtain ⟨T, hT, hm⟩ := J8 t ha k
  by_cases h0 : (Zs c l a k).1.1 = 0
  ·rw [Y2 h0] at h
   cases h
   exact ⟨T, hT, hm⟩
  ·have hn := Zaj t ha k
   by_cases h5 : (Zs c l a k).1.1 = 5
   ·rw [Jc h5] at h
    obtain ⟨T2, h1, h2⟩ := ZbV m hT hn h
    exact ⟨T2, h1, h2.trans hm⟩
   ·rw [Xa h0 h5] at h
    obtain ⟨T2, h1, h2⟩ := ZbV m hT hn h
    exact ⟨T2, h1, h2.trans hm⟩
def wtM (fan : Nat) (P : List Str) (m : Msg) : Nat := if m.kind = 4 then fan - Ze P m.key else 1
def wtS (fan : Nat) (P : List Str) (l : List Msg) : Nat := (l.map (wtM fan P)).sum
def wtN (c : Cfg) (n : Nd) : Nat := wtS c.fan.toNat n.pivots n.msgs + (c.fan.toNat - n.kids.length)
theorem Zjp {fan : Nat} (hf : fan ≤ 64) (P : List Str) : ∀ l : List Msg, (wtS fan P l : Int) ≤ 2 * Zz l
 | [] => by simp [wtS, Zz]
 | m :: l => by
  have ih := Zjp hf P l
  have h1 : (wtM fan P m : Int) ≤ 2 * m.size := by
   unfold wtM Msg.size
   split
   ·omega
   ·omega
  simp only [wtS, Zz, List.map_cons, List.sum_cons] at ih ⊢
  omega
theorem ZfN {c : Cfg} {n : Nd} (hc : CfgR c) (h : n.innerR c.fan c.bud) : wtN c n ≤ 8256 := by
 obtain ⟨⟨f1, f2⟩, _, ⟨b1, b2⟩, _⟩ := hc
 have h1 := Zjp (fan := c.fan.toNat) om9 n.pivots n.msgs
 have h2 := h.2.2.2.1
 unfold wtN
 omega
theorem Zpq {fan : Nat} {P : List Str} {m : Msg} (h : Ze P m.key < fan) : 1 ≤ wtM fan P m := by
 unfold wtM; split <;> omega
theorem Zjq {s : Span} (h : ¬ s.norm.empty = true) : s.norm.lo = s.lo := by
 unfold Span.norm at h ⊢
 split
 ·rename_i h2
  rw [if_pos h2] at h
  exact absurd (by simp [Span.empty, Span.zero, Str.lt_irrefl]) h
 ·split <;> rfl
theorem Zjr {m : Msg} {s : Span} (h4 : m.kind = 4) (h : (m.clip s).2 = true) : (m.clip s).1.kind = 4 ∧ (m.clip s).1.key = if m.key.lt s.lo = true then s.lo else m.key := by
 unfold Msg.clip at h ⊢
 split at h
 ·cases h
 ·rename_i h2
  rw [if_neg h2, if_pos h4]
  refine ⟨h4, ?_⟩
  dsimp only
  have hs : m.span = ⟨m.key, m.hi, m.opn⟩ := if_pos h4
  rw [hs] at h2 ⊢
  unfold Span.meet at h2 ⊢
  rw [Zjq h2]
theorem Zpr {P : List Str} {i : Int} {T : List Msg} {m m' : Msg} (h : Xb P i T m = some m') : m' = m ∨ (m.kind = 4 ∧ (Zf P i).opn = false ∧ (m.clip ⟨(Zf P i).hi, Str.nil, true⟩).2 = true ∧ m' = (m.clip ⟨(Zf P i).hi, Str.nil, true⟩).1) := by
 unfold Xb at h
 split at h
 ·split at h
  ·rename_i h2
   cases h
   right
   have h3 := h2.2
   unfold ZC at h3 ⊢
   split at h3
   ·cases h3
   ·rename_i h4
    rw [if_neg h4]
    exact ⟨h2.1, by simpa using h4, h3, rfl⟩
  ·cases h
 ·cases h; exact .inl rfl
theorem Zps {fan : Nat} {P : List Str} {i : Int} {T : List Msg} {m m' : Msg} (h : Xb P i T m = some m') : wtM fan P m' ≤ wtM fan P m := by
 rcases Zpr h with rfl | ⟨h4, _, h2, rfl⟩
 ·exact Nat.le_refl _
 ·obtain ⟨h5, h6⟩ := Zjr h4 h2
  unfold wtM
  rw [if_pos h4, if_pos h5, h6]
  dsimp only
  have : Ze P m.key ≤ Ze P (if m.key.lt (Zf P i).hi = true then (Zf P i).hi else m.key) := by
   apply ZcB
   split
   ·rename_i h7; exact Str.lt_asymm h7
   ·exact Str.lt_irrefl _
  omega
theorem Zpt {fan : Nat} {P : List Str} {i : Nat} {T : List Msg} {m : Msg} (hr : ZZ P = true) (hT : m.stamp ∈ T.map Msg.stamp) (hi : Ze P m.key = i) (hf : i < fan) :
  ((Xb P i T m).elim 0 (wtM fan P)) + 1 ≤ wtM fan P m := by
 cases h : Xb P i T m with
 | none => exact Zpq om9
 | some m' =>
  show wtM fan P m' + 1 ≤ wtM fan P m
  have hiP : i ≤ P.length := by rw [← hi]; exact List.length_filter_le _ _
  unfold Xb at h
  rw [if_pos hT] at h
  split at h
  ·rename_i h2
   cases h
   have h3 := h2.2
   unfold ZC at h3 ⊢
   split at h3
   ·cases h3
   ·rename_i h4
    rw [if_neg h4]
    obtain ⟨h5, h6⟩ := Zjr h2.1 h3
    have hk : (Zf P (i : Int)).has m.key = true := by rw [Xz hr _ hiP, hi]; simp
    have ho : (Zf P (i : Int)).opn = false := by simpa using h4
    have hlt : m.key.lt (Zf P (i : Int)).hi = true := by
     rcases (Yk.1 hk).2 with h | h
     ·rw [ho] at h; cases h
     ·exact h
    unfold wtM
    rw [if_pos h2.1, if_pos h5, h6, if_pos hlt]
    dsimp only
    have h7 : Ze P m.key ≤ Ze P (Zf P (i : Int)).hi := ZcB (Str.lt_asymm hlt)
    have h8 : Ze P (Zf P (i : Int)).hi ≠ i := fun e => by
     have h9 : (Zf P (i : Int)).has (Zf P (i : Int)).hi = true := by rw [Xz hr _ hiP, e]; simp
     rcases (Yk.1 h9).2 with h | h
     ·rw [ho] at h; cases h
     ·rw [Str.lt_irrefl] at h; cases h
    omega
  ·cases h
theorem Zjs {w : Msg → Nat} {f : Msg → Option Msg} : ∀ {l : List Msg}, (∀ m ∈ l, (f m).elim 0 w ≤ w m) → ((l.filterMap f).map w).sum ≤ (l.map w).sum
 | [], _ => by simp
 | m :: l, h => by
  have ih := Zjs (w := w) (f := f) (l := l) fun x hx => h x (List.mem_cons_of_mem _ hx)
  have h1 := h m (by simp)
  rw [List.filterMap_cons]
  cases hf : f m with
  | none => simp only [List.map_cons, List.sum_cons]; omega
  | some x => rw [hf] at h1; simp only [List.map_cons, List.sum_cons]; dsimp only [Option.elim] at h1; omega
theorem Zjt {w : Msg → Nat} {f : Msg → Option Msg} : ∀ {l : List Msg} {a : Msg}, (∀ m ∈ l, (f m).elim 0 w ≤ w m) → a ∈ l → (f a).elim 0 w + 1 ≤ w a → ((l.filterMap f).map w).sum + 1 ≤ (l.map w).sum
 | [], _, _, ha, _ => by cases ha
 | m :: l, a, h, ha, hl => by
  have h1 := h m (by simp)
  rw [List.filterMap_cons]
  rcases List.mem_cons.1 ha with rfl | ha
  ·have ih := Zjs (w := w) (f := f) (l := l) fun x hx => h x (List.mem_cons_of_mem _ hx)
   cases hf : f a with
   | none => rw [hf] at hl; simp only [List.map_cons, List.sum_cons]; dsimp only [Option.elim] at hl; omega
   | some x => rw [hf] at hl; simp only [List.map_cons, List.sum_cons]; dsimp only [Option.elim] at hl; omega
  ·have ih := Zjt (w := w) (f := f) (l := l) (fun x hx => h x (List.mem_cons_of_mem _ hx)) ha hl
   cases hf : f m with
   | none => simp only [List.map_cons, List.sum_cons]; omega
   | some x => rw [hf] at h1; simp only [List.map_cons, List.sum_cons]; dsimp only [Option.elim] at h1; omega
theorem Poured.lighter {c : Cfg} {p k : Nd} {i : Nat} {a b : Nd} {T : List Msg} (h : Poured c p k i a b T) (hr : ZZ p.pivots = true) (hi : i < c.fan.toNat) : wtN c a + 1 ≤ wtN c p := by
 obtain ⟨n, hn, hle, hT⟩ := h.take
 obtain ⟨x0, hx⟩ : ∃ x, x ∈ T := ⟨_, List.getElem_mem h.ne⟩
 have hx2 : x0 ∈ Zd p.pivots p.msgs i := by
  rw [hT] at hx
  exact List.mem_of_mem_take hx
 obtain ⟨m, hm, h2⟩ := List.mem_filterMap.1 hx2
 unfold XL at h2
 split at h2
 ·rename_i h3
  have e : (m.clip (Zf p.pivots i)).1 = x0 := Option.some.inj h2
  have hst : m.stamp ∈ T.map Msg.stamp := by
   rw [← Jh h3.2, e]
   exact List.mem_map_of_mem hx
  have key := Zjt (w := wtM c.fan.toNat p.pivots) (f := Xb p.pivots i T) (l := p.msgs) (a := m) (fun x _ => by
   cases hf : Xb p.pivots i T x with
   | none => exact Nat.zero_le _
   | some y => exact Zps hf) (Zd5 hm) (Zpt hr hst om9 hi)
  rw [h.ea]
  unfold wtN wtS
  dsimp only
  unfold ZJ
  omega
 ·cases h2
theorem Zpu {c : Cfg} {n : Nd} {i : Nat} {k : Str} {v : Int} (hf : (n.kids.length : Int) < c.fan) (hi : i < n.kids.length) : wtN c (Xc n i k v) + 1 ≤ wtN c n := by
 have h1 : ∀ l : List Msg, wtS c.fan.toNat ((n.pivots.take i ++ [k]) ++ n.pivots.drop i) l ≤ wtS c.fan.toNat n.pivots l := by
  intro l
  induction l with
  | nil => exact Nat.le_refl _
  | cons m l ih =>
   have h2 : wtM c.fan.toNat ((n.pivots.take i ++ [k]) ++ n.pivots.drop i) m ≤ wtM c.fan.toNat n.pivots m := by
    unfold wtM
    rw [Zi1]
    split
    ·omega
    ·exact Nat.le_refl _
   simp only [wtS, List.map_cons, List.sum_cons] at ih ⊢
   omega
 have h3 := h1 n.msgs
 have h4 : ((n.kids.take (i + 1) ++ [v]) ++ n.kids.drop (i + 1)).length = n.kids.length + 1 := by simp; omega
 unfold wtN Xc
 dsimp only
 rw [h4]
 omega
theorem Zju {c : Cfg} {n n' : Nd} (h0 : ¬ n.level = 0) (h1 : n'.level = n.level) (h2 : n'.kids.length = n.kids.length) : ZF c n' = ZF c n := by
 unfold ZF
 rw [if_neg h0, if_neg (by rw [h1]; exact h0), h2]
theorem ZdT {c : Cfg} {l : List Nd} {ss : List Seat} (t : Tree c l ss) {a : Int} (ha : 0 ≤ a ∧ a < l.length) (h0 : ¬ (Za l a).level = 0) : wtN c (Za l a) ≤ 8256 := by
 obtain ⟨P, hP, e⟩ := t.seat_of ha
 rw [← e] at h0 ⊢
 exact ZfN t.cfg (t.inner hP h0)
theorem Zjv {c : Cfg} {l : List Nd} {ss : List Seat} {P : Seat} {i : Nat} {x y : Nd} {T : List Msg} (p : PourOf c l ss P i x y T) (s : Int) :
  Za (ZQ l x y) s = if s = y.slot then y else if s = x.slot then x else Za l s := by
 have hx : 0 ≤ x.slot ∧ x.slot < l.length := by rw [p.al.1]; exact p.sin p.mem
 have hy : 0 ≤ y.slot ∧ y.slot < l.length := by rw [p.bl.1]; exact p.sin p.km.1
 unfold ZQ
 rw [ZaK (by rw [List.length_set]; exact hy), ZaK hx]
theorem Zpv {c : Cfg} {l : List Nd} {ss : List Seat} {P : Seat} {i : Nat} {x y : Nd} {T : List Msg} (p : PourOf c l ss P i x y T) : Za (ZQ l x y) P.n.slot = x := by
 rw [Zjv p, p.bl.1, p.al.1, if_neg p.ksl.symm, if_pos rfl]
theorem Zjw {c : Cfg} {l : List Nd} {ss : List Seat} (t : Tree c l ss) {a i : Int} {P : Seat} (s : StepAt c l ss a i P) (h : 0 < ZS c.leaf c.bud (Za l a) (Zh l a i) i) :
  ∃ x y, ZQ l (ZW c.leaf c.bud (Za l a) (Zh l a i) i).1 (ZW c.leaf c.bud (Za l a) (Zh l a i) i).2.1 = ZQ l x y ∧ Za (ZQ l x y) a = x ∧ (ZQ l x y).length = l.length ∧ x.slot = (Za l a).slot ∧ x.level = (Za l a).level ∧ x.kids = (Za l a).kids ∧ wtN c x + 1 ≤ wtN c (Za l a) ∧
   ∀ q : Int, (Za (ZQ l x y) q).level = (Za l q).level ∧ (Za (ZQ l x y) q).kids = (Za l q).kids := by
 obtain ⟨T, p⟩ := s.pour t h
 have hn := s.n
 have hs := s.slot
 have hf : i.toNat < c.fan.toNat := by
  have h1 := s.hi
  have h2 := p.pin.1.2.2
  omega
 have hi : ((i.toNat : Nat) : Int) = i := by have := s.hi; omega
 have hlt := Poured.lighter p.po p.rt.1 hf
 rw [hn] at hlt
 refine ⟨_, _, rfl, ?_, p.len, ?_, ?_, ?_, hlt, fun q => ?_⟩
 ·have := Zpv p
  rwa [hs] at this
 ·exact p.al.1.trans (by rw [hn])
 ·exact p.al.2.1.trans (by rw [hn])
 ·exact p.al.2.2.2.1.trans (by rw [hn])
 ·rw [Zjv p]
  have hk := (p.t.nd p.km.1).2.1
  have hp := (p.t.nd p.mem).2.1
  split
  ·rename_i e
   rw [e, p.bl.1, ← hk]; exact ⟨p.bl.2.1, p.bl.2.2.2.1⟩
  ·split
   ·rename_i e
    rw [e, p.al.1, ← hp]; exact ⟨p.al.2.1, p.al.2.2.2.1⟩
   ·exact ⟨rfl, rfl⟩
theorem ZdU {n : Nd} {i : Nat} {k : Str} {v : Int} (h : (Y9 n i k v).2 = true) : (Y9 n i k v).1 = Xc n i k v ∧ i < n.kids.length := by
 unfold Y9 at h ⊢
 split at h
 ·cases h
 ·rename_i h2
  rw [if_neg h2]
  by_cases h3 : n.kids.length ≤ i ∨ (Zf n.pivots (i : Int)).has k = false ∨ k = (Zf n.pivots (i : Int)).lo
  ·exact absurd (.inr (Zfz h3)) h2
  ·have h4 : ¬ n.kids.length ≤ i := fun e => h3 (.inl e)
   have h5 : (Zf n.pivots (i : Int)).has k = true := by
    cases h6 : (Zf n.pivots (i : Int)).has k
    ·exact absurd (.inr (.inl h6)) h3
    ·rfl
   rw [ZdJ h4 h5 (fun e => h3 (.inr (.inr e)))]
   exact ⟨rfl, om9⟩
theorem Zpw {c : Cfg} {l : List Nd} {a i : Int} (h : (ZD c l a i).1 = 0) (hl : (Za l a).slot = a) :
  l.length ≤ (ZD c l a i).2.length ∧ ∃ k v, Za (ZD c l a i).2 a = Xc (Za l a) i.toNat k v ∧ i.toNat < (Za l a).kids.length ∧ ZF c (Za l a) = false := by
 refine ⟨ZfM c l a i, ?_⟩
 unfold ZD at h ⊢
 split at h
 ·cases h
 ·rename_i hi
  rw [if_neg hi]
  by_cases h1 : 0 ≤ a ∧ a < l.length
  ·by_cases h2 : (Za l a).kids.length ≤ i.toNat
   ·rw [ZaH (.inr (.inl h2))] at h; cases h
   ·by_cases h3 : 0 ≤ kdN l a i.toNat ∧ kdN l a i.toNat < l.length
    ·cases h4 : ZF c (Za l a)
     ·by_cases h5 : (ZR l a i.toNat).2.2.2 = true
      ·by_cases h6 : (adP l a i.toNat).2 = true
       ·by_cases h7 : (l.length : Int) < c.slots
        ·rw [ZdO h1 h2 h3 h4 h5 h6 h7]
         obtain ⟨e1, e2⟩ := ZdU (n := Za l a) h6
         refine ⟨(ZR l a i.toNat).2.2.1, (l.length : Int), ?_, e2, rfl⟩
         have hsl := Zjg h6
         unfold Jz
         dsimp only
         rw [ZcG]
         rw [if_neg (by simp only [List.length_set]; omega)]
         have hx : (adP l a i.toNat).1.slot = a := hsl.trans hl
         have := ZaK (l := l.set (ZR l a i.toNat).1.slot.toNat (ZR l a i.toNat).1) (x := (adP l a i.toNat).1) (by rw [hx, List.length_set]; exact h1) a
         rw [hx, if_pos rfl] at this
         rw [this]
         exact e1
        ·rw [ZdN h1 h2 h3 h4 h5 h6 h7] at h; cases h
       ·rw [ZbU h1 h2 h3 h4 (.inr (by simpa using h6))] at h; cases h
      ·rw [ZbU h1 h2 h3 h4 (.inl (by simpa using h5))] at h; cases h
     ·rw [ZfD h1 h2 h3 h4] at h; cases h
    ·rw [ZaH (.inr (.inr h3))] at h; cases h
  ·rw [ZaH (.inl h1)] at h; cases h
theorem Zjx {c : Cfg} {l : List Nd} {a i : Int} (h0 : ¬ (Za l a).level = 0) (h : (ZD c l a i).1 = 0) (hl : (Za l a).slot = a) :
  (Za (ZD c l a i).2 a).slot = a ∧ (Za (ZD c l a i).2 a).level = (Za l a).level ∧ wtN c (Za (ZD c l a i).2 a) + 1 ≤ wtN c (Za l a) := by
 obtain ⟨_, k, v, e, hi, hf⟩ := Zpw h hl
 rw [e]
 refine ⟨hl, rfl, Zpu ?_ hi⟩
 unfold ZF at hf
 rw [if_neg h0, decide_eq_false_iff_not] at hf
 omega
def LowP (c : Cfg) (l : List Nd) (a : Int) : Prop := ¬ (Za l a).slot = 0 ∨ (2 ≤ (Za l a).level ∧ ZF c (Za l a) = false ∧ ∀ j : Nat, j < (Za l a).kids.length → ZF c (Zh l a j) = false)
theorem ZbW {c : Cfg} {n : Nd} {k : Str} (h : (Zw c n k).1 = 1) : ¬ n.level = 0 ∧ n.slot = 0 ∧ ZF c n = true := by
 unfold Zw at h
 split at h
 ·cases h
 ·rename_i h0
  split at h
  ·rename_i h1; exact ⟨h0, h1.1, h1.2⟩
  ·cases h
theorem ZaJ {c : Cfg} {l : List Nd} {ss : List Seat} (t : Tree c l ss) {a i : Int} {P : Seat} (s : StepAt c l ss a i P) : ¬ (Zh l a i).slot = 0 ∧ (Zh l a i).level = (Za l a).level - 1 ∧ Za l (Zh l a i).slot = Zh l a i ∧ 0 ≤ (Zh l a i).slot ∧ (Zh l a i).slot < l.length := by
 have hk := t.at s.mem s.h0 (j := i.toNat) (by have := s.hi; omega)
 have hlv := hk.2.2.2
 rw [s.kid, s.n] at hlv
 refine ⟨fun e => ?_, hlv, by rw [s.ksl]; rfl, by rw [s.ksl]; exact s.kin.1, by rw [s.ksl]; exact s.kin.2⟩
 have h1 := t.nodup_s
 rw [t.fix, List.map_cons, List.nodup_cons] at h1
 refine h1.1 (List.mem_map.2 ⟨Zb l P i.toNat, List.mem_flatMap.2 ⟨P, s.mem, ?_⟩, ?_⟩)
 ·rw [(Z5 (t.kids s.mem) s.h0).1]
  exact List.mem_map.2 ⟨i.toNat, List.mem_range.2 (by have := s.hi; omega), rfl⟩
 ·rw [s.kid, e, t.rootn, (Yv t.slot ⟨Int.le_refl _, by have := t.pos; omega⟩).1]
theorem Zpx {c : Cfg} {p k : Nd} {i : Int} (h : ZV c p k i = 3) : (0 < k.level ∧ ZF c k = true) ∨ ¬ 0 < k.level := by
 unfold ZV at h
 split at h
 ·rename_i h1; exact .inl h1
 ·split at h
  ·cases h
  ·split at h
   ·cases h
   ·rename_i h3; exact .inr h3
theorem ZdV {c : Cfg} {p k : Nd} {i : Int} (h : ZV c p k i = 5) : 0 < k.level ∧ ZF c k = false ∧ ¬ 0 < ZS c.leaf c.bud p k i := by
 unfold ZV at h
 split at h
 ·split at h <;> cases h
 ·rename_i h1
  split at h
  ·cases h
  ·rename_i h2
   split at h
   ·rename_i h3
    refine ⟨h3, ?_, h2⟩
    cases h4 : ZF c k
    ·rfl
    ·exact absurd ⟨h3, h4⟩ h1
   ·split at h
    ·split at h <;> cases h
    ·cases h
theorem Zjy {c : Cfg} {k : Str} : ∀ (m : Nat) {l : List Nd} {ss : List Seat} {a n : Int}, Tree c l ss → 0 ≤ a ∧ a < l.length → LowP c l a → (Za l a).level.toNat * 8300 + wtN c (Za l a) ≤ m → ∃ r, Ym c k (m + 1) l a n = some r := by
 intro m
 induction m using Nat.strongRecOn with
 | _ m ih =>
  intro l ss a n t ha hp hm
  rcases Jb c (Za l a) k with h | h | ⟨h, h0, _⟩
  ·exact ⟨_, Y2 (by rw [X8 h])⟩
  ·obtain ⟨_, h2, h3⟩ := ZbW h
   rcases hp with hp | ⟨_, hp, _⟩
   ·exact absurd h2 hp
   ·rw [hp] at h3; cases h3
  ·obtain ⟨_, hi1, hi2⟩ := JA t ha h
   obtain ⟨P, s⟩ := Jn t ha h0 ⟨hi1, hi2⟩
   have hst := XU h
   have hsl := (Yv t.slot ha).1
   obtain ⟨T, hT, _⟩ := J8 t ha k
   have hnx := Zaj t ha k
   have hlv : 0 < (Za l a).level := by have := s.kof.1; exact this
   rcases XK c (Za l a) (Zh l a (Zw c (Za l a) k).2) (Zw c (Za l a) k).2 with hd | hd | ⟨hd, hd2⟩ | hd
   ·exact ⟨_, Y2 (by rw [hst, Jm hd])⟩
   ·by_cases h3 : (ZD c l a (Zw c (Za l a) k).2).1 = 0
    ·have e := hst.trans (XV hd h3)
     obtain ⟨g1, g2, g3⟩ := Zjx h0 h3 hsl
     rw [Xa (by rw [e]; simp) (by rw [e]; simp)]
     rw [e] at hT hnx ⊢
     dsimp only at hT hnx ⊢
     obtain ⟨m2, rfl⟩ : ∃ m2, m = m2 + 1 := ⟨m - 1, om9⟩
     refine ih m2 om9 hT hnx ?_ (by rw [g2]; omega)
     rcases hp with hp | ⟨q1, q2, q3⟩
     ·left; rw [g1]; rw [hsl] at hp; exact hp
     ·exfalso
      have hk := ZaJ t s
      have hf := q3 (Zw c (Za l a) k).2.toNat om9
      rw [show (((Zw c (Za l a) k).2.toNat : Nat) : Int) = (Zw c (Za l a) k).2 by omega] at hf
      rcases Zpx hd with ⟨_, h5⟩ | h5
      ·rw [hf] at h5; cases h5
      ·omega
    ·exact ⟨_, Y2 (by rw [hst, XW hd h3])⟩
   ·have e := hst.trans (YO hd)
    obtain ⟨x, y, e2, g1, g2, g3, g4, g5, g6, g7⟩ := Zjw t s hd2
    rw [e2] at e
    rw [Xa (by rw [e]; simp) (by rw [e]; simp)]
    rw [e] at hT hnx ⊢
    dsimp only at hT hnx ⊢
    obtain ⟨m2, rfl⟩ : ∃ m2, m = m2 + 1 := ⟨m - 1, om9⟩
    refine ih m2 om9 hT hnx ?_ (by rw [g1, g4]; omega)
    rcases hp with hp | ⟨q1, q2, q3⟩
    ·left; rw [g1, g3]; exact hp
    ·right
     rw [g1]
     refine ⟨by rw [g4]; exact q1, (Zju h0 g4 (by rw [g5])).trans q2, fun j hj => ?_⟩
     rw [g5] at hj
     have ek : Zh (ZQ l x y) a j = Za (ZQ l x y) ((Za l a).kids.getD j 0) := by
      unfold Zh
      rw [g1, g5, Int.toNat_natCast]
     have ek2 : Zh l a j = Za l ((Za l a).kids.getD j 0) := by unfold Zh; rw [Int.toNat_natCast]
     have h7 := g7 ((Za l a).kids.getD j 0)
     obtain ⟨P2, s2⟩ := Jn t ha h0 (i := (j : Int)) ⟨om9, om9⟩
     have hk2 := (ZaJ t s2).2.1
     rw [ek, Zju (n := Zh l a j) (by rw [hk2]; omega) (by rw [ek2]; exact h7.1) (by rw [ek2, h7.2])]
     exact q3 j hj
   ·have e := hst.trans (XX hd)
    obtain ⟨k1, k2, k3, k4⟩ := ZaJ t s
    have h5 := ZdV hd
    rw [Jc (by rw [e])]
    rw [e] at hT hnx ⊢
    dsimp only at hT hnx ⊢
    obtain ⟨m2, rfl⟩ : ∃ m2, m = m2 + 1 := ⟨m - 1, om9⟩
    have hw := ZdT t (a := (Zh l a (Zw c (Za l a) k).2).slot) k4 (by rw [k3]; omega)
    refine ih m2 om9 t k4 (.inl (by rw [k3]; exact k1)) ?_
    rw [k3] at hw ⊢
    omega
theorem Zpy {c : Cfg} {l : List Nd} {ss : List Seat} (t : Tree c l ss) (h0 : ¬ (Za l 0).level = 0) (h : (ZI c l).1 = 0) : LowP c (ZI c l).2 0 ∧ (Za (ZI c l).2 0).level = (Za l 0).level + 1 := by
 have hp := t.pos
 obtain ⟨P, hP, eP⟩ := t.seat_of (a := 0) ⟨Int.le_refl _, om9⟩
 have hin := t.inner hP (by rw [eP]; exact h0)
 rw [eP] at hin
 have hlv := t.lvl hP
 rw [eP] at hlv
 by_cases hk : (Z0 (Za l 0) l.length ((l.length : Int) + 1)).2.2.2 = true
 ·by_cases hr : c.slots.toNat - l.length < 2
  ·rw [Zbl hk hr] at h; cases h
  ·rw [ZbT hk hr]
   have hc : (Zo (Za l 0) ((l.length : Int) + 1)).2.2.2 = true := by rw [← J7 _ (l.length : Int)]; exact hk
   obtain ⟨x, y, q, hh, e, hv, _⟩ := Zd2 (t.seat hP).1 (y := (l.length : Int) + 1) (by rw [eP]; exact hc)
   rw [eP] at e hv
   rw [ZaG hc, e]
   obtain ⟨_, _, hh2, _, ka, _, kb, _⟩ : True ∧ True ∧ hh < (Za l 0).pivots.length ∧ True ∧ x.kids = (Za l 0).kids.take (hh + 1) ∧ True ∧ y.kids = (Za l 0).kids.drop (hh + 1) ∧ True := by
    obtain ⟨_, _, g1, _, _, g2, _, g3⟩ := hv.inner h0
    exact ⟨trivial, trivial, g1, trivial, g2, trivial, g3, trivial⟩
   have hpl := (YM hin.2.1).2
   have hfan := hin.1.2.2
   obtain ⟨⟨f1, f2⟩, _⟩ := t.cfg
   have e0 : Za (YU l (Jl (Za l 0) q l.length ((l.length : Int) + 1)) (Yl (Za l 0) x l.length) (Yl (Za l 0) y y.slot)) 0 = Jl (Za l 0) q l.length ((l.length : Int) + 1) := by
    have := Ju (l := YU l (Jl (Za l 0) q l.length ((l.length : Int) + 1)) (Yl (Za l 0) x l.length) (Yl (Za l 0) y y.slot)) (k := 0) (by unfold YU; simp)
    refine Eq.trans this ?_
    unfold YU
    rw [List.getElem_append_left (by simp; exact hp), List.getElem_set_self]
   have ek : ∀ (j : Nat) (z : Nd), (YU l (Jl (Za l 0) q l.length ((l.length : Int) + 1)) (Yl (Za l 0) x l.length) (Yl (Za l 0) y y.slot))[l.length + j]? = some z → Za (YU l (Jl (Za l 0) q l.length ((l.length : Int) + 1)) (Yl (Za l 0) x l.length) (Yl (Za l 0) y y.slot)) ((l.length : Int) + j) = z := fun j z hz => by
    obtain ⟨g1, g2⟩ := List.getElem?_eq_some_iff.1 hz
    have := Ju g1
    rw [show (((l.length + j : Nat)) : Int) = (l.length : Int) + j by omega] at this
    rw [this]; exact g2
   have ex : Za (YU l (Jl (Za l 0) q l.length ((l.length : Int) + 1)) (Yl (Za l 0) x l.length) (Yl (Za l 0) y y.slot)) (l.length : Int) = Yl (Za l 0) x l.length := by
    have := ek 0 (Yl (Za l 0) x l.length) (by unfold YU; rw [List.getElem?_append_right (by simp)]; simp)
    simpa using this
   have ey : Za (YU l (Jl (Za l 0) q l.length ((l.length : Int) + 1)) (Yl (Za l 0) x l.length) (Yl (Za l 0) y y.slot)) ((l.length : Int) + 1) = Yl (Za l 0) y y.slot := by
    have := ek 1 (Yl (Za l 0) y y.slot) (by unfold YU; rw [List.getElem?_append_right (by simp)]; simp)
    simpa using this
   refine ⟨.inr ?_, by rw [e0]; rfl⟩
   dsimp only
   rw [e0]
   refine ⟨by show 2 ≤ (Za l 0).level + 1; omega, ?_, fun j hj => ?_⟩
   ·unfold ZF
    rw [if_neg (by show ¬ (Za l 0).level + 1 = 0; omega), decide_eq_false_iff_not]
    show ¬ c.fan ≤ ((2 : Nat) : Int)
    omega
   ·have hj2 : j < 2 := hj
    unfold Zh
    rw [e0]
    have hlx : x.level = (Za l 0).level := hv.la
    have hly : y.level = (Za l 0).level := hv.lb
    have hkx : x.kids.length = hh + 1 := by rw [ka, List.length_take]; omega
    have hky : y.kids.length = (Za l 0).kids.length - (hh + 1) := by rw [kb, List.length_drop]
    rcases (by omega : j = 0 ∨ j = 1) with rfl | rfl
    ·show ZF c (Za _ (l.length : Int)) = false
     rw [ex]
     unfold ZF Yl
     dsimp only
     rw [if_neg (by rw [hlx]; exact h0), decide_eq_false_iff_not]
     omega
    ·show ZF c (Za _ ((l.length : Int) + 1)) = false
     rw [ey]
     unfold ZF Yl
     dsimp only
     rw [if_neg (by rw [hly]; exact h0), decide_eq_false_iff_not]
     omega
 ·rw [ZdM (by simpa using hk)] at h; cases h
theorem Zpz {c : Cfg} {k : Str} (v : Nat) : ∀ (w : Nat) {l : List Nd} {ss : List Seat} {n : Int}, Tree c l ss → (Za l 0).level.toNat = v → wtN c (Za l 0) ≤ w → 8256 ≤ w + 8256 → ∃ r, Ym c k ((v + 2) * 8300 + w + 1) l 0 n = some r := by
 intro w
 induction w using Nat.strongRecOn with
 | _ w ih =>
  intro l ss n t hv hw hx
  have ha : (0 : Int) ≤ 0 ∧ (0 : Int) < l.length := ⟨Int.le_refl _, by have := t.pos; omega⟩
  obtain ⟨T, hT, _⟩ := J8 t ha k
  have hnx := Zaj t ha k
  have hsl := (Yv t.slot ha).1
  rcases Jb c (Za l 0) k with h | h | ⟨h, h0, _⟩
  ·exact ⟨_, Y2 (by rw [X8 h])⟩
  ·obtain ⟨h0, h2, h3⟩ := ZbW h
   by_cases hl : (ZI c l).1 = 0
   ·have e := X9 h hl
    rw [Xa (by rw [e]; simp) (by rw [e]; simp)]
    rw [e] at hT hnx ⊢
    dsimp only at hT hnx ⊢
    obtain ⟨g1, g2⟩ := Zpy t h0 hl
    have hlv : 0 ≤ (Za l 0).level := by
     obtain ⟨P, hP, eP⟩ := t.seat_of ha
     rw [← eP]; exact t.lvl hP
    have hw2 := ZdT hT (a := 0) hnx (by rw [g2]; omega)
    have := Zjy (k := k) ((v + 2) * 8300 + w - 1) (n := n + 1) hT hnx g1 (by rw [g2]; omega)
    rwa [show (v + 2) * 8300 + w - 1 + 1 = (v + 2) * 8300 + w by omega] at this
   ·exact ⟨_, Y2 (by rw [Ja h hl])⟩
  ·obtain ⟨_, hi1, hi2⟩ := JA t ha h
   obtain ⟨P, s⟩ := Jn t ha h0 ⟨hi1, hi2⟩
   have hst := XU h
   have hlv : 0 < (Za l 0).level := by have := s.kof.1; exact this
   rcases XK c (Za l 0) (Zh l 0 (Zw c (Za l 0) k).2) (Zw c (Za l 0) k).2 with hd | hd | ⟨hd, hd2⟩ | hd
   ·exact ⟨_, Y2 (by rw [hst, Jm hd])⟩
   ·by_cases h3 : (ZD c l 0 (Zw c (Za l 0) k).2).1 = 0
    ·have e := hst.trans (XV hd h3)
     obtain ⟨g1, g2, g3⟩ := Zjx h0 h3 hsl
     rw [Xa (by rw [e]; simp) (by rw [e]; simp)]
     rw [e] at hT hnx ⊢
     dsimp only at hT hnx ⊢
     have := ih (w - 1) om9 (n := n + 1) hT (by rw [g2]; exact hv) om9 om9
     rwa [show (v + 2) * 8300 + (w - 1) + 1 = (v + 2) * 8300 + w by omega] at this
    ·exact ⟨_, Y2 (by rw [hst, XW hd h3])⟩
   ·have e := hst.trans (YO hd)
    obtain ⟨x, y, e2, g1, g2, g3, g4, g5, g6, g7⟩ := Zjw t s hd2
    rw [e2] at e
    rw [Xa (by rw [e]; simp) (by rw [e]; simp)]
    rw [e] at hT hnx ⊢
    dsimp only at hT hnx ⊢
    have := ih (w - 1) om9 (n := n + 1) hT (by rw [g1, g4]; exact hv) (by rw [g1]; omega) om9
    rwa [show (v + 2) * 8300 + (w - 1) + 1 = (v + 2) * 8300 + w by omega] at this
   ·have e := hst.trans (XX hd)
    obtain ⟨k1, k2, k3, k4⟩ := ZaJ t s
    have h5 := ZdV hd
    rw [Jc (by rw [e])]
    rw [e] at hT hnx ⊢
    dsimp only at hT hnx ⊢
    have hw := ZdT t (a := (Zh l 0 (Zw c (Za l 0) k).2).slot) k4 (by rw [k3]; omega)
    have := Zjy (k := k) ((v + 2) * 8300 + w - 1) (n := n) t k4 (.inl (by rw [k3]; exact k1)) (by rw [k3] at hw ⊢; omega)
    rwa [show (v + 2) * 8300 + w - 1 + 1 = (v + 2) * 8300 + w by omega] at this
end Go.Fw
