/- A sound tree with a kid in two: its seats, that it is sound, and what it stands for. Plain Lean; nothing of the program is named here. No condition. -/
import Derived.Test.YtbbemibbmbmamaaGreatQiWf
set_option linter.unusedVariables false
set_option linter.unusedSimpArgs false
set_option linter.unnecessarySimpa false
set_option maxRecDepth 100000
set_option maxHeartbeats 1600000

namespace Go.Fw
open Go Go.RowKit
namespace PartOf
variable {c : Cfg} {l : List Nd} {ss : List Seat} {P : Seat} {i : Nat} {a b : Nd} {k : Str} {h : Nat}
noncomputable def fP (l : List Nd) (P : Seat) (i : Nat) (a b : Nd) (k : Str) (x : Seat) : List Seat :=
 if x.n.slot = (Zb l P i).n.slot then [nA l P i a b k, nB l P i a b k] else if x.n.slot = P.n.slot then [nP l P i k] else [x]
theorem f_k : fP l P i a b k (Zb l P i) = [nA l P i a b k, nB l P i a b k] := if_pos rfl
theorem f_p (p : PartOf c l ss P i a b k h) : fP l P i a b k P = [nP l P i k] := by
 unfold fP; rw [if_neg p.ksl.symm, if_pos rfl]
theorem f_x {x : Seat} (h1 : x.n.slot ≠ P.n.slot) (h2 : x.n.slot ≠ (Zb l P i).n.slot) : fP l P i a b k x = [x] := by
 unfold fP; rw [if_neg h2, if_neg h1]
theorem fixK (p : PartOf c l ss P i a b k h) : (Z7 (ZR l P.n i a b k) (nA l P i a b k)).isSome = true ∧ (Z7 (ZR l P.n i a b k) (nB l P i a b k)).isSome = true ∧ Zk (ZR l P.n i a b k) (nA l P i a b k) ++ Zk (ZR l P.n i a b k) (nB l P i a b k) = Zk l (Zb l P i) := by
 refine HSeat.kids p.t p.km.1 p.hs fun j hj => ?_
 by_cases h0 : (Zb l P i).n.level = 0
 ·have := (p.t.leaf p.km.1 h0).1
  omega
 ·have e := p.t.at p.km.1 h0 hj
  have g := p.km.2
  rw [p.slot_at p.km.1 h0 hj]
  exact p.find_x e.1 (p.ne e.1 p.mem om9) (p.ne e.1 p.km.1 om9)
theorem e_lo (p : PartOf c l ss P i a b k h) {j : Nat} (hj : j < i) : Zw (ZR l P.n i a b k) ((nP l P i k).n.kids.getD j 0) = Zw l (P.n.kids.getD j 0) := by
 have hi := p.hi
 have e := p.t.at p.mem p.h0 (j := j) om9
 have hkl := (Z8 (p.t.kids p.mem) p.h0)
 rw [p.kid_j, if_pos om9, p.slot_at p.mem p.h0 om9]
 refine p.find_x e.1 (p.ne e.1 p.mem om9) fun e2 => ?_
 have := p.t.kid_nd p.mem (i := j) (j := i) (by rw [hkl.1, Zac]; omega) (by rw [hkl.1, Zac]; omega) (by rw [(p.t.kidsD_at p.mem p.h0).2, (p.t.kidsD_at p.mem p.h0).2]; exact e2)
 omega
theorem e_hi (p : PartOf c l ss P i a b k h) {j : Nat} (hj : i < j) (hj2 : j < P.n.kids.length) : Zw (ZR l P.n i a b k) ((nP l P i k).n.kids.getD (j + 1) 0) = Zw l (P.n.kids.getD j 0) := by
 have hi := p.hi
 have e := p.t.at p.mem p.h0 (j := j) om9
 have hkl := (Z8 (p.t.kids p.mem) p.h0)
 rw [p.kid_j, if_neg om9, if_neg om9, show j + 1 - 1 = j from rfl, p.slot_at p.mem p.h0 om9]
 refine p.find_x e.1 (p.ne e.1 p.mem om9) fun e2 => ?_
 have := p.t.kid_nd p.mem (i := j) (j := i) (by rw [hkl.1, Zac]; omega) (by rw [hkl.1, Zac]; omega) (by rw [(p.t.kidsD_at p.mem p.h0).2, (p.t.kidsD_at p.mem p.h0).2]; exact e2)
 omega
theorem k_lo (p : PartOf c l ss P i a b k h) {j : Nat} (hj : j < i) : Zb (ZR l P.n i a b k) (nP l P i k) j = Zb l P j := by
 have hi := p.hi
 refine ZbF (by rw [p.e_lo hj]) (fun q => ?_) fun s _ => rfl
 show _ = (Zb l P j).s.has q
 rw [p.shas om9, p.khas om9]
 cases hq : q.lt k
 ·have := (p.route q).2 hq
  rw [decide_eq_false (show ¬ j = Ze (nP l P i k).n.pivots q by omega), decide_eq_false (show ¬ j = Ze P.n.pivots q by omega)]
 ·rw [((p.route q).1 hq).1]
theorem k_hi (p : PartOf c l ss P i a b k h) {j : Nat} (hj : i < j) (hj2 : j < P.n.kids.length) : Zb (ZR l P.n i a b k) (nP l P i k) (j + 1) = Zb l P j := by
 refine ZbF (by rw [p.e_hi hj hj2]) (fun q => ?_) fun s _ => rfl
 show _ = (Zb l P j).s.has q
 rw [p.shas om9, p.khas om9]
 cases hq : q.lt k
 ·rw [((p.route q).2 hq).1]; simp
 ·have := (p.route q).1 hq
  rw [decide_eq_false (show ¬ j + 1 = Ze (nP l P i k).n.pivots q by omega), decide_eq_false (show ¬ j = Ze P.n.pivots q by omega)]
theorem fixP (p : PartOf c l ss P i a b k h) : (Z7 (ZR l P.n i a b k) (nP l P i k)).isSome = true ∧ Zk (ZR l P.n i a b k) (nP l P i k) = (Zk l P).flatMap (fP l P i a b k) := by
 obtain ⟨h1, h2, h3, h4⟩ := Z8 (p.t.kids p.mem) p.h0
 have hi := p.hi
 have hkl := p.klen
 have hkm := p.km.2
 obtain ⟨g1, g2⟩ := ZaG (l := ZR l P.n i a b k) (x := nP l P i k) h2 p.rt' fun j hj => by
  by_cases c1 : j < i
  ·rw [ZbG (l' := l) (y := P) (j := j) (p.e_lo c1) rfl]; exact h4 j om9
  ·by_cases c2 : j = i
   ·subst c2
    unfold XQ
    rw [p.kid_j, if_pos (Nat.le_refl _), p.slot_at p.mem p.h0 p.hi, p.find_k]
    simp only [Bool.true_and, decide_eq_true_eq]
    rw [p.hv.la, hkm]; rfl
   ·by_cases c3 : j = i + 1
    ·subst c3
     unfold XQ
     rw [p.kid_j, if_neg om9, if_pos rfl, p.find_y]
     simp only [Bool.true_and, decide_eq_true_eq]
     rw [p.hv.lb, hkm]; rfl
    ·obtain ⟨q, rfl⟩ : ∃ q, j = q + 1 := ⟨j - 1, om9⟩
     rw [ZbG (l' := l) (y := P) (j := q) (p.e_hi om9 om9) rfl]; exact h4 q om9
 refine ⟨g1, ?_⟩
 obtain ⟨r, hr⟩ : ∃ r, P.n.kids.length = i + (1 + r) := ⟨P.n.kids.length - (i + 1), om9⟩
 rw [g2, h1, hkl, hr, show i + (1 + r) + 1 = i + (2 + r) by omega]
 have hf : ∀ j, j < P.n.kids.length → j ≠ i → fP l P i a b k (Zb l P j) = [Zb l P j] := fun j hj hne => by
  have e := p.t.at p.mem p.h0 hj
  refine f_x (p.ne e.1 p.mem om9) fun e2 => ?_
  have := p.t.kid_nd p.mem (i := j) (j := i) (by rw [h1, Zac]; omega) (by rw [h1, Zac]; omega) (by rw [(p.t.kidsD_at p.mem p.h0).2, (p.t.kidsD_at p.mem p.h0).2]; exact e2)
  exact hne this
 unfold Xp
 rw [show List.range (i + (2 + r)) = List.range i ++ (List.range (2 + r)).map (i + ·) from List.range_add, show List.range (i + (1 + r)) = List.range i ++ (List.range (1 + r)).map (i + ·) from List.range_add, List.map_append, List.map_append, List.flatMap_append, List.map_map, List.map_map]
 congr 1
 ·rw [Zd3 fun y hy => ?_]
  ·exact List.map_congr_left fun j hj => p.k_lo (List.mem_range.1 hj)
  ·obtain ⟨j, hj, rfl⟩ := List.mem_map.1 hy
   have := List.mem_range.1 hj
   exact hf j om9 om9
 ·rw [show List.range (2 + r) = List.range 2 ++ (List.range r).map (2 + ·) from List.range_add, show List.range (1 + r) = List.range 1 ++ (List.range r).map (1 + ·) from List.range_add, List.map_append, List.map_append, List.flatMap_append, List.map_map, List.map_map]
  congr 1
  ·show [Zb (ZR l P.n i a b k) (nP l P i k) (i + 0), Zb (ZR l P.n i a b k) (nP l P i k) (i + 1)] = ([Zb l P (i + 0)]).flatMap _
   rw [List.flatMap_cons, List.flatMap_nil, List.append_nil, Nat.add_zero, f_k]; rfl
  ·rw [Zd3 fun y hy => ?_]
   ·refine List.map_congr_left fun j hj => ?_
    have := List.mem_range.1 hj
    have e := p.k_hi (j := i + (1 + j)) om9 om9
    rw [show i + (1 + j) + 1 = i + (2 + j) by omega] at e
    exact e
   ·obtain ⟨j, hj, rfl⟩ := List.mem_map.1 hy
    have := List.mem_range.1 hj
    exact hf (i + (1 + j)) om9 om9
theorem kid_in (p : PartOf c l ss P i a b k h) : Zb l P i ∈ Zk l P := by
 have h1 := (Z8 (p.t.kids p.mem) p.h0).1
 rw [h1]
 exact List.mem_map.2 ⟨i, List.mem_range.2 p.hi, rfl⟩
theorem fixX (p : PartOf c l ss P i a b k h) {x : Seat} (hx : x ∈ ss) (n1 : x.n.slot ≠ P.n.slot) : (Z7 (ZR l P.n i a b k) x).isSome = true ∧ Zk (ZR l P.n i a b k) x = (Zk l x).flatMap (fP l P i a b k) := by
 by_cases h0 : x.n.level = 0
 ·rw [ZaM h0, Xz h0, Xz h0]; exact ⟨rfl, rfl⟩
 ·obtain ⟨h1, h2, h3, h4⟩ := Z8 (p.t.kids hx) h0
  have key : ∀ j, j < x.n.kids.length → fP l P i a b k (Zb l x j) = [Zb (ZR l P.n i a b k) x j] ∧ XQ (ZR l P.n i a b k) x j = true := fun j hj => by
   have e := p.t.at hx h0 hj
   have hin : Zb l x j ∈ Zk l x := by rw [h1]; exact List.mem_map.2 ⟨j, List.mem_range.2 hj, rfl⟩
   have nk : (Zb l x j).n.slot ≠ (Zb l P i).n.slot := fun e2 => n1 (by rw [p.t.parent hx p.mem hin p.kid_in e2])
   by_cases c1 : (Zb l x j).n.slot = P.n.slot
   ·have eP := p.t.uniq e.1 p.mem c1
    have ef : Zw (ZR l P.n i a b k) (x.n.kids.getD j 0) = (Y6 P.n i k l.length, true) := by rw [p.slot_at hx h0 hj, c1, p.find_p]
    have ek : Zb (ZR l P.n i a b k) x j = ⟨Y6 P.n i k l.length, (Zb l x j).s, (Zb l x j).ms⟩ := by
     show (⟨(Zw _ _).1, _, _⟩ : Seat) = _
     rw [ef]; rfl
    refine ⟨?_, ?_⟩
    ·rw [ek, eP, p.f_p]; rfl
    ·unfold XQ
     rw [ef]
     simp only [Bool.true_and, decide_eq_true_eq]
     have := e.2.2.2
     rw [eP] at this
     exact this
   ·have ef : Zw (ZR l P.n i a b k) (x.n.kids.getD j 0) = Zw l (x.n.kids.getD j 0) := by rw [p.slot_at hx h0 hj, p.find_x e.1 c1 nk]
    refine ⟨?_, ?_⟩
    ·rw [f_x c1 nk, ZbF (l := l) (l' := ZR l P.n i a b k) (x := x) (y := x) (i := j) (j := j) (by rw [ef]) (fun _ => rfl) (fun _ _ => rfl)]
    ·rw [ZbG (l' := l) (y := x) (j := j) ef rfl]; exact h4 j hj
  obtain ⟨g1, g2⟩ := ZaG (l := ZR l P.n i a b k) (x := x) h2 h3 fun j hj => (key j hj).2
  refine ⟨g1, ?_⟩
  rw [g2, h1]
  unfold Xp
  rw [List.flatMap_map]
  have : ∀ (L : List Nat), (∀ j ∈ L, j < x.n.kids.length) → L.map (Zb (ZR l P.n i a b k) x) = L.flatMap fun j => fP l P i a b k (Zb l x j) := by
   intro L
   induction L with
   | nil => intro _; rfl
   | cons j L ih =>
    intro hL
    rw [List.map_cons, List.flatMap_cons, (key j (hL j (by simp))).1, ih fun z hz => hL z (List.mem_cons_of_mem _ hz)]; rfl
  exact this _ fun j hj => List.mem_range.1 hj
theorem froot (p : PartOf c l ss P i a b k h) : fP l P i a b k (Zm l 0) = [Zm (ZR l P.n i a b k) 0] := by
 have n2 : (Zm l 0).n.slot ≠ (Zb l P i).n.slot := (p.t.root_kid p.mem p.kid_in).symm
 have e0 := p.t.root0
 by_cases c1 : (Zm l 0).n.slot = P.n.slot
 ·have eP := p.t.uniq p.t.root p.mem c1
  have e : Zm (ZR l P.n i a b k) 0 = ⟨Y6 P.n i k l.length, (Zm l 0).s, (Zm l 0).ms⟩ := by
   show (⟨(Zw _ _).1, _, _⟩ : Seat) = _
   have := p.find_p
   rw [← c1, e0] at this
   rw [this]; rfl
  rw [e, eP, p.f_p]; rfl
 ·rw [f_x c1 n2]
  have := p.find_x p.t.root c1 n2
  rw [e0] at this
  show [(⟨(Zw l 0).1, _, _⟩ : Seat)] = [⟨(Zw _ 0).1, _, _⟩]
  rw [this]
theorem each (p : PartOf c l ss P i a b k h) {x : Seat} (hx : x ∈ ss) : (∀ z ∈ fP l P i a b k x, (Z7 (ZR l P.n i a b k) z).isSome = true) ∧ (fP l P i a b k x).flatMap (Zk (ZR l P.n i a b k)) = (Zk l x).flatMap (fP l P i a b k) := by
 by_cases c1 : x.n.slot = (Zb l P i).n.slot
 ·rw [p.t.uniq hx p.km.1 c1, f_k]
  obtain ⟨g1, g2, g3⟩ := p.fixK
  refine ⟨fun z hz => ?_, ?_⟩
  ·simp only [List.mem_cons, List.not_mem_nil, or_false] at hz
   rcases hz with rfl | rfl
   ·exact g1
   ·exact g2
  ·rw [Zd3 (L := Zk l (Zb l P i)) fun y hy => ?_]
   ·simpa using g3
   ·have e := p.t.kid_lvl p.km.1 hy
    have g := p.km.2
    exact f_x (p.ne e.1 p.mem om9) (p.ne e.1 p.km.1 om9)
 ·by_cases c2 : x.n.slot = P.n.slot
  ·rw [p.t.uniq hx p.mem c2, p.f_p]
   refine ⟨fun z hz => ?_, ?_⟩
   ·rw [List.mem_singleton] at hz; rw [hz]; exact p.fixP.1
   ·rw [← p.fixP.2]; simp
  ·rw [f_x c2 c1]
   refine ⟨fun z hz => ?_, ?_⟩
   ·rw [List.mem_singleton] at hz; rw [hz]; exact (p.fixX hx c2).1
   ·rw [← (p.fixX hx c2).2]; simp
theorem fix (p : PartOf c l ss P i a b k h) : ss.flatMap (fP l P i a b k) = Zm (ZR l P.n i a b k) 0 :: (ss.flatMap (fP l P i a b k)).flatMap (Zk (ZR l P.n i a b k)) := by
 rw [Zlk fun x hx => (p.each hx).2]
 conv => lhs; rw [p.t.fix]
 rw [List.flatMap_cons, p.froot]; rfl
theorem keys_out (p : PartOf c l ss P i a b k h) : ∀ (L : List Seat), (∀ x ∈ L, x ∈ ss ∧ x.n.slot ≠ (Zb l P i).n.slot) → (L.flatMap (fP l P i a b k)).map Seat.key = L.map Seat.key
 | [], _ => rfl
 | x :: L, hL => by
  rw [List.flatMap_cons, List.map_append, p.keys_out L fun z hz => hL z (List.mem_cons_of_mem _ hz), List.map_cons]
  have g := hL x (by simp)
  by_cases c2 : x.n.slot = P.n.slot
  ·rw [p.t.uniq g.1 p.mem c2, p.f_p]; rfl
  ·rw [f_x c2 g.2]; rfl
theorem keys (p : PartOf c l ss P i a b k h) : ∃ S1 S2 : List Key9, ss.map Seat.key = S1 ++ ((Zb l P i).n.slot, (Zb l P i).n.level, (Zb l P i).n.right) :: S2 ∧
  (ss.flatMap (fP l P i a b k)).map Seat.key = S1 ++ ((Zb l P i).n.slot, (Zb l P i).n.level, (l.length : Int)) :: ((l.length : Int), (Zb l P i).n.level, (Zb l P i).n.right) :: S2 := by
 obtain ⟨A, B, e⟩ := List.append_of_mem p.km.1
 have hnd := p.t.nodup_s
 have hA : ∀ x ∈ A, x ∈ ss ∧ x.n.slot ≠ (Zb l P i).n.slot := fun x hx => by
  refine ⟨by rw [e]; exact List.mem_append_left _ hx, fun e2 => ?_⟩
  rw [e, List.map_append, List.nodup_append] at hnd
  exact hnd.2.2 _ (List.mem_map.2 ⟨x, hx, rfl⟩) _ (List.mem_map.2 ⟨Zb l P i, by simp, rfl⟩) e2
 have hB : ∀ x ∈ B, x ∈ ss ∧ x.n.slot ≠ (Zb l P i).n.slot := fun x hx => by
  refine ⟨by rw [e]; exact List.mem_append_right _ (List.mem_cons_of_mem _ hx), fun e2 => ?_⟩
  rw [e, List.map_append, List.nodup_append, List.map_cons, List.nodup_cons] at hnd
  exact hnd.2.1.1 (List.mem_map.2 ⟨x, hx, e2⟩)
 refine ⟨A.map Seat.key, B.map Seat.key, ?_, ?_⟩
 ·conv => lhs; rw [e]
  rw [List.map_append, List.map_cons]; rfl
 ·conv => lhs; rw [e]
  rw [List.flatMap_append, List.flatMap_cons, List.map_append, List.map_append, p.keys_out A hA, p.keys_out B hB, f_k]
  congr 1
  show [Seat.key (nA l P i a b k), Seat.key (nB l P i a b k)] ++ _ = _
  have k1 : Seat.key (nA l P i a b k) = ((Zb l P i).n.slot, (Zb l P i).n.level, (l.length : Int)) := by
   unfold Seat.key; rw [p.an, p.sa, p.hv.la, p.hv.aright, p.sb]
  have k2 : Seat.key (nB l P i a b k) = ((l.length : Int), (Zb l P i).n.level, (Zb l P i).n.right) := by
   unfold Seat.key; rw [p.bn, p.sb, p.hv.lb, p.hv.bend.2.2]
  rw [k1, k2]; rfl
theorem perm (p : PartOf c l ss P i a b k h) : ((ss.flatMap (fP l P i a b k)).map fun x : Seat => x.n.slot).Perm ((ZR l P.n i a b k).map fun n : Nd => n.slot) := by
 obtain ⟨S1, S2, e1, e2⟩ := p.keys
 have h1 : (ss.flatMap (fP l P i a b k)).map (fun x : Seat => x.n.slot) = ((ss.flatMap (fP l P i a b k)).map Seat.key).map (·.1) := by rw [List.map_map]; rfl
 have h2 : ss.map (fun x : Seat => x.n.slot) = (ss.map Seat.key).map (·.1) := by rw [List.map_map]; rfl
 have h3 : ((ss.flatMap (fP l P i a b k)).map fun x : Seat => x.n.slot).Perm ((ss.map fun x : Seat => x.n.slot) ++ [(l.length : Int)]) := by
  rw [h1, h2, e1, e2, List.map_append, List.map_append, List.append_assoc]
  refine List.Perm.append_left _ ?_
  simp only [List.map_cons, List.cons_append]
  exact List.Perm.cons _ (List.perm_append_singleton _ _).symm
 refine h3.trans ?_
 have h4 : ((ZR l P.n i a b k).map fun n : Nd => n.slot) = (l.map fun n : Nd => n.slot) ++ [(l.length : Int)] := by
  rw [ZaQ p.slots, ZaQ p.t.slot, p.len, List.range_succ, List.map_append]; rfl
 rw [h4]
 exact List.Perm.append_right _ p.t.perm_s
end PartOf
namespace PartOf
variable {c : Cfg} {l : List Nd} {ss : List Seat} {P : Seat} {i : Nat} {a b : Nd} {k : Str} {h : Nat}
theorem msA (p : PartOf c l ss P i a b k h) : ∀ m ∈ (nA l P i a b k).n.msgs, ∃ m' ∈ (Zb l P i).n.msgs, (m'.clip ⟨Str.nil, k, false⟩).2 = true ∧ (m'.clip ⟨Str.nil, k, false⟩).1 = m := fun m hm => by
 rw [p.an] at hm
 by_cases h0 : (Zb l P i).n.level = 0
 ·rw [(p.m0 h0).1, p.t.nomsgs p.km.1 h0] at hm; cases hm
 ·rw [(p.m1 h0).1] at hm; exact Zah hm
theorem msB (p : PartOf c l ss P i a b k h) : ∀ m ∈ (nB l P i a b k).n.msgs, ∃ m' ∈ (Zb l P i).n.msgs, (m'.clip ⟨k, Str.nil, true⟩).2 = true ∧ (m'.clip ⟨k, Str.nil, true⟩).1 = m := fun m hm => by
 rw [p.bn] at hm
 by_cases h0 : (Zb l P i).n.level = 0
 ·rw [(p.m0 h0).2, p.t.nomsgs p.km.1 h0] at hm; cases hm
 ·rw [(p.m1 h0).2] at hm; exact Zah hm
theorem kin9 (p : PartOf c l ss P i a b k h) : (Zb l P i).s.has k = true ∧ k ≠ (Zb l P i).s.lo := p.t.k_in p.km.1 p.hv p.nk
theorem phas (p : PartOf c l ss P i a b k h) : P.s.has k = true ∧ k ≠ P.s.lo := by
 obtain ⟨k1, k2⟩ := p.kin9
 have h1 : P.s.has k = true := Zbb (l := l) (j := i) k k1
 refine ⟨h1, fun e => ?_⟩
 have he : (Zb l P i).s.empty = false := by
  cases e9 : (Zb l P i).s.empty
  ·rfl
  ·have := YN.1 e9 k; rw [k1] at this; cases this
 have h2 := Zbb (l := l) (j := i) _ (ZiO he)
 have h3 := (Yi.1 h2).1
 have h4 := (Yi.1 k1).1
 rw [← e] at h3
 exact k2 (Str.lt_total h4 h3)
theorem pR (p : PartOf c l ss P i a b k h) : (Y6 P.n i k l.length).R c.fan c.leaf c.bud := by
 obtain ⟨q1, q4, q5, q6⟩ := (p.t.seat p.mem).1
 rw [if_neg p.h0] at q6
 obtain ⟨⟨r1, r2, r3⟩, r4, r5, r6, r7, r8, r9⟩ := q6
 obtain ⟨⟨p1, p2⟩, _⟩ := (p.t.seat p.mem).2.1
 refine ⟨q1, q4, q5, ?_⟩
 rw [if_neg (show ¬ (Y6 P.n i k l.length).level = 0 from p.h0)]
 have hkl := p.klen
 have hl : (Y6 P.n i k l.length).kids.length = P.n.kids.length + 1 := hkl
 have hf := p.full
 refine ⟨⟨r1, om9, om9⟩, p.rt', r5, r6, fun j hj => ?_, fun j hj => ?_, r9⟩
 ·have hm : (Y6 P.n i k l.length).kids[j] ∈ (P.n.kids.take (i + 1) ++ [(l.length : Int)]) ++ P.n.kids.drop (i + 1) := List.getElem_mem hj
  have all : ∀ z ∈ P.n.kids, 0 ≤ z := fun z hz => by obtain ⟨q, hq, rfl⟩ := List.getElem_of_mem hz; exact r7 q hq
  rcases List.mem_append.1 hm with hm | hm
  ·rcases List.mem_append.1 hm with hm | hm
   ·exact all _ (List.mem_of_mem_take hm)
   ·rw [List.mem_singleton] at hm; rw [hm]; omega
  ·exact all _ (List.mem_of_mem_drop hm)
 ·have hm : (Y6 P.n i k l.length).pivots[j] ∈ (P.n.pivots.take i ++ [k]) ++ P.n.pivots.drop i := List.getElem_mem hj
  have all : ∀ z ∈ P.n.pivots, P.n.parts z := fun z hz => by obtain ⟨q, hq, rfl⟩ := List.getElem_of_mem hz; exact r8 q hq
  rcases List.mem_append.1 hm with hm | hm
  ·rcases List.mem_append.1 hm with hm | hm
   ·exact all _ (List.mem_of_mem_take hm)
   ·rw [List.mem_singleton] at hm; rw [hm]
    refine ⟨p.hv.size.1, p.hv.size.2, ?_⟩
    show (P.n.top || k.lt P.n.high) = true
    rw [p1, p2, Bool.or_eq_true]
    exact (Yi.1 p.phas.1).2
  ·exact all _ (List.mem_of_mem_drop hm)
theorem pP (p : PartOf c l ss P i a b k h) : PlacedP (nP l P i k) := by
 obtain ⟨p0, p3, p4, p5⟩ := (p.t.seat p.mem).2.1
 refine ⟨p0, p3, fun j hj => ?_, p5⟩
 have hm : (nP l P i k).n.pivots[j] ∈ (P.n.pivots.take i ++ [k]) ++ P.n.pivots.drop i := List.getElem_mem hj
 have all : ∀ z ∈ P.n.pivots, P.s.has z = true ∧ z ≠ P.s.lo := fun z hz => by obtain ⟨q, hq, rfl⟩ := List.getElem_of_mem hz; exact p4 q hq
 rcases List.mem_append.1 hm with hm | hm
 ·rcases List.mem_append.1 hm with hm | hm
  ·exact all _ (List.mem_of_mem_take hm)
  ·rw [List.mem_singleton] at hm; rw [hm]; exact p.phas
 ·exact all _ (List.mem_of_mem_drop hm)
theorem seats9 (p : PartOf c l ss P i a b k h) : ∀ z ∈ ss.flatMap (fP l P i a b k), SeatP c z := fun z hz => by
 obtain ⟨x, hx, hz⟩ := List.mem_flatMap.1 hz
 have sK := p.t.seat p.km.1
 have room := p.room
 by_cases c1 : x.n.slot = (Zb l P i).n.slot
 ·rw [p.t.uniq hx p.km.1 c1, f_k] at hz
  simp only [List.mem_cons, List.not_mem_nil, or_false] at hz
  have st : ∀ {s : Span} {ms : List Msg}, ms = Zc s (Zb l P i).ms → ∀ j (hj : j < ms.length), (Zb l P i).n.seen < ms[j].stamp := fun e j hj => by
   subst e
   obtain ⟨m0, hm0, e⟩ := JL (List.getElem_mem hj)
   rw [e]
   obtain ⟨q, hq, rfl⟩ := List.getElem_of_mem hm0
   exact sK.2.2.2 q hq
  rcases hz with rfl | rfl
  ·refine ⟨by rw [p.an]; exact p.aR, HSeat.placedA p.t p.km.1 p.hs (XR _ _) p.nk p.msA, by rw [p.an, p.sa]; exact sK.2.2.1, fun j hj => ?_⟩
   rw [p.an, p.ea]; exact st p.ams j hj
  ·refine ⟨by rw [p.bn]; exact p.bR, HSeat.placedB p.t p.km.1 p.hs (XR _ _) p.nk p.msB, by rw [p.bn, p.sb]; exact room, fun j hj => ?_⟩
   rw [p.bn, p.eb]; exact st p.bms j hj
 ·by_cases c2 : x.n.slot = P.n.slot
  ·rw [p.t.uniq hx p.mem c2, p.f_p, List.mem_singleton] at hz
   rw [hz]
   have sP := p.t.seat p.mem
   exact ⟨p.pR, p.pP, sP.2.2.1, sP.2.2.2⟩
  ·rw [f_x c2 c1, List.mem_singleton] at hz
   rw [hz]; exact p.t.seat hx
theorem tree (p : PartOf c l ss P i a b k h) : Tree c (ZR l P.n i a b k) (ss.flatMap (fP l P i a b k)) := by
 have hfew := p.few
 have hroom := p.room
 refine Zdj p.t.cfg (by rw [p.len]; omega) (Zd2 p.t.cfg (by rw [p.len]; omega) fun n hn => ?_) p.slots p.fix (fun z hz => ?_) p.perm ?_ (by rw [p.len]; omega) p.seats9
 ·have old : ∀ n ∈ l, n.R c.fan c.leaf c.bud := fun n hn => by
   have := (p.t.perm.mem_iff).2 hn
   obtain ⟨x, hx, rfl⟩ := List.mem_map.1 this
   exact (p.t.seat hx).1
  unfold ZR at hn
  rcases List.mem_append.1 hn with hn | hn
  ·rcases List.mem_or_eq_of_mem_set hn with hn | rfl
   ·rcases List.mem_or_eq_of_mem_set hn with hn | rfl
    ·exact old n hn
    ·exact p.aR
   ·exact p.pR
  ·rw [List.mem_singleton] at hn; rw [hn]; exact p.bR
 ·obtain ⟨x, hx, hz⟩ := List.mem_flatMap.1 hz
  exact (p.each hx).1 z hz
 ·obtain ⟨S1, S2, e1, e2⟩ := p.keys
  rw [e2]
  have := (ZbE ss).1 p.t.q.1.2.1
  rw [e1] at this
  exact Zfc S1 S2 this
theorem map (p : PartOf c l ss P i a b k h) : Zh (ZR l P.n i a b k) = Zh l := by
 rw [JM p.tree.sts, JM p.t.sts]
 refine Zgv fun x hx => ?_
 by_cases c1 : x.n.slot = (Zb l P i).n.slot
 ·rw [p.t.uniq hx p.km.1 c1, f_k]
  exact HSeat.view p.t p.km.1 p.hs (fun _ => by rw [p.ams, XI fun _ h => h]) fun _ => by rw [p.bms, XI fun _ h => h]
 ·by_cases c2 : x.n.slot = P.n.slot
  ·rw [p.t.uniq hx p.mem c2, p.f_p]
   have e1 : ¬ P.n.level = 0 := p.h0
   have e2 : ¬ (nP l P i k).n.level = 0 := p.h0
   simp [ZC, List.filter_cons, e1, e2]
  ·rw [f_x c2 c1]
end PartOf
theorem Zqp {c : Cfg} {l : List Nd} {ss : List Seat} (t : Tree c l ss) {P : Seat} {i : Nat} (hP : P ∈ ss) (h0 : ¬ P.n.level = 0) (hi : i < P.n.kids.length) (full : (P.n.kids.length : Int) < c.fan) (room : (l.length : Int) < c.slots) (few : l.length < 4096)
  (hc : (Zo (Zb l P i).n l.length).2.2.2 = true) (ha : (Y7 P.n i (Zo (Zb l P i).n l.length).2.2.1 l.length).2 = true) :
  (Y7 P.n i (Zo (Zb l P i).n l.length).2.2.1 l.length).1 = Y6 P.n i (Zo (Zb l P i).n l.length).2.2.1 l.length ∧
  ∃ h, PartOf c l ss P i (Zo (Zb l P i).n l.length).1 (Zo (Zb l P i).n l.length).2.1 (Zo (Zb l P i).n l.length).2.2.1 h := by
 have hK := (t.at hP h0 hi).1
 have hR := (t.seat hK).1
 have hRR := Zhb (slot := (l.length : Int)) hR om9 hc
 obtain ⟨a, b, k, h, e, hv, g1, g2, g3, g4, g5, g6, g7⟩ := Zd1 (y := (l.length : Int)) hR hc
 rw [e] at ha hRR ⊢
 have hb : (XU P.n.pivots P.n.kids i k l.length).2.length ≠ 0 := fun e0 => by
  rw [ZeI (.inr e0)] at ha; cases ha
 have h3 : (Zf P.n.pivots (i : Int)).has k = true := by
  cases h3 : (Zf P.n.pivots (i : Int)).has k
  ·exact absurd (ZeK (.inr (.inl h3))) hb
  ·rfl
 have h4 : ¬ k = (Zf P.n.pivots (i : Int)).lo := fun h4 => absurd (ZeK (.inr (.inr h4))) hb
 refine ⟨?_, h, ⟨t, hP, h0, hi, hv, g1, g2, g3, g4, g5, g6, g7, hRR.1, hRR.2.1, h3, h4, full, room, few⟩⟩
 rw [ZnI h0 om9 h3 h4]; rfl
theorem Zdu {X : List Msg} (h : Rst X) : ZQ [X, []] = X := by
 have := (ZaO h List.Pairwise.nil fun a _ b hb => by cases hb).1
 rwa [List.append_nil] at this
theorem Zjj {X : List Msg} (h : Rst X) : ZQ [[], X] = X := (ZaO List.Pairwise.nil h fun a ha => by cases ha).1
def X9 (n : Nd) (k : Str) (x y : Int) : Nd := { n with level := n.level + 1, pivots := [k], kids := [x, y], rows := [], msgs := if n.level = 0 then [] else n.msgs }
def Yk (n z : Nd) (s : Int) : Nd := { z with slot := s, msgs := [], seen := if n.level = 0 then z.seen else 0 }
def Z0 (n : Nd) (x y : Int) : Nd × Nd × Nd × Bool :=
 if (Zo n y).2.2.2 = true then (X9 n (Zo n y).2.2.1 x y, Yk n (Zo n y).1 x, Yk n (Zo n y).2.1 (Zo n y).2.1.slot, true) else (Nd.zero, Nd.zero, Nd.zero, false)
theorem ZaI {n : Nd} {x y : Int} (h : (Zo n y).2.2.2 = true) : Z0 n x y = (X9 n (Zo n y).2.2.1 x y, Yk n (Zo n y).1 x, Yk n (Zo n y).2.1 (Zo n y).2.1.slot, true) := if_pos h
theorem Zjk {n : Nd} {x y : Int} (h : (Zo n y).2.2.2 = false) : Z0 n x y = (Nd.zero, Nd.zero, Nd.zero, false) := if_neg (by simp [h])
theorem Zqq {n : Nd} {x y : Int} (h : (Zo n y).2.2.2 = true) (h0 : ¬ n.level = 0) : Z0 n x y = ({ n with level := n.level + 1, pivots := [(Zo n y).2.2.1], kids := [x, y], rows := [] }, { (Zo n y).1 with slot := x, msgs := [], seen := 0 }, { (Zo n y).2.1 with msgs := [], seen := 0 }, true) := by
 rw [ZaI h]; unfold X9 Yk; rw [if_neg h0, if_neg h0, if_neg h0]
theorem Zqr {n : Nd} {x y : Int} (h : (Zo n y).2.2.2 = true) (h0 : n.level = 0) : Z0 n x y = ({ n with level := n.level + 1, pivots := [(Zo n y).2.2.1], kids := [x, y], rows := [], msgs := [] }, { (Zo n y).1 with slot := x, msgs := [] }, { (Zo n y).2.1 with msgs := [] }, true) := by
 rw [ZaI h]; unfold X9 Yk; rw [if_pos h0, if_pos h0, if_pos h0]
def ZK (c : Cfg) (n : Nd) : Bool := if n.level = 0 then decide (c.leaf ≤ (n.rows.length : Int)) else decide (c.fan ≤ (n.kids.length : Int))
theorem J7 (n : Nd) (x y : Int) : (Z0 n x y).2.2.2 = (Zo n y).2.2.2 := by
 cases h : (Zo n y).2.2.2
 ·rw [Zjk h]
 ·rw [ZaI h]
def YS (l : List Nd) (r a b : Nd) : List Nd := (l.set 0 r) ++ [a, b]
structure LiftOf (c : Cfg) (l : List Nd) (ss : List Seat) (a0 b0 : Nd) (k : Str) (h : Nat) : Prop where
 t : Tree c l ss
 hv : Halves (Zm l 0).n a0 b0 k h
 sb : b0.slot = (l.length : Int) + 1
 ea : a0.seen = (Zm l 0).n.seen
 eb : b0.seen = (Zm l 0).n.seen
 nk : (Zm l 0).n.has k = true
 aR : a0.R c.fan c.leaf c.bud
 bR : b0.R c.fan c.leaf c.bud
 room : (l.length : Int) + 1 < c.slots
 few : l.length + 2 ≤ 4096
namespace LiftOf
variable {c : Cfg} {l : List Nd} {ss : List Seat} {a0 b0 : Nd} {k : Str} {h : Nat}
noncomputable def nn (l : List Nd) : Nd := (Zm l 0).n
noncomputable def la (l : List Nd) (a0 : Nd) : Nd := Yk (nn l) a0 (l.length : Int)
noncomputable def lb (l : List Nd) (b0 : Nd) : Nd := Yk (nn l) b0 ((l.length : Int) + 1)
noncomputable def lr (l : List Nd) (k : Str) : Nd := X9 (nn l) k (l.length : Int) ((l.length : Int) + 1)
noncomputable def ll (l : List Nd) (a0 b0 : Nd) (k : Str) : List Nd := YS l (lr l k) (la l a0) (lb l b0)
theorem root0 (p : LiftOf c l ss a0 b0 k h) : (nn l).slot = 0 := p.t.root0
theorem seen (p : LiftOf c l ss a0 b0 k h) : (nn l).seen ≤ 1099511627776 ∧ 0 ≤ (nn l).seen := by
 obtain ⟨j, hj, e⟩ := List.getElem_of_mem (p.t.nd p.t.root).2.2
 have h1 := (p.t.slot j hj).2
 rw [e] at h1
 exact ⟨h1, (p.t.seat p.t.root).1.1.2.2⟩
theorem msgs (p : LiftOf c l ss a0 b0 k h) : (lr l k).msgs = (nn l).msgs := by
 show (if (nn l).level = 0 then [] else (nn l).msgs) = _
 split
 ·rename_i h0; exact (p.t.nomsgs p.t.root h0).symm
 ·rfl
theorem len (p : LiftOf c l ss a0 b0 k h) : (ll l a0 b0 k).length = l.length + 2 := by
 unfold ll YS; rw [List.length_append, List.length_set]; rfl
theorem slots (p : LiftOf c l ss a0 b0 k h) : SlotsP (ll l a0 b0 k) := by
 have hp := p.t.pos
 have hs := p.seen
 have h1 := ZbZ p.t.slot (x := lr l k) (by show 0 ≤ (nn l).slot ∧ _; rw [show (lr l k).slot = (nn l).slot from rfl, p.root0]; omega) hs.1
 rw [show (lr l k).slot.toNat = 0 from by rw [show (lr l k).slot = (nn l).slot from rfl, p.root0]; rfl] at h1
 have sA : (la l a0).seen ≤ 1099511627776 := by
  show (if (nn l).level = 0 then a0.seen else 0) ≤ _
  split
  ·rw [p.ea]; exact hs.1
  ·omega
 have sB : (lb l b0).seen ≤ 1099511627776 := by
  show (if (nn l).level = 0 then b0.seen else 0) ≤ _
  split
  ·rw [p.eb]; exact hs.1
  ·omega
 have h2 := Zgu h1 (x := la l a0) (by rw [List.length_set]; rfl) sA
 have h3 := Zgu h2 (x := lb l b0) (by rw [List.length_append, List.length_set]; rfl) sB
 rw [List.append_assoc] at h3
 exact h3
theorem get (p : LiftOf c l ss a0 b0 k h) (s : Int) : Za (ll l a0 b0 k) s = if s = (l.length : Int) + 1 then lb l b0 else if s = l.length then la l a0 else if s = 0 then lr l k else Za l s := by
 have hp := p.t.pos
 have e : ll l a0 b0 k = ((l.set (lr l k).slot.toNat (lr l k)) ++ [la l a0]) ++ [lb l b0] := by
  rw [show (lr l k).slot.toNat = 0 from by rw [show (lr l k).slot = (nn l).slot from rfl, p.root0]; rfl, List.append_assoc]; rfl
 have h0 : (lr l k).slot = 0 := p.root0
 rw [e, ZcP, ZcP, List.length_append, List.length_set, Zay (by rw [h0]; omega), h0]
 rfl
theorem find (p : LiftOf c l ss a0 b0 k h) (s : Int) : Zw (ll l a0 b0 k) s = (if s = (l.length : Int) + 1 then lb l b0 else if s = l.length then la l a0 else if s = 0 then lr l k else Za l s, decide (0 ≤ s ∧ s < (l.length : Int) + 2)) := by
 rw [Zau p.slots, p.get, p.len]; rfl
theorem find_x (p : LiftOf c l ss a0 b0 k h) {x : Seat} (hx : x ∈ ss) (h1 : x.n.slot ≠ 0) : Zw (ll l a0 b0 k) x.n.slot = Zw l x.n.slot := by
 have := (p.t.nd hx).1
 rw [p.find, if_neg om9, if_neg om9, if_neg h1, Zau p.t.slot, decide_eq_true om9, decide_eq_true om9]
theorem find_0 (p : LiftOf c l ss a0 b0 k h) : Zw (ll l a0 b0 k) 0 = (lr l k, true) := by
 have := p.t.pos
 rw [p.find, if_neg om9, if_neg om9, if_pos rfl, decide_eq_true om9]
theorem find_a (p : LiftOf c l ss a0 b0 k h) : Zw (ll l a0 b0 k) (l.length : Int) = (la l a0, true) := by
 rw [p.find, if_neg om9, if_pos rfl, decide_eq_true om9]
theorem find_b (p : LiftOf c l ss a0 b0 k h) : Zw (ll l a0 b0 k) ((l.length : Int) + 1) = (lb l b0, true) := by
 rw [p.find, if_pos rfl, decide_eq_true om9]
noncomputable def nR (l : List Nd) (k : Str) : Seat := ⟨lr l k, Span.all, []⟩
noncomputable def nA (l : List Nd) (a0 b0 : Nd) (k : Str) : Seat := Zb (ll l a0 b0 k) (nR l k) 0
noncomputable def nB (l : List Nd) (a0 b0 : Nd) (k : Str) : Seat := Zb (ll l a0 b0 k) (nR l k) 1
theorem rroot (p : LiftOf c l ss a0 b0 k h) : Zm (ll l a0 b0 k) 0 = nR l k := by
 show (⟨(Zw _ 0).1, _, _⟩ : Seat) = _
 rw [p.find_0]; rfl
theorem an (p : LiftOf c l ss a0 b0 k h) : (nA l a0 b0 k).n = la l a0 := by
 show (Zw _ (l.length : Int)).1 = _
 rw [p.find_a]
theorem bn (p : LiftOf c l ss a0 b0 k h) : (nB l a0 b0 k).n = lb l b0 := by
 show (Zw _ ((l.length : Int) + 1)).1 = _
 rw [p.find_b]
theorem route1 (k q : Str) : Ze [k] q = if q.lt k = true then 0 else 1 := by
 unfold Ze
 cases h : q.lt k <;> simp [List.filter_cons, h]
theorem ha (p : LiftOf c l ss a0 b0 k h) (q : Str) : (nA l a0 b0 k).s.has q = ((Zm l 0).s.has q && q.lt k) := by
 show (Span.all.meet (Zf [k] ((0 : Nat) : Int))).has q = (Span.all.has q && _)
 rw [ZI, Xu (by rfl) q (Nat.zero_le _), route1]
 cases q.lt k <;> simp
theorem hb (p : LiftOf c l ss a0 b0 k h) (q : Str) : (nB l a0 b0 k).s.has q = ((Zm l 0).s.has q && !q.lt k) := by
 show (Span.all.meet (Zf [k] ((1 : Nat) : Int))).has q = (Span.all.has q && _)
 rw [ZI, Xu (by rfl) q (by simp), route1]
 cases q.lt k <;> simp
theorem rst (p : LiftOf c l ss a0 b0 k h) : Rst (nn l).msgs := (p.t.msgs p.t.root).1
theorem ams (p : LiftOf c l ss a0 b0 k h) : (nA l a0 b0 k).ms = Zc (nA l a0 b0 k).s (nn l).msgs := by
 show ZQ [Zc (nA l a0 b0 k).s (lr l k).msgs, []] = _
 rw [p.msgs, Zdu (Ju p.rst)]
theorem bms (p : LiftOf c l ss a0 b0 k h) : (nB l a0 b0 k).ms = Zc (nB l a0 b0 k).s (nn l).msgs := by
 show ZQ [Zc (nB l a0 b0 k).s (lr l k).msgs, []] = _
 rw [p.msgs, Zdu (Ju p.rst)]
theorem hs (p : LiftOf c l ss a0 b0 k h) : HSeat (Zm l 0) (nA l a0 b0 k) (nB l a0 b0 k) k h := by
 refine ⟨?_, p.ha, p.hb, XR _ _, XR _ _, fun s hs => ?_, fun s hs => ?_⟩
 ·rw [p.an, p.bn]
  have hv := p.hv
  exact ⟨hv.la, hv.lb, hv.aend, hv.bend, hv.aright.trans p.sb, hv.leaf, hv.inner, hv.size⟩
 ·rw [p.an, p.ams, XI hs]
  show ZQ [[], Zc s (nn l).msgs] = ZQ [Zc s (nn l).msgs, []]
  rw [Zdu (Ju p.rst), Zjj (Ju p.rst)]
 ·rw [p.bn, p.bms, XI hs]
  show ZQ [[], Zc s (nn l).msgs] = ZQ [Zc s (nn l).msgs, []]
  rw [Zdu (Ju p.rst), Zjj (Ju p.rst)]
theorem slot_at (p : LiftOf c l ss a0 b0 k h) {x : Seat} (hx : x ∈ ss) (h0 : ¬ x.n.level = 0) {j : Nat} (hj : j < x.n.kids.length) : x.n.kids.getD j 0 = (Zb l x j).n.slot := by
 have e := (p.t.at hx h0 hj)
 rw [List.getD_eq_getElem?_getD, List.getElem?_eq_getElem hj, e.2.2.1, (YI p.t.slot e.2.1).1]; rfl
theorem kid0 (p : LiftOf c l ss a0 b0 k h) {x : Seat} (hx : x ∈ ss) (h0 : ¬ x.n.level = 0) {j : Nat} (hj : j < x.n.kids.length) : Zw (ll l a0 b0 k) (x.n.kids.getD j 0) = Zw l (x.n.kids.getD j 0) := by
 rw [p.slot_at hx h0 hj]
 refine p.find_x (p.t.at hx h0 hj).1 fun e => ?_
 have hin : Zb l x j ∈ Zk l x := by rw [(Z8 (p.t.kids hx) h0).1]; exact List.mem_map.2 ⟨j, List.mem_range.2 hj, rfl⟩
 exact p.t.root_kid hx hin (by rw [e]; exact p.t.root0.symm)
theorem fixK (p : LiftOf c l ss a0 b0 k h) : (Z7 (ll l a0 b0 k) (nA l a0 b0 k)).isSome = true ∧ (Z7 (ll l a0 b0 k) (nB l a0 b0 k)).isSome = true ∧ Zk (ll l a0 b0 k) (nA l a0 b0 k) ++ Zk (ll l a0 b0 k) (nB l a0 b0 k) = Zk l (Zm l 0) := by
 refine HSeat.kids p.t p.t.root p.hs fun j hj => ?_
 by_cases h0 : (Zm l 0).n.level = 0
 ·have := (p.t.leaf p.t.root h0).1
  omega
 ·exact p.kid0 p.t.root h0 hj
theorem fixR (p : LiftOf c l ss a0 b0 k h) : (Z7 (ll l a0 b0 k) (nR l k)).isSome = true ∧ Zk (ll l a0 b0 k) (nR l k) = [nA l a0 b0 k, nB l a0 b0 k] := by
 have hl := p.t.lvl p.t.root
 obtain ⟨g1, g2⟩ := ZaG (l := ll l a0 b0 k) (x := nR l k) (by show 0 < (nn l).level + 1; have : 0 ≤ (nn l).level := hl; omega) (by rfl) fun j hj => by
  have hj : j < 2 := hj
  have e : ∀ z : Nd, z.level = (nn l).level → decide (z.level = (nR l k).n.level - 1) = true := fun z hz => by
   rw [decide_eq_true_eq, hz]
   show _ = (nn l).level + 1 - 1
   omega
  unfold XQ
  rcases Nat.lt_or_ge j 1 with h | h
  ·have : j = 0 := om9
   subst this
   show ((Zw _ (l.length : Int)).2 && _) = true
   rw [show (nR l k).n.kids.getD 0 0 = (l.length : Int) from rfl, p.find_a]
   exact e (la l a0) p.hv.la
  ·have : j = 1 := om9
   subst this
   show ((Zw _ ((l.length : Int) + 1)).2 && _) = true
   rw [show (nR l k).n.kids.getD 1 0 = (l.length : Int) + 1 from rfl, p.find_b]
   exact e (lb l b0) p.hv.lb
 exact ⟨g1, g2⟩
theorem fixX (p : LiftOf c l ss a0 b0 k h) {x : Seat} (hx : x ∈ ss) : (Z7 (ll l a0 b0 k) x).isSome = true ∧ Zk (ll l a0 b0 k) x = Zk l x := by
 by_cases h0 : x.n.level = 0
 ·rw [ZaM h0, Xz h0, Xz h0]; exact ⟨rfl, rfl⟩
 ·obtain ⟨h1, h2, h3, h4⟩ := Z8 (p.t.kids hx) h0
  obtain ⟨g1, g2⟩ := ZaG (l := ll l a0 b0 k) (x := x) h2 h3 fun j hj => by
   rw [ZbG (l' := l) (y := x) (j := j) (p.kid0 hx h0 hj) rfl]; exact h4 j hj
  refine ⟨g1, ?_⟩
  rw [g2, h1]
  exact List.map_congr_left fun j hj => ZbF (by rw [p.kid0 hx h0 (List.mem_range.1 hj)]) (fun _ => rfl) fun _ _ => rfl
noncomputable def rest (l : List Nd) (ss : List Seat) : List Seat := ss.flatMap (Zk l)
theorem in_rest (p : LiftOf c l ss a0 b0 k h) {x : Seat} (hx : x ∈ rest l ss) : x ∈ ss := by
 rw [p.t.fix]; exact List.mem_cons_of_mem _ hx
theorem rest_fix (p : LiftOf c l ss a0 b0 k h) : rest l ss = Zk l (Zm l 0) ++ (rest l ss).flatMap (Zk l) := by
 have h1 : rest l ss = (Zm l 0 :: rest l ss).flatMap (Zk l) := by
  conv => lhs; unfold rest; rw [p.t.fix]
  rfl
 rw [List.flatMap_cons] at h1
 exact h1
theorem flat_same {f g : Seat → List Seat} : ∀ {L : List Seat}, (∀ x ∈ L, f x = g x) → L.flatMap f = L.flatMap g
 | [], _ => rfl
 | x :: L, h => by rw [List.flatMap_cons, List.flatMap_cons, h x (by simp), flat_same fun z hz => h z (List.mem_cons_of_mem _ hz)]
noncomputable def seats (l : List Nd) (ss : List Seat) (a0 b0 : Nd) (k : Str) : List Seat := nR l k :: nA l a0 b0 k :: nB l a0 b0 k :: rest l ss
theorem fix (p : LiftOf c l ss a0 b0 k h) : seats l ss a0 b0 k = Zm (ll l a0 b0 k) 0 :: (seats l ss a0 b0 k).flatMap (Zk (ll l a0 b0 k)) := by
 rw [p.rroot]
 unfold seats
 rw [List.flatMap_cons, List.flatMap_cons, List.flatMap_cons, p.fixR.2, ← List.append_assoc (Zk _ (nA l a0 b0 k)), p.fixK.2.2, flat_same fun x hx => (p.fixX (p.in_rest hx)).2, ← p.rest_fix]
 rfl
theorem top (p : LiftOf c l ss a0 b0 k h) : (nn l).top = true ∧ (nn l).high = Str.nil ∧ (nn l).right = -1 := by
 have h1 := (p.t.seat p.t.root).2.1.1.1
 have h2 : (nn l).top = true := h1
 have h3 := (p.t.seat p.t.root).1.2.1 h2
 exact ⟨h2, h3.1, h3.2⟩
theorem perm (p : LiftOf c l ss a0 b0 k h) : ((seats l ss a0 b0 k).map fun x : Seat => x.n.slot).Perm ((ll l a0 b0 k).map fun n : Nd => n.slot) := by
 have h4 : ((ll l a0 b0 k).map fun n : Nd => n.slot) = (l.map fun n : Nd => n.slot) ++ [(l.length : Int), (l.length : Int) + 1] := by
  rw [ZaQ p.slots, ZaQ p.t.slot, p.len, List.range_succ, List.range_succ, List.map_append, List.map_append, List.append_assoc]; rfl
 have h5 := p.t.perm_s
 rw [p.t.fix] at h5
 rw [h4]
 refine List.Perm.trans ?_ (List.Perm.append_right _ h5)
 unfold seats
 rw [List.map_cons, List.map_cons, List.map_cons, List.map_cons, p.an, p.bn, List.cons_append]
 rw [show (nR l k).n.slot = (Zm l 0).n.slot from rfl]
 refine List.Perm.cons _ ?_
 exact (List.perm_append_comm (l₁ := [(l.length : Int), (l.length : Int) + 1]))
theorem lk (p : LiftOf c l ss a0 b0 k h) : LkK ((seats l ss a0 b0 k).map Seat.key) := by
 have h1 := (ZbE ss).1 p.t.q.1.2.1
 rw [p.t.fix, List.map_cons] at h1
 have e0 : Seat.key (Zm l 0) = ((nn l).slot, (nn l).level, -1) := by
  show ((nn l).slot, (nn l).level, (nn l).right) = _
  rw [p.top.2.2]
 rw [e0] at h1
 have h2 := ZpL (x := (l.length : Int)) (y := (l.length : Int) + 1) h1
 unfold seats
 rw [List.map_cons, List.map_cons, List.map_cons]
 have e1 : Seat.key (nR l k) = ((nn l).slot, (nn l).level + 1, -1) := by
  show ((nn l).slot, (nn l).level + 1, (nn l).right) = _
  rw [p.top.2.2]
 have e2 : Seat.key (nA l a0 b0 k) = ((l.length : Int), (nn l).level, (l.length : Int) + 1) := by
  unfold Seat.key; rw [p.an]
  show ((l.length : Int), a0.level, a0.right) = _
  rw [p.hv.la, p.hv.aright, p.sb]; rfl
 have e3 : Seat.key (nB l a0 b0 k) = ((l.length : Int) + 1, (nn l).level, -1) := by
  unfold Seat.key; rw [p.bn]
  show ((l.length : Int) + 1, b0.level, b0.right) = _
  rw [p.hv.lb, p.hv.bend.2.2, show (Zm l 0).n.right = (nn l).right from rfl, p.top.2.2]; rfl
 rw [e1, e2, e3]
 exact h2
theorem halfR (p : LiftOf c l ss a0 b0 k h) {z : Nd} (hz : z.R c.fan c.leaf c.bud) (s : Int) (hs : 0 ≤ s) : (Yk (nn l) z s).R c.fan c.leaf c.bud := by
 obtain ⟨⟨q1, q2, q3⟩, q4, q5, q6⟩ := hz
 have hc := p.t.cfg.2.2.1
 refine ⟨⟨hs, q2, ?_⟩, q4, q5, ?_⟩
 ·show 0 ≤ (if (nn l).level = 0 then z.seen else 0)
  split <;> omega
 ·by_cases h0 : z.level = 0
  ·rw [if_pos h0] at q6
   rw [if_pos (show (Yk (nn l) z s).level = 0 from h0)]
   obtain ⟨r1, r2, r3, r4⟩ := q6
   exact ⟨by show z.pivots.length + z.kids.length + 0 = 0; omega, r2, r3, r4⟩
  ·rw [if_neg h0] at q6
   rw [if_neg (show ¬ (Yk (nn l) z s).level = 0 from h0)]
   obtain ⟨r1, r4, r5, r6, r7, r8, r9⟩ := q6
   exact ⟨r1, r4, (fun i hi => absurd hi (Nat.not_lt_zero _)), by show (0 : Int) ≤ _; omega, r7, r8, fun i hi => absurd hi (Nat.not_lt_zero _)⟩
theorem rR (p : LiftOf c l ss a0 b0 k h) : (lr l k).R c.fan c.leaf c.bud := by
 obtain ⟨⟨q1, q2, q3⟩, q4, q5, q6⟩ := (p.t.seat p.t.root).1
 have hc := p.t.cfg
 have h0 : ¬ (lr l k).level = 0 := by show ¬ (nn l).level + 1 = 0; have : 0 ≤ (nn l).level := q2; omega
 have hn : MsgsR (lr l k).msgs ∧ Zx (lr l k).msgs ≤ c.bud ∧ ∀ i (h : i < (lr l k).msgs.length), (lr l k).fits (lr l k).msgs[i] := by
  by_cases h1 : (nn l).level = 0
  ·have e : (lr l k).msgs = [] := if_pos h1
   rw [e]
   exact ⟨fun i hi => absurd hi (Nat.not_lt_zero _), by show (0 : Int) ≤ _; have := hc.2.2.1; omega, fun i hi => absurd hi (Nat.not_lt_zero _)⟩
  ·have q6 : (nn l).innerR c.fan c.bud := p.t.inner p.t.root h1
   obtain ⟨r1, r4, r5, r6, r7, r8, r9⟩ := q6
   have e := p.msgs
   refine ⟨by rw [e]; exact r5, by rw [e]; exact r6, fun i hi => ?_⟩
   have hi2 : i < (nn l).msgs.length := by rw [← e]; exact hi
   have e2 : (lr l k).msgs[i] = (nn l).msgs[i] := by simp only [e]
   rw [e2]; exact r9 i hi2
 refine ⟨⟨q1, by show 0 ≤ (nn l).level + 1; have : 0 ≤ (nn l).level := q2; omega, q3⟩, q4, q5, ?_⟩
 rw [if_neg h0]
 refine ⟨⟨rfl, by show 2 ≤ 2; omega, by show ((2 : Nat) : Int) ≤ _; have := hc.1; omega⟩, by rfl, hn.1, hn.2.1, fun i hi => ?_, fun i hi => ?_, hn.2.2⟩
 ·have hm : (lr l k).kids[i] ∈ [(l.length : Int), (l.length : Int) + 1] := List.getElem_mem hi
  simp only [List.mem_cons, List.not_mem_nil, or_false] at hm
  omega
 ·have hm : (lr l k).pivots[i] ∈ [k] := List.getElem_mem hi
  rw [List.mem_singleton] at hm
  rw [hm]
  exact ⟨p.hv.size.1, p.hv.size.2, p.nk⟩
theorem rP (p : LiftOf c l ss a0 b0 k h) : PlacedP (nR l k) := by
 obtain ⟨p0, p3, p4, p5⟩ := (p.t.seat p.t.root).2.1
 refine ⟨p0, fun i hi => absurd hi (Nat.not_lt_zero _), fun i hi => ?_, fun i hi => ?_⟩
 ·have hm : (nR l k).n.pivots[i] ∈ [k] := List.getElem_mem hi
  rw [List.mem_singleton] at hm
  rw [hm]
  exact ⟨Zav k, p.hv.size.1⟩
 ·have e : (nR l k).n.msgs = (nn l).msgs := p.msgs
  have e2 : (nR l k).n.msgs[i] = (nn l).msgs[i]'(by rw [← e]; exact hi) := by simp only [e]
  rw [e2]
  exact p5 i (by rw [show (Zm l 0).n.msgs = (nn l).msgs from rfl, ← e]; exact hi)
theorem seatP (p : LiftOf c l ss a0 b0 k h) : ∀ z ∈ seats l ss a0 b0 k, SeatP c z := fun z hz => by
 have hsl := p.room
 have st : ∀ {s : Span} {ms : List Msg} {e : Nd}, e.seen = (nn l).seen → ms = Zc s (nn l).msgs → ∀ j (hj : j < ms.length), (if (nn l).level = 0 then e.seen else 0) < ms[j].stamp := fun es e j hj => by
  subst e
  by_cases h0 : (nn l).level = 0
  ·have : (nn l).msgs = [] := p.t.nomsgs p.t.root h0
   rw [this] at hj
   exact absurd hj (Nat.not_lt_zero _)
  ·rw [if_neg h0]
   obtain ⟨m0, hm0, e⟩ := JL (List.getElem_mem hj)
   have := ((p.t.msgs p.t.root).2.1 m0 hm0).1.1
   rw [e]; omega
 unfold seats at hz
 simp only [List.mem_cons] at hz
 have nil : ∀ {s : Span} (m : Msg), m ∈ ([] : List Msg) → ∃ m' ∈ (Zm l 0).n.msgs, (m'.clip s).2 = true ∧ (m'.clip s).1 = m := fun m hm => by cases hm
 rcases hz with rfl | rfl | rfl | hz
 ·exact ⟨p.rR, p.rP, by show (nn l).slot < _; rw [p.root0]; omega, fun j hj => absurd hj (Nat.not_lt_zero _)⟩
 ·refine ⟨by rw [p.an]; exact p.halfR p.aR _ om9, HSeat.placedA p.t p.t.root p.hs (by rfl) p.nk (by rw [p.an]; exact nil), by rw [p.an]; show (l.length : Int) < _; omega, fun j hj => ?_⟩
  rw [p.an]; exact st p.ea p.ams j hj
 ·refine ⟨by rw [p.bn]; exact p.halfR p.bR _ om9, HSeat.placedB p.t p.t.root p.hs (by rfl) p.nk (by rw [p.bn]; exact nil), by rw [p.bn]; show (l.length : Int) + 1 < _; omega, fun j hj => ?_⟩
  rw [p.bn]; exact st p.eb p.bms j hj
 ·exact p.t.seat (p.in_rest hz)
theorem tree (p : LiftOf c l ss a0 b0 k h) : Tree c (ll l a0 b0 k) (seats l ss a0 b0 k) := by
 have hfew := p.few
 have hroom := p.room
 refine Zdj p.t.cfg (by rw [p.len]; omega) (Zd2 p.t.cfg (by rw [p.len]; omega) fun n hn => ?_) p.slots p.fix (fun z hz => ?_) p.perm p.lk (by rw [p.len]; omega) p.seatP
 ·have old : ∀ n ∈ l, n.R c.fan c.leaf c.bud := fun n hn => by
   have := (p.t.perm.mem_iff).2 hn
   obtain ⟨x, hx, rfl⟩ := List.mem_map.1 this
   exact (p.t.seat hx).1
  unfold ll YS at hn
  rcases List.mem_append.1 hn with hn | hn
  ·rcases List.mem_or_eq_of_mem_set hn with hn | rfl
   ·exact old n hn
   ·exact p.rR
  ·simp only [List.mem_cons, List.not_mem_nil, or_false] at hn
   rcases hn with rfl | rfl
   ·exact p.halfR p.aR _ om9
   ·exact p.halfR p.bR _ om9
 ·unfold seats at hz
  simp only [List.mem_cons] at hz
  rcases hz with rfl | rfl | rfl | hz
  ·exact p.fixR.1
  ·exact p.fixK.1
  ·exact p.fixK.2.1
  ·exact (p.fixX (p.in_rest hz)).1
theorem map (p : LiftOf c l ss a0 b0 k h) : Zh (ll l a0 b0 k) = Zh l := by
 rw [JM p.tree.sts, JM p.t.sts]
 have h1 := HSeat.view p.t p.t.root p.hs (fun _ => by rw [p.ams, XI fun _ h => h]; rw [show (nn l).msgs = [] from p.t.nomsgs p.t.root (by assumption)]; rfl) (fun _ => by rw [p.bms, XI fun _ h => h]; rw [show (nn l).msgs = [] from p.t.nomsgs p.t.root (by assumption)]; rfl)
 have e2 : ¬ (nR l k).n.level = 0 := by show ¬ (nn l).level + 1 = 0; have : 0 ≤ (nn l).level := p.t.lvl p.t.root; omega
 have e3 : ZC ss = ZC [Zm l 0] ++ ZC (rest l ss) := by
  conv => lhs; rw [p.t.fix]
  unfold ZC
  rw [← List.filter_append]; rfl
 have e4 : ZC (seats l ss a0 b0 k) = ZC [nA l a0 b0 k, nB l a0 b0 k] ++ ZC (rest l ss) := by
  unfold ZC
  rw [← List.filter_append]
  unfold seats
  rw [List.filter_cons, if_neg (by simpa using e2)]; rfl
 rw [e3, e4, List.flatMap_append, List.flatMap_append, h1]
end LiftOf
theorem Zqs {c : Cfg} {l : List Nd} {ss : List Seat} (t : Tree c l ss) (room : (l.length : Int) + 1 < c.slots) (few : l.length + 2 ≤ 4096)
  (hc : (Z0 (Zm l 0).n l.length ((l.length : Int) + 1)).2.2.2 = true) :
  ∃ T, Tree c (YS l (Z0 (Zm l 0).n l.length ((l.length : Int) + 1)).1 (Z0 (Zm l 0).n l.length ((l.length : Int) + 1)).2.1 (Z0 (Zm l 0).n l.length ((l.length : Int) + 1)).2.2.1) T ∧
   Zh (YS l (Z0 (Zm l 0).n l.length ((l.length : Int) + 1)).1 (Z0 (Zm l 0).n l.length ((l.length : Int) + 1)).2.1 (Z0 (Zm l 0).n l.length ((l.length : Int) + 1)).2.2.1) = Zh l := by
 rw [J7] at hc
 have hR := (t.seat t.root).1
 have hRR := Zhb (slot := (l.length : Int) + 1) hR om9 hc
 obtain ⟨a, b, k, h, e, hv, g1, g2, g3, g4, g5, g6, g7⟩ := Zd1 (y := (l.length : Int) + 1) hR hc
 rw [ZaI hc, e]
 rw [e] at hRR
 have p : LiftOf c l ss a b k h := ⟨t, hv, g2, g3, g4, g7, hRR.1, hRR.2.1, room, few⟩
 have e9 : Yk (Zm l 0).n b b.slot = LiftOf.lb l b := by rw [g2]; rfl
 dsimp only
 rw [e9]
 exact ⟨_, p.tree, p.map⟩
theorem JU (n : Nd) (i : Int) : (Zo n i).2.2.2 = (Z9 n).2.2.2 := by
 cases h : (Z9 n).2.2.2
 ·rw [Zbo h]
 ·rw [Jn h]
theorem Zdv (n : Nd) (x y x' y' : Int) : (Z0 n x y).2.2.2 = (Z0 n x' y').2.2.2 := by rw [J7, J7, JU, JU]
def tk (l : List Nd) (x : Nd) : List Nd := l ++ [{ x with slot := l.length }]
theorem ZaJ (l : List Nd) (x : Nd) : (tk l x).length = l.length + 1 := by simp [tk]
theorem Zjl {n : Nat} {l : List Nd} {x : Nd} (h : l.length < n) : JS n l x = (((l.length : Int), 0), tk l x) := ZeS h
def ZN (c : Cfg) (l : List Nd) : Int × List Nd :=
 if (Z0 (Za l 0) l.length ((l.length : Int) + 1)).2.2.2 = false then (6, l)
 else if c.slots.toNat - l.length < 2 then (4, l)
 else (0, YS l (Z0 (Za l 0) l.length ((l.length : Int) + 1)).1 (Z0 (Za l 0) l.length ((l.length : Int) + 1)).2.1 (Z0 (Za l 0) l.length ((l.length : Int) + 1)).2.2.1)
theorem Zdw {c : Cfg} {l : List Nd} {x y : Int} (h : (Z0 (Za l 0) x y).2.2.2 = false) : ZN c l = (6, l) := if_pos (by rw [Zdv _ _ _ x y]; exact h)
theorem Za4 {c : Cfg} {l : List Nd} {x y : Int} (h : (Z0 (Za l 0) x y).2.2.2 = true) (hr : c.slots.toNat - l.length < 2) : ZN c l = (4, l) := by
 unfold ZN; rw [if_neg (by rw [Zdv _ _ _ x y, h]; simp), if_pos hr]
theorem ZbL {c : Cfg} {l : List Nd} {x y : Int} (h : (Z0 (Za l 0) x y).2.2.2 = true) (hr : ¬ c.slots.toNat - l.length < 2) :
  ZN c l = (0, YS l (Z0 (Za l 0) l.length ((l.length : Int) + 1)).1 (Z0 (Za l 0) l.length ((l.length : Int) + 1)).2.1 (Z0 (Za l 0) l.length ((l.length : Int) + 1)).2.2.1) := by
 unfold ZN; rw [if_neg (by rw [Zdv _ _ _ x y, h]; simp), if_neg hr]
theorem Zqt {n : Nd} {x y : Int} (h : (Z0 n x y).2.2.2 = true) (hk : (Zo n y).2.1.slot = y) : (Z0 n x y).1.slot = n.slot ∧ (Z0 n x y).2.1.slot = x ∧ (Z0 n x y).2.2.1.slot = y := by
 rw [J7] at h
 rw [ZaI h]
 exact ⟨rfl, rfl, hk⟩
theorem Zqu {n : Nd} {y : Int} (h : (Zo n y).2.2.2 = true) : (Zo n y).2.1.slot = y := by
 rw [JU] at h
 rw [Jn h]
theorem Zqv {n : Nd} {x y x' y' : Int} (h : (Z0 n x' y').2.2.2 = true) : (Z0 n x y).1.slot = n.slot ∧ (Z0 n x y).2.1.slot = x ∧ (Z0 n x y).2.2.1.slot = y := by
 have h2 : (Z0 n x y).2.2.2 = true := by rw [Zdv n x y x' y']; exact h
 exact Zqt h2 (Zqu (by rw [← J7 n x y]; exact h2))
theorem Zjm {l : List Nd} {A B : List Nd} {x y : Nd} (h : l = A ++ x :: B) (hy : y.slot.toNat = A.length) : l.set y.slot.toNat y = A ++ y :: B := by
 rw [h, hy, List.set_append_right _ _ (Nat.le_refl _), Nat.sub_self]; rfl
theorem Zqw {l : List Nd} {n r a b : Nd} (hr : r.slot = 0) (ha : a.slot = l.length) (hb : b.slot = (l.length : Int) + 1) (hp : 0 < l.length) : (((tk (tk l n) n).set r.slot.toNat r).set a.slot.toNat a).set b.slot.toNat b = YS l r a b := by
 have e1 : (tk (tk l n) n).set r.slot.toNat r = l.set 0 r ++ [{ n with slot := l.length }, { n with slot := (tk l n).length }] := by
  unfold tk
  rw [hr, List.append_assoc]
  show List.set _ 0 r = _
  rw [List.set_append_left _ _ hp]; rfl
 have l0 : (l.set 0 r).length = l.length := List.length_set
 rw [e1, Zjm (A := l.set 0 r) (B := [{ n with slot := (tk l n).length }]) (x := { n with slot := l.length }) rfl (by rw [l0]; omega)]
 rw [Zjm (A := l.set 0 r ++ [a]) (B := []) (x := { n with slot := (tk l n).length }) (by simp) (by rw [List.length_append, l0]; simp; omega)]
 unfold YS
 simp
theorem Zjn {c : Cfg} {l : List Nd} {ss : List Seat} (t : Tree c l ss) : ∃ T, Tree c (ZN c l).2 T ∧ Zh (ZN c l).2 = Zh l := by
 have hr : (Zm l 0).n = Za l 0 := t.rootn
 by_cases h1 : (Z0 (Za l 0) l.length ((l.length : Int) + 1)).2.2.2 = true
 ·by_cases h2 : c.slots.toNat - l.length < 2
  ·rw [Za4 h1 h2]; exact ⟨ss, t, rfl⟩
  ·rw [ZbL h1 h2]
   have hsl := t.cfg.2.2.2.1.2
   have := Zqs t om9 om9 (by rw [hr]; exact h1)
   rw [hr] at this
   exact this
 ·rw [Zdw (by simpa using h1)]; exact ⟨ss, t, rfl⟩
theorem Zfw (n : Nd) (i j : Int) : (Zo n i).2.2.1 = (Zo n j).2.2.1 := by
 cases h : (Z9 n).2.2.2
 ·rw [Zbo h, Zbo h]
 ·rw [Jn h, Jn h]
theorem Zjo (n : Nd) (i j : Int) : (Zo n i).2.2.2 = (Zo n j).2.2.2 := by rw [JU, JU]
theorem Zqx (p : List Str) (c : List Int) (i : Nat) (k : Str) (v w : Int) : (XU p c i k v).2.length = (XU p c i k w).2.length := by
 unfold XU
 split
 ·rfl
 ·simp
theorem Zjp (n : Nd) (i : Nat) (k : Str) (v w : Int) : (Y7 n i k v).2 = (Y7 n i k w).2 := by
 unfold Y7
 rw [Zqx _ _ _ _ v w]
 split <;> rfl
def kdN (l : List Nd) (p : Int) (i : Nat) : Int := (Za l p).kids.getD i 0
def ZS (l : List Nd) (p : Int) (i : Nat) : Nd × Nd × Str × Bool := Zo (Za l (kdN l p i)) l.length
def adP (l : List Nd) (p : Int) (i : Nat) : Nd × Bool := Y7 (Za l p) i (ZS l p i).2.2.1 l.length
def JG (l : List Nd) (p : Int) (i : Nat) : List Nd := ((l.set (ZS l p i).1.slot.toNat (ZS l p i).1).set p.toNat (adP l p i).1) ++ [(ZS l p i).2.1]
def Xm (c : Cfg) (l : List Nd) (p : Int) (i : Nat) : Int × List Nd :=
 if ¬ (0 ≤ p ∧ p < l.length) ∨ (Za l p).kids.length ≤ i ∨ ¬ (0 ≤ kdN l p i ∧ kdN l p i < l.length) then (8, l)
 else if ZK c (Za l p) = true then (9, l)
 else if (ZS l p i).2.2.2 = false ∨ (adP l p i).2 = false then (6, l)
 else if ¬ (l.length : Int) < c.slots then (4, l)
 else (0, JG l p i)
def ZG (c : Cfg) (l : List Nd) (p i : Int) : Int × List Nd := if i < 0 then (8, l) else Xm c l p i.toNat
theorem Zaq {c : Cfg} {l : List Nd} {p : Int} {i : Nat} (h : ¬ (0 ≤ p ∧ p < l.length) ∨ (Za l p).kids.length ≤ i ∨ ¬ (0 ≤ kdN l p i ∧ kdN l p i < l.length)) : Xm c l p i = (8, l) := if_pos h
theorem Zfx {c : Cfg} {l : List Nd} {p : Int} {i : Nat} (h1 : 0 ≤ p ∧ p < l.length) (h2 : ¬ (Za l p).kids.length ≤ i) (h3 : 0 ≤ kdN l p i ∧ kdN l p i < l.length) (h : ZK c (Za l p) = true) : Xm c l p i = (9, l) := by
 unfold Xm; rw [if_neg (by rintro (h | h | h); exact h h1; exact h2 h; exact h h3), if_pos h]
theorem ZbM {c : Cfg} {l : List Nd} {p : Int} {i : Nat} (h1 : 0 ≤ p ∧ p < l.length) (h2 : ¬ (Za l p).kids.length ≤ i) (h3 : 0 ≤ kdN l p i ∧ kdN l p i < l.length) (h4 : ZK c (Za l p) = false) (h : (ZS l p i).2.2.2 = false ∨ (adP l p i).2 = false) : Xm c l p i = (6, l) := by
 unfold Xm; rw [if_neg (by rintro (h | h | h); exact h h1; exact h2 h; exact h h3), if_neg (by rw [h4]; simp), if_pos h]
theorem Zdx {c : Cfg} {l : List Nd} {p : Int} {i : Nat} (h1 : 0 ≤ p ∧ p < l.length) (h2 : ¬ (Za l p).kids.length ≤ i) (h3 : 0 ≤ kdN l p i ∧ kdN l p i < l.length) (h4 : ZK c (Za l p) = false) (h5 : (ZS l p i).2.2.2 = true) (h6 : (adP l p i).2 = true) (h : ¬ (l.length : Int) < c.slots) : Xm c l p i = (4, l) := by
 unfold Xm; rw [if_neg (by rintro (h | h | h); exact h h1; exact h2 h; exact h h3), if_neg (by rw [h4]; simp), if_neg (by rw [h5, h6]; simp), if_pos h]
theorem Zdy {c : Cfg} {l : List Nd} {p : Int} {i : Nat} (h1 : 0 ≤ p ∧ p < l.length) (h2 : ¬ (Za l p).kids.length ≤ i) (h3 : 0 ≤ kdN l p i ∧ kdN l p i < l.length) (h4 : ZK c (Za l p) = false) (h5 : (ZS l p i).2.2.2 = true) (h6 : (adP l p i).2 = true) (h : (l.length : Int) < c.slots) : Xm c l p i = (0, JG l p i) := by
 unfold Xm; rw [if_neg (by rintro (h | h | h); exact h h1; exact h2 h; exact h h3), if_neg (by rw [h4]; simp), if_neg (by rw [h5, h6]; simp), if_neg (by simpa using h)]
theorem Zfy {l : List Nd} {p : Int} {i : Nat} (h : (ZS l p i).2.2.2 = true) : (ZS l p i).1.slot = (Za l (kdN l p i)).slot ∧ (ZS l p i).2.1.slot = l.length := by
 have hh : (Z9 (Za l (kdN l p i))).2.2.2 = true := by rw [← JU _ (l.length : Int)]; exact h
 unfold ZS
 rw [Jn hh]
 refine ⟨?_, rfl⟩
 show (Z9 (Za l (kdN l p i))).1.slot = _
 by_cases h0 : (Za l (kdN l p i)).level = 0
 ·rw [Zag h0]
 ·cases h2 : YC (Za l (kdN l p i)).pivots (Za l (kdN l p i)).kids.length
  ·rw [Zbn h0 h2]
  ·rw [ZaB h0 h2]
theorem Zjq {l : List Nd} {p : Int} {i : Nat} (h : (adP l p i).2 = true) : (adP l p i).1.slot = (Za l p).slot := by
 unfold adP Y7 at *
 split
 ·rename_i h2; rw [if_pos h2] at h; cases h
 ·rfl
theorem Zqy {l : List Nd} {n a b r : Nd} {p : Int} (ha : 0 ≤ a.slot ∧ a.slot < l.length) (hb : b.slot = l.length) (hr : r.slot = p) (hp : 0 ≤ p ∧ p < l.length) :
  (((tk l n).set a.slot.toNat a).set b.slot.toNat b).set r.slot.toNat r = ((l.set a.slot.toNat a).set p.toNat r) ++ [b] := by
 unfold tk
 rw [List.set_append_left _ _ om9, hb, hr]
 have l1 : (l.set a.slot.toNat a).length = l.length := List.length_set
 rw [show ((l.length : Int)).toNat = (l.set a.slot.toNat a).length by rw [l1]; omega, List.set_append_right _ _ (Nat.le_refl _), Nat.sub_self, List.set_append_left _ _ om9]
 rfl
theorem Zqz {c : Cfg} {l : List Nd} {ss : List Seat} (t : Tree c l ss) (p i : Int) : ∃ T, Tree c (ZG c l p i).2 T ∧ Zh (ZG c l p i).2 = Zh l := by
 unfold ZG
 split
 ·exact ⟨ss, t, rfl⟩
 ·generalize i.toNat = j
  by_cases h1 : 0 ≤ p ∧ p < l.length
  ·by_cases h2 : (Za l p).kids.length ≤ j
   ·rw [Zaq (.inr (.inl h2))]; exact ⟨ss, t, rfl⟩
   ·by_cases h3 : 0 ≤ kdN l p j ∧ kdN l p j < l.length
    ·cases h4 : ZK c (Za l p)
     ·by_cases h5 : (ZS l p j).2.2.2 = true
      ·by_cases h6 : (adP l p j).2 = true
       ·by_cases h7 : (l.length : Int) < c.slots
        ·rw [Zdy h1 h2 h3 h4 h5 h6 h7]
         obtain ⟨g1, g2⟩ := YI t.slot h1
         obtain ⟨P, hP, eP⟩ := List.mem_map.1 ((t.perm.mem_iff).2 g2)
         have hj : j < P.n.kids.length := by rw [eP]; omega
         have h0 : ¬ P.n.level = 0 := fun h0 => by have := (t.leaf hP h0).1; omega
         have hat := t.at hP h0 hj
         have ek : (Zb l P j).n = Za l (kdN l p j) := by
          rw [hat.2.2.1]
          unfold kdN
          rw [← eP, List.getD_eq_getElem?_getD, List.getElem?_eq_getElem hj]; rfl
         have hfull : (P.n.kids.length : Int) < c.fan := by
          unfold ZK at h4
          rw [if_neg (by rw [← eP]; exact h0), decide_eq_false_iff_not] at h4
          rw [eP]; omega
         unfold adP ZS at h6
         unfold ZS at h5
         rw [← ek] at h5 h6
         rw [← eP] at h6
         have hsl := t.cfg.2.2.2.1.2
         have key := Zqp t hP h0 hj hfull h7 om9 h5 h6
         obtain ⟨e9, h, q⟩ := key
         have el : JG l p j = ZR l P.n j (Zo (Zb l P j).n l.length).1 (Zo (Zb l P j).n l.length).2.1 (Zo (Zb l P j).n l.length).2.2.1 := by
          unfold JG adP ZS ZR
          rw [← ek, ← eP, e9]
          have : P.n.slot = p := by rw [eP]; exact g1
          rw [this]
         rw [el]
         exact ⟨_, q.tree, q.map⟩
        ·rw [Zdx h1 h2 h3 h4 h5 h6 h7]; exact ⟨ss, t, rfl⟩
       ·rw [ZbM h1 h2 h3 h4 (.inr (by simpa using h6))]; exact ⟨ss, t, rfl⟩
      ·rw [ZbM h1 h2 h3 h4 (.inl (by simpa using h5))]; exact ⟨ss, t, rfl⟩
     ·rw [Zfx h1 h2 h3 h4]; exact ⟨ss, t, rfl⟩
    ·rw [Zaq (.inr (.inr h3))]; exact ⟨ss, t, rfl⟩
  ·rw [Zaq (.inl h1)]; exact ⟨ss, t, rfl⟩
theorem OwnR.cast {α : Type} {e : Enc α} {T : TypeId} {G : GH} {v : Value} {l l' : List α} {Ms : MH} (h : OwnR e T G v l Ms) (h2 : l = l') : OwnR e T G v l' Ms := h2 ▸ h
def wOf (P : List Str) (F : List Msg) (i : Nat) : Int := Zx (F.filter fun m => decide (Ze P m.key = i))
def YT (w : Nat → Int) : Nat → Nat
 | 0 => 0
 | k + 1 => if w (YT w k) < w k then k else YT w k
theorem ZqA {w : Nat → Int} {k : Nat} (h : w (YT w k) < w k) : YT w (k + 1) = k := if_pos h
theorem ZqB {w : Nat → Int} {k : Nat} (h : ¬ w (YT w k) < w k) : YT w (k + 1) = YT w k := if_neg h
theorem Zfz (w : Nat → Int) : ∀ k, YT w k < k ∨ (k = 0 ∧ YT w k = 0)
 | 0 => .inr ⟨rfl, rfl⟩
 | k + 1 => by
  left
  unfold YT
  split
  ·omega
  ·rcases Zfz w k with h | h <;> omega
theorem ZfA (w : Nat → Int) : ∀ k j, j < k → w j ≤ w (YT w k)
 | 0, j, h => absurd h (Nat.not_lt_zero j)
 | k + 1, j, h => by
  unfold YT
  split
  ·rename_i h2
   by_cases e : j = k
   ·rw [e]; exact Int.le_refl _
   ·have := ZfA w k j om9; omega
  ·rename_i h2
   by_cases e : j = k
   ·rw [e]; omega
   ·exact ZfA w k j om9
def Xx (P : List Str) (l : List Msg) : Int × Bool := if l.length = 0 then (0, false) else (((YT (wOf P (Zj l)) (P.length + 1) : Nat) : Int), true)
theorem ZfB (P : List Str) (F : List Msg) (i : Nat) : 0 ≤ wOf P F i := by
  unfold wOf
  generalize F.filter _ = L
  induction L with
  | nil => exact Int.le_refl 0
  | cons m L ih => have := Zi1 m; have e : Zx (m :: L) = m.size + Zx L := by simp [Zx]
                   rw [e]; omega
theorem ZqC (P : List Str) (F : List Msg) (i : Nat) (h : ∀ m ∈ F, m.key.b.size ≤ 16 ∧ m.val.b.size ≤ 16) : wOf P F i ≤ 36 * F.length := by
 have h1 := Zdr (l := F.filter fun m => decide (Ze P m.key = i)) fun m hm => h m (List.mem_filter.1 hm).1
 have h2 := List.length_filter_le (fun m : Msg => decide (Ze P m.key = i)) F
 have := h1.2
 unfold wOf
 omega
theorem Zjr {P : List Str} {F : List Msg} {q i : Nat} (hq : q < F.length) (h : Ze P F[q].key = i) : wOf P (F.take (q + 1)) i = wOf P (F.take q) i + F[q].size := by
 unfold wOf
 rw [ZaC (p := fun m : Msg => decide (Ze P m.key = i)) hq (by simp [h]), Zdm]
 simp [Zx]
theorem ZqD {P : List Str} {F : List Msg} {q i : Nat} (hq : q < F.length) (h : ¬ Ze P F[q].key = i) : wOf P (F.take (q + 1)) i = wOf P (F.take q) i := by
 unfold wOf
 rw [Zai (p := fun m : Msg => decide (Ze P m.key = i)) hq (by simp [h])]
theorem ZqE {l : List Msg} (h : 0 < l.length) : 0 < (Zj l).length := by
 unfold Zj
 have h1 := Ze6 isW l
 split
 ·exact h
 ·split
  ·rw [List.length_take]; omega
  ·rw [List.length_take]; omega
theorem ZqF {P : List Str} {l : List Msg} (h : 0 < l.length) : 0 < wOf P (Zj l) (YT (wOf P (Zj l)) (P.length + 1)) := by
 have h0 := ZqE h
 have hr : Ze P ((Zj l)[0]).key ≤ P.length := List.length_filter_le _ _
 have hm := ZfA (wOf P (Zj l)) (P.length + 1) (Ze P ((Zj l)[0]).key) om9
 have : 0 < wOf P (Zj l) (Ze P ((Zj l)[0]).key) := by
  have e : (Zj l).take 1 ++ (Zj l).drop 1 = Zj l := List.take_append_drop _ _
  have h1 := Zjr (P := P) (F := Zj l) (q := 0) h0 rfl
  have h2 : 0 < ((Zj l)[0]).size := by unfold Msg.size; split <;> omega
  have h3 : wOf P (Zj l) (Ze P ((Zj l)[0]).key) = wOf P ((Zj l).take 1) (Ze P ((Zj l)[0]).key) + wOf P ((Zj l).drop 1) (Ze P ((Zj l)[0]).key) := by
   generalize Ze P ((Zj l)[0]).key = z
   conv => lhs; rw [← e]
   unfold wOf
   rw [List.filter_append, Zdm]
  have h4 := ZfB P ((Zj l).take 0) (Ze P ((Zj l)[0]).key)
  have h5 := ZfB P ((Zj l).drop 1) (Ze P ((Zj l)[0]).key)
  rw [h3]
  rw [show (0 + 1 : Nat) = 1 from rfl] at h1
  omega
 omega
theorem Zjs {P : List Str} {l : List Msg} (h : ¬ 0 < l.length) : Xx P l = (0, false) := by unfold Xx; rw [if_pos om9]
theorem ZfC {P : List Str} {l : List Msg} (h : 0 < l.length) : Xx P l = (((YT (wOf P (Zj l)) (P.length + 1) : Nat) : Int), true) := by unfold Xx; rw [if_neg om9]
theorem ZqG {P : List Str} {l : List Msg} : 0 ≤ (Xx P l).1 ∧ (Xx P l).1 ≤ P.length := by
 unfold Xx
 split
 ·exact ⟨Int.le_refl 0, om9⟩
 ·rcases Zfz (wOf P (Zj l)) (P.length + 1) with h | h
  ·dsimp only; omega
  ·omega
def wts (P : List Str) (F : List Msg) : List Int := (List.range (P.length + 1)).map (wOf P F)
theorem ZcA (P : List Str) (F : List Msg) : (wts P F).length = P.length + 1 := by simp [wts]
theorem Zar {P : List Str} {F : List Msg} {i : Nat} (h : i < (wts P F).length) : (wts P F)[i] = wOf P F i := by simp [wts]
theorem ZqH (P : List Str) : List.replicate (P.length + 1) (0 : Int) = wts P [] := by
 refine List.ext_getElem (by simp [wts]) fun i h1 h2 => ?_
 rw [Zar h2]
 simp [wOf, Zx]
theorem Zjt {P : List Str} {F : List Msg} {q : Nat} (hq : q < F.length) (h : Ze P F[q].key < (wts P (F.take q)).length) : (wts P (F.take q)).set (Ze P F[q].key) ((wts P (F.take q))[Ze P F[q].key] + F[q].size) = wts P (F.take (q + 1)) := by
 refine List.ext_getElem (by rw [List.length_set, ZcA, ZcA]) fun i h1 h2 => ?_
 rw [Zar h2, List.getElem_set]
 rw [List.length_set] at h1
 split
 ·rename_i e
  subst e
  rw [Zar h1, Zjr hq rfl]
 ·rename_i e
  rw [Zar h1, ZqD hq e]
def Zv (c : Cfg) (n : Nd) (k : Str) : Int × Int :=
 if n.level = 0 then (0, 0) else if n.slot = 0 ∧ ZK c n = true then (1, 0) else (2, if (Xx n.pivots n.msgs).2 = true then (Xx n.pivots n.msgs).1 else ((Ze n.pivots k : Nat) : Int))
noncomputable def ZV (c : Cfg) (p k : Nd) (i : Int) : Int :=
 if 0 < k.level ∧ ZK c k = true then (if ZK c p = true then 0 else 3) else if 0 < ZO c.leaf c.bud p k i then 4 else if 0 < k.level then 5 else if 0 < (Zd p.pivots p.msgs i).length then (if ZK c p = true then 0 else 3) else 0
theorem ZqI (leaf bud : Int) (p k : Nd) (i : Int) : (ZU leaf bud p k i).2.2 = ZO leaf bud p k i := by
 unfold ZU
 split
 ·rename_i h; rw [h]
 ·rfl
theorem Zju {c : Cfg} {n : Nd} {k : Str} (h : n.level = 0) : Zv c n k = (0, 0) := if_pos h
theorem ZfD {c : Cfg} {n : Nd} {k : Str} (h : ¬ n.level = 0) (h2 : n.slot = 0) (h3 : ZK c n = true) : Zv c n k = (1, 0) := by unfold Zv; rw [if_neg h, if_pos ⟨h2, h3⟩]
theorem ZfE {c : Cfg} {n : Nd} {k : Str} (h : ¬ n.level = 0) (h2 : ¬ (n.slot = 0 ∧ ZK c n = true)) (h3 : (Xx n.pivots n.msgs).2 = true) : Zv c n k = (2, (Xx n.pivots n.msgs).1) := by unfold Zv; rw [if_neg h, if_neg h2, if_pos h3]
theorem ZfF {c : Cfg} {n : Nd} {k : Str} (h : ¬ n.level = 0) (h2 : ¬ (n.slot = 0 ∧ ZK c n = true)) (h3 : (Xx n.pivots n.msgs).2 = false) : Zv c n k = (2, ((Ze n.pivots k : Nat) : Int)) := by unfold Zv; rw [if_neg h, if_neg h2, if_neg (by simp [h3])]
section
variable {c : Cfg} {p k : Nd} {i : Int}
theorem Zjv (h : 0 < k.level) (h2 : ZK c k = true) : ZV c p k i = if ZK c p = true then 0 else 3 := if_pos ⟨h, h2⟩
theorem Zdz (h : ¬ (0 < k.level ∧ ZK c k = true)) (hc : 0 < ZO c.leaf c.bud p k i) : ZV c p k i = 4 := by unfold ZV; rw [if_neg h, if_pos hc]
theorem ZdA (h : ¬ (0 < k.level ∧ ZK c k = true)) (hc : ¬ 0 < ZO c.leaf c.bud p k i) (h0 : 0 < k.level) : ZV c p k i = 5 := by unfold ZV; rw [if_neg h, if_neg hc, if_pos h0]
theorem ZdB (hc : ¬ 0 < ZO c.leaf c.bud p k i) (h0 : ¬ 0 < k.level) (hw : 0 < (Zd p.pivots p.msgs i).length) : ZV c p k i = if ZK c p = true then 0 else 3 := by unfold ZV; rw [if_neg (fun h => h0 h.1), if_neg hc, if_neg h0, if_pos hw]
theorem ZdC (hc : ¬ 0 < ZO c.leaf c.bud p k i) (h0 : ¬ 0 < k.level) (hw : ¬ 0 < (Zd p.pivots p.msgs i).length) : ZV c p k i = 0 := by unfold ZV; rw [if_neg (fun h => h0 h.1), if_neg hc, if_neg h0, if_neg hw]
end
def ChoosePre (n : Nd) : Prop := ¬ n.level = 0 → ZX n.pivots = true ∧ (∀ m ∈ n.msgs, m.key.b.size ≤ 16 ∧ m.val.b.size ≤ 16) ∧ n.msgs.length ≤ 100000 ∧ n.pivots.length ≤ 100000
theorem ZqJ {c : Cfg} {n : Nd} (h : n.R c.fan c.leaf c.bud) (s : NdS n) : ChoosePre n := fun h0 => by
 have h4 := h.2.2.2
 rw [if_neg h0] at h4
 obtain ⟨_, s2, s3, _⟩ := s
 exact ⟨(YR h4.2.1).1, fun m hm => YZ (Zgt h m hm), om9, om9⟩
end Go.Fw
namespace Go.Proofs.YtbbemibbmbmamaaGreat
open Go Go.Fw Go.RowKit
attribute [local irreducible] Ok W WC
theorem Zjw {G : GH} {v_P : Value} {P : List Str} (h_P : SlR Yf G v_P P) {v_l : Value} {l : List Msg} (h_l : SlR Zs G v_l l) (hs : ∀ m ∈ l, m.key.b.size ≤ 16 ∧ m.val.b.size ≤ 16) (hl9 : l.length ≤ 100000 ∧ P.length ≤ 100000) (hr : ZX P = true) :
    Fc Tryz.prog 191 [v_P, v_l] G [] (fun v _ _ => v = .tuple #[iV ((Xx P l).1), .bool ((Xx P l).2)]) := by
 obtain ⟨sa_P, sc_P, rfl⟩ := h_P.form
 obtain ⟨sa_l, sc_l, rfl⟩ := h_l.form
 have hl := h_l.len47
 have hlP := h_P.len47
 have hfl := Zfn l
 have hfs : ∀ m ∈ Zj l, m.key.b.size ≤ 16 ∧ m.val.b.size ≤ 16 := fun m h => hs m (Zdq h)
 refine Fc.go [.tmp 4, .tmp 5] Tryz.func191 Tryz.ntmps191 rfl (fun w0 => (g9 14 ?_))
 refine WC.cd (fun h14 p14 => ?_) (fun h14 p14 => ?_)
 ·refine g9 9 ?_
  show Value.tuple #[Value.int _ _, Value.bool _] = _
  rw [Zjs om9]
 refine g9 6 ?_
 refine W.ok (Ok.int (n := ((P.length + 1 : Nat) : Int)) (YV rfl rfl om9) om9) (W.mkSl (e := ZA) (a0 := (0 : Int)) (n := P.length + 1) Z5 ty3 zr3 rfl by3 (⟨rfl, by decide, by decide⟩) rfl rfl (by first | (show _ * 8 ≤ 140737488355328; omega) | (show _ * 8 ≤ 16777216; omega) | (show _ * 1 ≤ 16777216; omega)) (by first | (show _ * 8 ≤ 140737488355328; omega) | (show _ * 8 ≤ 16777216; omega) | (show _ * 1 ≤ 16777216; omega)) (fun v1 Ms2 ho3 => ?_))
 have q7 := ho3.form
 refine match q7 with | ⟨sa4, sc5, e_6⟩ => ?_
 subst e_6
 refine g9 7 ?_
 refine W.cS (Zjh h_l) rfl (fun sa_hv9 sc_hv9 G8 hG8 hv9 => (g9 5 ?_))
 refine WC.loop (X := (Nat) × Value × MH) (fun q => [(22, nt9 q.1), (0, lV sa_P P.length sc_P), (20, lV sa_hv9 ((Zj l)).length sc_hv9), (21, nt9 (((Zj l)).length)), (6, q.2.1)]) (fun q G Ml => Ml = (q.2.2 ++ []) ∧ OwnR ZA 3 G q.2.1 (wts P ((Zj l).take q.1)) q.2.2 ∧ q.1 ≤ (Zj l).length) (fun q => (Zj l).length - q.1) (0, lV sa4 ((List.replicate (P.length + 1) (0 : Int))).length sc5, Ms2) hs9 ?_ ?_
 ·exact ⟨rfl, (by exact OwnR.cast (ho3.mono hG8) (ZqH P)), om9⟩
 rintro ⟨q, v_6, M_6⟩ gG15 G15 _ hG15 ⟨rfl, ho_6, hq⟩
 try dsimp only at ho_6 hq
 have hwl := ZcA P ((Zj l).take q)
 refine WC.fr (f := ZZ gG15 [(22, nt9 q), (0, lV sa_P P.length sc_P), (20, lV sa_hv9 ((Zj l)).length sc_hv9), (21, nt9 (((Zj l)).length)), (6, v_6)]) rfl (g9 6 ?_)
 refine WC.cd (fun h23 p23 => ?_) (fun h23 p23 => ?_)
 ·have hrl : (Ze P ((Zj l)[q]'om9).key) < (wts P ((Zj l).take q)).length := by rw [ZcA]; have : (Ze P ((Zj l)[q]'om9).key) ≤ P.length := List.length_filter_le _ _; omega
  have hg9 := Zar hrl
  have hb9 := ZqC P ((Zj l).take q) (Ze P ((Zj l)[q]'om9).key) (fun m h => hfs m (List.mem_of_mem_take h))
  have hb8 := ZfB P ((Zj l).take q) (Ze P ((Zj l)[q]'om9).key)
  have ht9 : ((Zj l).take q).length ≤ 100000 := by rw [List.length_take]; omega
  have hz9 := ZcX (hfs _ (List.getElem_mem (by omega : q < (Zj l).length)))
  have hwi : i64 ((wts P ((Zj l).take q))[(Ze P ((Zj l)[q]'om9).key)]'hrl + ((Zj l)[q]'om9).size) := ⟨om9, om9⟩
  have he9 : Msg.size ⟨((Zj l)[q]'om9).stamp, ((Zj l)[q]'om9).kind, ((Zj l)[q]'om9).key, ((Zj l)[q]'om9).hi, ((Zj l)[q]'om9).opn, ((Zj l)[q]'om9).val⟩ = ((Zj l)[q]'om9).size := rfl
  refine g9 6 ?_
  refine (hv9.mono hG15).a2 (i := q) om9 (fun he16 hm17 => (g9 2 ?_))
  refine W.alloc ZT (fun b21 => (g9 3 ?_))
  refine WC.dw sn9.k9 (d9 [0, 1, 2, 3, 7] ?_)
  refine WD.a1 4 rfl (W.qcall (ZbD (h_P.mono lec) _ hr) rfl (W.nn (ho_6.a2 (i := (Ze P ((Zj l)[q]'om9).key)) om9 (fun he22 hi23 => (WD.tk 5 rfl (Yu (i := (Ze P ((Zj l)[q]'om9).key)) Z5 ty3 ho_6 rfl rfl ⟨rfl, om9⟩) ?_)))))
  refine WD.any [6, 8] (by kernel_rfl) rfl ⟨WD.ap ?_, WD.ap ?_, trivial⟩
  ·refine W.ok (Y1 (vs := ic9) ty3 he22 (pmC pr9) rfl rfl rfl (by simp)) (W.nn (WD.a1 8 rfl (W.qcall (Zds _ _ _ _ _ _) rfl (W.nn (d9 [9] ?_)))))
   refine ho_6.a2 (i := (Ze P ((Zj l)[q]'om9).key)) om9 (fun he26 hi27 => (WD.tk 10 rfl (Yu (i := (Ze P ((Zj l)[q]'om9).key)) Z5 ty3 ho_6 rfl rfl ⟨rfl, om9⟩) (WD.a1 11 rfl (W.storeO (i := (Ze P ((Zj l)[q]'om9).key)) (o := 0) (vs := ic9) (a' := ((wts P ((Zj l).take q))[(Ze P ((Zj l)[q]'om9).key)]'hrl + ((Zj l)[q]'om9).size)) ty3 rfl rfl rfl rfl rfl (ho_6) (pmC pr9) om9 (by decide) (fun cs h => by rw [h.1]; exact ⟨rfl, hwi⟩) (fun Ms30 ho31 => (W.perm (pmC pr9).symm (W.nn (WD.done (by kernel_rfl) (JX (Xf (g9 3 ?_)))))))))))
   refine W.sub (sr9.cons _) (g9 2 ?_)
   exact ⟨Le.rfl, (q + 1, v_6, Ms30), hs9, ⟨rfl, (by have h := ho31; rw [Zjt om9 hrl] at h; exact h), om9⟩, om9⟩
  refine W.qcall (Zds _ _ _ _ _ _) rfl (W.nn (WD.a1 6 rfl (W.ok (Y1 (vs := ic9) ty3 he22 (pmC pr9) rfl rfl rfl (by simp)) (W.nn (d9 [9] ?_)))))
  refine ho_6.a2 (i := (Ze P ((Zj l)[q]'om9).key)) om9 (fun he32 hi33 => (WD.tk 10 rfl (Yu (i := (Ze P ((Zj l)[q]'om9).key)) Z5 ty3 ho_6 rfl rfl ⟨rfl, om9⟩) (WD.a1 11 rfl (W.storeO (i := (Ze P ((Zj l)[q]'om9).key)) (o := 0) (vs := ic9) (a' := ((wts P ((Zj l).take q))[(Ze P ((Zj l)[q]'om9).key)]'hrl + ((Zj l)[q]'om9).size)) ty3 rfl rfl rfl rfl rfl (ho_6) (pmC pr9) om9 (by decide) (fun cs h => by rw [h.1]; exact ⟨rfl, hwi⟩) (fun Ms36 ho37 => (W.perm (pmC pr9).symm (W.nn (WD.done (by kernel_rfl) (JX (Xf (g9 3 ?_)))))))))))
  refine W.sub (sr9.cons _) (g9 2 ?_)
  exact ⟨Le.rfl, (q + 1, v_6, Ms36), hs9, ⟨rfl, (by have h := ho37; rw [Zjt om9 hrl] at h; exact h), om9⟩, om9⟩
 refine g9 6 ?_
 have hw38 := ho_6
 rw [List.take_of_length_le (by omega : (Zj l).length ≤ q)] at hw38
 refine g9 13 ?_
 refine WC.loop (X := Nat) (fun k => [(9, nt9 ((YT (wOf P (Zj l)) k))), (40, nt9 k), (6, v_6), (38, v_6), (39, nt9 (((wts P (Zj l))).length))]) (fun k _ Ml => Ml = (M_6 ++ []) ∧ k ≤ P.length + 1) (fun k => P.length + 1 - k) 0 hs9 ?_ ?_
 ·exact ⟨rfl, om9⟩
 rintro k gG39 G39 _ hG39 ⟨rfl, hk⟩
 have hbl := Zfz (wOf P (Zj l)) k
 have hwl9 := ZcA P (Zj l)
 refine g9 6 ?_
 refine WC.cd (fun h41 p41 => ?_) (fun h41 p41 => ?_)
 ·refine g9 7 ?_
  refine (hw38.mono hG39).a2 (i := k) om9 (fun he40 hi41 => (W.ok (Yu (i := k) Z5 ty3 (hw38.mono hG39) rfl rfl ⟨om9, om9⟩) (W.ok (Y1 (vs := ic9) ty3 he40 pr9 rfl rfl rfl (by simp)) (g9 9 ?_))))
  refine (hw38.mono hG39).a2 (i := (YT (wOf P (Zj l)) k)) om9 (fun he44 hi45 => (W.ok (Yu (i := (YT (wOf P (Zj l)) k)) Z5 ty3 (hw38.mono hG39) rfl rfl ⟨rfl, om9⟩) (W.ok (Y1 (vs := ic9) ty3 he44 pr9 rfl rfl rfl (by simp)) (g9 3 ?_))))
  refine WC.cd (fun h50 p50 => ?_) (fun h50 p50 => ?_)
  ·refine g9 11 ?_
   exact ⟨Le.rfl, k + 1, ⟨(iv (by rw [ZqA (by rw [Zar, Zar] at p50; omega)])), eqv, eqv, eqv, eqv, trivial⟩, ⟨rfl, om9⟩, om9⟩
  refine g9 8 ?_
  exact ⟨Le.rfl, k + 1, ⟨(iv (by rw [ZqB (by rw [Zar, Zar] at p50; omega)])), eqv, eqv, eqv, eqv, trivial⟩, ⟨rfl, om9⟩, om9⟩
 refine g9 14 ?_
 show Value.tuple #[Value.int _ _, Value.bool _] = _
 rw [ZfC om9, show k = P.length + 1 by omega]

theorem ZqK {G : GH} {v_p : Value} {p : List Str} (h_p : SlR Yf G v_p p) {v_c : Value} {c : List Int} (h_c : SlR ZA G v_c c) :
    Fc Tryz.prog 177 [v_p, v_c] G [] (fun v G' M' => M' = [] ∧ ∃ r : List Str × List Int × Str × List Str × List Int × Bool, r = Xb p c ∧ ∃ u0 u1 u2 u3, v = .tuple #[u0, u1, sV (Str.b (r.2.2.1)), u2, u3, .bool (r.2.2.2.2.2)] ∧ SlR Yf G' u0 (r.1) ∧ SlR ZA G' u1 (r.2.1) ∧ SlR Yf G' u2 (r.2.2.2.1) ∧ SlR ZA G' u3 (r.2.2.2.2.1)) := by
 obtain ⟨sa_p, sc_p, rfl⟩ := h_p.form
 obtain ⟨sa_c, sc_c, rfl⟩ := h_c.form
 have hp := h_p.len47
 have hc := h_c.len47
 refine Fc.go [.tmp 4, .tmp 5, .tmp 6, .tmp 7, .tmp 8, .tmp 9] Tryz.func177 Tryz.ntmps177 rfl (fun w0 => (g9 17 ?_))
 refine W.sd 14 (fun h13 p13 => ?_) (fun h13 p13 => ?_)
 ·refine g9 23 ?_
  refine ⟨rfl, _, (ZgN om9).symm, _, _, _, _, rfl, ?_, ?_, ?_, ?_⟩
  · exact SlR.nil
  · exact SlR.nil
  · exact SlR.nil
  exact SlR.nil
 refine g9 15 ?_
 refine WC.cn (fun h20 p20 => ?_) (fun h20 p20 => ?_)
 ·refine g9 13 ?_
  refine ⟨rfl, _, (ZgN om9).symm, _, _, _, _, rfl, ?_, ?_, ?_, ?_⟩
  · exact SlR.nil
  · exact SlR.nil
  · exact SlR.nil
  exact SlR.nil
 refine g9 7 ?_
 refine W.ok (Zgz rfl rfl om9 om9 om9) (g9 4 ?_)
 refine WC.dw sr9 (d9 [0, 1, 2] ?_)
 have hs1 := SlR.slice h_p (lo := 0) (hi := ((c.length + 1) / 2) - 1) om9 om9
 refine WD.tk 3 rfl (Jw (0) (((c.length + 1) / 2) - 1) Ya ty9 h_p rfl rfl ⟨_, _, rfl, om9⟩ ⟨om9, om9⟩) (d9 [5, 6] ?_)
 have hs2 := SlR.slice h_c (lo := 0) (hi := ((c.length + 1) / 2)) om9 om9
 refine WD.tk 7 rfl (Jw (0) (((c.length + 1) / 2)) Z5 ty3 h_c rfl rfl ⟨_, _, rfl, om9⟩ ⟨om9, om9⟩) (d9 [9, 10, 11] ?_)
 refine h_p.a1 (i := ((c.length + 1) / 2) - 1) om9 (fun he3 => (WD.tk 12 rfl (Yt (i := ((c.length + 1) / 2) - 1) Ya ty9 h_p rfl rfl ⟨om9, om9⟩) (d9 [13, 14, 15] ?_)))
 have hs6 := SlR.slice h_p (lo := ((c.length + 1) / 2)) (hi := p.length) om9 om9
 refine WD.tk 16 rfl (Jw (((c.length + 1) / 2)) (p.length) Ya ty9 h_p rfl ⟨_, _, rfl, om9⟩ rfl ⟨om9, om9⟩) (d9 [18, 19] ?_)
 have hs7 := SlR.slice h_c (lo := ((c.length + 1) / 2)) (hi := c.length) om9 om9
 refine WD.tk 20 rfl (Jw (((c.length + 1) / 2)) (c.length) Z5 ty3 h_c rfl ⟨_, _, rfl, om9⟩ rfl ⟨om9, om9⟩) (WD.a1 4 rfl (W.cS (Zcj hs1) rfl (fun sa_hv9 sc_hv9 G8 hG8 hv9 => (W.nn (WD.a1 8 rfl (W.cS (Zck (hs2.mono hG8)) rfl (fun sa_hv16 sc_hv16 G15 hG15 hv16 => (W.nn (WD.a1 17 rfl (W.cS (Zcj (hs6.mono lec)) rfl (fun sa_hv23 sc_hv23 G22 hG22 hv23 => (W.nn (WD.a1 21 rfl (W.cS (Zck (hs7.mono lec)) rfl (fun sa_hv30 sc_hv30 G29 hG29 hv30 => (W.nn (d9 [22, 23, 24, 25, 26, 27] ?_)))))))))))))))))
 refine g9 4 ?_
 refine ⟨rfl, _, (ZgO om9).symm, _, _, _, _, rfl, ?_, ?_, ?_, ?_⟩
 · exact SlR.cast ((hv9.mono lec)) (by simp)
 · exact SlR.cast ((hv16.mono lec)) (by simp)
 · exact SlR.cast ((hv23.mono hG29)) (by simp)
 exact SlR.cast (hv30) (by simp)

theorem ZqL {G : GH} {cs_a : List Value} {a : Nd} (h_a : NodeC G cs_a a) (hks : ∀ m ∈ a.msgs, m.key.b.size < 140737488355328) :
    Fc Tryz.prog 243 [.agg (List.toArray cs_a)] G [] (fun v G' M' => M' = [] ∧ ∃ r : Nd × Nd × Str × Bool, r = Z9 a ∧ ∃ u0 u1, v = .tuple #[.agg (List.toArray u0), .agg (List.toArray u1), sV (Str.b (r.2.2.1)), .bool (r.2.2.2)] ∧ NodeC G' u0 (r.1) ∧ NodeC G' u1 (r.2.1)) := by
 obtain ⟨_, _, _, _, _, _, _, _, rfl, hp_a, hk_a, hm_a, hr_a, hok_a⟩ := h_a
 refine Fc.go [.cell 2 60, .cell 3 60, .tmp 4, .tmp 5] Tryz.func243 Tryz.ntmps243 rfl (fun w0 => (g9 2 ?_))
 refine W.box (L := [iV _, iV _, lV _ _ _, lV _ _ _, sV _, .bool _, iV _, iV _, lV _ _ _, lV _ _ _]) rfl rfl (fun b36 => (W.alloc Zp (fun b37 => (W.alloc Zp (fun b38 => (g9 5 ?_))))))
 refine WC.dw ((sr9.k9.cons _).cons _) (d9 [0, 1, 2, 3] ?_)
 refine g9 10 ?_
 refine WC.cd (fun h10 p10 => ?_) (fun h10 p10 => ?_)
 ·refine g9 4 ?_
  refine W.call (Mp := []) (ZnA hr_a) rfl pr9 ?_
  intro _ G39 _ hG39 q42
  refine match q42 with | ⟨e_43, _, e_44, _, _, e_45, hv40, hv41⟩ => ?_
  subst e_43
  subst e_44
  subst e_45
  have q47 := hv40.form
  refine match q47 with | ⟨sa_hv40, sc_hv40, e_46⟩ => ?_
  subst e_46
  have q49 := hv41.form
  refine match q49 with | ⟨sa_hv41, sc_hv41, e_48⟩ => ?_
  subst e_48
  refine g9 14 ?_
  refine WC.dw ((sr9.k9.cons _).cons _) (d9 [2, 3] ?_)
  refine WD.any [0, 1] (by kernel_rfl) rfl ⟨WD.ap ?_, WD.ap ?_, trivial⟩
  ·refine g9 1 ?_
   refine W.nn ?_
   refine WD.any [1, 4] (by kernel_rfl) rfl ⟨WD.ap ?_, WD.ap ?_, trivial⟩
   ·refine g9 1 ?_
    refine W.nn (d9 [4, 5, 6, 7] ?_)
    refine g9 5 ?_
    refine ⟨rfl, _, (Zag p10).symm, _, _, rfl, ?_, ?_⟩
    · exact ⟨_, _, _, _, _, _, _, _, rfl, (hp_a.mono hG39), (hk_a.mono hG39), (hm_a.mono hG39), hv40, hok_a⟩
    exact ⟨_, _, _, _, _, _, _, _, rfl, (hp_a.mono hG39), (hk_a.mono hG39), (hm_a.mono hG39), hv41, hok_a⟩
   refine g9 1 ?_
   refine W.nn (WD.a1 1 rfl (g9 1 ?_))
   refine W.nn (d9 [5, 6, 7] ?_)
   refine g9 5 ?_
   refine ⟨rfl, _, (Zag p10).symm, _, _, rfl, ?_, ?_⟩
   · exact ⟨_, _, _, _, _, _, _, _, rfl, (hp_a.mono hG39), (hk_a.mono hG39), (hm_a.mono hG39), hv40, hok_a⟩
   exact ⟨_, _, _, _, _, _, _, _, rfl, (hp_a.mono hG39), (hk_a.mono hG39), (hm_a.mono hG39), hv41, hok_a⟩
  refine g9 1 ?_
  refine W.nn (WD.a1 0 rfl (g9 1 ?_))
  refine W.nn (d9 [4, 5, 6, 7] ?_)
  refine g9 5 ?_
  refine ⟨rfl, _, (Zag p10).symm, _, _, rfl, ?_, ?_⟩
  · exact ⟨_, _, _, _, _, _, _, _, rfl, (hp_a.mono hG39), (hk_a.mono hG39), (hm_a.mono hG39), hv40, hok_a⟩
  exact ⟨_, _, _, _, _, _, _, _, rfl, (hp_a.mono hG39), (hk_a.mono hG39), (hm_a.mono hG39), hv41, hok_a⟩
 refine g9 9 ?_
 refine W.qcall (Ze0 hp_a hk_a) rfl (g9 3 ?_)
 refine WC.cond rfl (fun h30 => ?_) (fun h30 => ?_)
 ·refine WC.seq (WC.dw ((sr9.k9.cons _).cons _) ?_)
  refine WD.any [0, 1] (by kernel_rfl) rfl ⟨WD.ap ?_, WD.ap ?_, trivial⟩
  ·refine g9 1 ?_
   refine W.nn ?_
   refine WD.any [1, 2] (by kernel_rfl) rfl ⟨WD.ap ?_, WD.ap ?_, trivial⟩
   ·refine g9 1 ?_
    refine W.nn (d9 [2, 3, 4, 5] ?_)
    refine g9 5 ?_
    refine ⟨rfl, _, (Zbn p10 (by simpa using h30)).symm, _, _, rfl, ?_, ?_⟩
    · exact (nk9 hp_a hk_a hm_a hr_a hok_a)
    exact (nk9 hp_a hk_a hm_a hr_a hok_a)
   refine g9 1 ?_
   refine W.nn (WD.a1 1 rfl (g9 1 ?_))
   refine W.nn (d9 [3, 4, 5] ?_)
   refine g9 5 ?_
   refine ⟨rfl, _, (Zbn p10 (by simpa using h30)).symm, _, _, rfl, ?_, ?_⟩
   · exact (nk9 hp_a hk_a hm_a hr_a hok_a)
   exact (nk9 hp_a hk_a hm_a hr_a hok_a)
  refine g9 1 ?_
  refine W.nn (WD.a1 0 rfl (g9 1 ?_))
  refine W.nn (d9 [2, 3, 4, 5] ?_)
  refine g9 5 ?_
  refine ⟨rfl, _, (Zbn p10 (by simpa using h30)).symm, _, _, rfl, ?_, ?_⟩
  · exact (nk9 hp_a hk_a hm_a hr_a hok_a)
  exact (nk9 hp_a hk_a hm_a hr_a hok_a)
 refine g9 8 ?_
 refine W.call (Mp := []) (ZqK hp_a hk_a) rfl pr9 ?_
 intro _ G50 _ hG50 q55
 refine match q55 with | ⟨e_56, _, e_57, _, _, _, _, e_58, hv51, hv52, hv53, hv54⟩ => ?_
 subst e_56
 subst e_57
 subst e_58
 have q60 := hv51.form
 refine match q60 with | ⟨sa_hv51, sc_hv51, e_59⟩ => ?_
 subst e_59
 have q62 := hv52.form
 refine match q62 with | ⟨sa_hv52, sc_hv52, e_61⟩ => ?_
 subst e_61
 have q64 := hv53.form
 refine match q64 with | ⟨sa_hv53, sc_hv53, e_63⟩ => ?_
 subst e_63
 have q66 := hv54.form
 refine match q66 with | ⟨sa_hv54, sc_hv54, e_65⟩ => ?_
 subst e_65
 refine g9 20 ?_
 refine WC.dw ((sr9.k9.cons _).cons _) (d9 [0, 1, 2] ?_)
 refine WD.tk 3 rfl (ZE (L := [sV _, sV _, .bool _]) Xw ZL rfl rfl rfl) (d9 [5, 6, 7] ?_)
 refine WD.tk 8 rfl (ZE (L := [sV _, sV _, .bool _]) Xw ZL rfl rfl rfl) (WD.a1 4 rfl (W.cS (ZdZ (hm_a.mono hG50) Str.nil _ _ (by assumption)) rfl (fun sa_hv68 sc_hv68 G67 hG67 hv68 => (W.nn (d9 [10] ?_)))))
 refine WD.a1 9 rfl (W.cS (ZdZ (hm_a.mono lec) _ Str.nil _ (by assumption)) rfl (fun sa_hv75 sc_hv75 G74 hG74 hv75 => (W.nn (d9 [11, 12, 13] ?_))))
 refine g9 3 ?_
 refine WC.dw ((sr9.k9.cons _).cons _) (d9 [2, 3] ?_)
 refine WD.any [0, 1] (by kernel_rfl) rfl ⟨WD.ap ?_, WD.ap ?_, trivial⟩
 ·refine g9 1 ?_
  refine W.nn ?_
  refine WD.any [1, 4] (by kernel_rfl) rfl ⟨WD.ap ?_, WD.ap ?_, trivial⟩
  ·refine g9 1 ?_
   refine W.nn (d9 [4, 5, 6, 7] ?_)
   refine g9 4 ?_
   refine ⟨rfl, _, (ZaB p10 (by simpa using h30)).symm, _, _, rfl, ?_, ?_⟩
   · exact ⟨_, _, _, _, _, _, _, _, rfl, (hv51.mono lec), (hv52.mono lec), (hv68.mono hG74), (hr_a.mono lec), hok_a⟩
   exact ⟨_, _, _, _, _, _, _, _, rfl, (hv53.mono lec), (hv54.mono lec), hv75, (hr_a.mono lec), hok_a⟩
  refine g9 1 ?_
  refine W.nn (WD.a1 1 rfl (g9 1 ?_))
  refine W.nn (d9 [5, 6, 7] ?_)
  refine g9 4 ?_
  refine ⟨rfl, _, (ZaB p10 (by simpa using h30)).symm, _, _, rfl, ?_, ?_⟩
  · exact ⟨_, _, _, _, _, _, _, _, rfl, (hv51.mono lec), (hv52.mono lec), (hv68.mono hG74), (hr_a.mono lec), hok_a⟩
  exact ⟨_, _, _, _, _, _, _, _, rfl, (hv53.mono lec), (hv54.mono lec), hv75, (hr_a.mono lec), hok_a⟩
 refine g9 1 ?_
 refine W.nn (WD.a1 0 rfl (g9 1 ?_))
 refine W.nn (d9 [4, 5, 6, 7] ?_)
 refine g9 4 ?_
 refine ⟨rfl, _, (ZaB p10 (by simpa using h30)).symm, _, _, rfl, ?_, ?_⟩
 · exact ⟨_, _, _, _, _, _, _, _, rfl, (hv51.mono lec), (hv52.mono lec), (hv68.mono hG74), (hr_a.mono lec), hok_a⟩
 exact ⟨_, _, _, _, _, _, _, _, rfl, (hv53.mono lec), (hv54.mono lec), hv75, (hr_a.mono lec), hok_a⟩

theorem ZfG {G : GH} {cs_a : List Value} {a : Nd} (h_a : NodeC G cs_a a) (i : Int) (hi : i64 i) (hks : ∀ m ∈ a.msgs, m.key.b.size < 140737488355328) :
    Fc Tryz.prog 217 [.agg (List.toArray cs_a), iV i] G [] (fun v G' M' => M' = [] ∧ ∃ r : Nd × Nd × Str × Bool, r = Zo a i ∧ ∃ u0 u1, v = .tuple #[.agg (List.toArray u0), .agg (List.toArray u1), sV (Str.b (r.2.2.1)), .bool (r.2.2.2)] ∧ NodeC G' u0 (r.1) ∧ NodeC G' u1 (r.2.1)) := by
 obtain ⟨_, _, _, _, _, _, _, _, rfl, hp_a, hk_a, hm_a, hr_a, hok_a⟩ := h_a
 refine Fc.go [.cell 4 60, .cell 5 60, .tmp 6, .tmp 7] Tryz.func217 Tryz.ntmps217 rfl (fun w0 => (g9 2 ?_))
 refine W.box (L := [iV _, iV _, lV _ _ _, lV _ _ _, sV _, .bool _, iV _, iV _, lV _ _ _, lV _ _ _]) rfl rfl (fun b81 => (W.alloc Zp (fun b82 => (W.alloc Zp (fun b83 => (g9 7 ?_))))))
 refine W.cM (ZqL (nk9 hp_a hk_a hm_a hr_a hok_a) (by assumption)) rfl (fun _ _ _ _ _ _ _ _ _ _ _ _ _ _ _ _ G84 hG84 hp_hv85 hk_hv85 hm_hv85 hr_hv85 hok_hv85 hp_hv86 hk_hv86 hm_hv86 hr_hv86 hok_hv86 => (g9 18 ?_))
 refine WC.cond rfl (fun h16 => ?_) (fun h16 => ?_)
 ·refine g9 2 ?_
  refine W.ok (ZE (L := [iV _, iV _, lV _ _ _, lV _ _ _, sV _, .bool _, iV _, iV _, lV _ _ _, lV _ _ _]) Zap Zp rfl rfl rfl) (W.ok (ZE (L := [iV _, iV _, lV _ _ _, lV _ _ _, sV _, .bool _, iV _, iV _, lV _ _ _, lV _ _ _]) Zap Zp rfl rfl rfl) (g9 9 ?_))
  refine ⟨rfl, _, (Zbo (by simpa using h16)).symm, _, _, rfl, ?_, ?_⟩
  · exact ⟨_, _, _, _, _, _, _, _, rfl, SlR.nil, SlR.nil, SlR.nil, SlR.nil, Nd.zero_ok⟩
  exact ⟨_, _, _, _, _, _, _, _, rfl, SlR.nil, SlR.nil, SlR.nil, SlR.nil, Nd.zero_ok⟩
 refine g9 22 ?_
 refine WC.dw ((sr9.k9.cons _).cons _) (d9 [4] ?_)
 refine WD.any [0, 2] (by kernel_rfl) rfl ⟨WD.ap ?_, WD.ap ?_, trivial⟩
 ·refine g9 1 ?_
  refine W.nn ?_
  refine WD.any [1, 2] (by kernel_rfl) rfl ⟨WD.ap ?_, WD.ap ?_, trivial⟩
  ·refine W.cN (XM (show NodeC _ _ { (Z9 a).1 with high := (Z9 a).2.2.1, top := false, right := i } from ⟨_, _, _, _, _, _, _, _, rfl, hp_hv85, hk_hv85, hm_hv85, hr_hv85, (Zbp (by assumption) hi)⟩)) rfl (fun _ _ _ _ _ _ _ _ G93 hG93 hp_hv94 hk_hv94 hm_hv94 hr_hv94 hok_hv94 => (W.nn (WD.a1 2 rfl (g9 1 ?_))))
   refine W.nn (WD.a1 3 rfl (W.cN (XM (show NodeC _ _ { (Z9 a).2.1 with slot := i } from ⟨_, _, _, _, _, _, _, _, rfl, (hp_hv86.mono hG93), (hk_hv86.mono hG93), (hm_hv86.mono hG93), (hr_hv86.mono hG93), (Zbq (by assumption) hi)⟩)) rfl (fun _ _ _ _ _ _ _ _ G99 hG99 hp_hv100 hk_hv100 hm_hv100 hr_hv100 hok_hv100 => (W.nn (d9 [5, 6, 7, 8] ?_)))))
   refine g9 4 ?_
   refine ⟨rfl, _, (Jn (by simpa using h16)).symm, _, _, rfl, ?_, ?_⟩
   · exact ⟨_, _, _, _, _, _, _, _, rfl, (hp_hv94.mono hG99), (hk_hv94.mono hG99), (hm_hv94.mono hG99), (hr_hv94.mono hG99), Zbp (by assumption) hi⟩
   exact ⟨_, _, _, _, _, _, _, _, rfl, hp_hv100, hk_hv100, hm_hv100, hr_hv100, Zbq (by assumption) hi⟩
  refine g9 1 ?_
  refine W.nn (WD.a1 1 rfl (W.cN (XM (show NodeC _ _ { (Z9 a).1 with high := (Z9 a).2.2.1, top := false, right := i } from ⟨_, _, _, _, _, _, _, _, rfl, hp_hv85, hk_hv85, hm_hv85, hr_hv85, (Zbp (by assumption) hi)⟩)) rfl (fun _ _ _ _ _ _ _ _ G105 hG105 hp_hv106 hk_hv106 hm_hv106 hr_hv106 hok_hv106 => (W.nn (WD.a1 3 rfl (W.cN (XM (show NodeC _ _ { (Z9 a).2.1 with slot := i } from ⟨_, _, _, _, _, _, _, _, rfl, (hp_hv86.mono hG105), (hk_hv86.mono hG105), (hm_hv86.mono hG105), (hr_hv86.mono hG105), (Zbq (by assumption) hi)⟩)) rfl (fun _ _ _ _ _ _ _ _ G111 hG111 hp_hv112 hk_hv112 hm_hv112 hr_hv112 hok_hv112 => (W.nn (d9 [5, 6, 7, 8] ?_)))))))))
  refine g9 4 ?_
  refine ⟨rfl, _, (Jn (by simpa using h16)).symm, _, _, rfl, ?_, ?_⟩
  · exact ⟨_, _, _, _, _, _, _, _, rfl, (hp_hv106.mono hG111), (hk_hv106.mono hG111), (hm_hv106.mono hG111), (hr_hv106.mono hG111), Zbp (by assumption) hi⟩
  exact ⟨_, _, _, _, _, _, _, _, rfl, hp_hv112, hk_hv112, hm_hv112, hr_hv112, Zbq (by assumption) hi⟩
 refine g9 1 ?_
 refine W.nn (WD.a1 0 rfl (g9 1 ?_))
 refine W.nn (WD.a1 1 rfl (W.cN (XM (show NodeC _ _ { (Z9 a).1 with high := (Z9 a).2.2.1, top := false, right := i } from ⟨_, _, _, _, _, _, _, _, rfl, hp_hv85, hk_hv85, hm_hv85, hr_hv85, (Zbp (by assumption) hi)⟩)) rfl (fun _ _ _ _ _ _ _ _ G117 hG117 hp_hv118 hk_hv118 hm_hv118 hr_hv118 hok_hv118 => (W.nn (WD.a1 3 rfl (W.cN (XM (show NodeC _ _ { (Z9 a).2.1 with slot := i } from ⟨_, _, _, _, _, _, _, _, rfl, (hp_hv86.mono hG117), (hk_hv86.mono hG117), (hm_hv86.mono hG117), (hr_hv86.mono hG117), (Zbq (by assumption) hi)⟩)) rfl (fun _ _ _ _ _ _ _ _ G123 hG123 hp_hv124 hk_hv124 hm_hv124 hr_hv124 hok_hv124 => (W.nn (d9 [5, 6, 7, 8] ?_)))))))))
 refine g9 4 ?_
 refine ⟨rfl, _, (Jn (by simpa using h16)).symm, _, _, rfl, ?_, ?_⟩
 · exact ⟨_, _, _, _, _, _, _, _, rfl, (hp_hv118.mono hG123), (hk_hv118.mono hG123), (hm_hv118.mono hG123), (hr_hv118.mono hG123), Zbp (by assumption) hi⟩
 exact ⟨_, _, _, _, _, _, _, _, rfl, hp_hv124, hk_hv124, hm_hv124, hr_hv124, Zbq (by assumption) hi⟩

theorem Zjx {G : GH} {cs_n : List Value} {n : Nd} (h_n : NodeC G cs_n n) (x : Int) (y : Int) (hx : i64 x) (hy : i64 y) (hlv : i64 (n.level + 1)) (hks : ∀ m ∈ n.msgs, m.key.b.size < 140737488355328) :
    Fc Tryz.prog 188 [.agg (List.toArray cs_n), iV x, iV y] G [] (fun v G' M' => M' = [] ∧ ∃ r : Nd × Nd × Nd × Bool, r = Z0 n x y ∧ ∃ u0 u1 u2, v = .tuple #[.agg (List.toArray u0), .agg (List.toArray u1), .agg (List.toArray u2), .bool (r.2.2.2)] ∧ NodeC G' u0 (r.1) ∧ NodeC G' u1 (r.2.1) ∧ NodeC G' u2 (r.2.2.1)) := by
 obtain ⟨_, _, _, _, _, _, _, _, rfl, hp_n, hk_n, hm_n, hr_n, hok_n⟩ := h_n
 have hx1 := hx.1
 have hx2 := hx.2
 have hy1 := hy.1
 have hy2 := hy.2
 have hlv1 := hlv.1
 have hlv2 := hlv.2
 refine Fc.go [.cell 6 60, .cell 7 60, .cell 8 60, .tmp 9] Tryz.func188 Tryz.ntmps188 rfl (fun w0 => (g9 2 ?_))
 refine W.box (L := [iV _, iV _, lV _ _ _, lV _ _ _, sV _, .bool _, iV _, iV _, lV _ _ _, lV _ _ _]) rfl rfl (fun b1 => (W.alloc Zp (fun b2 => (W.alloc Zp (fun b3 => (W.alloc Zp (fun b4 => (g9 7 ?_))))))))
 refine W.cM (ZfG (nk9 hp_n hk_n hm_n hr_n hok_n) _ (by assumption) (by assumption)) rfl (fun _ _ _ _ _ _ _ _ _ _ _ _ _ _ _ _ G5 hG5 hp_hv6 hk_hv6 hm_hv6 hr_hv6 hok_hv6 hp_hv7 hk_hv7 hm_hv7 hr_hv7 hok_hv7 => (g9 18 ?_))
 refine WC.cond rfl (fun h20 => ?_) (fun h20 => ?_)
 ·refine g9 2 ?_
  refine W.ok (ZE (L := [iV _, iV _, lV _ _ _, lV _ _ _, sV _, .bool _, iV _, iV _, lV _ _ _, lV _ _ _]) Zap Zp rfl rfl rfl) (W.ok (ZE (L := [iV _, iV _, lV _ _ _, lV _ _ _, sV _, .bool _, iV _, iV _, lV _ _ _, lV _ _ _]) Zap Zp rfl rfl rfl) (W.ok (ZE (L := [iV _, iV _, lV _ _ _, lV _ _ _, sV _, .bool _, iV _, iV _, lV _ _ _, lV _ _ _]) Zap Zp rfl rfl rfl) (g9 9 ?_)))
  refine ⟨rfl, _, (Zjk (by simpa using h20)).symm, _, _, _, rfl, ?_, ?_, ?_⟩
  · exact ⟨_, _, _, _, _, _, _, _, rfl, SlR.nil, SlR.nil, SlR.nil, SlR.nil, Nd.zero_ok⟩
  · exact ⟨_, _, _, _, _, _, _, _, rfl, SlR.nil, SlR.nil, SlR.nil, SlR.nil, Nd.zero_ok⟩
  exact ⟨_, _, _, _, _, _, _, _, rfl, SlR.nil, SlR.nil, SlR.nil, SlR.nil, Nd.zero_ok⟩
 refine g9 5 ?_
 refine W.cN (XM (nm9 hG5 hp_n hk_n hm_n hr_n hok_n)) rfl (fun _ _ _ _ _ _ _ _ G14 hG14 hp_hv15 hk_hv15 hm_hv15 hr_hv15 hok_hv15 => (g9 15 ?_))
 refine W.lit (e := Yf) (l := [_]) (css := [[sV _]]) Ya ty9 zr9 rfl rfl rfl rfl rfl rfl ⟨rfl, trivial⟩ (fun bl20 G20 hG20 hv20 => (g9 2 ?_))
 refine W.lit (e := ZA) (l := [_, _]) (css := [[iV _], [iV _]]) Z5 ty3 zr3 rfl rfl rfl rfl rfl rfl ⟨⟨rfl, om9, om9⟩, ⟨rfl, om9, om9⟩, trivial⟩ (fun bl21 G21 hG21 hv21 => (g9 23 ?_))
 refine WC.cn (fun h42 p42 => ?_) (fun h42 p42 => ?_)
 ·refine g9 16 ?_
  refine WC.dw (((sr9.k9.k9).k9).k9) (d9 [0, 1, 2, 3, 4, 5, 6] ?_)
  refine g9 4 ?_
  refine ⟨rfl, _, (Zqq (by simpa using h20) p42).symm, _, _, _, rfl, ?_, ?_, ?_⟩
  · exact ⟨_, _, _, _, _, _, _, _, rfl, (hv20.mono hG21), hv21, (hm_hv15.mono lec), SlR.nil, ⟨hok_n.1, hlv, hok_n.2.2⟩⟩
  · exact ⟨_, _, _, _, _, _, _, _, rfl, (hp_hv6.mono lec), (hk_hv6.mono lec), SlR.nil, (hr_hv6.mono lec), ⟨hx, (show Nd.Ok (Zo n y).1 from by assumption).2.1, (show Nd.Ok (Zo n y).1 from by assumption).2.2.1, (show i64 0 from ⟨by decide, by decide⟩)⟩⟩
  exact ⟨_, _, _, _, _, _, _, _, rfl, (hp_hv7.mono lec), (hk_hv7.mono lec), SlR.nil, (hr_hv7.mono lec), ⟨(show Nd.Ok (Zo n y).2.1 from by assumption).1, (show Nd.Ok (Zo n y).2.1 from by assumption).2.1, (show Nd.Ok (Zo n y).2.1 from by assumption).2.2.1, (show i64 0 from ⟨by decide, by decide⟩)⟩⟩
 refine g9 14 ?_
 refine WC.dw (((sr9.k9.k9).k9).k9) (d9 [0, 1, 2, 3, 4, 5, 6] ?_)
 refine g9 4 ?_
 refine ⟨rfl, _, (Zqr (by simpa using h20) p42).symm, _, _, _, rfl, ?_, ?_, ?_⟩
 · exact ⟨_, _, _, _, _, _, _, _, rfl, (hv20.mono hG21), hv21, SlR.nil, SlR.nil, ⟨hok_n.1, hlv, hok_n.2.2⟩⟩
 · exact ⟨_, _, _, _, _, _, _, _, rfl, (hp_hv6.mono lec), (hk_hv6.mono lec), SlR.nil, (hr_hv6.mono lec), ⟨hx, (show Nd.Ok (Zo n y).1 from by assumption).2.1, (show Nd.Ok (Zo n y).1 from by assumption).2.2.1, (show Nd.Ok (Zo n y).1 from by assumption).2.2.2⟩⟩
 exact ⟨_, _, _, _, _, _, _, _, rfl, (hp_hv7.mono lec), (hk_hv7.mono lec), SlR.nil, (hr_hv7.mono lec), ⟨(show Nd.Ok (Zo n y).2.1 from by assumption).1, (show Nd.Ok (Zo n y).2.1 from by assumption).2.1, (show Nd.Ok (Zo n y).2.1 from by assumption).2.2.1, (show Nd.Ok (Zo n y).2.1 from by assumption).2.2.2⟩⟩

theorem ZcB {G : GH} (cfan : Int) (cleaf : Int) (cbud : Int) (cslots : Int) (crest : Int) {cs_n : List Value} {n : Nd} (h_n : NodeC G cs_n n) :
    Fc Tryz.prog 190 [.agg #[iV cfan, iV cleaf, iV cbud, iV cslots, iV crest], .agg (List.toArray cs_n)] G [] (fun v _ _ => v = .bool (ZK (⟨cfan, cleaf, cbud, cslots, crest⟩ : Cfg) n)) := by
 obtain ⟨_, _, _, _, _, _, _, _, rfl, hp_n, hk_n, hm_n, hr_n, hok_n⟩ := h_n
 have h1 := hp_n.len47
 have h2 := hk_n.len47
 have h3 := hm_n.len47
 have h4 := hr_n.len47
 refine Fc.go [.tmp 4] Tryz.func190 Tryz.ntmps190 rfl (fun w0 => (g9 2 ?_))
 refine W.box (L := [iV _, iV _, iV _, iV _, iV _]) rfl rfl (fun b22 => (W.box (L := [iV _, iV _, lV _ _ _, lV _ _ _, sV _, .bool _, iV _, iV _, lV _ _ _, lV _ _ _]) rfl rfl (fun b23 => (g9 11 ?_))))
 refine WC.cd (fun h7 p7 => ?_) (fun h7 p7 => ?_)
 ·refine g9 14 ?_
  refine congrArg Value.bool ?_
  first | (rw [ZK, if_pos p7]; done) | (rw [ZK, if_pos p7]; first | (simp_all; done) | (simp_all; omega))
 refine g9 15 ?_
 refine congrArg Value.bool ?_
 first | (rw [ZK, if_neg p7]; done) | (rw [ZK, if_neg p7]; first | (simp_all; done) | (simp_all; omega))

theorem ZqM {G : GH} (cf : Int) (cl : Int) (cb : Int) (cs : Int) (cr : Int) {cs_n : List Value} {n : Nd} (h_n : NodeC G cs_n n) (k : Str) (hq : ChoosePre n) :
    Fc Tryz.prog 150 [.agg #[iV cf, iV cl, iV cb, iV cs, iV cr], .agg (List.toArray cs_n), sV k.b] G [] (fun v _ _ => v = .tuple #[iV ((Zv (⟨cf, cl, cb, cs, cr⟩ : Cfg) n k).1), iV ((Zv (⟨cf, cl, cb, cs, cr⟩ : Cfg) n k).2)]) := by
 obtain ⟨_, _, _, _, _, _, _, _, rfl, hp_n, hk_n, hm_n, hr_n, hok_n⟩ := h_n
 refine Fc.go [.tmp 6, .tmp 7] Tryz.func150 Tryz.ntmps150 rfl (fun w0 => (g9 2 ?_))
 refine W.box (L := [iV _, iV _, iV _, iV _, iV _]) rfl rfl (fun b1 => (W.box (L := [iV _, iV _, lV _ _ _, lV _ _ _, sV _, .bool _, iV _, iV _, lV _ _ _, lV _ _ _]) rfl rfl (fun b2 => (g9 14 ?_))))
 refine WC.cd (fun h13 p13 => ?_) (fun h13 p13 => ?_)
 ·refine g9 10 ?_
  show Value.tuple #[Value.int _ _, Value.int _ _] = _
  rw [Zju p13]
 refine g9 6 ?_
 refine W.sd 18 (fun h17 p17 => ?_) (fun h17 p17 => ?_)
 ·refine g9 5 ?_
  refine W.qcall (ZcB cf cl cb cs cr (n := n) (nk9 hp_n hk_n hm_n hr_n hok_n)) rfl (g9 4 ?_)
  refine WC.cond rfl (fun h21 => ?_) (fun h21 => ?_)
  ·refine g9 10 ?_
   show Value.tuple #[Value.int _ _, Value.int _ _] = _
   rw [ZfD p13 p17 h21]
  refine g9 9 ?_
  refine W.qcall (Zjw hp_n hm_n (hq p13).2.1 (hq p13).2.2 (hq p13).1) rfl (g9 14 ?_)
  refine WC.cond rfl (fun h32 => ?_) (fun h32 => ?_)
  ·refine g9 4 ?_
   refine W.qcall (ZbD hp_n _ (hq p13).1) rfl (g9 12 ?_)
   show Value.tuple #[Value.int _ _, Value.int _ _] = _
   rw [ZfF p13 (fun h => by rw [h21] at h; exact absurd h.2 (by simp)) (by simpa using h32)]
  refine g9 11 ?_
  show Value.tuple #[Value.int _ _, Value.int _ _] = _
  rw [ZfE p13 (fun h => by rw [h21] at h; exact absurd h.2 (by simp)) (by simpa using h32)]
 refine g9 17 ?_
 refine W.qcall (Zjw hp_n hm_n (hq p13).2.1 (hq p13).2.2 (hq p13).1) rfl (g9 14 ?_)
 refine WC.cond rfl (fun h32 => ?_) (fun h32 => ?_)
 ·refine g9 4 ?_
  refine W.qcall (ZbD hp_n _ (hq p13).1) rfl (g9 12 ?_)
  show Value.tuple #[Value.int _ _, Value.int _ _] = _
  rw [ZfF p13 (fun h => p17 h.1) (by simpa using h32)]
 refine g9 11 ?_
 show Value.tuple #[Value.int _ _, Value.int _ _] = _
 rw [ZfE p13 (fun h => p17 h.1) (by simpa using h32)]

theorem ZqN {G : GH} (cf : Int) (cl : Int) (cb : Int) (cs : Int) (cr : Int) {cs_p : List Value} {p : Nd} (h_p : NodeC G cs_p p) {cs_k : List Value} {k : Nd} (h_k : NodeC G cs_k k) (i : Int) (hq : PourPre cb p k) (hi : i64 i) (hko : KidOf p k i) (hms : MsgsR p.msgs) (hkl : p.kids.length = p.pivots.length + 1) :
    Fc Tryz.prog 192 [.agg #[iV cf, iV cl, iV cb, iV cs, iV cr], .agg (List.toArray cs_p), .agg (List.toArray cs_k), iV i] G [] (fun v _ _ => v = iV (ZV (⟨cf, cl, cb, cs, cr⟩ : Cfg) p k i)) := by
 obtain ⟨_, _, _, _, _, _, _, _, rfl, hp_p, hk_p, hm_p, hr_p, hok_p⟩ := h_p
 obtain ⟨_, _, _, _, _, _, _, _, rfl, hp_k, hk_k, hm_k, hr_k, hok_k⟩ := h_k
 refine Fc.go [.tmp 8] Tryz.func192 Tryz.ntmps192 rfl (fun w0 => (g9 2 ?_))
 refine W.box (L := [iV _, iV _, iV _, iV _, iV _]) rfl rfl (fun b1 => (W.box (L := [iV _, iV _, lV _ _ _, lV _ _ _, sV _, .bool _, iV _, iV _, lV _ _ _, lV _ _ _]) rfl rfl (fun b2 => (W.box (L := [iV _, iV _, lV _ _ _, lV _ _ _, sV _, .bool _, iV _, iV _, lV _ _ _, lV _ _ _]) rfl rfl (fun b3 => (g9 13 ?_))))))
 refine W.qcall (ZcB cf cl cb cs cr (n := p) (nk9 hp_p hk_p hm_p hr_p hok_p)) rfl (g9 2 ?_)
 refine WC.cond rfl (fun h12 => ?_) (fun h12 => ?_)
 ·refine g9 12 ?_
  refine W.sd 17 (fun h16 p16 => ?_) (fun h16 p16 => ?_)
  ·refine g9 5 ?_
   refine W.qcall (ZcB cf cl cb cs cr (n := k) (nk9 hp_k hk_k hm_k hr_k hok_k)) rfl (g9 4 ?_)
   refine WC.cond rfl (fun h20 => ?_) (fun h20 => ?_)
   ·refine g9 10 ?_
    refine congrArg (Value.int .i64) ?_
    rw [Zjv (c := (⟨cf, cl, cb, cs, cr⟩ : Cfg)) om9 h20]
    rw [if_pos h12]
   refine g9 6 ?_
   refine W.qcall (ZcO cf cl cb cs cr (p := p) (k := k) (nk9 hp_p hk_p hm_p hr_p hok_p) (nk9 hp_k hk_k hm_k hr_k hok_k) i hq.hb hq.hr hq.hpv hq.hpm hq.hkm hq.hkr hi hq.hsz) rfl (g9 4 ?_)
   refine WC.cd (fun h29 p29 => ?_) (fun h29 p29 => ?_)
   ·refine g9 9 ?_
    refine congrArg (Value.int .i64) ?_
    exact (Zdz (c := (⟨cf, cl, cb, cs, cr⟩ : Cfg)) (fun h => by rw [h20] at h; exact absurd h.2 (by simp)) (show 0 < ZO cl cb p k i by omega)).symm
   refine g9 8 ?_
   refine WC.cd (fun h33 p33 => ?_) (fun h33 p33 => ?_)
   ·refine g9 9 ?_
    refine congrArg (Value.int .i64) ?_
    exact (ZdA (c := (⟨cf, cl, cb, cs, cr⟩ : Cfg)) (fun h => by rw [h20] at h; exact absurd h.2 (by simp)) (show ¬ 0 < ZO cl cb p k i by omega) om9).symm
   refine g9 6 ?_
   refine W.qcall (Zd0 cf cl cb cs cr (p := p) (k := k) (nk9 hp_p hk_p hm_p hr_p hok_p) (nk9 hp_k hk_k hm_k hr_k hok_k) i hq.hb hq.hr hq.hpv hq.hpm hq.hkm hq.hkr hi hq.hsz) rfl (g9 3 ?_)
   refine WC.cond rfl (fun h39 => ?_) (fun h39 => ?_)
   ·have hwt : 0 < (Zd p.pivots p.msgs i).length := (odt h39).2.1
    refine g9 10 ?_
    refine congrArg (Value.int .i64) ?_
    rw [ZdB (c := (⟨cf, cl, cb, cs, cr⟩ : Cfg)) (show ¬ 0 < ZO cl cb p k i by omega) om9 hwt]
    rw [if_pos h12]
   have hwt : ¬ 0 < (Zd p.pivots p.msgs i).length := fun hh => odf h39 ⟨hko, hh, om9⟩
   refine g9 10 ?_
   refine congrArg (Value.int .i64) ?_
   exact (ZdC (c := (⟨cf, cl, cb, cs, cr⟩ : Cfg)) (show ¬ 0 < ZO cl cb p k i by omega) om9 hwt).symm
  refine g9 14 ?_
  refine W.qcall (ZcO cf cl cb cs cr (p := p) (k := k) (nk9 hp_p hk_p hm_p hr_p hok_p) (nk9 hp_k hk_k hm_k hr_k hok_k) i hq.hb hq.hr hq.hpv hq.hpm hq.hkm hq.hkr hi hq.hsz) rfl (g9 4 ?_)
  refine WC.cd (fun h29 p29 => ?_) (fun h29 p29 => ?_)
  ·refine g9 9 ?_
   refine congrArg (Value.int .i64) ?_
   exact (Zdz (c := (⟨cf, cl, cb, cs, cr⟩ : Cfg)) (fun h => by omega) (show 0 < ZO cl cb p k i by omega)).symm
  refine g9 8 ?_
  refine WC.cd (fun h33 p33 => ?_) (fun h33 p33 => ?_)
  ·refine g9 9 ?_
   refine congrArg (Value.int .i64) ?_
   exact (ZdA (c := (⟨cf, cl, cb, cs, cr⟩ : Cfg)) (fun h => by omega) (show ¬ 0 < ZO cl cb p k i by omega) om9).symm
  refine g9 6 ?_
  refine W.qcall (Zd0 cf cl cb cs cr (p := p) (k := k) (nk9 hp_p hk_p hm_p hr_p hok_p) (nk9 hp_k hk_k hm_k hr_k hok_k) i hq.hb hq.hr hq.hpv hq.hpm hq.hkm hq.hkr hi hq.hsz) rfl (g9 3 ?_)
  refine WC.cond rfl (fun h39 => ?_) (fun h39 => ?_)
  ·have hwt : 0 < (Zd p.pivots p.msgs i).length := (odt h39).2.1
   refine g9 10 ?_
   refine congrArg (Value.int .i64) ?_
   rw [ZdB (c := (⟨cf, cl, cb, cs, cr⟩ : Cfg)) (show ¬ 0 < ZO cl cb p k i by omega) om9 hwt]
   rw [if_pos h12]
  have hwt : ¬ 0 < (Zd p.pivots p.msgs i).length := fun hh => odf h39 ⟨hko, hh, om9⟩
  refine g9 10 ?_
  refine congrArg (Value.int .i64) ?_
  exact (ZdC (c := (⟨cf, cl, cb, cs, cr⟩ : Cfg)) (show ¬ 0 < ZO cl cb p k i by omega) om9 hwt).symm
 refine g9 10 ?_
 refine W.sd 17 (fun h16 p16 => ?_) (fun h16 p16 => ?_)
 ·refine g9 5 ?_
  refine W.qcall (ZcB cf cl cb cs cr (n := k) (nk9 hp_k hk_k hm_k hr_k hok_k)) rfl (g9 4 ?_)
  refine WC.cond rfl (fun h20 => ?_) (fun h20 => ?_)
  ·refine g9 10 ?_
   refine congrArg (Value.int .i64) ?_
   rw [Zjv (c := (⟨cf, cl, cb, cs, cr⟩ : Cfg)) om9 h20]
   rw [if_neg (by rw [h12] <;> simp)]
  refine g9 6 ?_
  refine W.qcall (ZcO cf cl cb cs cr (p := p) (k := k) (nk9 hp_p hk_p hm_p hr_p hok_p) (nk9 hp_k hk_k hm_k hr_k hok_k) i hq.hb hq.hr hq.hpv hq.hpm hq.hkm hq.hkr hi hq.hsz) rfl (g9 4 ?_)
  refine WC.cd (fun h29 p29 => ?_) (fun h29 p29 => ?_)
  ·refine g9 9 ?_
   refine congrArg (Value.int .i64) ?_
   exact (Zdz (c := (⟨cf, cl, cb, cs, cr⟩ : Cfg)) (fun h => by rw [h20] at h; exact absurd h.2 (by simp)) (show 0 < ZO cl cb p k i by omega)).symm
  refine g9 8 ?_
  refine WC.cd (fun h33 p33 => ?_) (fun h33 p33 => ?_)
  ·refine g9 9 ?_
   refine congrArg (Value.int .i64) ?_
   exact (ZdA (c := (⟨cf, cl, cb, cs, cr⟩ : Cfg)) (fun h => by rw [h20] at h; exact absurd h.2 (by simp)) (show ¬ 0 < ZO cl cb p k i by omega) om9).symm
  refine g9 6 ?_
  refine W.qcall (Zd0 cf cl cb cs cr (p := p) (k := k) (nk9 hp_p hk_p hm_p hr_p hok_p) (nk9 hp_k hk_k hm_k hr_k hok_k) i hq.hb hq.hr hq.hpv hq.hpm hq.hkm hq.hkr hi hq.hsz) rfl (g9 3 ?_)
  refine WC.cond rfl (fun h39 => ?_) (fun h39 => ?_)
  ·have hwt : 0 < (Zd p.pivots p.msgs i).length := (odt h39).2.1
   refine g9 10 ?_
   refine congrArg (Value.int .i64) ?_
   rw [ZdB (c := (⟨cf, cl, cb, cs, cr⟩ : Cfg)) (show ¬ 0 < ZO cl cb p k i by omega) om9 hwt]
   rw [if_neg (by rw [h12] <;> simp)]
  have hwt : ¬ 0 < (Zd p.pivots p.msgs i).length := fun hh => odf h39 ⟨hko, hh, om9⟩
  refine g9 10 ?_
  refine congrArg (Value.int .i64) ?_
  exact (ZdC (c := (⟨cf, cl, cb, cs, cr⟩ : Cfg)) (show ¬ 0 < ZO cl cb p k i by omega) om9 hwt).symm
 refine g9 14 ?_
 refine W.qcall (ZcO cf cl cb cs cr (p := p) (k := k) (nk9 hp_p hk_p hm_p hr_p hok_p) (nk9 hp_k hk_k hm_k hr_k hok_k) i hq.hb hq.hr hq.hpv hq.hpm hq.hkm hq.hkr hi hq.hsz) rfl (g9 4 ?_)
 refine WC.cd (fun h29 p29 => ?_) (fun h29 p29 => ?_)
 ·refine g9 9 ?_
  refine congrArg (Value.int .i64) ?_
  exact (Zdz (c := (⟨cf, cl, cb, cs, cr⟩ : Cfg)) (fun h => by omega) (show 0 < ZO cl cb p k i by omega)).symm
 refine g9 8 ?_
 refine WC.cd (fun h33 p33 => ?_) (fun h33 p33 => ?_)
 ·refine g9 9 ?_
  refine congrArg (Value.int .i64) ?_
  exact (ZdA (c := (⟨cf, cl, cb, cs, cr⟩ : Cfg)) (fun h => by omega) (show ¬ 0 < ZO cl cb p k i by omega) om9).symm
 refine g9 6 ?_
 refine W.qcall (Zd0 cf cl cb cs cr (p := p) (k := k) (nk9 hp_p hk_p hm_p hr_p hok_p) (nk9 hp_k hk_k hm_k hr_k hok_k) i hq.hb hq.hr hq.hpv hq.hpm hq.hkm hq.hkr hi hq.hsz) rfl (g9 3 ?_)
 refine WC.cond rfl (fun h39 => ?_) (fun h39 => ?_)
 ·have hwt : 0 < (Zd p.pivots p.msgs i).length := (odt h39).2.1
  refine g9 10 ?_
  refine congrArg (Value.int .i64) ?_
  rw [ZdB (c := (⟨cf, cl, cb, cs, cr⟩ : Cfg)) (show ¬ 0 < ZO cl cb p k i by omega) om9 hwt]
  rw [if_neg (by rw [h12] <;> simp)]
 have hwt : ¬ 0 < (Zd p.pivots p.msgs i).length := fun hh => odf h39 ⟨hko, hh, om9⟩
 refine g9 10 ?_
 refine congrArg (Value.int .i64) ?_
 exact (ZdC (c := (⟨cf, cl, cb, cs, cr⟩ : Cfg)) (show ¬ 0 < ZO cl cb p k i by omega) om9 hwt).symm

theorem Zjy : Za8 Tryz.prog 281 = some 4 := by kernel_rfl
theorem mz4 : zvK Tryz.prog 4 = some (.bool false) := by kernel_rfl

end Go.Proofs.YtbbemibbmbmamaaGreat
