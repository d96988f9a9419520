/- A sound tree with a kid in two: its seats, that it is sound, and what it stands for. Plain Lean; nothing of the program is named here. No condition. -/
import Derived.Test.YtfmigmijckdldaaGreatQgOp
set_option linter.unusedVariables false
set_option linter.unusedSimpArgs false
set_option linter.unnecessarySimpa false

namespace Go.Fw
open Go Go.RowKit
namespace PartOf
variable {c : Cfg} {l : List Nd} {ss : List Seat} {P : Seat} {i : Nat} {a b : Nd} {k : Str} {h : Nat}
noncomputable def fP (l : List Nd) (P : Seat) (i : Nat) (a b : Nd) (k : Str) (x : Seat) : List Seat :=
 if x.n.slot = (kidSt l P i).n.slot then [nA l P i a b k, nB l P i a b k] else if x.n.slot = P.n.slot then [nP l P i k] else [x]
theorem f_k : fP l P i a b k (kidSt l P i) = [nA l P i a b k, nB l P i a b k] := if_pos rfl
theorem f_p (p : PartOf c l ss P i a b k h) : fP l P i a b k P = [nP l P i k] := by
 unfold fP; rw [if_neg p.ksl.symm, if_pos rfl]
theorem f_x {x : Seat} (h1 : x.n.slot ≠ P.n.slot) (h2 : x.n.slot ≠ (kidSt l P i).n.slot) : fP l P i a b k x = [x] := by
 unfold fP; rw [if_neg h2, if_neg h1]
theorem fixK (p : PartOf c l ss P i a b k h) : (kidsO (partL l P.n i a b k) (nA l P i a b k)).isSome = true ∧ (kidsO (partL l P.n i a b k) (nB l P i a b k)).isSome = true ∧ kidsD (partL l P.n i a b k) (nA l P i a b k) ++ kidsD (partL l P.n i a b k) (nB l P i a b k) = kidsD l (kidSt l P i) := by
 refine HSeat.kids p.t p.km.1 p.hs fun j hj => ?_
 by_cases h0 : (kidSt l P i).n.level = 0
 ·have := (p.t.leaf p.km.1 h0).1
  omega
 ·have e := p.t.at p.km.1 h0 hj
  have g := p.km.2
  rw [p.slot_at p.km.1 h0 hj]
  exact p.find_x e.1 (p.ne e.1 p.mem (by omega)) (p.ne e.1 p.km.1 (by omega))
theorem e_lo (p : PartOf c l ss P i a b k h) {j : Nat} (hj : j < i) : findN (partL l P.n i a b k) ((nP l P i k).n.kids.getD j 0) = findN l (P.n.kids.getD j 0) := by
 have hi := p.hi
 have e := p.t.at p.mem p.h0 (j := j) (by omega)
 have hkl := (kids_all (p.t.kids p.mem) p.h0)
 rw [p.kid_j, if_pos (by omega), p.slot_at p.mem p.h0 (by omega)]
 refine p.find_x e.1 (p.ne e.1 p.mem (by omega)) fun e2 => ?_
 have := p.t.kid_nd p.mem (i := j) (j := i) (by rw [hkl.1, kidsF_len]; omega) (by rw [hkl.1, kidsF_len]; omega) (by rw [(p.t.kidsD_at p.mem p.h0).2, (p.t.kidsD_at p.mem p.h0).2]; exact e2)
 omega
theorem e_hi (p : PartOf c l ss P i a b k h) {j : Nat} (hj : i < j) (hj2 : j < P.n.kids.length) : findN (partL l P.n i a b k) ((nP l P i k).n.kids.getD (j + 1) 0) = findN l (P.n.kids.getD j 0) := by
 have hi := p.hi
 have e := p.t.at p.mem p.h0 (j := j) (by omega)
 have hkl := (kids_all (p.t.kids p.mem) p.h0)
 rw [p.kid_j, if_neg (by omega), if_neg (by omega), show j + 1 - 1 = j from rfl, p.slot_at p.mem p.h0 (by omega)]
 refine p.find_x e.1 (p.ne e.1 p.mem (by omega)) fun e2 => ?_
 have := p.t.kid_nd p.mem (i := j) (j := i) (by rw [hkl.1, kidsF_len]; omega) (by rw [hkl.1, kidsF_len]; omega) (by rw [(p.t.kidsD_at p.mem p.h0).2, (p.t.kidsD_at p.mem p.h0).2]; exact e2)
 omega
theorem k_lo (p : PartOf c l ss P i a b k h) {j : Nat} (hj : j < i) : kidSt (partL l P.n i a b k) (nP l P i k) j = kidSt l P j := by
 have hi := p.hi
 refine kidSt_ext (by rw [p.e_lo hj]) (fun q => ?_) fun s _ => rfl
 show _ = (kidSt l P j).s.has q
 rw [p.shas (by omega), p.khas (by omega)]
 cases hq : q.lt k
 ·have := (p.route q).2 hq
  rw [decide_eq_false (show ¬ j = routeN (nP l P i k).n.pivots q by omega), decide_eq_false (show ¬ j = routeN P.n.pivots q by omega)]
 ·rw [((p.route q).1 hq).1]
theorem k_hi (p : PartOf c l ss P i a b k h) {j : Nat} (hj : i < j) (hj2 : j < P.n.kids.length) : kidSt (partL l P.n i a b k) (nP l P i k) (j + 1) = kidSt l P j := by
 refine kidSt_ext (by rw [p.e_hi hj hj2]) (fun q => ?_) fun s _ => rfl
 show _ = (kidSt l P j).s.has q
 rw [p.shas (by omega), p.khas (by omega)]
 cases hq : q.lt k
 ·rw [((p.route q).2 hq).1]; simp
 ·have := (p.route q).1 hq
  rw [decide_eq_false (show ¬ j + 1 = routeN (nP l P i k).n.pivots q by omega), decide_eq_false (show ¬ j = routeN P.n.pivots q by omega)]
theorem fixP (p : PartOf c l ss P i a b k h) : (kidsO (partL l P.n i a b k) (nP l P i k)).isSome = true ∧ kidsD (partL l P.n i a b k) (nP l P i k) = (kidsD l P).flatMap (fP l P i a b k) := by
 obtain ⟨h1, h2, h3, h4⟩ := kids_all (p.t.kids p.mem) p.h0
 have hi := p.hi
 have hkl := p.klen
 have hkm := p.km.2
 obtain ⟨g1, g2⟩ := kids_mk (l := partL l P.n i a b k) (x := nP l P i k) h2 p.rt' fun j hj => by
  by_cases c1 : j < i
  ·rw [kidOk_ext (l' := l) (y := P) (j := j) (p.e_lo c1) rfl]; exact h4 j (by omega)
  ·by_cases c2 : j = i
   ·subst c2
    unfold kidOk
    rw [p.kid_j, if_pos (Nat.le_refl _), p.slot_at p.mem p.h0 p.hi, p.find_k]
    simp only [Bool.true_and, decide_eq_true_eq]
    rw [p.hv.la, hkm]; rfl
   ·by_cases c3 : j = i + 1
    ·subst c3
     unfold kidOk
     rw [p.kid_j, if_neg (by omega), if_pos rfl, p.find_y]
     simp only [Bool.true_and, decide_eq_true_eq]
     rw [p.hv.lb, hkm]; rfl
    ·obtain ⟨q, rfl⟩ : ∃ q, j = q + 1 := ⟨j - 1, by omega⟩
     rw [kidOk_ext (l' := l) (y := P) (j := q) (p.e_hi (by omega) (by omega)) rfl]; exact h4 q (by omega)
 refine ⟨g1, ?_⟩
 obtain ⟨r, hr⟩ : ∃ r, P.n.kids.length = i + (1 + r) := ⟨P.n.kids.length - (i + 1), by omega⟩
 rw [g2, h1, hkl, hr, show i + (1 + r) + 1 = i + (2 + r) by omega]
 have hf : ∀ j, j < P.n.kids.length → j ≠ i → fP l P i a b k (kidSt l P j) = [kidSt l P j] := fun j hj hne => by
  have e := p.t.at p.mem p.h0 hj
  refine f_x (p.ne e.1 p.mem (by omega)) fun e2 => ?_
  have := p.t.kid_nd p.mem (i := j) (j := i) (by rw [h1, kidsF_len]; omega) (by rw [h1, kidsF_len]; omega) (by rw [(p.t.kidsD_at p.mem p.h0).2, (p.t.kidsD_at p.mem p.h0).2]; exact e2)
  exact hne this
 unfold kidsF
 rw [show List.range (i + (2 + r)) = List.range i ++ (List.range (2 + r)).map (i + ·) from List.range_add, show List.range (i + (1 + r)) = List.range i ++ (List.range (1 + r)).map (i + ·) from List.range_add, List.map_append, List.map_append, List.flatMap_append, List.map_map, List.map_map]
 congr 1
 ·rw [flat_id fun y hy => ?_]
  ·exact List.map_congr_left fun j hj => p.k_lo (List.mem_range.1 hj)
  ·obtain ⟨j, hj, rfl⟩ := List.mem_map.1 hy
   have := List.mem_range.1 hj
   exact hf j (by omega) (by omega)
 ·rw [show List.range (2 + r) = List.range 2 ++ (List.range r).map (2 + ·) from List.range_add, show List.range (1 + r) = List.range 1 ++ (List.range r).map (1 + ·) from List.range_add, List.map_append, List.map_append, List.flatMap_append, List.map_map, List.map_map]
  congr 1
  ·show [kidSt (partL l P.n i a b k) (nP l P i k) (i + 0), kidSt (partL l P.n i a b k) (nP l P i k) (i + 1)] = ([kidSt l P (i + 0)]).flatMap _
   rw [List.flatMap_cons, List.flatMap_nil, List.append_nil, Nat.add_zero, f_k]; rfl
  ·rw [flat_id fun y hy => ?_]
   ·refine List.map_congr_left fun j hj => ?_
    have := List.mem_range.1 hj
    have e := p.k_hi (j := i + (1 + j)) (by omega) (by omega)
    rw [show i + (1 + j) + 1 = i + (2 + j) by omega] at e
    exact e
   ·obtain ⟨j, hj, rfl⟩ := List.mem_map.1 hy
    have := List.mem_range.1 hj
    exact hf (i + (1 + j)) (by omega) (by omega)
theorem kid_in (p : PartOf c l ss P i a b k h) : kidSt l P i ∈ kidsD l P := by
 have h1 := (kids_all (p.t.kids p.mem) p.h0).1
 rw [h1]
 exact List.mem_map.2 ⟨i, List.mem_range.2 p.hi, rfl⟩
theorem fixX (p : PartOf c l ss P i a b k h) {x : Seat} (hx : x ∈ ss) (n1 : x.n.slot ≠ P.n.slot) : (kidsO (partL l P.n i a b k) x).isSome = true ∧ kidsD (partL l P.n i a b k) x = (kidsD l x).flatMap (fP l P i a b k) := by
 by_cases h0 : x.n.level = 0
 ·rw [kidsO_0 h0, kids_leaf h0, kids_leaf h0]; exact ⟨rfl, rfl⟩
 ·obtain ⟨h1, h2, h3, h4⟩ := kids_all (p.t.kids hx) h0
  have key : ∀ j, j < x.n.kids.length → fP l P i a b k (kidSt l x j) = [kidSt (partL l P.n i a b k) x j] ∧ kidOk (partL l P.n i a b k) x j = true := fun j hj => by
   have e := p.t.at hx h0 hj
   have hin : kidSt l x j ∈ kidsD l x := by rw [h1]; exact List.mem_map.2 ⟨j, List.mem_range.2 hj, rfl⟩
   have nk : (kidSt l x j).n.slot ≠ (kidSt l P i).n.slot := fun e2 => n1 (by rw [p.t.parent hx p.mem hin p.kid_in e2])
   by_cases c1 : (kidSt l x j).n.slot = P.n.slot
   ·have eP := p.t.uniq e.1 p.mem c1
    have ef : findN (partL l P.n i a b k) (x.n.kids.getD j 0) = (adoptNd P.n i k l.length, true) := by rw [p.slot_at hx h0 hj, c1, p.find_p]
    have ek : kidSt (partL l P.n i a b k) x j = ⟨adoptNd P.n i k l.length, (kidSt l x j).s, (kidSt l x j).ms⟩ := by
     show (⟨(findN _ _).1, _, _⟩ : Seat) = _
     rw [ef]; rfl
    refine ⟨?_, ?_⟩
    ·rw [ek, eP, p.f_p]; rfl
    ·unfold kidOk
     rw [ef]
     simp only [Bool.true_and, decide_eq_true_eq]
     have := e.2.2.2
     rw [eP] at this
     exact this
   ·have ef : findN (partL l P.n i a b k) (x.n.kids.getD j 0) = findN l (x.n.kids.getD j 0) := by rw [p.slot_at hx h0 hj, p.find_x e.1 c1 nk]
    refine ⟨?_, ?_⟩
    ·rw [f_x c1 nk, kidSt_ext (l := l) (l' := partL l P.n i a b k) (x := x) (y := x) (i := j) (j := j) (by rw [ef]) (fun _ => rfl) (fun _ _ => rfl)]
    ·rw [kidOk_ext (l' := l) (y := x) (j := j) ef rfl]; exact h4 j hj
  obtain ⟨g1, g2⟩ := kids_mk (l := partL l P.n i a b k) (x := x) h2 h3 fun j hj => (key j hj).2
  refine ⟨g1, ?_⟩
  rw [g2, h1]
  unfold kidsF
  rw [List.flatMap_map]
  have : ∀ (L : List Nat), (∀ j ∈ L, j < x.n.kids.length) → L.map (kidSt (partL l P.n i a b k) x) = L.flatMap fun j => fP l P i a b k (kidSt l x j) := by
   intro L
   induction L with
   | nil => intro _; rfl
   | cons j L ih =>
    intro hL
    rw [List.map_cons, List.flatMap_cons, (key j (hL j (by simp))).1, ih fun z hz => hL z (List.mem_cons_of_mem _ hz)]; rfl
  exact this _ fun j hj => List.mem_range.1 hj
theorem froot (p : PartOf c l ss P i a b k h) : fP l P i a b k (rootS l 0) = [rootS (partL l P.n i a b k) 0] := by
 have n2 : (rootS l 0).n.slot ≠ (kidSt l P i).n.slot := (p.t.root_kid p.mem p.kid_in).symm
 have e0 := p.t.root0
 by_cases c1 : (rootS l 0).n.slot = P.n.slot
 ·have eP := p.t.uniq p.t.root p.mem c1
  have e : rootS (partL l P.n i a b k) 0 = ⟨adoptNd P.n i k l.length, (rootS l 0).s, (rootS l 0).ms⟩ := by
   show (⟨(findN _ _).1, _, _⟩ : Seat) = _
   have := p.find_p
   rw [← c1, e0] at this
   rw [this]; rfl
  rw [e, eP, p.f_p]; rfl
 ·rw [f_x c1 n2]
  have := p.find_x p.t.root c1 n2
  rw [e0] at this
  show [(⟨(findN l 0).1, _, _⟩ : Seat)] = [⟨(findN _ 0).1, _, _⟩]
  rw [this]
theorem each (p : PartOf c l ss P i a b k h) {x : Seat} (hx : x ∈ ss) : (∀ z ∈ fP l P i a b k x, (kidsO (partL l P.n i a b k) z).isSome = true) ∧ (fP l P i a b k x).flatMap (kidsD (partL l P.n i a b k)) = (kidsD l x).flatMap (fP l P i a b k) := by
 by_cases c1 : x.n.slot = (kidSt l P i).n.slot
 ·rw [p.t.uniq hx p.km.1 c1, f_k]
  obtain ⟨g1, g2, g3⟩ := p.fixK
  refine ⟨fun z hz => ?_, ?_⟩
  ·simp only [List.mem_cons, List.not_mem_nil, or_false] at hz
   rcases hz with rfl | rfl
   ·exact g1
   ·exact g2
  ·rw [flat_id (L := kidsD l (kidSt l P i)) fun y hy => ?_]
   ·simpa using g3
   ·have e := p.t.kid_lvl p.km.1 hy
    have g := p.km.2
    exact f_x (p.ne e.1 p.mem (by omega)) (p.ne e.1 p.km.1 (by omega))
 ·by_cases c2 : x.n.slot = P.n.slot
  ·rw [p.t.uniq hx p.mem c2, p.f_p]
   refine ⟨fun z hz => ?_, ?_⟩
   ·rw [List.mem_singleton] at hz; rw [hz]; exact p.fixP.1
   ·rw [← p.fixP.2]; simp
  ·rw [f_x c2 c1]
   refine ⟨fun z hz => ?_, ?_⟩
   ·rw [List.mem_singleton] at hz; rw [hz]; exact (p.fixX hx c2).1
   ·rw [← (p.fixX hx c2).2]; simp
theorem fix (p : PartOf c l ss P i a b k h) : ss.flatMap (fP l P i a b k) = rootS (partL l P.n i a b k) 0 :: (ss.flatMap (fP l P i a b k)).flatMap (kidsD (partL l P.n i a b k)) := by
 rw [flat_fix fun x hx => (p.each hx).2]
 conv => lhs; rw [p.t.fix]
 rw [List.flatMap_cons, p.froot]; rfl
theorem keys_out (p : PartOf c l ss P i a b k h) : ∀ (L : List Seat), (∀ x ∈ L, x ∈ ss ∧ x.n.slot ≠ (kidSt l P i).n.slot) → (L.flatMap (fP l P i a b k)).map Seat.key = L.map Seat.key
 | [], _ => rfl
 | x :: L, hL => by
  rw [List.flatMap_cons, List.map_append, p.keys_out L fun z hz => hL z (List.mem_cons_of_mem _ hz), List.map_cons]
  have g := hL x (by simp)
  by_cases c2 : x.n.slot = P.n.slot
  ·rw [p.t.uniq g.1 p.mem c2, p.f_p]; rfl
  ·rw [f_x c2 g.2]; rfl
theorem keys (p : PartOf c l ss P i a b k h) : ∃ S1 S2 : List Key9, ss.map Seat.key = S1 ++ ((kidSt l P i).n.slot, (kidSt l P i).n.level, (kidSt l P i).n.right) :: S2 ∧
  (ss.flatMap (fP l P i a b k)).map Seat.key = S1 ++ ((kidSt l P i).n.slot, (kidSt l P i).n.level, (l.length : Int)) :: ((l.length : Int), (kidSt l P i).n.level, (kidSt l P i).n.right) :: S2 := by
 obtain ⟨A, B, e⟩ := List.append_of_mem p.km.1
 have hnd := p.t.nodup_s
 have hA : ∀ x ∈ A, x ∈ ss ∧ x.n.slot ≠ (kidSt l P i).n.slot := fun x hx => by
  refine ⟨by rw [e]; exact List.mem_append_left _ hx, fun e2 => ?_⟩
  rw [e, List.map_append, List.nodup_append] at hnd
  exact hnd.2.2 _ (List.mem_map.2 ⟨x, hx, rfl⟩) _ (List.mem_map.2 ⟨kidSt l P i, by simp, rfl⟩) e2
 have hB : ∀ x ∈ B, x ∈ ss ∧ x.n.slot ≠ (kidSt l P i).n.slot := fun x hx => by
  refine ⟨by rw [e]; exact List.mem_append_right _ (List.mem_cons_of_mem _ hx), fun e2 => ?_⟩
  rw [e, List.map_append, List.nodup_append, List.map_cons, List.nodup_cons] at hnd
  exact hnd.2.1.1 (List.mem_map.2 ⟨x, hx, e2⟩)
 refine ⟨A.map Seat.key, B.map Seat.key, ?_, ?_⟩
 ·conv => lhs; rw [e]
  rw [List.map_append, List.map_cons]; rfl
 ·conv => lhs; rw [e]
  rw [List.flatMap_append, List.flatMap_cons, List.map_append, List.map_append, p.keys_out A hA, p.keys_out B hB, f_k]
  congr 1
  show [Seat.key (nA l P i a b k), Seat.key (nB l P i a b k)] ++ _ = _
  have k1 : Seat.key (nA l P i a b k) = ((kidSt l P i).n.slot, (kidSt l P i).n.level, (l.length : Int)) := by
   unfold Seat.key; rw [p.an, p.sa, p.hv.la, p.hv.aright, p.sb]
  have k2 : Seat.key (nB l P i a b k) = ((l.length : Int), (kidSt l P i).n.level, (kidSt l P i).n.right) := by
   unfold Seat.key; rw [p.bn, p.sb, p.hv.lb, p.hv.bend.2.2]
  rw [k1, k2]; rfl
theorem perm (p : PartOf c l ss P i a b k h) : ((ss.flatMap (fP l P i a b k)).map fun x : Seat => x.n.slot).Perm ((partL l P.n i a b k).map fun n : Nd => n.slot) := by
 obtain ⟨S1, S2, e1, e2⟩ := p.keys
 have h1 : (ss.flatMap (fP l P i a b k)).map (fun x : Seat => x.n.slot) = ((ss.flatMap (fP l P i a b k)).map Seat.key).map (·.1) := by rw [List.map_map]; rfl
 have h2 : ss.map (fun x : Seat => x.n.slot) = (ss.map Seat.key).map (·.1) := by rw [List.map_map]; rfl
 have h3 : ((ss.flatMap (fP l P i a b k)).map fun x : Seat => x.n.slot).Perm ((ss.map fun x : Seat => x.n.slot) ++ [(l.length : Int)]) := by
  rw [h1, h2, e1, e2, List.map_append, List.map_append, List.append_assoc]
  refine List.Perm.append_left _ ?_
  simp only [List.map_cons, List.cons_append]
  exact List.Perm.cons _ (List.perm_append_singleton _ _).symm
 refine h3.trans ?_
 have h4 : ((partL l P.n i a b k).map fun n : Nd => n.slot) = (l.map fun n : Nd => n.slot) ++ [(l.length : Int)] := by
  rw [slots_range p.slots, slots_range p.t.slot, p.len, List.range_succ, List.map_append]; rfl
 rw [h4]
 exact List.Perm.append_right _ p.t.perm_s
end PartOf
end Go.Fw

namespace Go.Fw
open Go Go.RowKit
namespace PartOf
variable {c : Cfg} {l : List Nd} {ss : List Seat} {P : Seat} {i : Nat} {a b : Nd} {k : Str} {h : Nat}
theorem msA (p : PartOf c l ss P i a b k h) : ∀ m ∈ (nA l P i a b k).n.msgs, ∃ m' ∈ (kidSt l P i).n.msgs, (m'.clip ⟨Str.nil, k, false⟩).2 = true ∧ (m'.clip ⟨Str.nil, k, false⟩).1 = m := fun m hm => by
 rw [p.an] at hm
 by_cases h0 : (kidSt l P i).n.level = 0
 ·rw [(p.m0 h0).1, p.t.nomsgs p.km.1 h0] at hm; cases hm
 ·rw [(p.m1 h0).1] at hm; exact clips_mem hm
theorem msB (p : PartOf c l ss P i a b k h) : ∀ m ∈ (nB l P i a b k).n.msgs, ∃ m' ∈ (kidSt l P i).n.msgs, (m'.clip ⟨k, Str.nil, true⟩).2 = true ∧ (m'.clip ⟨k, Str.nil, true⟩).1 = m := fun m hm => by
 rw [p.bn] at hm
 by_cases h0 : (kidSt l P i).n.level = 0
 ·rw [(p.m0 h0).2, p.t.nomsgs p.km.1 h0] at hm; cases hm
 ·rw [(p.m1 h0).2] at hm; exact clips_mem hm
theorem kin9 (p : PartOf c l ss P i a b k h) : (kidSt l P i).s.has k = true ∧ k ≠ (kidSt l P i).s.lo := p.t.k_in p.km.1 p.hv p.nk
theorem phas (p : PartOf c l ss P i a b k h) : P.s.has k = true ∧ k ≠ P.s.lo := by
 obtain ⟨k1, k2⟩ := p.kin9
 have h1 : P.s.has k = true := kid_sub (l := l) (j := i) k k1
 refine ⟨h1, fun e => ?_⟩
 have he : (kidSt l P i).s.empty = false := by
  cases e9 : (kidSt l P i).s.empty
  ·rfl
  ·have := empty_iff.1 e9 k; rw [k1] at this; cases this
 have h2 := kid_sub (l := l) (j := i) _ (lo_in he)
 have h3 := (span_has.1 h2).1
 have h4 := (span_has.1 k1).1
 rw [← e] at h3
 exact k2 (Str.lt_total h4 h3)
theorem pR (p : PartOf c l ss P i a b k h) : (adoptNd P.n i k l.length).R c.fan c.leaf c.bud := by
 obtain ⟨q1, q4, q5, q6⟩ := (p.t.seat p.mem).1
 rw [if_neg p.h0] at q6
 obtain ⟨⟨r1, r2, r3⟩, r4, r5, r6, r7, r8, r9⟩ := q6
 obtain ⟨⟨p1, p2⟩, _⟩ := (p.t.seat p.mem).2.1
 refine ⟨q1, q4, q5, ?_⟩
 rw [if_neg (show ¬ (adoptNd P.n i k l.length).level = 0 from p.h0)]
 have hkl := p.klen
 have hl : (adoptNd P.n i k l.length).kids.length = P.n.kids.length + 1 := hkl
 have hf := p.full
 refine ⟨⟨r1, by omega, by omega⟩, p.rt', r5, r6, fun j hj => ?_, fun j hj => ?_, r9⟩
 ·have hm : (adoptNd P.n i k l.length).kids[j] ∈ (P.n.kids.take (i + 1) ++ [(l.length : Int)]) ++ P.n.kids.drop (i + 1) := List.getElem_mem hj
  have all : ∀ z ∈ P.n.kids, 0 ≤ z := fun z hz => by obtain ⟨q, hq, rfl⟩ := List.getElem_of_mem hz; exact r7 q hq
  rcases List.mem_append.1 hm with hm | hm
  ·rcases List.mem_append.1 hm with hm | hm
   ·exact all _ (List.mem_of_mem_take hm)
   ·rw [List.mem_singleton] at hm; rw [hm]; omega
  ·exact all _ (List.mem_of_mem_drop hm)
 ·have hm : (adoptNd P.n i k l.length).pivots[j] ∈ (P.n.pivots.take i ++ [k]) ++ P.n.pivots.drop i := List.getElem_mem hj
  have all : ∀ z ∈ P.n.pivots, P.n.parts z := fun z hz => by obtain ⟨q, hq, rfl⟩ := List.getElem_of_mem hz; exact r8 q hq
  rcases List.mem_append.1 hm with hm | hm
  ·rcases List.mem_append.1 hm with hm | hm
   ·exact all _ (List.mem_of_mem_take hm)
   ·rw [List.mem_singleton] at hm; rw [hm]
    refine ⟨p.hv.size.1, p.hv.size.2, ?_⟩
    show (P.n.top || k.lt P.n.high) = true
    rw [p1, p2, Bool.or_eq_true]
    exact (span_has.1 p.phas.1).2
  ·exact all _ (List.mem_of_mem_drop hm)
theorem pP (p : PartOf c l ss P i a b k h) : PlacedP (nP l P i k) := by
 obtain ⟨p0, p3, p4, p5⟩ := (p.t.seat p.mem).2.1
 refine ⟨p0, p3, fun j hj => ?_, p5⟩
 have hm : (nP l P i k).n.pivots[j] ∈ (P.n.pivots.take i ++ [k]) ++ P.n.pivots.drop i := List.getElem_mem hj
 have all : ∀ z ∈ P.n.pivots, P.s.has z = true ∧ z ≠ P.s.lo := fun z hz => by obtain ⟨q, hq, rfl⟩ := List.getElem_of_mem hz; exact p4 q hq
 rcases List.mem_append.1 hm with hm | hm
 ·rcases List.mem_append.1 hm with hm | hm
  ·exact all _ (List.mem_of_mem_take hm)
  ·rw [List.mem_singleton] at hm; rw [hm]; exact p.phas
 ·exact all _ (List.mem_of_mem_drop hm)
theorem seats9 (p : PartOf c l ss P i a b k h) : ∀ z ∈ ss.flatMap (fP l P i a b k), SeatP c z := fun z hz => by
 obtain ⟨x, hx, hz⟩ := List.mem_flatMap.1 hz
 have sK := p.t.seat p.km.1
 have room := p.room
 by_cases c1 : x.n.slot = (kidSt l P i).n.slot
 ·rw [p.t.uniq hx p.km.1 c1, f_k] at hz
  simp only [List.mem_cons, List.not_mem_nil, or_false] at hz
  have st : ∀ {s : Span} {ms : List Msg}, ms = clips s (kidSt l P i).ms → ∀ j (hj : j < ms.length), (kidSt l P i).n.seen < ms[j].stamp := fun e j hj => by
   subst e
   obtain ⟨m0, hm0, e⟩ := clips_stamp (List.getElem_mem hj)
   rw [e]
   obtain ⟨q, hq, rfl⟩ := List.getElem_of_mem hm0
   exact sK.2.2.2 q hq
  rcases hz with rfl | rfl
  ·refine ⟨by rw [p.an]; exact p.aR, HSeat.placedA p.t p.km.1 p.hs (meet_norm _ _) p.nk p.msA, by rw [p.an, p.sa]; exact sK.2.2.1, fun j hj => ?_⟩
   rw [p.an, p.ea]; exact st p.ams j hj
  ·refine ⟨by rw [p.bn]; exact p.bR, HSeat.placedB p.t p.km.1 p.hs (meet_norm _ _) p.nk p.msB, by rw [p.bn, p.sb]; exact room, fun j hj => ?_⟩
   rw [p.bn, p.eb]; exact st p.bms j hj
 ·by_cases c2 : x.n.slot = P.n.slot
  ·rw [p.t.uniq hx p.mem c2, p.f_p, List.mem_singleton] at hz
   rw [hz]
   have sP := p.t.seat p.mem
   exact ⟨p.pR, p.pP, sP.2.2.1, sP.2.2.2⟩
  ·rw [f_x c2 c1, List.mem_singleton] at hz
   rw [hz]; exact p.t.seat hx
theorem tree (p : PartOf c l ss P i a b k h) : Tree c (partL l P.n i a b k) (ss.flatMap (fP l P i a b k)) := by
 have hfew := p.few
 have hroom := p.room
 refine tree_mk p.t.cfg (by rw [p.len]; omega) (sml_R p.t.cfg (by rw [p.len]; omega) fun n hn => ?_) p.slots p.fix (fun z hz => ?_) p.perm ?_ (by rw [p.len]; omega) p.seats9
 ·have old : ∀ n ∈ l, n.R c.fan c.leaf c.bud := fun n hn => by
   have := (p.t.perm.mem_iff).2 hn
   obtain ⟨x, hx, rfl⟩ := List.mem_map.1 this
   exact (p.t.seat hx).1
  unfold partL at hn
  rcases List.mem_append.1 hn with hn | hn
  ·rcases List.mem_or_eq_of_mem_set hn with hn | rfl
   ·rcases List.mem_or_eq_of_mem_set hn with hn | rfl
    ·exact old n hn
    ·exact p.aR
   ·exact p.pR
  ·rw [List.mem_singleton] at hn; rw [hn]; exact p.bR
 ·obtain ⟨x, hx, hz⟩ := List.mem_flatMap.1 hz
  exact (p.each hx).1 z hz
 ·obtain ⟨S1, S2, e1, e2⟩ := p.keys
  rw [e2]
  have := (linked_iff ss).1 p.t.q.1.2.1
  rw [e1] at this
  exact lk_part S1 S2 this
theorem map (p : PartOf c l ss P i a b k h) : mapN (partL l P.n i a b k) = mapN l := by
 rw [mapN_t p.tree.sts, mapN_t p.t.sts]
 refine leaves_flat fun x hx => ?_
 by_cases c1 : x.n.slot = (kidSt l P i).n.slot
 ·rw [p.t.uniq hx p.km.1 c1, f_k]
  exact HSeat.view p.t p.km.1 p.hs (fun _ => by rw [p.ams, clips_clips fun _ h => h]) fun _ => by rw [p.bms, clips_clips fun _ h => h]
 ·by_cases c2 : x.n.slot = P.n.slot
  ·rw [p.t.uniq hx p.mem c2, p.f_p]
   have e1 : ¬ P.n.level = 0 := p.h0
   have e2 : ¬ (nP l P i k).n.level = 0 := p.h0
   simp [leavesS, List.filter_cons, e1, e2]
  ·rw [f_x c2 c1]
end PartOf
theorem part_of {c : Cfg} {l : List Nd} {ss : List Seat} (t : Tree c l ss) {P : Seat} {i : Nat} (hP : P ∈ ss) (h0 : ¬ P.n.level = 0) (hi : i < P.n.kids.length) (full : (P.n.kids.length : Int) < c.fan) (room : (l.length : Int) < c.slots) (few : l.length < 4096)
  (hc : (cleaveN (kidSt l P i).n l.length).2.2.2 = true) (ha : (adoptN P.n i (cleaveN (kidSt l P i).n l.length).2.2.1 l.length).2 = true) :
  (adoptN P.n i (cleaveN (kidSt l P i).n l.length).2.2.1 l.length).1 = adoptNd P.n i (cleaveN (kidSt l P i).n l.length).2.2.1 l.length ∧
  ∃ h, PartOf c l ss P i (cleaveN (kidSt l P i).n l.length).1 (cleaveN (kidSt l P i).n l.length).2.1 (cleaveN (kidSt l P i).n l.length).2.2.1 h := by
 have hK := (t.at hP h0 hi).1
 have hR := (t.seat hK).1
 have hRR := cleave_R (slot := (l.length : Int)) hR (by omega) hc
 obtain ⟨a, b, k, h, e, hv, g1, g2, g3, g4, g5, g6, g7⟩ := cleave_halves (y := (l.length : Int)) hR hc
 rw [e] at ha hRR ⊢
 have hb : (binsN P.n.pivots P.n.kids i k l.length).2.length ≠ 0 := fun e0 => by
  rw [adoptN_0 (.inr e0)] at ha; cases ha
 have h3 : (rangeN P.n.pivots (i : Int)).has k = true := by
  cases h3 : (rangeN P.n.pivots (i : Int)).has k
  ·exact absurd (bins_0 (.inr (.inl h3))) hb
  ·rfl
 have h4 : ¬ k = (rangeN P.n.pivots (i : Int)).lo := fun h4 => absurd (bins_0 (.inr (.inr h4))) hb
 refine ⟨?_, h, ⟨t, hP, h0, hi, hv, g1, g2, g3, g4, g5, g6, g7, hRR.1, hRR.2.1, h3, h4, full, room, few⟩⟩
 rw [adoptN_1 h0 (by omega) h3 h4]; rfl
end Go.Fw

namespace Go.Fw
open Go Go.RowKit
theorem merge_l {X : List Msg} (h : Rst X) : mergeN [X, []] = X := by
 have := (merge_two h List.Pairwise.nil fun a _ b hb => by cases hb).1
 rwa [List.append_nil] at this
theorem merge_r {X : List Msg} (h : Rst X) : mergeN [[], X] = X := (merge_two List.Pairwise.nil h fun a ha => by cases ha).1
def liftR (n : Nd) (k : Str) (x y : Int) : Nd := { n with level := n.level + 1, pivots := [k], kids := [x, y], rows := [], msgs := if n.level = 0 then [] else n.msgs }
def liftH (n z : Nd) (s : Int) : Nd := { z with slot := s, msgs := [], seen := if n.level = 0 then z.seen else 0 }
def liftN (n : Nd) (x y : Int) : Nd × Nd × Nd × Bool :=
 if (cleaveN n y).2.2.2 = true then (liftR n (cleaveN n y).2.2.1 x y, liftH n (cleaveN n y).1 x, liftH n (cleaveN n y).2.1 (cleaveN n y).2.1.slot, true) else (Nd.zero, Nd.zero, Nd.zero, false)
theorem liftN_t {n : Nd} {x y : Int} (h : (cleaveN n y).2.2.2 = true) : liftN n x y = (liftR n (cleaveN n y).2.2.1 x y, liftH n (cleaveN n y).1 x, liftH n (cleaveN n y).2.1 (cleaveN n y).2.1.slot, true) := if_pos h
theorem liftN_f {n : Nd} {x y : Int} (h : (cleaveN n y).2.2.2 = false) : liftN n x y = (Nd.zero, Nd.zero, Nd.zero, false) := if_neg (by simp [h])
theorem liftN_in {n : Nd} {x y : Int} (h : (cleaveN n y).2.2.2 = true) (h0 : ¬ n.level = 0) : liftN n x y = ({ n with level := n.level + 1, pivots := [(cleaveN n y).2.2.1], kids := [x, y], rows := [] }, { (cleaveN n y).1 with slot := x, msgs := [], seen := 0 }, { (cleaveN n y).2.1 with msgs := [], seen := 0 }, true) := by
 rw [liftN_t h]; unfold liftR liftH; rw [if_neg h0, if_neg h0, if_neg h0]
theorem liftN_lf {n : Nd} {x y : Int} (h : (cleaveN n y).2.2.2 = true) (h0 : n.level = 0) : liftN n x y = ({ n with level := n.level + 1, pivots := [(cleaveN n y).2.2.1], kids := [x, y], rows := [], msgs := [] }, { (cleaveN n y).1 with slot := x, msgs := [] }, { (cleaveN n y).2.1 with msgs := [] }, true) := by
 rw [liftN_t h]; unfold liftR liftH; rw [if_pos h0, if_pos h0, if_pos h0]
def fullN (c : Cfg) (n : Nd) : Bool := if n.level = 0 then decide (c.leaf ≤ (n.rows.length : Int)) else decide (c.fan ≤ (n.kids.length : Int))
theorem lift_ok (n : Nd) (x y : Int) : (liftN n x y).2.2.2 = (cleaveN n y).2.2.2 := by
 cases h : (cleaveN n y).2.2.2
 ·rw [liftN_f h]
 ·rw [liftN_t h]
def liftL (l : List Nd) (r a b : Nd) : List Nd := (l.set 0 r) ++ [a, b]
structure LiftOf (c : Cfg) (l : List Nd) (ss : List Seat) (a0 b0 : Nd) (k : Str) (h : Nat) : Prop where
 t : Tree c l ss
 hv : Halves (rootS l 0).n a0 b0 k h
 sb : b0.slot = (l.length : Int) + 1
 ea : a0.seen = (rootS l 0).n.seen
 eb : b0.seen = (rootS l 0).n.seen
 nk : (rootS l 0).n.has k = true
 aR : a0.R c.fan c.leaf c.bud
 bR : b0.R c.fan c.leaf c.bud
 room : (l.length : Int) + 1 < c.slots
 few : l.length + 2 ≤ 4096
namespace LiftOf
variable {c : Cfg} {l : List Nd} {ss : List Seat} {a0 b0 : Nd} {k : Str} {h : Nat}
noncomputable def nn (l : List Nd) : Nd := (rootS l 0).n
noncomputable def la (l : List Nd) (a0 : Nd) : Nd := liftH (nn l) a0 (l.length : Int)
noncomputable def lb (l : List Nd) (b0 : Nd) : Nd := liftH (nn l) b0 ((l.length : Int) + 1)
noncomputable def lr (l : List Nd) (k : Str) : Nd := liftR (nn l) k (l.length : Int) ((l.length : Int) + 1)
noncomputable def ll (l : List Nd) (a0 b0 : Nd) (k : Str) : List Nd := liftL l (lr l k) (la l a0) (lb l b0)
theorem root0 (p : LiftOf c l ss a0 b0 k h) : (nn l).slot = 0 := p.t.root0
theorem seen (p : LiftOf c l ss a0 b0 k h) : (nn l).seen ≤ 1099511627776 ∧ 0 ≤ (nn l).seen := by
 obtain ⟨j, hj, e⟩ := List.getElem_of_mem (p.t.nd p.t.root).2.2
 have h1 := (p.t.slot j hj).2
 rw [e] at h1
 exact ⟨h1, (p.t.seat p.t.root).1.1.2.2⟩
theorem msgs (p : LiftOf c l ss a0 b0 k h) : (lr l k).msgs = (nn l).msgs := by
 show (if (nn l).level = 0 then [] else (nn l).msgs) = _
 split
 ·rename_i h0; exact (p.t.nomsgs p.t.root h0).symm
 ·rfl
theorem len (p : LiftOf c l ss a0 b0 k h) : (ll l a0 b0 k).length = l.length + 2 := by
 unfold ll liftL; rw [List.length_append, List.length_set]; rfl
theorem slots (p : LiftOf c l ss a0 b0 k h) : SlotsP (ll l a0 b0 k) := by
 have hp := p.t.pos
 have hs := p.seen
 have h1 := slots_set p.t.slot (x := lr l k) (by show 0 ≤ (nn l).slot ∧ _; rw [show (lr l k).slot = (nn l).slot from rfl, p.root0]; omega) hs.1
 rw [show (lr l k).slot.toNat = 0 from by rw [show (lr l k).slot = (nn l).slot from rfl, p.root0]; rfl] at h1
 have sA : (la l a0).seen ≤ 1099511627776 := by
  show (if (nn l).level = 0 then a0.seen else 0) ≤ _
  split
  ·rw [p.ea]; exact hs.1
  ·omega
 have sB : (lb l b0).seen ≤ 1099511627776 := by
  show (if (nn l).level = 0 then b0.seen else 0) ≤ _
  split
  ·rw [p.eb]; exact hs.1
  ·omega
 have h2 := slots_snoc h1 (x := la l a0) (by rw [List.length_set]; rfl) sA
 have h3 := slots_snoc h2 (x := lb l b0) (by rw [List.length_append, List.length_set]; rfl) sB
 rw [List.append_assoc] at h3
 exact h3
theorem get (p : LiftOf c l ss a0 b0 k h) (s : Int) : getL (ll l a0 b0 k) s = if s = (l.length : Int) + 1 then lb l b0 else if s = l.length then la l a0 else if s = 0 then lr l k else getL l s := by
 have hp := p.t.pos
 have e : ll l a0 b0 k = ((l.set (lr l k).slot.toNat (lr l k)) ++ [la l a0]) ++ [lb l b0] := by
  rw [show (lr l k).slot.toNat = 0 from by rw [show (lr l k).slot = (nn l).slot from rfl, p.root0]; rfl, List.append_assoc]; rfl
 have h0 : (lr l k).slot = 0 := p.root0
 rw [e, getL_snoc, getL_snoc, List.length_append, List.length_set, getL_set (by rw [h0]; omega), h0]
 rfl
theorem find (p : LiftOf c l ss a0 b0 k h) (s : Int) : findN (ll l a0 b0 k) s = (if s = (l.length : Int) + 1 then lb l b0 else if s = l.length then la l a0 else if s = 0 then lr l k else getL l s, decide (0 ≤ s ∧ s < (l.length : Int) + 2)) := by
 rw [find_eq p.slots, p.get, p.len]; rfl
theorem find_x (p : LiftOf c l ss a0 b0 k h) {x : Seat} (hx : x ∈ ss) (h1 : x.n.slot ≠ 0) : findN (ll l a0 b0 k) x.n.slot = findN l x.n.slot := by
 have := (p.t.nd hx).1
 rw [p.find, if_neg (by omega), if_neg (by omega), if_neg h1, find_eq p.t.slot, decide_eq_true (by omega), decide_eq_true (by omega)]
theorem find_0 (p : LiftOf c l ss a0 b0 k h) : findN (ll l a0 b0 k) 0 = (lr l k, true) := by
 have := p.t.pos
 rw [p.find, if_neg (by omega), if_neg (by omega), if_pos rfl, decide_eq_true (by omega)]
theorem find_a (p : LiftOf c l ss a0 b0 k h) : findN (ll l a0 b0 k) (l.length : Int) = (la l a0, true) := by
 rw [p.find, if_neg (by omega), if_pos rfl, decide_eq_true (by omega)]
theorem find_b (p : LiftOf c l ss a0 b0 k h) : findN (ll l a0 b0 k) ((l.length : Int) + 1) = (lb l b0, true) := by
 rw [p.find, if_pos rfl, decide_eq_true (by omega)]
noncomputable def nR (l : List Nd) (k : Str) : Seat := ⟨lr l k, Span.all, []⟩
noncomputable def nA (l : List Nd) (a0 b0 : Nd) (k : Str) : Seat := kidSt (ll l a0 b0 k) (nR l k) 0
noncomputable def nB (l : List Nd) (a0 b0 : Nd) (k : Str) : Seat := kidSt (ll l a0 b0 k) (nR l k) 1
theorem rroot (p : LiftOf c l ss a0 b0 k h) : rootS (ll l a0 b0 k) 0 = nR l k := by
 show (⟨(findN _ 0).1, _, _⟩ : Seat) = _
 rw [p.find_0]; rfl
theorem an (p : LiftOf c l ss a0 b0 k h) : (nA l a0 b0 k).n = la l a0 := by
 show (findN _ (l.length : Int)).1 = _
 rw [p.find_a]
theorem bn (p : LiftOf c l ss a0 b0 k h) : (nB l a0 b0 k).n = lb l b0 := by
 show (findN _ ((l.length : Int) + 1)).1 = _
 rw [p.find_b]
theorem route1 (k q : Str) : routeN [k] q = if q.lt k = true then 0 else 1 := by
 unfold routeN
 cases h : q.lt k <;> simp [List.filter_cons, h]
theorem ha (p : LiftOf c l ss a0 b0 k h) (q : Str) : (nA l a0 b0 k).s.has q = ((rootS l 0).s.has q && q.lt k) := by
 show (Span.all.meet (rangeN [k] ((0 : Nat) : Int))).has q = (Span.all.has q && _)
 rw [meet_has, range_has (by rfl) q (Nat.zero_le _), route1]
 cases q.lt k <;> simp
theorem hb (p : LiftOf c l ss a0 b0 k h) (q : Str) : (nB l a0 b0 k).s.has q = ((rootS l 0).s.has q && !q.lt k) := by
 show (Span.all.meet (rangeN [k] ((1 : Nat) : Int))).has q = (Span.all.has q && _)
 rw [meet_has, range_has (by rfl) q (by simp), route1]
 cases q.lt k <;> simp
theorem rst (p : LiftOf c l ss a0 b0 k h) : Rst (nn l).msgs := (p.t.msgs p.t.root).1
theorem ams (p : LiftOf c l ss a0 b0 k h) : (nA l a0 b0 k).ms = clips (nA l a0 b0 k).s (nn l).msgs := by
 show mergeN [clips (nA l a0 b0 k).s (lr l k).msgs, []] = _
 rw [p.msgs, merge_l (clips_rst p.rst)]
theorem bms (p : LiftOf c l ss a0 b0 k h) : (nB l a0 b0 k).ms = clips (nB l a0 b0 k).s (nn l).msgs := by
 show mergeN [clips (nB l a0 b0 k).s (lr l k).msgs, []] = _
 rw [p.msgs, merge_l (clips_rst p.rst)]
theorem hs (p : LiftOf c l ss a0 b0 k h) : HSeat (rootS l 0) (nA l a0 b0 k) (nB l a0 b0 k) k h := by
 refine ⟨?_, p.ha, p.hb, meet_norm _ _, meet_norm _ _, fun s hs => ?_, fun s hs => ?_⟩
 ·rw [p.an, p.bn]
  have hv := p.hv
  exact ⟨hv.la, hv.lb, hv.aend, hv.bend, hv.aright.trans p.sb, hv.leaf, hv.inner, hv.size⟩
 ·rw [p.an, p.ams, clips_clips hs]
  show mergeN [[], clips s (nn l).msgs] = mergeN [clips s (nn l).msgs, []]
  rw [merge_l (clips_rst p.rst), merge_r (clips_rst p.rst)]
 ·rw [p.bn, p.bms, clips_clips hs]
  show mergeN [[], clips s (nn l).msgs] = mergeN [clips s (nn l).msgs, []]
  rw [merge_l (clips_rst p.rst), merge_r (clips_rst p.rst)]
theorem slot_at (p : LiftOf c l ss a0 b0 k h) {x : Seat} (hx : x ∈ ss) (h0 : ¬ x.n.level = 0) {j : Nat} (hj : j < x.n.kids.length) : x.n.kids.getD j 0 = (kidSt l x j).n.slot := by
 have e := (p.t.at hx h0 hj)
 rw [List.getD_eq_getElem?_getD, List.getElem?_eq_getElem hj, e.2.2.1, (getL_slot p.t.slot e.2.1).1]; rfl
theorem kid0 (p : LiftOf c l ss a0 b0 k h) {x : Seat} (hx : x ∈ ss) (h0 : ¬ x.n.level = 0) {j : Nat} (hj : j < x.n.kids.length) : findN (ll l a0 b0 k) (x.n.kids.getD j 0) = findN l (x.n.kids.getD j 0) := by
 rw [p.slot_at hx h0 hj]
 refine p.find_x (p.t.at hx h0 hj).1 fun e => ?_
 have hin : kidSt l x j ∈ kidsD l x := by rw [(kids_all (p.t.kids hx) h0).1]; exact List.mem_map.2 ⟨j, List.mem_range.2 hj, rfl⟩
 exact p.t.root_kid hx hin (by rw [e]; exact p.t.root0.symm)
theorem fixK (p : LiftOf c l ss a0 b0 k h) : (kidsO (ll l a0 b0 k) (nA l a0 b0 k)).isSome = true ∧ (kidsO (ll l a0 b0 k) (nB l a0 b0 k)).isSome = true ∧ kidsD (ll l a0 b0 k) (nA l a0 b0 k) ++ kidsD (ll l a0 b0 k) (nB l a0 b0 k) = kidsD l (rootS l 0) := by
 refine HSeat.kids p.t p.t.root p.hs fun j hj => ?_
 by_cases h0 : (rootS l 0).n.level = 0
 ·have := (p.t.leaf p.t.root h0).1
  omega
 ·exact p.kid0 p.t.root h0 hj
theorem fixR (p : LiftOf c l ss a0 b0 k h) : (kidsO (ll l a0 b0 k) (nR l k)).isSome = true ∧ kidsD (ll l a0 b0 k) (nR l k) = [nA l a0 b0 k, nB l a0 b0 k] := by
 have hl := p.t.lvl p.t.root
 obtain ⟨g1, g2⟩ := kids_mk (l := ll l a0 b0 k) (x := nR l k) (by show 0 < (nn l).level + 1; have : 0 ≤ (nn l).level := hl; omega) (by rfl) fun j hj => by
  have hj : j < 2 := hj
  have e : ∀ z : Nd, z.level = (nn l).level → decide (z.level = (nR l k).n.level - 1) = true := fun z hz => by
   rw [decide_eq_true_eq, hz]
   show _ = (nn l).level + 1 - 1
   omega
  unfold kidOk
  rcases Nat.lt_or_ge j 1 with h | h
  ·have : j = 0 := by omega
   subst this
   show ((findN _ (l.length : Int)).2 && _) = true
   rw [show (nR l k).n.kids.getD 0 0 = (l.length : Int) from rfl, p.find_a]
   exact e (la l a0) p.hv.la
  ·have : j = 1 := by omega
   subst this
   show ((findN _ ((l.length : Int) + 1)).2 && _) = true
   rw [show (nR l k).n.kids.getD 1 0 = (l.length : Int) + 1 from rfl, p.find_b]
   exact e (lb l b0) p.hv.lb
 exact ⟨g1, g2⟩
theorem fixX (p : LiftOf c l ss a0 b0 k h) {x : Seat} (hx : x ∈ ss) : (kidsO (ll l a0 b0 k) x).isSome = true ∧ kidsD (ll l a0 b0 k) x = kidsD l x := by
 by_cases h0 : x.n.level = 0
 ·rw [kidsO_0 h0, kids_leaf h0, kids_leaf h0]; exact ⟨rfl, rfl⟩
 ·obtain ⟨h1, h2, h3, h4⟩ := kids_all (p.t.kids hx) h0
  obtain ⟨g1, g2⟩ := kids_mk (l := ll l a0 b0 k) (x := x) h2 h3 fun j hj => by
   rw [kidOk_ext (l' := l) (y := x) (j := j) (p.kid0 hx h0 hj) rfl]; exact h4 j hj
  refine ⟨g1, ?_⟩
  rw [g2, h1]
  exact List.map_congr_left fun j hj => kidSt_ext (by rw [p.kid0 hx h0 (List.mem_range.1 hj)]) (fun _ => rfl) fun _ _ => rfl
noncomputable def rest (l : List Nd) (ss : List Seat) : List Seat := ss.flatMap (kidsD l)
theorem in_rest (p : LiftOf c l ss a0 b0 k h) {x : Seat} (hx : x ∈ rest l ss) : x ∈ ss := by
 rw [p.t.fix]; exact List.mem_cons_of_mem _ hx
theorem rest_fix (p : LiftOf c l ss a0 b0 k h) : rest l ss = kidsD l (rootS l 0) ++ (rest l ss).flatMap (kidsD l) := by
 have h1 : rest l ss = (rootS l 0 :: rest l ss).flatMap (kidsD l) := by
  conv => lhs; unfold rest; rw [p.t.fix]
  rfl
 rw [List.flatMap_cons] at h1
 exact h1
theorem flat_same {f g : Seat → List Seat} : ∀ {L : List Seat}, (∀ x ∈ L, f x = g x) → L.flatMap f = L.flatMap g
 | [], _ => rfl
 | x :: L, h => by rw [List.flatMap_cons, List.flatMap_cons, h x (by simp), flat_same fun z hz => h z (List.mem_cons_of_mem _ hz)]
noncomputable def seats (l : List Nd) (ss : List Seat) (a0 b0 : Nd) (k : Str) : List Seat := nR l k :: nA l a0 b0 k :: nB l a0 b0 k :: rest l ss
theorem fix (p : LiftOf c l ss a0 b0 k h) : seats l ss a0 b0 k = rootS (ll l a0 b0 k) 0 :: (seats l ss a0 b0 k).flatMap (kidsD (ll l a0 b0 k)) := by
 rw [p.rroot]
 unfold seats
 rw [List.flatMap_cons, List.flatMap_cons, List.flatMap_cons, p.fixR.2, ← List.append_assoc (kidsD _ (nA l a0 b0 k)), p.fixK.2.2, flat_same fun x hx => (p.fixX (p.in_rest hx)).2, ← p.rest_fix]
 rfl
theorem top (p : LiftOf c l ss a0 b0 k h) : (nn l).top = true ∧ (nn l).high = Str.nil ∧ (nn l).right = -1 := by
 have h1 := (p.t.seat p.t.root).2.1.1.1
 have h2 : (nn l).top = true := h1
 have h3 := (p.t.seat p.t.root).1.2.1 h2
 exact ⟨h2, h3.1, h3.2⟩
theorem perm (p : LiftOf c l ss a0 b0 k h) : ((seats l ss a0 b0 k).map fun x : Seat => x.n.slot).Perm ((ll l a0 b0 k).map fun n : Nd => n.slot) := by
 have h4 : ((ll l a0 b0 k).map fun n : Nd => n.slot) = (l.map fun n : Nd => n.slot) ++ [(l.length : Int), (l.length : Int) + 1] := by
  rw [slots_range p.slots, slots_range p.t.slot, p.len, List.range_succ, List.range_succ, List.map_append, List.map_append, List.append_assoc]; rfl
 have h5 := p.t.perm_s
 rw [p.t.fix] at h5
 rw [h4]
 refine List.Perm.trans ?_ (List.Perm.append_right _ h5)
 unfold seats
 rw [List.map_cons, List.map_cons, List.map_cons, List.map_cons, p.an, p.bn, List.cons_append]
 rw [show (nR l k).n.slot = (rootS l 0).n.slot from rfl]
 refine List.Perm.cons _ ?_
 exact (List.perm_append_comm (l₁ := [(l.length : Int), (l.length : Int) + 1]))
theorem lk (p : LiftOf c l ss a0 b0 k h) : LkK ((seats l ss a0 b0 k).map Seat.key) := by
 have h1 := (linked_iff ss).1 p.t.q.1.2.1
 rw [p.t.fix, List.map_cons] at h1
 have e0 : Seat.key (rootS l 0) = ((nn l).slot, (nn l).level, -1) := by
  show ((nn l).slot, (nn l).level, (nn l).right) = _
  rw [p.top.2.2]
 rw [e0] at h1
 have h2 := lk_lift (x := (l.length : Int)) (y := (l.length : Int) + 1) h1
 unfold seats
 rw [List.map_cons, List.map_cons, List.map_cons]
 have e1 : Seat.key (nR l k) = ((nn l).slot, (nn l).level + 1, -1) := by
  show ((nn l).slot, (nn l).level + 1, (nn l).right) = _
  rw [p.top.2.2]
 have e2 : Seat.key (nA l a0 b0 k) = ((l.length : Int), (nn l).level, (l.length : Int) + 1) := by
  unfold Seat.key; rw [p.an]
  show ((l.length : Int), a0.level, a0.right) = _
  rw [p.hv.la, p.hv.aright, p.sb]; rfl
 have e3 : Seat.key (nB l a0 b0 k) = ((l.length : Int) + 1, (nn l).level, -1) := by
  unfold Seat.key; rw [p.bn]
  show ((l.length : Int) + 1, b0.level, b0.right) = _
  rw [p.hv.lb, p.hv.bend.2.2, show (rootS l 0).n.right = (nn l).right from rfl, p.top.2.2]; rfl
 rw [e1, e2, e3]
 exact h2
theorem halfR (p : LiftOf c l ss a0 b0 k h) {z : Nd} (hz : z.R c.fan c.leaf c.bud) (s : Int) (hs : 0 ≤ s) : (liftH (nn l) z s).R c.fan c.leaf c.bud := by
 obtain ⟨⟨q1, q2, q3⟩, q4, q5, q6⟩ := hz
 have hc := p.t.cfg.2.2.1
 refine ⟨⟨hs, q2, ?_⟩, q4, q5, ?_⟩
 ·show 0 ≤ (if (nn l).level = 0 then z.seen else 0)
  split <;> omega
 ·by_cases h0 : z.level = 0
  ·rw [if_pos h0] at q6
   rw [if_pos (show (liftH (nn l) z s).level = 0 from h0)]
   obtain ⟨r1, r2, r3, r4⟩ := q6
   exact ⟨by show z.pivots.length + z.kids.length + 0 = 0; omega, r2, r3, r4⟩
  ·rw [if_neg h0] at q6
   rw [if_neg (show ¬ (liftH (nn l) z s).level = 0 from h0)]
   obtain ⟨r1, r4, r5, r6, r7, r8, r9⟩ := q6
   exact ⟨r1, r4, (fun i hi => absurd hi (Nat.not_lt_zero _)), by show (0 : Int) ≤ _; omega, r7, r8, fun i hi => absurd hi (Nat.not_lt_zero _)⟩
theorem rR (p : LiftOf c l ss a0 b0 k h) : (lr l k).R c.fan c.leaf c.bud := by
 obtain ⟨⟨q1, q2, q3⟩, q4, q5, q6⟩ := (p.t.seat p.t.root).1
 have hc := p.t.cfg
 have h0 : ¬ (lr l k).level = 0 := by show ¬ (nn l).level + 1 = 0; have : 0 ≤ (nn l).level := q2; omega
 have hn : MsgsR (lr l k).msgs ∧ sizesN (lr l k).msgs ≤ c.bud ∧ ∀ i (h : i < (lr l k).msgs.length), (lr l k).fits (lr l k).msgs[i] := by
  by_cases h1 : (nn l).level = 0
  ·have e : (lr l k).msgs = [] := if_pos h1
   rw [e]
   exact ⟨fun i hi => absurd hi (Nat.not_lt_zero _), by show (0 : Int) ≤ _; have := hc.2.2.1; omega, fun i hi => absurd hi (Nat.not_lt_zero _)⟩
  ·have q6 : (nn l).innerR c.fan c.bud := p.t.inner p.t.root h1
   obtain ⟨r1, r4, r5, r6, r7, r8, r9⟩ := q6
   have e := p.msgs
   refine ⟨by rw [e]; exact r5, by rw [e]; exact r6, fun i hi => ?_⟩
   have hi2 : i < (nn l).msgs.length := by rw [← e]; exact hi
   have e2 : (lr l k).msgs[i] = (nn l).msgs[i] := by simp only [e]
   rw [e2]; exact r9 i hi2
 refine ⟨⟨q1, by show 0 ≤ (nn l).level + 1; have : 0 ≤ (nn l).level := q2; omega, q3⟩, q4, q5, ?_⟩
 rw [if_neg h0]
 refine ⟨⟨rfl, by show 2 ≤ 2; omega, by show ((2 : Nat) : Int) ≤ _; have := hc.1; omega⟩, by rfl, hn.1, hn.2.1, fun i hi => ?_, fun i hi => ?_, hn.2.2⟩
 ·have hm : (lr l k).kids[i] ∈ [(l.length : Int), (l.length : Int) + 1] := List.getElem_mem hi
  simp only [List.mem_cons, List.not_mem_nil, or_false] at hm
  omega
 ·have hm : (lr l k).pivots[i] ∈ [k] := List.getElem_mem hi
  rw [List.mem_singleton] at hm
  rw [hm]
  exact ⟨p.hv.size.1, p.hv.size.2, p.nk⟩
theorem rP (p : LiftOf c l ss a0 b0 k h) : PlacedP (nR l k) := by
 obtain ⟨p0, p3, p4, p5⟩ := (p.t.seat p.t.root).2.1
 refine ⟨p0, fun i hi => absurd hi (Nat.not_lt_zero _), fun i hi => ?_, fun i hi => ?_⟩
 ·have hm : (nR l k).n.pivots[i] ∈ [k] := List.getElem_mem hi
  rw [List.mem_singleton] at hm
  rw [hm]
  exact ⟨all_has k, p.hv.size.1⟩
 ·have e : (nR l k).n.msgs = (nn l).msgs := p.msgs
  have e2 : (nR l k).n.msgs[i] = (nn l).msgs[i]'(by rw [← e]; exact hi) := by simp only [e]
  rw [e2]
  exact p5 i (by rw [show (rootS l 0).n.msgs = (nn l).msgs from rfl, ← e]; exact hi)
theorem seatP (p : LiftOf c l ss a0 b0 k h) : ∀ z ∈ seats l ss a0 b0 k, SeatP c z := fun z hz => by
 have hsl := p.room
 have st : ∀ {s : Span} {ms : List Msg} {e : Nd}, e.seen = (nn l).seen → ms = clips s (nn l).msgs → ∀ j (hj : j < ms.length), (if (nn l).level = 0 then e.seen else 0) < ms[j].stamp := fun es e j hj => by
  subst e
  by_cases h0 : (nn l).level = 0
  ·have : (nn l).msgs = [] := p.t.nomsgs p.t.root h0
   rw [this] at hj
   exact absurd hj (Nat.not_lt_zero _)
  ·rw [if_neg h0]
   obtain ⟨m0, hm0, e⟩ := clips_stamp (List.getElem_mem hj)
   have := ((p.t.msgs p.t.root).2.1 m0 hm0).1.1
   rw [e]; omega
 unfold seats at hz
 simp only [List.mem_cons] at hz
 have nil : ∀ {s : Span} (m : Msg), m ∈ ([] : List Msg) → ∃ m' ∈ (rootS l 0).n.msgs, (m'.clip s).2 = true ∧ (m'.clip s).1 = m := fun m hm => by cases hm
 rcases hz with rfl | rfl | rfl | hz
 ·exact ⟨p.rR, p.rP, by show (nn l).slot < _; rw [p.root0]; omega, fun j hj => absurd hj (Nat.not_lt_zero _)⟩
 ·refine ⟨by rw [p.an]; exact p.halfR p.aR _ (by omega), HSeat.placedA p.t p.t.root p.hs (by rfl) p.nk (by rw [p.an]; exact nil), by rw [p.an]; show (l.length : Int) < _; omega, fun j hj => ?_⟩
  rw [p.an]; exact st p.ea p.ams j hj
 ·refine ⟨by rw [p.bn]; exact p.halfR p.bR _ (by omega), HSeat.placedB p.t p.t.root p.hs (by rfl) p.nk (by rw [p.bn]; exact nil), by rw [p.bn]; show (l.length : Int) + 1 < _; omega, fun j hj => ?_⟩
  rw [p.bn]; exact st p.eb p.bms j hj
 ·exact p.t.seat (p.in_rest hz)
theorem tree (p : LiftOf c l ss a0 b0 k h) : Tree c (ll l a0 b0 k) (seats l ss a0 b0 k) := by
 have hfew := p.few
 have hroom := p.room
 refine tree_mk p.t.cfg (by rw [p.len]; omega) (sml_R p.t.cfg (by rw [p.len]; omega) fun n hn => ?_) p.slots p.fix (fun z hz => ?_) p.perm p.lk (by rw [p.len]; omega) p.seatP
 ·have old : ∀ n ∈ l, n.R c.fan c.leaf c.bud := fun n hn => by
   have := (p.t.perm.mem_iff).2 hn
   obtain ⟨x, hx, rfl⟩ := List.mem_map.1 this
   exact (p.t.seat hx).1
  unfold ll liftL at hn
  rcases List.mem_append.1 hn with hn | hn
  ·rcases List.mem_or_eq_of_mem_set hn with hn | rfl
   ·exact old n hn
   ·exact p.rR
  ·simp only [List.mem_cons, List.not_mem_nil, or_false] at hn
   rcases hn with rfl | rfl
   ·exact p.halfR p.aR _ (by omega)
   ·exact p.halfR p.bR _ (by omega)
 ·unfold seats at hz
  simp only [List.mem_cons] at hz
  rcases hz with rfl | rfl | rfl | hz
  ·exact p.fixR.1
  ·exact p.fixK.1
  ·exact p.fixK.2.1
  ·exact (p.fixX (p.in_rest hz)).1
theorem map (p : LiftOf c l ss a0 b0 k h) : mapN (ll l a0 b0 k) = mapN l := by
 rw [mapN_t p.tree.sts, mapN_t p.t.sts]
 have h1 := HSeat.view p.t p.t.root p.hs (fun _ => by rw [p.ams, clips_clips fun _ h => h]; rw [show (nn l).msgs = [] from p.t.nomsgs p.t.root (by assumption)]; rfl) (fun _ => by rw [p.bms, clips_clips fun _ h => h]; rw [show (nn l).msgs = [] from p.t.nomsgs p.t.root (by assumption)]; rfl)
 have e2 : ¬ (nR l k).n.level = 0 := by show ¬ (nn l).level + 1 = 0; have : 0 ≤ (nn l).level := p.t.lvl p.t.root; omega
 have e3 : leavesS ss = leavesS [rootS l 0] ++ leavesS (rest l ss) := by
  conv => lhs; rw [p.t.fix]
  unfold leavesS
  rw [← List.filter_append]; rfl
 have e4 : leavesS (seats l ss a0 b0 k) = leavesS [nA l a0 b0 k, nB l a0 b0 k] ++ leavesS (rest l ss) := by
  unfold leavesS
  rw [← List.filter_append]
  unfold seats
  rw [List.filter_cons, if_neg (by simpa using e2)]; rfl
 rw [e3, e4, List.flatMap_append, List.flatMap_append, h1]
end LiftOf
theorem lift_of {c : Cfg} {l : List Nd} {ss : List Seat} (t : Tree c l ss) (room : (l.length : Int) + 1 < c.slots) (few : l.length + 2 ≤ 4096)
  (hc : (liftN (rootS l 0).n l.length ((l.length : Int) + 1)).2.2.2 = true) :
  ∃ T, Tree c (liftL l (liftN (rootS l 0).n l.length ((l.length : Int) + 1)).1 (liftN (rootS l 0).n l.length ((l.length : Int) + 1)).2.1 (liftN (rootS l 0).n l.length ((l.length : Int) + 1)).2.2.1) T ∧
   mapN (liftL l (liftN (rootS l 0).n l.length ((l.length : Int) + 1)).1 (liftN (rootS l 0).n l.length ((l.length : Int) + 1)).2.1 (liftN (rootS l 0).n l.length ((l.length : Int) + 1)).2.2.1) = mapN l := by
 rw [lift_ok] at hc
 have hR := (t.seat t.root).1
 have hRR := cleave_R (slot := (l.length : Int) + 1) hR (by omega) hc
 obtain ⟨a, b, k, h, e, hv, g1, g2, g3, g4, g5, g6, g7⟩ := cleave_halves (y := (l.length : Int) + 1) hR hc
 rw [liftN_t hc, e]
 rw [e] at hRR
 have p : LiftOf c l ss a b k h := ⟨t, hv, g2, g3, g4, g7, hRR.1, hRR.2.1, room, few⟩
 have e9 : liftH (rootS l 0).n b b.slot = LiftOf.lb l b := by rw [g2]; rfl
 dsimp only
 rw [e9]
 exact ⟨_, p.tree, p.map⟩
end Go.Fw
