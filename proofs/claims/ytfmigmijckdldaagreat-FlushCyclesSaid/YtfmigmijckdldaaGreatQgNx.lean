/- A sound tree with a kid in two: its seats, that it is sound, and what it stands for. Plain Lean; nothing of the program is named here. No condition. -/
import Derived.Test.YtfmigmijckdldaaGreatQgUb
set_option linter.unusedVariables false
set_option linter.unusedSimpArgs false
set_option linter.unnecessarySimpa false
set_option maxRecDepth 100000
set_option maxHeartbeats 1600000

namespace Go.Fw
open Go Go.RowKit
namespace PartOf
variable {c : Cfg} {l : List Nd} {ss : List Seat} {P : Seat} {i : Nat} {a b : Nd} {k : Str} {h : Nat}
noncomputable def fP (l : List Nd) (P : Seat) (i : Nat) (a b : Nd) (k : Str) (x : Seat) : List Seat :=
 if x.n.slot = (kidSt l P i).n.slot then [nA l P i a b k, nB l P i a b k] else if x.n.slot = P.n.slot then [nP l P i k] else [x]
theorem f_k : fP l P i a b k (kidSt l P i) = [nA l P i a b k, nB l P i a b k] := if_pos rfl
theorem f_p (p : PartOf c l ss P i a b k h) : fP l P i a b k P = [nP l P i k] := by
 unfold fP; rw [if_neg p.ksl.symm, if_pos rfl]
theorem f_x {x : Seat} (h1 : x.n.slot ≠ P.n.slot) (h2 : x.n.slot ≠ (kidSt l P i).n.slot) : fP l P i a b k x = [x] := by
 unfold fP; rw [if_neg h2, if_neg h1]
theorem fixK (p : PartOf c l ss P i a b k h) : (kidsO (partL l P.n i a b k) (nA l P i a b k)).isSome = true ∧ (kidsO (partL l P.n i a b k) (nB l P i a b k)).isSome = true ∧ kidsD (partL l P.n i a b k) (nA l P i a b k) ++ kidsD (partL l P.n i a b k) (nB l P i a b k) = kidsD l (kidSt l P i) := by
 refine HSeat.kids p.t p.km.1 p.hs fun j hj => ?_
 by_cases h0 : (kidSt l P i).n.level = 0
 ·have := (p.t.leaf p.km.1 h0).1
  omega
 ·have e := p.t.at p.km.1 h0 hj
  have g := p.km.2
  rw [p.slot_at p.km.1 h0 hj]
  exact p.find_x e.1 (p.ne e.1 p.mem om9) (p.ne e.1 p.km.1 om9)
theorem e_lo (p : PartOf c l ss P i a b k h) {j : Nat} (hj : j < i) : findN (partL l P.n i a b k) ((nP l P i k).n.kids.getD j 0) = findN l (P.n.kids.getD j 0) := by
 have hi := p.hi
 have e := p.t.at p.mem p.h0 (j := j) om9
 have hkl := (kids_all (p.t.kids p.mem) p.h0)
 rw [p.kid_j, if_pos om9, p.slot_at p.mem p.h0 om9]
 refine p.find_x e.1 (p.ne e.1 p.mem om9) fun e2 => ?_
 have := p.t.kid_nd p.mem (i := j) (j := i) (by rw [hkl.1, kidsF_len]; omega) (by rw [hkl.1, kidsF_len]; omega) (by rw [(p.t.kidsD_at p.mem p.h0).2, (p.t.kidsD_at p.mem p.h0).2]; exact e2)
 omega
theorem e_hi (p : PartOf c l ss P i a b k h) {j : Nat} (hj : i < j) (hj2 : j < P.n.kids.length) : findN (partL l P.n i a b k) ((nP l P i k).n.kids.getD (j + 1) 0) = findN l (P.n.kids.getD j 0) := by
 have hi := p.hi
 have e := p.t.at p.mem p.h0 (j := j) om9
 have hkl := (kids_all (p.t.kids p.mem) p.h0)
 rw [p.kid_j, if_neg om9, if_neg om9, show j + 1 - 1 = j from rfl, p.slot_at p.mem p.h0 om9]
 refine p.find_x e.1 (p.ne e.1 p.mem om9) fun e2 => ?_
 have := p.t.kid_nd p.mem (i := j) (j := i) (by rw [hkl.1, kidsF_len]; omega) (by rw [hkl.1, kidsF_len]; omega) (by rw [(p.t.kidsD_at p.mem p.h0).2, (p.t.kidsD_at p.mem p.h0).2]; exact e2)
 omega
theorem k_lo (p : PartOf c l ss P i a b k h) {j : Nat} (hj : j < i) : kidSt (partL l P.n i a b k) (nP l P i k) j = kidSt l P j := by
 have hi := p.hi
 refine kidSt_ext (by rw [p.e_lo hj]) (fun q => ?_) fun s _ => rfl
 show _ = (kidSt l P j).s.has q
 rw [p.shas om9, p.khas om9]
 cases hq : q.lt k
 ·have := (p.route q).2 hq
  rw [decide_eq_false (show ¬ j = routeN (nP l P i k).n.pivots q by omega), decide_eq_false (show ¬ j = routeN P.n.pivots q by omega)]
 ·rw [((p.route q).1 hq).1]
theorem k_hi (p : PartOf c l ss P i a b k h) {j : Nat} (hj : i < j) (hj2 : j < P.n.kids.length) : kidSt (partL l P.n i a b k) (nP l P i k) (j + 1) = kidSt l P j := by
 refine kidSt_ext (by rw [p.e_hi hj hj2]) (fun q => ?_) fun s _ => rfl
 show _ = (kidSt l P j).s.has q
 rw [p.shas om9, p.khas om9]
 cases hq : q.lt k
 ·rw [((p.route q).2 hq).1]; simp
 ·have := (p.route q).1 hq
  rw [decide_eq_false (show ¬ j + 1 = routeN (nP l P i k).n.pivots q by omega), decide_eq_false (show ¬ j = routeN P.n.pivots q by omega)]
theorem fixP (p : PartOf c l ss P i a b k h) : (kidsO (partL l P.n i a b k) (nP l P i k)).isSome = true ∧ kidsD (partL l P.n i a b k) (nP l P i k) = (kidsD l P).flatMap (fP l P i a b k) := by
 obtain ⟨h1, h2, h3, h4⟩ := kids_all (p.t.kids p.mem) p.h0
 have hi := p.hi
 have hkl := p.klen
 have hkm := p.km.2
 obtain ⟨g1, g2⟩ := kids_mk (l := partL l P.n i a b k) (x := nP l P i k) h2 p.rt' fun j hj => by
  by_cases c1 : j < i
  ·rw [kidOk_ext (l' := l) (y := P) (j := j) (p.e_lo c1) rfl]; exact h4 j om9
  ·by_cases c2 : j = i
   ·subst c2
    unfold kidOk
    rw [p.kid_j, if_pos (Nat.le_refl _), p.slot_at p.mem p.h0 p.hi, p.find_k]
    simp only [Bool.true_and, decide_eq_true_eq]
    rw [p.hv.la, hkm]; rfl
   ·by_cases c3 : j = i + 1
    ·subst c3
     unfold kidOk
     rw [p.kid_j, if_neg om9, if_pos rfl, p.find_y]
     simp only [Bool.true_and, decide_eq_true_eq]
     rw [p.hv.lb, hkm]; rfl
    ·obtain ⟨q, rfl⟩ : ∃ q, j = q + 1 := ⟨j - 1, om9⟩
     rw [kidOk_ext (l' := l) (y := P) (j := q) (p.e_hi om9 om9) rfl]; exact h4 q om9
 refine ⟨g1, ?_⟩
 obtain ⟨r, hr⟩ : ∃ r, P.n.kids.length = i + (1 + r) := ⟨P.n.kids.length - (i + 1), om9⟩
 rw [g2, h1, hkl, hr, show i + (1 + r) + 1 = i + (2 + r) by omega]
 have hf : ∀ j, j < P.n.kids.length → j ≠ i → fP l P i a b k (kidSt l P j) = [kidSt l P j] := fun j hj hne => by
  have e := p.t.at p.mem p.h0 hj
  refine f_x (p.ne e.1 p.mem om9) fun e2 => ?_
  have := p.t.kid_nd p.mem (i := j) (j := i) (by rw [h1, kidsF_len]; omega) (by rw [h1, kidsF_len]; omega) (by rw [(p.t.kidsD_at p.mem p.h0).2, (p.t.kidsD_at p.mem p.h0).2]; exact e2)
  exact hne this
 unfold kidsF
 rw [show List.range (i + (2 + r)) = List.range i ++ (List.range (2 + r)).map (i + ·) from List.range_add, show List.range (i + (1 + r)) = List.range i ++ (List.range (1 + r)).map (i + ·) from List.range_add, List.map_append, List.map_append, List.flatMap_append, List.map_map, List.map_map]
 congr 1
 ·rw [flat_id fun y hy => ?_]
  ·exact List.map_congr_left fun j hj => p.k_lo (List.mem_range.1 hj)
  ·obtain ⟨j, hj, rfl⟩ := List.mem_map.1 hy
   have := List.mem_range.1 hj
   exact hf j om9 om9
 ·rw [show List.range (2 + r) = List.range 2 ++ (List.range r).map (2 + ·) from List.range_add, show List.range (1 + r) = List.range 1 ++ (List.range r).map (1 + ·) from List.range_add, List.map_append, List.map_append, List.flatMap_append, List.map_map, List.map_map]
  congr 1
  ·show [kidSt (partL l P.n i a b k) (nP l P i k) (i + 0), kidSt (partL l P.n i a b k) (nP l P i k) (i + 1)] = ([kidSt l P (i + 0)]).flatMap _
   rw [List.flatMap_cons, List.flatMap_nil, List.append_nil, Nat.add_zero, f_k]; rfl
  ·rw [flat_id fun y hy => ?_]
   ·refine List.map_congr_left fun j hj => ?_
    have := List.mem_range.1 hj
    have e := p.k_hi (j := i + (1 + j)) om9 om9
    rw [show i + (1 + j) + 1 = i + (2 + j) by omega] at e
    exact e
   ·obtain ⟨j, hj, rfl⟩ := List.mem_map.1 hy
    have := List.mem_range.1 hj
    exact hf (i + (1 + j)) om9 om9
theorem kid_in (p : PartOf c l ss P i a b k h) : kidSt l P i ∈ kidsD l P := by
 have h1 := (kids_all (p.t.kids p.mem) p.h0).1
 rw [h1]
 exact List.mem_map.2 ⟨i, List.mem_range.2 p.hi, rfl⟩
theorem fixX (p : PartOf c l ss P i a b k h) {x : Seat} (hx : x ∈ ss) (n1 : x.n.slot ≠ P.n.slot) : (kidsO (partL l P.n i a b k) x).isSome = true ∧ kidsD (partL l P.n i a b k) x = (kidsD l x).flatMap (fP l P i a b k) := by
 by_cases h0 : x.n.level = 0
 ·rw [kidsO_0 h0, kids_leaf h0, kids_leaf h0]; exact ⟨rfl, rfl⟩
 ·obtain ⟨h1, h2, h3, h4⟩ := kids_all (p.t.kids hx) h0
  have key : ∀ j, j < x.n.kids.length → fP l P i a b k (kidSt l x j) = [kidSt (partL l P.n i a b k) x j] ∧ kidOk (partL l P.n i a b k) x j = true := fun j hj => by
   have e := p.t.at hx h0 hj
   have hin : kidSt l x j ∈ kidsD l x := by rw [h1]; exact List.mem_map.2 ⟨j, List.mem_range.2 hj, rfl⟩
   have nk : (kidSt l x j).n.slot ≠ (kidSt l P i).n.slot := fun e2 => n1 (by rw [p.t.parent hx p.mem hin p.kid_in e2])
   by_cases c1 : (kidSt l x j).n.slot = P.n.slot
   ·have eP := p.t.uniq e.1 p.mem c1
    have ef : findN (partL l P.n i a b k) (x.n.kids.getD j 0) = (adoptNd P.n i k l.length, true) := by rw [p.slot_at hx h0 hj, c1, p.find_p]
    have ek : kidSt (partL l P.n i a b k) x j = ⟨adoptNd P.n i k l.length, (kidSt l x j).s, (kidSt l x j).ms⟩ := by
     show (⟨(findN _ _).1, _, _⟩ : Seat) = _
     rw [ef]; rfl
    refine ⟨?_, ?_⟩
    ·rw [ek, eP, p.f_p]; rfl
    ·unfold kidOk
     rw [ef]
     simp only [Bool.true_and, decide_eq_true_eq]
     have := e.2.2.2
     rw [eP] at this
     exact this
   ·have ef : findN (partL l P.n i a b k) (x.n.kids.getD j 0) = findN l (x.n.kids.getD j 0) := by rw [p.slot_at hx h0 hj, p.find_x e.1 c1 nk]
    refine ⟨?_, ?_⟩
    ·rw [f_x c1 nk, kidSt_ext (l := l) (l' := partL l P.n i a b k) (x := x) (y := x) (i := j) (j := j) (by rw [ef]) (fun _ => rfl) (fun _ _ => rfl)]
    ·rw [kidOk_ext (l' := l) (y := x) (j := j) ef rfl]; exact h4 j hj
  obtain ⟨g1, g2⟩ := kids_mk (l := partL l P.n i a b k) (x := x) h2 h3 fun j hj => (key j hj).2
  refine ⟨g1, ?_⟩
  rw [g2, h1]
  unfold kidsF
  rw [List.flatMap_map]
  have : ∀ (L : List Nat), (∀ j ∈ L, j < x.n.kids.length) → L.map (kidSt (partL l P.n i a b k) x) = L.flatMap fun j => fP l P i a b k (kidSt l x j) := by
   intro L
   induction L with
   | nil => intro _; rfl
   | cons j L ih =>
    intro hL
    rw [List.map_cons, List.flatMap_cons, (key j (hL j (by simp))).1, ih fun z hz => hL z (List.mem_cons_of_mem _ hz)]; rfl
  exact this _ fun j hj => List.mem_range.1 hj
theorem froot (p : PartOf c l ss P i a b k h) : fP l P i a b k (rootS l 0) = [rootS (partL l P.n i a b k) 0] := by
 have n2 : (rootS l 0).n.slot ≠ (kidSt l P i).n.slot := (p.t.root_kid p.mem p.kid_in).symm
 have e0 := p.t.root0
 by_cases c1 : (rootS l 0).n.slot = P.n.slot
 ·have eP := p.t.uniq p.t.root p.mem c1
  have e : rootS (partL l P.n i a b k) 0 = ⟨adoptNd P.n i k l.length, (rootS l 0).s, (rootS l 0).ms⟩ := by
   show (⟨(findN _ _).1, _, _⟩ : Seat) = _
   have := p.find_p
   rw [← c1, e0] at this
   rw [this]; rfl
  rw [e, eP, p.f_p]; rfl
 ·rw [f_x c1 n2]
  have := p.find_x p.t.root c1 n2
  rw [e0] at this
  show [(⟨(findN l 0).1, _, _⟩ : Seat)] = [⟨(findN _ 0).1, _, _⟩]
  rw [this]
theorem each (p : PartOf c l ss P i a b k h) {x : Seat} (hx : x ∈ ss) : (∀ z ∈ fP l P i a b k x, (kidsO (partL l P.n i a b k) z).isSome = true) ∧ (fP l P i a b k x).flatMap (kidsD (partL l P.n i a b k)) = (kidsD l x).flatMap (fP l P i a b k) := by
 by_cases c1 : x.n.slot = (kidSt l P i).n.slot
 ·rw [p.t.uniq hx p.km.1 c1, f_k]
  obtain ⟨g1, g2, g3⟩ := p.fixK
  refine ⟨fun z hz => ?_, ?_⟩
  ·simp only [List.mem_cons, List.not_mem_nil, or_false] at hz
   rcases hz with rfl | rfl
   ·exact g1
   ·exact g2
  ·rw [flat_id (L := kidsD l (kidSt l P i)) fun y hy => ?_]
   ·simpa using g3
   ·have e := p.t.kid_lvl p.km.1 hy
    have g := p.km.2
    exact f_x (p.ne e.1 p.mem om9) (p.ne e.1 p.km.1 om9)
 ·by_cases c2 : x.n.slot = P.n.slot
  ·rw [p.t.uniq hx p.mem c2, p.f_p]
   refine ⟨fun z hz => ?_, ?_⟩
   ·rw [List.mem_singleton] at hz; rw [hz]; exact p.fixP.1
   ·rw [← p.fixP.2]; simp
  ·rw [f_x c2 c1]
   refine ⟨fun z hz => ?_, ?_⟩
   ·rw [List.mem_singleton] at hz; rw [hz]; exact (p.fixX hx c2).1
   ·rw [← (p.fixX hx c2).2]; simp
theorem fix (p : PartOf c l ss P i a b k h) : ss.flatMap (fP l P i a b k) = rootS (partL l P.n i a b k) 0 :: (ss.flatMap (fP l P i a b k)).flatMap (kidsD (partL l P.n i a b k)) := by
 rw [flat_fix fun x hx => (p.each hx).2]
 conv => lhs; rw [p.t.fix]
 rw [List.flatMap_cons, p.froot]; rfl
theorem keys_out (p : PartOf c l ss P i a b k h) : ∀ (L : List Seat), (∀ x ∈ L, x ∈ ss ∧ x.n.slot ≠ (kidSt l P i).n.slot) → (L.flatMap (fP l P i a b k)).map Seat.key = L.map Seat.key
 | [], _ => rfl
 | x :: L, hL => by
  rw [List.flatMap_cons, List.map_append, p.keys_out L fun z hz => hL z (List.mem_cons_of_mem _ hz), List.map_cons]
  have g := hL x (by simp)
  by_cases c2 : x.n.slot = P.n.slot
  ·rw [p.t.uniq g.1 p.mem c2, p.f_p]; rfl
  ·rw [f_x c2 g.2]; rfl
theorem keys (p : PartOf c l ss P i a b k h) : ∃ S1 S2 : List Key9, ss.map Seat.key = S1 ++ ((kidSt l P i).n.slot, (kidSt l P i).n.level, (kidSt l P i).n.right) :: S2 ∧
  (ss.flatMap (fP l P i a b k)).map Seat.key = S1 ++ ((kidSt l P i).n.slot, (kidSt l P i).n.level, (l.length : Int)) :: ((l.length : Int), (kidSt l P i).n.level, (kidSt l P i).n.right) :: S2 := by
 obtain ⟨A, B, e⟩ := List.append_of_mem p.km.1
 have hnd := p.t.nodup_s
 have hA : ∀ x ∈ A, x ∈ ss ∧ x.n.slot ≠ (kidSt l P i).n.slot := fun x hx => by
  refine ⟨by rw [e]; exact List.mem_append_left _ hx, fun e2 => ?_⟩
  rw [e, List.map_append, List.nodup_append] at hnd
  exact hnd.2.2 _ (List.mem_map.2 ⟨x, hx, rfl⟩) _ (List.mem_map.2 ⟨kidSt l P i, by simp, rfl⟩) e2
 have hB : ∀ x ∈ B, x ∈ ss ∧ x.n.slot ≠ (kidSt l P i).n.slot := fun x hx => by
  refine ⟨by rw [e]; exact List.mem_append_right _ (List.mem_cons_of_mem _ hx), fun e2 => ?_⟩
  rw [e, List.map_append, List.nodup_append, List.map_cons, List.nodup_cons] at hnd
  exact hnd.2.1.1 (List.mem_map.2 ⟨x, hx, e2⟩)
 refine ⟨A.map Seat.key, B.map Seat.key, ?_, ?_⟩
 ·conv => lhs; rw [e]
  rw [List.map_append, List.map_cons]; rfl
 ·conv => lhs; rw [e]
  rw [List.flatMap_append, List.flatMap_cons, List.map_append, List.map_append, p.keys_out A hA, p.keys_out B hB, f_k]
  congr 1
  show [Seat.key (nA l P i a b k), Seat.key (nB l P i a b k)] ++ _ = _
  have k1 : Seat.key (nA l P i a b k) = ((kidSt l P i).n.slot, (kidSt l P i).n.level, (l.length : Int)) := by
   unfold Seat.key; rw [p.an, p.sa, p.hv.la, p.hv.aright, p.sb]
  have k2 : Seat.key (nB l P i a b k) = ((l.length : Int), (kidSt l P i).n.level, (kidSt l P i).n.right) := by
   unfold Seat.key; rw [p.bn, p.sb, p.hv.lb, p.hv.bend.2.2]
  rw [k1, k2]; rfl
theorem perm (p : PartOf c l ss P i a b k h) : ((ss.flatMap (fP l P i a b k)).map fun x : Seat => x.n.slot).Perm ((partL l P.n i a b k).map fun n : Nd => n.slot) := by
 obtain ⟨S1, S2, e1, e2⟩ := p.keys
 have h1 : (ss.flatMap (fP l P i a b k)).map (fun x : Seat => x.n.slot) = ((ss.flatMap (fP l P i a b k)).map Seat.key).map (·.1) := by rw [List.map_map]; rfl
 have h2 : ss.map (fun x : Seat => x.n.slot) = (ss.map Seat.key).map (·.1) := by rw [List.map_map]; rfl
 have h3 : ((ss.flatMap (fP l P i a b k)).map fun x : Seat => x.n.slot).Perm ((ss.map fun x : Seat => x.n.slot) ++ [(l.length : Int)]) := by
  rw [h1, h2, e1, e2, List.map_append, List.map_append, List.append_assoc]
  refine List.Perm.append_left _ ?_
  simp only [List.map_cons, List.cons_append]
  exact List.Perm.cons _ (List.perm_append_singleton _ _).symm
 refine h3.trans ?_
 have h4 : ((partL l P.n i a b k).map fun n : Nd => n.slot) = (l.map fun n : Nd => n.slot) ++ [(l.length : Int)] := by
  rw [slots_range p.slots, slots_range p.t.slot, p.len, List.range_succ, List.map_append]; rfl
 rw [h4]
 exact List.Perm.append_right _ p.t.perm_s
end PartOf
namespace PartOf
variable {c : Cfg} {l : List Nd} {ss : List Seat} {P : Seat} {i : Nat} {a b : Nd} {k : Str} {h : Nat}
theorem msA (p : PartOf c l ss P i a b k h) : ∀ m ∈ (nA l P i a b k).n.msgs, ∃ m' ∈ (kidSt l P i).n.msgs, (m'.clip ⟨Str.nil, k, false⟩).2 = true ∧ (m'.clip ⟨Str.nil, k, false⟩).1 = m := fun m hm => by
 rw [p.an] at hm
 by_cases h0 : (kidSt l P i).n.level = 0
 ·rw [(p.m0 h0).1, p.t.nomsgs p.km.1 h0] at hm; cases hm
 ·rw [(p.m1 h0).1] at hm; exact clips_mem hm
theorem msB (p : PartOf c l ss P i a b k h) : ∀ m ∈ (nB l P i a b k).n.msgs, ∃ m' ∈ (kidSt l P i).n.msgs, (m'.clip ⟨k, Str.nil, true⟩).2 = true ∧ (m'.clip ⟨k, Str.nil, true⟩).1 = m := fun m hm => by
 rw [p.bn] at hm
 by_cases h0 : (kidSt l P i).n.level = 0
 ·rw [(p.m0 h0).2, p.t.nomsgs p.km.1 h0] at hm; cases hm
 ·rw [(p.m1 h0).2] at hm; exact clips_mem hm
theorem kin9 (p : PartOf c l ss P i a b k h) : (kidSt l P i).s.has k = true ∧ k ≠ (kidSt l P i).s.lo := p.t.k_in p.km.1 p.hv p.nk
theorem phas (p : PartOf c l ss P i a b k h) : P.s.has k = true ∧ k ≠ P.s.lo := by
 obtain ⟨k1, k2⟩ := p.kin9
 have h1 : P.s.has k = true := kid_sub (l := l) (j := i) k k1
 refine ⟨h1, fun e => ?_⟩
 have he : (kidSt l P i).s.empty = false := by
  cases e9 : (kidSt l P i).s.empty
  ·rfl
  ·have := empty_iff.1 e9 k; rw [k1] at this; cases this
 have h2 := kid_sub (l := l) (j := i) _ (lo_in he)
 have h3 := (span_has.1 h2).1
 have h4 := (span_has.1 k1).1
 rw [← e] at h3
 exact k2 (Str.lt_total h4 h3)
theorem pR (p : PartOf c l ss P i a b k h) : (adoptNd P.n i k l.length).R c.fan c.leaf c.bud := by
 obtain ⟨q1, q4, q5, q6⟩ := (p.t.seat p.mem).1
 rw [if_neg p.h0] at q6
 obtain ⟨⟨r1, r2, r3⟩, r4, r5, r6, r7, r8, r9⟩ := q6
 obtain ⟨⟨p1, p2⟩, _⟩ := (p.t.seat p.mem).2.1
 refine ⟨q1, q4, q5, ?_⟩
 rw [if_neg (show ¬ (adoptNd P.n i k l.length).level = 0 from p.h0)]
 have hkl := p.klen
 have hl : (adoptNd P.n i k l.length).kids.length = P.n.kids.length + 1 := hkl
 have hf := p.full
 refine ⟨⟨r1, om9, om9⟩, p.rt', r5, r6, fun j hj => ?_, fun j hj => ?_, r9⟩
 ·have hm : (adoptNd P.n i k l.length).kids[j] ∈ (P.n.kids.take (i + 1) ++ [(l.length : Int)]) ++ P.n.kids.drop (i + 1) := List.getElem_mem hj
  have all : ∀ z ∈ P.n.kids, 0 ≤ z := fun z hz => by obtain ⟨q, hq, rfl⟩ := List.getElem_of_mem hz; exact r7 q hq
  rcases List.mem_append.1 hm with hm | hm
  ·rcases List.mem_append.1 hm with hm | hm
   ·exact all _ (List.mem_of_mem_take hm)
   ·rw [List.mem_singleton] at hm; rw [hm]; omega
  ·exact all _ (List.mem_of_mem_drop hm)
 ·have hm : (adoptNd P.n i k l.length).pivots[j] ∈ (P.n.pivots.take i ++ [k]) ++ P.n.pivots.drop i := List.getElem_mem hj
  have all : ∀ z ∈ P.n.pivots, P.n.parts z := fun z hz => by obtain ⟨q, hq, rfl⟩ := List.getElem_of_mem hz; exact r8 q hq
  rcases List.mem_append.1 hm with hm | hm
  ·rcases List.mem_append.1 hm with hm | hm
   ·exact all _ (List.mem_of_mem_take hm)
   ·rw [List.mem_singleton] at hm; rw [hm]
    refine ⟨p.hv.size.1, p.hv.size.2, ?_⟩
    show (P.n.top || k.lt P.n.high) = true
    rw [p1, p2, Bool.or_eq_true]
    exact (span_has.1 p.phas.1).2
  ·exact all _ (List.mem_of_mem_drop hm)
theorem pP (p : PartOf c l ss P i a b k h) : PlacedP (nP l P i k) := by
 obtain ⟨p0, p3, p4, p5⟩ := (p.t.seat p.mem).2.1
 refine ⟨p0, p3, fun j hj => ?_, p5⟩
 have hm : (nP l P i k).n.pivots[j] ∈ (P.n.pivots.take i ++ [k]) ++ P.n.pivots.drop i := List.getElem_mem hj
 have all : ∀ z ∈ P.n.pivots, P.s.has z = true ∧ z ≠ P.s.lo := fun z hz => by obtain ⟨q, hq, rfl⟩ := List.getElem_of_mem hz; exact p4 q hq
 rcases List.mem_append.1 hm with hm | hm
 ·rcases List.mem_append.1 hm with hm | hm
  ·exact all _ (List.mem_of_mem_take hm)
  ·rw [List.mem_singleton] at hm; rw [hm]; exact p.phas
 ·exact all _ (List.mem_of_mem_drop hm)
theorem seats9 (p : PartOf c l ss P i a b k h) : ∀ z ∈ ss.flatMap (fP l P i a b k), SeatP c z := fun z hz => by
 obtain ⟨x, hx, hz⟩ := List.mem_flatMap.1 hz
 have sK := p.t.seat p.km.1
 have room := p.room
 by_cases c1 : x.n.slot = (kidSt l P i).n.slot
 ·rw [p.t.uniq hx p.km.1 c1, f_k] at hz
  simp only [List.mem_cons, List.not_mem_nil, or_false] at hz
  have st : ∀ {s : Span} {ms : List Msg}, ms = clips s (kidSt l P i).ms → ∀ j (hj : j < ms.length), (kidSt l P i).n.seen < ms[j].stamp := fun e j hj => by
   subst e
   obtain ⟨m0, hm0, e⟩ := clips_stamp (List.getElem_mem hj)
   rw [e]
   obtain ⟨q, hq, rfl⟩ := List.getElem_of_mem hm0
   exact sK.2.2.2 q hq
  rcases hz with rfl | rfl
  ·refine ⟨by rw [p.an]; exact p.aR, HSeat.placedA p.t p.km.1 p.hs (meet_norm _ _) p.nk p.msA, by rw [p.an, p.sa]; exact sK.2.2.1, fun j hj => ?_⟩
   rw [p.an, p.ea]; exact st p.ams j hj
  ·refine ⟨by rw [p.bn]; exact p.bR, HSeat.placedB p.t p.km.1 p.hs (meet_norm _ _) p.nk p.msB, by rw [p.bn, p.sb]; exact room, fun j hj => ?_⟩
   rw [p.bn, p.eb]; exact st p.bms j hj
 ·by_cases c2 : x.n.slot = P.n.slot
  ·rw [p.t.uniq hx p.mem c2, p.f_p, List.mem_singleton] at hz
   rw [hz]
   have sP := p.t.seat p.mem
   exact ⟨p.pR, p.pP, sP.2.2.1, sP.2.2.2⟩
  ·rw [f_x c2 c1, List.mem_singleton] at hz
   rw [hz]; exact p.t.seat hx
theorem tree (p : PartOf c l ss P i a b k h) : Tree c (partL l P.n i a b k) (ss.flatMap (fP l P i a b k)) := by
 have hfew := p.few
 have hroom := p.room
 refine tree_mk p.t.cfg (by rw [p.len]; omega) (sml_R p.t.cfg (by rw [p.len]; omega) fun n hn => ?_) p.slots p.fix (fun z hz => ?_) p.perm ?_ (by rw [p.len]; omega) p.seats9
 ·have old : ∀ n ∈ l, n.R c.fan c.leaf c.bud := fun n hn => by
   have := (p.t.perm.mem_iff).2 hn
   obtain ⟨x, hx, rfl⟩ := List.mem_map.1 this
   exact (p.t.seat hx).1
  unfold partL at hn
  rcases List.mem_append.1 hn with hn | hn
  ·rcases List.mem_or_eq_of_mem_set hn with hn | rfl
   ·rcases List.mem_or_eq_of_mem_set hn with hn | rfl
    ·exact old n hn
    ·exact p.aR
   ·exact p.pR
  ·rw [List.mem_singleton] at hn; rw [hn]; exact p.bR
 ·obtain ⟨x, hx, hz⟩ := List.mem_flatMap.1 hz
  exact (p.each hx).1 z hz
 ·obtain ⟨S1, S2, e1, e2⟩ := p.keys
  rw [e2]
  have := (linked_iff ss).1 p.t.q.1.2.1
  rw [e1] at this
  exact lk_part S1 S2 this
theorem map (p : PartOf c l ss P i a b k h) : mapN (partL l P.n i a b k) = mapN l := by
 rw [mapN_t p.tree.sts, mapN_t p.t.sts]
 refine leaves_flat fun x hx => ?_
 by_cases c1 : x.n.slot = (kidSt l P i).n.slot
 ·rw [p.t.uniq hx p.km.1 c1, f_k]
  exact HSeat.view p.t p.km.1 p.hs (fun _ => by rw [p.ams, clips_clips fun _ h => h]) fun _ => by rw [p.bms, clips_clips fun _ h => h]
 ·by_cases c2 : x.n.slot = P.n.slot
  ·rw [p.t.uniq hx p.mem c2, p.f_p]
   have e1 : ¬ P.n.level = 0 := p.h0
   have e2 : ¬ (nP l P i k).n.level = 0 := p.h0
   simp [leavesS, List.filter_cons, e1, e2]
  ·rw [f_x c2 c1]
end PartOf
theorem part_of {c : Cfg} {l : List Nd} {ss : List Seat} (t : Tree c l ss) {P : Seat} {i : Nat} (hP : P ∈ ss) (h0 : ¬ P.n.level = 0) (hi : i < P.n.kids.length) (full : (P.n.kids.length : Int) < c.fan) (room : (l.length : Int) < c.slots) (few : l.length < 4096)
  (hc : (cleaveN (kidSt l P i).n l.length).2.2.2 = true) (ha : (adoptN P.n i (cleaveN (kidSt l P i).n l.length).2.2.1 l.length).2 = true) :
  (adoptN P.n i (cleaveN (kidSt l P i).n l.length).2.2.1 l.length).1 = adoptNd P.n i (cleaveN (kidSt l P i).n l.length).2.2.1 l.length ∧
  ∃ h, PartOf c l ss P i (cleaveN (kidSt l P i).n l.length).1 (cleaveN (kidSt l P i).n l.length).2.1 (cleaveN (kidSt l P i).n l.length).2.2.1 h := by
 have hK := (t.at hP h0 hi).1
 have hR := (t.seat hK).1
 have hRR := cleave_R (slot := (l.length : Int)) hR om9 hc
 obtain ⟨a, b, k, h, e, hv, g1, g2, g3, g4, g5, g6, g7⟩ := cleave_halves (y := (l.length : Int)) hR hc
 rw [e] at ha hRR ⊢
 have hb : (binsN P.n.pivots P.n.kids i k l.length).2.length ≠ 0 := fun e0 => by
  rw [adoptN_0 (.inr e0)] at ha; cases ha
 have h3 : (rangeN P.n.pivots (i : Int)).has k = true := by
  cases h3 : (rangeN P.n.pivots (i : Int)).has k
  ·exact absurd (bins_0 (.inr (.inl h3))) hb
  ·rfl
 have h4 : ¬ k = (rangeN P.n.pivots (i : Int)).lo := fun h4 => absurd (bins_0 (.inr (.inr h4))) hb
 refine ⟨?_, h, ⟨t, hP, h0, hi, hv, g1, g2, g3, g4, g5, g6, g7, hRR.1, hRR.2.1, h3, h4, full, room, few⟩⟩
 rw [adoptN_1 h0 om9 h3 h4]; rfl
theorem merge_l {X : List Msg} (h : Rst X) : mergeN [X, []] = X := by
 have := (merge_two h List.Pairwise.nil fun a _ b hb => by cases hb).1
 rwa [List.append_nil] at this
theorem merge_r {X : List Msg} (h : Rst X) : mergeN [[], X] = X := (merge_two List.Pairwise.nil h fun a ha => by cases ha).1
def liftR (n : Nd) (k : Str) (x y : Int) : Nd := { n with level := n.level + 1, pivots := [k], kids := [x, y], rows := [], msgs := if n.level = 0 then [] else n.msgs }
def liftH (n z : Nd) (s : Int) : Nd := { z with slot := s, msgs := [], seen := if n.level = 0 then z.seen else 0 }
def liftN (n : Nd) (x y : Int) : Nd × Nd × Nd × Bool :=
 if (cleaveN n y).2.2.2 = true then (liftR n (cleaveN n y).2.2.1 x y, liftH n (cleaveN n y).1 x, liftH n (cleaveN n y).2.1 (cleaveN n y).2.1.slot, true) else (Nd.zero, Nd.zero, Nd.zero, false)
theorem liftN_t {n : Nd} {x y : Int} (h : (cleaveN n y).2.2.2 = true) : liftN n x y = (liftR n (cleaveN n y).2.2.1 x y, liftH n (cleaveN n y).1 x, liftH n (cleaveN n y).2.1 (cleaveN n y).2.1.slot, true) := if_pos h
theorem liftN_f {n : Nd} {x y : Int} (h : (cleaveN n y).2.2.2 = false) : liftN n x y = (Nd.zero, Nd.zero, Nd.zero, false) := if_neg (by simp [h])
theorem liftN_in {n : Nd} {x y : Int} (h : (cleaveN n y).2.2.2 = true) (h0 : ¬ n.level = 0) : liftN n x y = ({ n with level := n.level + 1, pivots := [(cleaveN n y).2.2.1], kids := [x, y], rows := [] }, { (cleaveN n y).1 with slot := x, msgs := [], seen := 0 }, { (cleaveN n y).2.1 with msgs := [], seen := 0 }, true) := by
 rw [liftN_t h]; unfold liftR liftH; rw [if_neg h0, if_neg h0, if_neg h0]
theorem liftN_lf {n : Nd} {x y : Int} (h : (cleaveN n y).2.2.2 = true) (h0 : n.level = 0) : liftN n x y = ({ n with level := n.level + 1, pivots := [(cleaveN n y).2.2.1], kids := [x, y], rows := [], msgs := [] }, { (cleaveN n y).1 with slot := x, msgs := [] }, { (cleaveN n y).2.1 with msgs := [] }, true) := by
 rw [liftN_t h]; unfold liftR liftH; rw [if_pos h0, if_pos h0, if_pos h0]
def fullN (c : Cfg) (n : Nd) : Bool := if n.level = 0 then decide (c.leaf ≤ (n.rows.length : Int)) else decide (c.fan ≤ (n.kids.length : Int))
theorem lift_ok (n : Nd) (x y : Int) : (liftN n x y).2.2.2 = (cleaveN n y).2.2.2 := by
 cases h : (cleaveN n y).2.2.2
 ·rw [liftN_f h]
 ·rw [liftN_t h]
def liftL (l : List Nd) (r a b : Nd) : List Nd := (l.set 0 r) ++ [a, b]
structure LiftOf (c : Cfg) (l : List Nd) (ss : List Seat) (a0 b0 : Nd) (k : Str) (h : Nat) : Prop where
 t : Tree c l ss
 hv : Halves (rootS l 0).n a0 b0 k h
 sb : b0.slot = (l.length : Int) + 1
 ea : a0.seen = (rootS l 0).n.seen
 eb : b0.seen = (rootS l 0).n.seen
 nk : (rootS l 0).n.has k = true
 aR : a0.R c.fan c.leaf c.bud
 bR : b0.R c.fan c.leaf c.bud
 room : (l.length : Int) + 1 < c.slots
 few : l.length + 2 ≤ 4096
namespace LiftOf
variable {c : Cfg} {l : List Nd} {ss : List Seat} {a0 b0 : Nd} {k : Str} {h : Nat}
noncomputable def nn (l : List Nd) : Nd := (rootS l 0).n
noncomputable def la (l : List Nd) (a0 : Nd) : Nd := liftH (nn l) a0 (l.length : Int)
noncomputable def lb (l : List Nd) (b0 : Nd) : Nd := liftH (nn l) b0 ((l.length : Int) + 1)
noncomputable def lr (l : List Nd) (k : Str) : Nd := liftR (nn l) k (l.length : Int) ((l.length : Int) + 1)
noncomputable def ll (l : List Nd) (a0 b0 : Nd) (k : Str) : List Nd := liftL l (lr l k) (la l a0) (lb l b0)
theorem root0 (p : LiftOf c l ss a0 b0 k h) : (nn l).slot = 0 := p.t.root0
theorem seen (p : LiftOf c l ss a0 b0 k h) : (nn l).seen ≤ 1099511627776 ∧ 0 ≤ (nn l).seen := by
 obtain ⟨j, hj, e⟩ := List.getElem_of_mem (p.t.nd p.t.root).2.2
 have h1 := (p.t.slot j hj).2
 rw [e] at h1
 exact ⟨h1, (p.t.seat p.t.root).1.1.2.2⟩
theorem msgs (p : LiftOf c l ss a0 b0 k h) : (lr l k).msgs = (nn l).msgs := by
 show (if (nn l).level = 0 then [] else (nn l).msgs) = _
 split
 ·rename_i h0; exact (p.t.nomsgs p.t.root h0).symm
 ·rfl
theorem len (p : LiftOf c l ss a0 b0 k h) : (ll l a0 b0 k).length = l.length + 2 := by
 unfold ll liftL; rw [List.length_append, List.length_set]; rfl
theorem slots (p : LiftOf c l ss a0 b0 k h) : SlotsP (ll l a0 b0 k) := by
 have hp := p.t.pos
 have hs := p.seen
 have h1 := slots_set p.t.slot (x := lr l k) (by show 0 ≤ (nn l).slot ∧ _; rw [show (lr l k).slot = (nn l).slot from rfl, p.root0]; omega) hs.1
 rw [show (lr l k).slot.toNat = 0 from by rw [show (lr l k).slot = (nn l).slot from rfl, p.root0]; rfl] at h1
 have sA : (la l a0).seen ≤ 1099511627776 := by
  show (if (nn l).level = 0 then a0.seen else 0) ≤ _
  split
  ·rw [p.ea]; exact hs.1
  ·omega
 have sB : (lb l b0).seen ≤ 1099511627776 := by
  show (if (nn l).level = 0 then b0.seen else 0) ≤ _
  split
  ·rw [p.eb]; exact hs.1
  ·omega
 have h2 := slots_snoc h1 (x := la l a0) (by rw [List.length_set]; rfl) sA
 have h3 := slots_snoc h2 (x := lb l b0) (by rw [List.length_append, List.length_set]; rfl) sB
 rw [List.append_assoc] at h3
 exact h3
theorem get (p : LiftOf c l ss a0 b0 k h) (s : Int) : getL (ll l a0 b0 k) s = if s = (l.length : Int) + 1 then lb l b0 else if s = l.length then la l a0 else if s = 0 then lr l k else getL l s := by
 have hp := p.t.pos
 have e : ll l a0 b0 k = ((l.set (lr l k).slot.toNat (lr l k)) ++ [la l a0]) ++ [lb l b0] := by
  rw [show (lr l k).slot.toNat = 0 from by rw [show (lr l k).slot = (nn l).slot from rfl, p.root0]; rfl, List.append_assoc]; rfl
 have h0 : (lr l k).slot = 0 := p.root0
 rw [e, getL_snoc, getL_snoc, List.length_append, List.length_set, getL_set (by rw [h0]; omega), h0]
 rfl
theorem find (p : LiftOf c l ss a0 b0 k h) (s : Int) : findN (ll l a0 b0 k) s = (if s = (l.length : Int) + 1 then lb l b0 else if s = l.length then la l a0 else if s = 0 then lr l k else getL l s, decide (0 ≤ s ∧ s < (l.length : Int) + 2)) := by
 rw [find_eq p.slots, p.get, p.len]; rfl
theorem find_x (p : LiftOf c l ss a0 b0 k h) {x : Seat} (hx : x ∈ ss) (h1 : x.n.slot ≠ 0) : findN (ll l a0 b0 k) x.n.slot = findN l x.n.slot := by
 have := (p.t.nd hx).1
 rw [p.find, if_neg om9, if_neg om9, if_neg h1, find_eq p.t.slot, decide_eq_true om9, decide_eq_true om9]
theorem find_0 (p : LiftOf c l ss a0 b0 k h) : findN (ll l a0 b0 k) 0 = (lr l k, true) := by
 have := p.t.pos
 rw [p.find, if_neg om9, if_neg om9, if_pos rfl, decide_eq_true om9]
theorem find_a (p : LiftOf c l ss a0 b0 k h) : findN (ll l a0 b0 k) (l.length : Int) = (la l a0, true) := by
 rw [p.find, if_neg om9, if_pos rfl, decide_eq_true om9]
theorem find_b (p : LiftOf c l ss a0 b0 k h) : findN (ll l a0 b0 k) ((l.length : Int) + 1) = (lb l b0, true) := by
 rw [p.find, if_pos rfl, decide_eq_true om9]
noncomputable def nR (l : List Nd) (k : Str) : Seat := ⟨lr l k, Span.all, []⟩
noncomputable def nA (l : List Nd) (a0 b0 : Nd) (k : Str) : Seat := kidSt (ll l a0 b0 k) (nR l k) 0
noncomputable def nB (l : List Nd) (a0 b0 : Nd) (k : Str) : Seat := kidSt (ll l a0 b0 k) (nR l k) 1
theorem rroot (p : LiftOf c l ss a0 b0 k h) : rootS (ll l a0 b0 k) 0 = nR l k := by
 show (⟨(findN _ 0).1, _, _⟩ : Seat) = _
 rw [p.find_0]; rfl
theorem an (p : LiftOf c l ss a0 b0 k h) : (nA l a0 b0 k).n = la l a0 := by
 show (findN _ (l.length : Int)).1 = _
 rw [p.find_a]
theorem bn (p : LiftOf c l ss a0 b0 k h) : (nB l a0 b0 k).n = lb l b0 := by
 show (findN _ ((l.length : Int) + 1)).1 = _
 rw [p.find_b]
theorem route1 (k q : Str) : routeN [k] q = if q.lt k = true then 0 else 1 := by
 unfold routeN
 cases h : q.lt k <;> simp [List.filter_cons, h]
theorem ha (p : LiftOf c l ss a0 b0 k h) (q : Str) : (nA l a0 b0 k).s.has q = ((rootS l 0).s.has q && q.lt k) := by
 show (Span.all.meet (rangeN [k] ((0 : Nat) : Int))).has q = (Span.all.has q && _)
 rw [meet_has, range_has (by rfl) q (Nat.zero_le _), route1]
 cases q.lt k <;> simp
theorem hb (p : LiftOf c l ss a0 b0 k h) (q : Str) : (nB l a0 b0 k).s.has q = ((rootS l 0).s.has q && !q.lt k) := by
 show (Span.all.meet (rangeN [k] ((1 : Nat) : Int))).has q = (Span.all.has q && _)
 rw [meet_has, range_has (by rfl) q (by simp), route1]
 cases q.lt k <;> simp
theorem rst (p : LiftOf c l ss a0 b0 k h) : Rst (nn l).msgs := (p.t.msgs p.t.root).1
theorem ams (p : LiftOf c l ss a0 b0 k h) : (nA l a0 b0 k).ms = clips (nA l a0 b0 k).s (nn l).msgs := by
 show mergeN [clips (nA l a0 b0 k).s (lr l k).msgs, []] = _
 rw [p.msgs, merge_l (clips_rst p.rst)]
theorem bms (p : LiftOf c l ss a0 b0 k h) : (nB l a0 b0 k).ms = clips (nB l a0 b0 k).s (nn l).msgs := by
 show mergeN [clips (nB l a0 b0 k).s (lr l k).msgs, []] = _
 rw [p.msgs, merge_l (clips_rst p.rst)]
theorem hs (p : LiftOf c l ss a0 b0 k h) : HSeat (rootS l 0) (nA l a0 b0 k) (nB l a0 b0 k) k h := by
 refine ⟨?_, p.ha, p.hb, meet_norm _ _, meet_norm _ _, fun s hs => ?_, fun s hs => ?_⟩
 ·rw [p.an, p.bn]
  have hv := p.hv
  exact ⟨hv.la, hv.lb, hv.aend, hv.bend, hv.aright.trans p.sb, hv.leaf, hv.inner, hv.size⟩
 ·rw [p.an, p.ams, clips_clips hs]
  show mergeN [[], clips s (nn l).msgs] = mergeN [clips s (nn l).msgs, []]
  rw [merge_l (clips_rst p.rst), merge_r (clips_rst p.rst)]
 ·rw [p.bn, p.bms, clips_clips hs]
  show mergeN [[], clips s (nn l).msgs] = mergeN [clips s (nn l).msgs, []]
  rw [merge_l (clips_rst p.rst), merge_r (clips_rst p.rst)]
theorem slot_at (p : LiftOf c l ss a0 b0 k h) {x : Seat} (hx : x ∈ ss) (h0 : ¬ x.n.level = 0) {j : Nat} (hj : j < x.n.kids.length) : x.n.kids.getD j 0 = (kidSt l x j).n.slot := by
 have e := (p.t.at hx h0 hj)
 rw [List.getD_eq_getElem?_getD, List.getElem?_eq_getElem hj, e.2.2.1, (getL_slot p.t.slot e.2.1).1]; rfl
theorem kid0 (p : LiftOf c l ss a0 b0 k h) {x : Seat} (hx : x ∈ ss) (h0 : ¬ x.n.level = 0) {j : Nat} (hj : j < x.n.kids.length) : findN (ll l a0 b0 k) (x.n.kids.getD j 0) = findN l (x.n.kids.getD j 0) := by
 rw [p.slot_at hx h0 hj]
 refine p.find_x (p.t.at hx h0 hj).1 fun e => ?_
 have hin : kidSt l x j ∈ kidsD l x := by rw [(kids_all (p.t.kids hx) h0).1]; exact List.mem_map.2 ⟨j, List.mem_range.2 hj, rfl⟩
 exact p.t.root_kid hx hin (by rw [e]; exact p.t.root0.symm)
theorem fixK (p : LiftOf c l ss a0 b0 k h) : (kidsO (ll l a0 b0 k) (nA l a0 b0 k)).isSome = true ∧ (kidsO (ll l a0 b0 k) (nB l a0 b0 k)).isSome = true ∧ kidsD (ll l a0 b0 k) (nA l a0 b0 k) ++ kidsD (ll l a0 b0 k) (nB l a0 b0 k) = kidsD l (rootS l 0) := by
 refine HSeat.kids p.t p.t.root p.hs fun j hj => ?_
 by_cases h0 : (rootS l 0).n.level = 0
 ·have := (p.t.leaf p.t.root h0).1
  omega
 ·exact p.kid0 p.t.root h0 hj
theorem fixR (p : LiftOf c l ss a0 b0 k h) : (kidsO (ll l a0 b0 k) (nR l k)).isSome = true ∧ kidsD (ll l a0 b0 k) (nR l k) = [nA l a0 b0 k, nB l a0 b0 k] := by
 have hl := p.t.lvl p.t.root
 obtain ⟨g1, g2⟩ := kids_mk (l := ll l a0 b0 k) (x := nR l k) (by show 0 < (nn l).level + 1; have : 0 ≤ (nn l).level := hl; omega) (by rfl) fun j hj => by
  have hj : j < 2 := hj
  have e : ∀ z : Nd, z.level = (nn l).level → decide (z.level = (nR l k).n.level - 1) = true := fun z hz => by
   rw [decide_eq_true_eq, hz]
   show _ = (nn l).level + 1 - 1
   omega
  unfold kidOk
  rcases Nat.lt_or_ge j 1 with h | h
  ·have : j = 0 := om9
   subst this
   show ((findN _ (l.length : Int)).2 && _) = true
   rw [show (nR l k).n.kids.getD 0 0 = (l.length : Int) from rfl, p.find_a]
   exact e (la l a0) p.hv.la
  ·have : j = 1 := om9
   subst this
   show ((findN _ ((l.length : Int) + 1)).2 && _) = true
   rw [show (nR l k).n.kids.getD 1 0 = (l.length : Int) + 1 from rfl, p.find_b]
   exact e (lb l b0) p.hv.lb
 exact ⟨g1, g2⟩
theorem fixX (p : LiftOf c l ss a0 b0 k h) {x : Seat} (hx : x ∈ ss) : (kidsO (ll l a0 b0 k) x).isSome = true ∧ kidsD (ll l a0 b0 k) x = kidsD l x := by
 by_cases h0 : x.n.level = 0
 ·rw [kidsO_0 h0, kids_leaf h0, kids_leaf h0]; exact ⟨rfl, rfl⟩
 ·obtain ⟨h1, h2, h3, h4⟩ := kids_all (p.t.kids hx) h0
  obtain ⟨g1, g2⟩ := kids_mk (l := ll l a0 b0 k) (x := x) h2 h3 fun j hj => by
   rw [kidOk_ext (l' := l) (y := x) (j := j) (p.kid0 hx h0 hj) rfl]; exact h4 j hj
  refine ⟨g1, ?_⟩
  rw [g2, h1]
  exact List.map_congr_left fun j hj => kidSt_ext (by rw [p.kid0 hx h0 (List.mem_range.1 hj)]) (fun _ => rfl) fun _ _ => rfl
noncomputable def rest (l : List Nd) (ss : List Seat) : List Seat := ss.flatMap (kidsD l)
theorem in_rest (p : LiftOf c l ss a0 b0 k h) {x : Seat} (hx : x ∈ rest l ss) : x ∈ ss := by
 rw [p.t.fix]; exact List.mem_cons_of_mem _ hx
theorem rest_fix (p : LiftOf c l ss a0 b0 k h) : rest l ss = kidsD l (rootS l 0) ++ (rest l ss).flatMap (kidsD l) := by
 have h1 : rest l ss = (rootS l 0 :: rest l ss).flatMap (kidsD l) := by
  conv => lhs; unfold rest; rw [p.t.fix]
  rfl
 rw [List.flatMap_cons] at h1
 exact h1
theorem flat_same {f g : Seat → List Seat} : ∀ {L : List Seat}, (∀ x ∈ L, f x = g x) → L.flatMap f = L.flatMap g
 | [], _ => rfl
 | x :: L, h => by rw [List.flatMap_cons, List.flatMap_cons, h x (by simp), flat_same fun z hz => h z (List.mem_cons_of_mem _ hz)]
noncomputable def seats (l : List Nd) (ss : List Seat) (a0 b0 : Nd) (k : Str) : List Seat := nR l k :: nA l a0 b0 k :: nB l a0 b0 k :: rest l ss
theorem fix (p : LiftOf c l ss a0 b0 k h) : seats l ss a0 b0 k = rootS (ll l a0 b0 k) 0 :: (seats l ss a0 b0 k).flatMap (kidsD (ll l a0 b0 k)) := by
 rw [p.rroot]
 unfold seats
 rw [List.flatMap_cons, List.flatMap_cons, List.flatMap_cons, p.fixR.2, ← List.append_assoc (kidsD _ (nA l a0 b0 k)), p.fixK.2.2, flat_same fun x hx => (p.fixX (p.in_rest hx)).2, ← p.rest_fix]
 rfl
theorem top (p : LiftOf c l ss a0 b0 k h) : (nn l).top = true ∧ (nn l).high = Str.nil ∧ (nn l).right = -1 := by
 have h1 := (p.t.seat p.t.root).2.1.1.1
 have h2 : (nn l).top = true := h1
 have h3 := (p.t.seat p.t.root).1.2.1 h2
 exact ⟨h2, h3.1, h3.2⟩
theorem perm (p : LiftOf c l ss a0 b0 k h) : ((seats l ss a0 b0 k).map fun x : Seat => x.n.slot).Perm ((ll l a0 b0 k).map fun n : Nd => n.slot) := by
 have h4 : ((ll l a0 b0 k).map fun n : Nd => n.slot) = (l.map fun n : Nd => n.slot) ++ [(l.length : Int), (l.length : Int) + 1] := by
  rw [slots_range p.slots, slots_range p.t.slot, p.len, List.range_succ, List.range_succ, List.map_append, List.map_append, List.append_assoc]; rfl
 have h5 := p.t.perm_s
 rw [p.t.fix] at h5
 rw [h4]
 refine List.Perm.trans ?_ (List.Perm.append_right _ h5)
 unfold seats
 rw [List.map_cons, List.map_cons, List.map_cons, List.map_cons, p.an, p.bn, List.cons_append]
 rw [show (nR l k).n.slot = (rootS l 0).n.slot from rfl]
 refine List.Perm.cons _ ?_
 exact (List.perm_append_comm (l₁ := [(l.length : Int), (l.length : Int) + 1]))
theorem lk (p : LiftOf c l ss a0 b0 k h) : LkK ((seats l ss a0 b0 k).map Seat.key) := by
 have h1 := (linked_iff ss).1 p.t.q.1.2.1
 rw [p.t.fix, List.map_cons] at h1
 have e0 : Seat.key (rootS l 0) = ((nn l).slot, (nn l).level, -1) := by
  show ((nn l).slot, (nn l).level, (nn l).right) = _
  rw [p.top.2.2]
 rw [e0] at h1
 have h2 := lk_lift (x := (l.length : Int)) (y := (l.length : Int) + 1) h1
 unfold seats
 rw [List.map_cons, List.map_cons, List.map_cons]
 have e1 : Seat.key (nR l k) = ((nn l).slot, (nn l).level + 1, -1) := by
  show ((nn l).slot, (nn l).level + 1, (nn l).right) = _
  rw [p.top.2.2]
 have e2 : Seat.key (nA l a0 b0 k) = ((l.length : Int), (nn l).level, (l.length : Int) + 1) := by
  unfold Seat.key; rw [p.an]
  show ((l.length : Int), a0.level, a0.right) = _
  rw [p.hv.la, p.hv.aright, p.sb]; rfl
 have e3 : Seat.key (nB l a0 b0 k) = ((l.length : Int) + 1, (nn l).level, -1) := by
  unfold Seat.key; rw [p.bn]
  show ((l.length : Int) + 1, b0.level, b0.right) = _
  rw [p.hv.lb, p.hv.bend.2.2, show (rootS l 0).n.right = (nn l).right from rfl, p.top.2.2]; rfl
 rw [e1, e2, e3]
 exact h2
theorem halfR (p : LiftOf c l ss a0 b0 k h) {z : Nd} (hz : z.R c.fan c.leaf c.bud) (s : Int) (hs : 0 ≤ s) : (liftH (nn l) z s).R c.fan c.leaf c.bud := by
 obtain ⟨⟨q1, q2, q3⟩, q4, q5, q6⟩ := hz
 have hc := p.t.cfg.2.2.1
 refine ⟨⟨hs, q2, ?_⟩, q4, q5, ?_⟩
 ·show 0 ≤ (if (nn l).level = 0 then z.seen else 0)
  split <;> omega
 ·by_cases h0 : z.level = 0
  ·rw [if_pos h0] at q6
   rw [if_pos (show (liftH (nn l) z s).level = 0 from h0)]
   obtain ⟨r1, r2, r3, r4⟩ := q6
   exact ⟨by show z.pivots.length + z.kids.length + 0 = 0; omega, r2, r3, r4⟩
  ·rw [if_neg h0] at q6
   rw [if_neg (show ¬ (liftH (nn l) z s).level = 0 from h0)]
   obtain ⟨r1, r4, r5, r6, r7, r8, r9⟩ := q6
   exact ⟨r1, r4, (fun i hi => absurd hi (Nat.not_lt_zero _)), by show (0 : Int) ≤ _; omega, r7, r8, fun i hi => absurd hi (Nat.not_lt_zero _)⟩
theorem rR (p : LiftOf c l ss a0 b0 k h) : (lr l k).R c.fan c.leaf c.bud := by
 obtain ⟨⟨q1, q2, q3⟩, q4, q5, q6⟩ := (p.t.seat p.t.root).1
 have hc := p.t.cfg
 have h0 : ¬ (lr l k).level = 0 := by show ¬ (nn l).level + 1 = 0; have : 0 ≤ (nn l).level := q2; omega
 have hn : MsgsR (lr l k).msgs ∧ sizesN (lr l k).msgs ≤ c.bud ∧ ∀ i (h : i < (lr l k).msgs.length), (lr l k).fits (lr l k).msgs[i] := by
  by_cases h1 : (nn l).level = 0
  ·have e : (lr l k).msgs = [] := if_pos h1
   rw [e]
   exact ⟨fun i hi => absurd hi (Nat.not_lt_zero _), by show (0 : Int) ≤ _; have := hc.2.2.1; omega, fun i hi => absurd hi (Nat.not_lt_zero _)⟩
  ·have q6 : (nn l).innerR c.fan c.bud := p.t.inner p.t.root h1
   obtain ⟨r1, r4, r5, r6, r7, r8, r9⟩ := q6
   have e := p.msgs
   refine ⟨by rw [e]; exact r5, by rw [e]; exact r6, fun i hi => ?_⟩
   have hi2 : i < (nn l).msgs.length := by rw [← e]; exact hi
   have e2 : (lr l k).msgs[i] = (nn l).msgs[i] := by simp only [e]
   rw [e2]; exact r9 i hi2
 refine ⟨⟨q1, by show 0 ≤ (nn l).level + 1; have : 0 ≤ (nn l).level := q2; omega, q3⟩, q4, q5, ?_⟩
 rw [if_neg h0]
 refine ⟨⟨rfl, by show 2 ≤ 2; omega, by show ((2 : Nat) : Int) ≤ _; have := hc.1; omega⟩, by rfl, hn.1, hn.2.1, fun i hi => ?_, fun i hi => ?_, hn.2.2⟩
 ·have hm : (lr l k).kids[i] ∈ [(l.length : Int), (l.length : Int) + 1] := List.getElem_mem hi
  simp only [List.mem_cons, List.not_mem_nil, or_false] at hm
  omega
 ·have hm : (lr l k).pivots[i] ∈ [k] := List.getElem_mem hi
  rw [List.mem_singleton] at hm
  rw [hm]
  exact ⟨p.hv.size.1, p.hv.size.2, p.nk⟩
theorem rP (p : LiftOf c l ss a0 b0 k h) : PlacedP (nR l k) := by
 obtain ⟨p0, p3, p4, p5⟩ := (p.t.seat p.t.root).2.1
 refine ⟨p0, fun i hi => absurd hi (Nat.not_lt_zero _), fun i hi => ?_, fun i hi => ?_⟩
 ·have hm : (nR l k).n.pivots[i] ∈ [k] := List.getElem_mem hi
  rw [List.mem_singleton] at hm
  rw [hm]
  exact ⟨all_has k, p.hv.size.1⟩
 ·have e : (nR l k).n.msgs = (nn l).msgs := p.msgs
  have e2 : (nR l k).n.msgs[i] = (nn l).msgs[i]'(by rw [← e]; exact hi) := by simp only [e]
  rw [e2]
  exact p5 i (by rw [show (rootS l 0).n.msgs = (nn l).msgs from rfl, ← e]; exact hi)
theorem seatP (p : LiftOf c l ss a0 b0 k h) : ∀ z ∈ seats l ss a0 b0 k, SeatP c z := fun z hz => by
 have hsl := p.room
 have st : ∀ {s : Span} {ms : List Msg} {e : Nd}, e.seen = (nn l).seen → ms = clips s (nn l).msgs → ∀ j (hj : j < ms.length), (if (nn l).level = 0 then e.seen else 0) < ms[j].stamp := fun es e j hj => by
  subst e
  by_cases h0 : (nn l).level = 0
  ·have : (nn l).msgs = [] := p.t.nomsgs p.t.root h0
   rw [this] at hj
   exact absurd hj (Nat.not_lt_zero _)
  ·rw [if_neg h0]
   obtain ⟨m0, hm0, e⟩ := clips_stamp (List.getElem_mem hj)
   have := ((p.t.msgs p.t.root).2.1 m0 hm0).1.1
   rw [e]; omega
 unfold seats at hz
 simp only [List.mem_cons] at hz
 have nil : ∀ {s : Span} (m : Msg), m ∈ ([] : List Msg) → ∃ m' ∈ (rootS l 0).n.msgs, (m'.clip s).2 = true ∧ (m'.clip s).1 = m := fun m hm => by cases hm
 rcases hz with rfl | rfl | rfl | hz
 ·exact ⟨p.rR, p.rP, by show (nn l).slot < _; rw [p.root0]; omega, fun j hj => absurd hj (Nat.not_lt_zero _)⟩
 ·refine ⟨by rw [p.an]; exact p.halfR p.aR _ om9, HSeat.placedA p.t p.t.root p.hs (by rfl) p.nk (by rw [p.an]; exact nil), by rw [p.an]; show (l.length : Int) < _; omega, fun j hj => ?_⟩
  rw [p.an]; exact st p.ea p.ams j hj
 ·refine ⟨by rw [p.bn]; exact p.halfR p.bR _ om9, HSeat.placedB p.t p.t.root p.hs (by rfl) p.nk (by rw [p.bn]; exact nil), by rw [p.bn]; show (l.length : Int) + 1 < _; omega, fun j hj => ?_⟩
  rw [p.bn]; exact st p.eb p.bms j hj
 ·exact p.t.seat (p.in_rest hz)
theorem tree (p : LiftOf c l ss a0 b0 k h) : Tree c (ll l a0 b0 k) (seats l ss a0 b0 k) := by
 have hfew := p.few
 have hroom := p.room
 refine tree_mk p.t.cfg (by rw [p.len]; omega) (sml_R p.t.cfg (by rw [p.len]; omega) fun n hn => ?_) p.slots p.fix (fun z hz => ?_) p.perm p.lk (by rw [p.len]; omega) p.seatP
 ·have old : ∀ n ∈ l, n.R c.fan c.leaf c.bud := fun n hn => by
   have := (p.t.perm.mem_iff).2 hn
   obtain ⟨x, hx, rfl⟩ := List.mem_map.1 this
   exact (p.t.seat hx).1
  unfold ll liftL at hn
  rcases List.mem_append.1 hn with hn | hn
  ·rcases List.mem_or_eq_of_mem_set hn with hn | rfl
   ·exact old n hn
   ·exact p.rR
  ·simp only [List.mem_cons, List.not_mem_nil, or_false] at hn
   rcases hn with rfl | rfl
   ·exact p.halfR p.aR _ om9
   ·exact p.halfR p.bR _ om9
 ·unfold seats at hz
  simp only [List.mem_cons] at hz
  rcases hz with rfl | rfl | rfl | hz
  ·exact p.fixR.1
  ·exact p.fixK.1
  ·exact p.fixK.2.1
  ·exact (p.fixX (p.in_rest hz)).1
theorem map (p : LiftOf c l ss a0 b0 k h) : mapN (ll l a0 b0 k) = mapN l := by
 rw [mapN_t p.tree.sts, mapN_t p.t.sts]
 have h1 := HSeat.view p.t p.t.root p.hs (fun _ => by rw [p.ams, clips_clips fun _ h => h]; rw [show (nn l).msgs = [] from p.t.nomsgs p.t.root (by assumption)]; rfl) (fun _ => by rw [p.bms, clips_clips fun _ h => h]; rw [show (nn l).msgs = [] from p.t.nomsgs p.t.root (by assumption)]; rfl)
 have e2 : ¬ (nR l k).n.level = 0 := by show ¬ (nn l).level + 1 = 0; have : 0 ≤ (nn l).level := p.t.lvl p.t.root; omega
 have e3 : leavesS ss = leavesS [rootS l 0] ++ leavesS (rest l ss) := by
  conv => lhs; rw [p.t.fix]
  unfold leavesS
  rw [← List.filter_append]; rfl
 have e4 : leavesS (seats l ss a0 b0 k) = leavesS [nA l a0 b0 k, nB l a0 b0 k] ++ leavesS (rest l ss) := by
  unfold leavesS
  rw [← List.filter_append]
  unfold seats
  rw [List.filter_cons, if_neg (by simpa using e2)]; rfl
 rw [e3, e4, List.flatMap_append, List.flatMap_append, h1]
end LiftOf
theorem lift_of {c : Cfg} {l : List Nd} {ss : List Seat} (t : Tree c l ss) (room : (l.length : Int) + 1 < c.slots) (few : l.length + 2 ≤ 4096)
  (hc : (liftN (rootS l 0).n l.length ((l.length : Int) + 1)).2.2.2 = true) :
  ∃ T, Tree c (liftL l (liftN (rootS l 0).n l.length ((l.length : Int) + 1)).1 (liftN (rootS l 0).n l.length ((l.length : Int) + 1)).2.1 (liftN (rootS l 0).n l.length ((l.length : Int) + 1)).2.2.1) T ∧
   mapN (liftL l (liftN (rootS l 0).n l.length ((l.length : Int) + 1)).1 (liftN (rootS l 0).n l.length ((l.length : Int) + 1)).2.1 (liftN (rootS l 0).n l.length ((l.length : Int) + 1)).2.2.1) = mapN l := by
 rw [lift_ok] at hc
 have hR := (t.seat t.root).1
 have hRR := cleave_R (slot := (l.length : Int) + 1) hR om9 hc
 obtain ⟨a, b, k, h, e, hv, g1, g2, g3, g4, g5, g6, g7⟩ := cleave_halves (y := (l.length : Int) + 1) hR hc
 rw [liftN_t hc, e]
 rw [e] at hRR
 have p : LiftOf c l ss a b k h := ⟨t, hv, g2, g3, g4, g7, hRR.1, hRR.2.1, room, few⟩
 have e9 : liftH (rootS l 0).n b b.slot = LiftOf.lb l b := by rw [g2]; rfl
 dsimp only
 rw [e9]
 exact ⟨_, p.tree, p.map⟩
theorem cleave_ok (n : Nd) (i : Int) : (cleaveN n i).2.2.2 = (halvesN n).2.2.2 := by
 cases h : (halvesN n).2.2.2
 ·rw [cleaveN_f h]
 ·rw [cleaveN_t h]
theorem lift_ok2 (n : Nd) (x y x' y' : Int) : (liftN n x y).2.2.2 = (liftN n x' y').2.2.2 := by rw [lift_ok, lift_ok, cleave_ok, cleave_ok]
def tk (l : List Nd) (x : Nd) : List Nd := l ++ [{ x with slot := l.length }]
theorem tk_len (l : List Nd) (x : Nd) : (tk l x).length = l.length + 1 := by simp [tk]
theorem take_tk {n : Nat} {l : List Nd} {x : Nd} (h : l.length < n) : takeL n l x = (((l.length : Int), 0), tk l x) := takeL_t h
def liftS (c : Cfg) (l : List Nd) : Int × List Nd :=
 if (liftN (getL l 0) l.length ((l.length : Int) + 1)).2.2.2 = false then (6, l)
 else if c.slots.toNat - l.length < 2 then (4, l)
 else (0, liftL l (liftN (getL l 0) l.length ((l.length : Int) + 1)).1 (liftN (getL l 0) l.length ((l.length : Int) + 1)).2.1 (liftN (getL l 0) l.length ((l.length : Int) + 1)).2.2.1)
theorem liftS_6 {c : Cfg} {l : List Nd} {x y : Int} (h : (liftN (getL l 0) x y).2.2.2 = false) : liftS c l = (6, l) := if_pos (by rw [lift_ok2 _ _ _ x y]; exact h)
theorem liftS_4 {c : Cfg} {l : List Nd} {x y : Int} (h : (liftN (getL l 0) x y).2.2.2 = true) (hr : c.slots.toNat - l.length < 2) : liftS c l = (4, l) := by
 unfold liftS; rw [if_neg (by rw [lift_ok2 _ _ _ x y, h]; simp), if_pos hr]
theorem liftS_0 {c : Cfg} {l : List Nd} {x y : Int} (h : (liftN (getL l 0) x y).2.2.2 = true) (hr : ¬ c.slots.toNat - l.length < 2) :
  liftS c l = (0, liftL l (liftN (getL l 0) l.length ((l.length : Int) + 1)).1 (liftN (getL l 0) l.length ((l.length : Int) + 1)).2.1 (liftN (getL l 0) l.length ((l.length : Int) + 1)).2.2.1) := by
 unfold liftS; rw [if_neg (by rw [lift_ok2 _ _ _ x y, h]; simp), if_neg hr]
theorem lift_slots {n : Nd} {x y : Int} (h : (liftN n x y).2.2.2 = true) (hk : (cleaveN n y).2.1.slot = y) : (liftN n x y).1.slot = n.slot ∧ (liftN n x y).2.1.slot = x ∧ (liftN n x y).2.2.1.slot = y := by
 rw [lift_ok] at h
 rw [liftN_t h]
 exact ⟨rfl, rfl, hk⟩
theorem cleave_slot {n : Nd} {y : Int} (h : (cleaveN n y).2.2.2 = true) : (cleaveN n y).2.1.slot = y := by
 rw [cleave_ok] at h
 rw [cleaveN_t h]
theorem liftN_slots {n : Nd} {x y x' y' : Int} (h : (liftN n x' y').2.2.2 = true) : (liftN n x y).1.slot = n.slot ∧ (liftN n x y).2.1.slot = x ∧ (liftN n x y).2.2.1.slot = y := by
 have h2 : (liftN n x y).2.2.2 = true := by rw [lift_ok2 n x y x' y']; exact h
 exact lift_slots h2 (cleave_slot (by rw [← lift_ok n x y]; exact h2))
theorem set_at {l : List Nd} {A B : List Nd} {x y : Nd} (h : l = A ++ x :: B) (hy : y.slot.toNat = A.length) : l.set y.slot.toNat y = A ++ y :: B := by
 rw [h, hy, List.set_append_right _ _ (Nat.le_refl _), Nat.sub_self]; rfl
theorem lift_list {l : List Nd} {n r a b : Nd} (hr : r.slot = 0) (ha : a.slot = l.length) (hb : b.slot = (l.length : Int) + 1) (hp : 0 < l.length) : (((tk (tk l n) n).set r.slot.toNat r).set a.slot.toNat a).set b.slot.toNat b = liftL l r a b := by
 have e1 : (tk (tk l n) n).set r.slot.toNat r = l.set 0 r ++ [{ n with slot := l.length }, { n with slot := (tk l n).length }] := by
  unfold tk
  rw [hr, List.append_assoc]
  show List.set _ 0 r = _
  rw [List.set_append_left _ _ hp]; rfl
 have l0 : (l.set 0 r).length = l.length := List.length_set
 rw [e1, set_at (A := l.set 0 r) (B := [{ n with slot := (tk l n).length }]) (x := { n with slot := l.length }) rfl (by rw [l0]; omega)]
 rw [set_at (A := l.set 0 r ++ [a]) (B := []) (x := { n with slot := (tk l n).length }) (by simp) (by rw [List.length_append, l0]; simp; omega)]
 unfold liftL
 simp
theorem Tree.sound {c : Cfg} {l : List Nd} {ss : List Seat} (t : Tree c l ss) : soundN c l = true := by rw [soundN_t t.sts]; exact decide_eq_true t.q
theorem lift_all {c : Cfg} {l : List Nd} {ss : List Seat} (t : Tree c l ss) : ∃ T, Tree c (liftS c l).2 T ∧ mapN (liftS c l).2 = mapN l := by
 have hr : (rootS l 0).n = getL l 0 := t.rootn
 by_cases h1 : (liftN (getL l 0) l.length ((l.length : Int) + 1)).2.2.2 = true
 ·by_cases h2 : c.slots.toNat - l.length < 2
  ·rw [liftS_4 h1 h2]; exact ⟨ss, t, rfl⟩
  ·rw [liftS_0 h1 h2]
   have hsl := t.cfg.2.2.2.1.2
   have := lift_of t om9 om9 (by rw [hr]; exact h1)
   rw [hr] at this
   exact this
 ·rw [liftS_6 (by simpa using h1)]; exact ⟨ss, t, rfl⟩
theorem cleave_key (n : Nd) (i j : Int) : (cleaveN n i).2.2.1 = (cleaveN n j).2.2.1 := by
 cases h : (halvesN n).2.2.2
 ·rw [cleaveN_f h, cleaveN_f h]
 ·rw [cleaveN_t h, cleaveN_t h]
theorem cleave_okS (n : Nd) (i j : Int) : (cleaveN n i).2.2.2 = (cleaveN n j).2.2.2 := by rw [cleave_ok, cleave_ok]
theorem bins_okS (p : List Str) (c : List Int) (i : Nat) (k : Str) (v w : Int) : (binsN p c i k v).2.length = (binsN p c i k w).2.length := by
 unfold binsN
 split
 ·rfl
 ·simp
theorem adopt_okS (n : Nd) (i : Nat) (k : Str) (v w : Int) : (adoptN n i k v).2 = (adoptN n i k w).2 := by
 unfold adoptN
 rw [bins_okS _ _ _ _ v w]
 split <;> rfl
def kdN (l : List Nd) (p : Int) (i : Nat) : Int := (getL l p).kids.getD i 0
def cutP (l : List Nd) (p : Int) (i : Nat) : Nd × Nd × Str × Bool := cleaveN (getL l (kdN l p i)) l.length
def adP (l : List Nd) (p : Int) (i : Nat) : Nd × Bool := adoptN (getL l p) i (cutP l p i).2.2.1 l.length
def lstP (l : List Nd) (p : Int) (i : Nat) : List Nd := ((l.set (cutP l p i).1.slot.toNat (cutP l p i).1).set p.toNat (adP l p i).1) ++ [(cutP l p i).2.1]
def partS (c : Cfg) (l : List Nd) (p : Int) (i : Nat) : Int × List Nd :=
 if ¬ (0 ≤ p ∧ p < l.length) ∨ (getL l p).kids.length ≤ i ∨ ¬ (0 ≤ kdN l p i ∧ kdN l p i < l.length) then (8, l)
 else if fullN c (getL l p) = true then (9, l)
 else if (cutP l p i).2.2.2 = false ∨ (adP l p i).2 = false then (6, l)
 else if ¬ (l.length : Int) < c.slots then (4, l)
 else (0, lstP l p i)
def partI (c : Cfg) (l : List Nd) (p i : Int) : Int × List Nd := if i < 0 then (8, l) else partS c l p i.toNat
theorem partS_8 {c : Cfg} {l : List Nd} {p : Int} {i : Nat} (h : ¬ (0 ≤ p ∧ p < l.length) ∨ (getL l p).kids.length ≤ i ∨ ¬ (0 ≤ kdN l p i ∧ kdN l p i < l.length)) : partS c l p i = (8, l) := if_pos h
theorem partS_9 {c : Cfg} {l : List Nd} {p : Int} {i : Nat} (h1 : 0 ≤ p ∧ p < l.length) (h2 : ¬ (getL l p).kids.length ≤ i) (h3 : 0 ≤ kdN l p i ∧ kdN l p i < l.length) (h : fullN c (getL l p) = true) : partS c l p i = (9, l) := by
 unfold partS; rw [if_neg (by rintro (h | h | h); exact h h1; exact h2 h; exact h h3), if_pos h]
theorem partS_6 {c : Cfg} {l : List Nd} {p : Int} {i : Nat} (h1 : 0 ≤ p ∧ p < l.length) (h2 : ¬ (getL l p).kids.length ≤ i) (h3 : 0 ≤ kdN l p i ∧ kdN l p i < l.length) (h4 : fullN c (getL l p) = false) (h : (cutP l p i).2.2.2 = false ∨ (adP l p i).2 = false) : partS c l p i = (6, l) := by
 unfold partS; rw [if_neg (by rintro (h | h | h); exact h h1; exact h2 h; exact h h3), if_neg (by rw [h4]; simp), if_pos h]
theorem partS_4 {c : Cfg} {l : List Nd} {p : Int} {i : Nat} (h1 : 0 ≤ p ∧ p < l.length) (h2 : ¬ (getL l p).kids.length ≤ i) (h3 : 0 ≤ kdN l p i ∧ kdN l p i < l.length) (h4 : fullN c (getL l p) = false) (h5 : (cutP l p i).2.2.2 = true) (h6 : (adP l p i).2 = true) (h : ¬ (l.length : Int) < c.slots) : partS c l p i = (4, l) := by
 unfold partS; rw [if_neg (by rintro (h | h | h); exact h h1; exact h2 h; exact h h3), if_neg (by rw [h4]; simp), if_neg (by rw [h5, h6]; simp), if_pos h]
theorem partS_0 {c : Cfg} {l : List Nd} {p : Int} {i : Nat} (h1 : 0 ≤ p ∧ p < l.length) (h2 : ¬ (getL l p).kids.length ≤ i) (h3 : 0 ≤ kdN l p i ∧ kdN l p i < l.length) (h4 : fullN c (getL l p) = false) (h5 : (cutP l p i).2.2.2 = true) (h6 : (adP l p i).2 = true) (h : (l.length : Int) < c.slots) : partS c l p i = (0, lstP l p i) := by
 unfold partS; rw [if_neg (by rintro (h | h | h); exact h h1; exact h2 h; exact h h3), if_neg (by rw [h4]; simp), if_neg (by rw [h5, h6]; simp), if_neg (by simpa using h)]
theorem cut_slots {l : List Nd} {p : Int} {i : Nat} (h : (cutP l p i).2.2.2 = true) : (cutP l p i).1.slot = (getL l (kdN l p i)).slot ∧ (cutP l p i).2.1.slot = l.length := by
 have hh : (halvesN (getL l (kdN l p i))).2.2.2 = true := by rw [← cleave_ok _ (l.length : Int)]; exact h
 unfold cutP
 rw [cleaveN_t hh]
 refine ⟨?_, rfl⟩
 show (halvesN (getL l (kdN l p i))).1.slot = _
 by_cases h0 : (getL l (kdN l p i)).level = 0
 ·rw [halvesN_0 h0]
 ·cases h2 : rightN (getL l (kdN l p i)).pivots (getL l (kdN l p i)).kids.length
  ·rw [halvesN_n h0 h2]
  ·rw [halvesN_k h0 h2]
theorem ad_slot {l : List Nd} {p : Int} {i : Nat} (h : (adP l p i).2 = true) : (adP l p i).1.slot = (getL l p).slot := by
 unfold adP adoptN at *
 split
 ·rename_i h2; rw [if_pos h2] at h; cases h
 ·rfl
theorem part_list {l : List Nd} {n a b r : Nd} {p : Int} (ha : 0 ≤ a.slot ∧ a.slot < l.length) (hb : b.slot = l.length) (hr : r.slot = p) (hp : 0 ≤ p ∧ p < l.length) :
  (((tk l n).set a.slot.toNat a).set b.slot.toNat b).set r.slot.toNat r = ((l.set a.slot.toNat a).set p.toNat r) ++ [b] := by
 unfold tk
 rw [List.set_append_left _ _ om9, hb, hr]
 have l1 : (l.set a.slot.toNat a).length = l.length := List.length_set
 rw [show ((l.length : Int)).toNat = (l.set a.slot.toNat a).length by rw [l1]; omega, List.set_append_right _ _ (Nat.le_refl _), Nat.sub_self, List.set_append_left _ _ om9]
 rfl
theorem part_all {c : Cfg} {l : List Nd} {ss : List Seat} (t : Tree c l ss) (p i : Int) : ∃ T, Tree c (partI c l p i).2 T ∧ mapN (partI c l p i).2 = mapN l := by
 unfold partI
 split
 ·exact ⟨ss, t, rfl⟩
 ·generalize i.toNat = j
  by_cases h1 : 0 ≤ p ∧ p < l.length
  ·by_cases h2 : (getL l p).kids.length ≤ j
   ·rw [partS_8 (.inr (.inl h2))]; exact ⟨ss, t, rfl⟩
   ·by_cases h3 : 0 ≤ kdN l p j ∧ kdN l p j < l.length
    ·cases h4 : fullN c (getL l p)
     ·by_cases h5 : (cutP l p j).2.2.2 = true
      ·by_cases h6 : (adP l p j).2 = true
       ·by_cases h7 : (l.length : Int) < c.slots
        ·rw [partS_0 h1 h2 h3 h4 h5 h6 h7]
         obtain ⟨g1, g2⟩ := getL_slot t.slot h1
         obtain ⟨P, hP, eP⟩ := List.mem_map.1 ((t.perm.mem_iff).2 g2)
         have hj : j < P.n.kids.length := by rw [eP]; omega
         have h0 : ¬ P.n.level = 0 := fun h0 => by have := (t.leaf hP h0).1; omega
         have hat := t.at hP h0 hj
         have ek : (kidSt l P j).n = getL l (kdN l p j) := by
          rw [hat.2.2.1]
          unfold kdN
          rw [← eP, List.getD_eq_getElem?_getD, List.getElem?_eq_getElem hj]; rfl
         have hfull : (P.n.kids.length : Int) < c.fan := by
          unfold fullN at h4
          rw [if_neg (by rw [← eP]; exact h0), decide_eq_false_iff_not] at h4
          rw [eP]; omega
         unfold adP cutP at h6
         unfold cutP at h5
         rw [← ek] at h5 h6
         rw [← eP] at h6
         have hsl := t.cfg.2.2.2.1.2
         have key := part_of t hP h0 hj hfull h7 om9 h5 h6
         obtain ⟨e9, h, q⟩ := key
         have el : lstP l p j = partL l P.n j (cleaveN (kidSt l P j).n l.length).1 (cleaveN (kidSt l P j).n l.length).2.1 (cleaveN (kidSt l P j).n l.length).2.2.1 := by
          unfold lstP adP cutP partL
          rw [← ek, ← eP, e9]
          have : P.n.slot = p := by rw [eP]; exact g1
          rw [this]
         rw [el]
         exact ⟨_, q.tree, q.map⟩
        ·rw [partS_4 h1 h2 h3 h4 h5 h6 h7]; exact ⟨ss, t, rfl⟩
       ·rw [partS_6 h1 h2 h3 h4 (.inr (by simpa using h6))]; exact ⟨ss, t, rfl⟩
      ·rw [partS_6 h1 h2 h3 h4 (.inl (by simpa using h5))]; exact ⟨ss, t, rfl⟩
     ·rw [partS_9 h1 h2 h3 h4]; exact ⟨ss, t, rfl⟩
    ·rw [partS_8 (.inr (.inr h3))]; exact ⟨ss, t, rfl⟩
  ·rw [partS_8 (.inl h1)]; exact ⟨ss, t, rfl⟩
theorem OwnR.cast {α : Type} {e : Enc α} {T : TypeId} {G : GH} {v : Value} {l l' : List α} {Ms : MH} (h : OwnR e T G v l Ms) (h2 : l = l') : OwnR e T G v l' Ms := h2 ▸ h
def wOf (P : List Str) (F : List Msg) (i : Nat) : Int := sizesN (F.filter fun m => decide (routeN P m.key = i))
def bestTo (w : Nat → Int) : Nat → Nat
 | 0 => 0
 | k + 1 => if w (bestTo w k) < w k then k else bestTo w k
theorem bestTo_t {w : Nat → Int} {k : Nat} (h : w (bestTo w k) < w k) : bestTo w (k + 1) = k := if_pos h
theorem bestTo_f {w : Nat → Int} {k : Nat} (h : ¬ w (bestTo w k) < w k) : bestTo w (k + 1) = bestTo w k := if_neg h
theorem bestTo_lt (w : Nat → Int) : ∀ k, bestTo w k < k ∨ (k = 0 ∧ bestTo w k = 0)
 | 0 => .inr ⟨rfl, rfl⟩
 | k + 1 => by
  left
  unfold bestTo
  split
  ·omega
  ·rcases bestTo_lt w k with h | h <;> omega
theorem bestTo_max (w : Nat → Int) : ∀ k j, j < k → w j ≤ w (bestTo w k)
 | 0, j, h => absurd h (Nat.not_lt_zero j)
 | k + 1, j, h => by
  unfold bestTo
  split
  ·rename_i h2
   by_cases e : j = k
   ·rw [e]; exact Int.le_refl _
   ·have := bestTo_max w k j om9; omega
  ·rename_i h2
   by_cases e : j = k
   ·rw [e]; omega
   ·exact bestTo_max w k j om9
def victimN (P : List Str) (l : List Msg) : Int × Bool := if l.length = 0 then (0, false) else (((bestTo (wOf P (frontN l)) (P.length + 1) : Nat) : Int), true)
theorem wOf_pos (P : List Str) (F : List Msg) (i : Nat) : 0 ≤ wOf P F i := by
  unfold wOf
  generalize F.filter _ = L
  induction L with
  | nil => exact Int.le_refl 0
  | cons m L ih => have := size_pos m; have e : sizesN (m :: L) = m.size + sizesN L := by simp [sizesN]
                   rw [e]; omega
theorem wOf_le (P : List Str) (F : List Msg) (i : Nat) (h : ∀ m ∈ F, m.key.b.size ≤ 16 ∧ m.val.b.size ≤ 16) : wOf P F i ≤ 36 * F.length := by
 have h1 := sizes_bound (l := F.filter fun m => decide (routeN P m.key = i)) fun m hm => h m (List.mem_filter.1 hm).1
 have h2 := List.length_filter_le (fun m : Msg => decide (routeN P m.key = i)) F
 have := h1.2
 unfold wOf
 omega
theorem wOf_t {P : List Str} {F : List Msg} {q i : Nat} (hq : q < F.length) (h : routeN P F[q].key = i) : wOf P (F.take (q + 1)) i = wOf P (F.take q) i + F[q].size := by
 unfold wOf
 rw [filt_t (p := fun m : Msg => decide (routeN P m.key = i)) hq (by simp [h]), sizes_app]
 simp [sizesN]
theorem wOf_f {P : List Str} {F : List Msg} {q i : Nat} (hq : q < F.length) (h : ¬ routeN P F[q].key = i) : wOf P (F.take (q + 1)) i = wOf P (F.take q) i := by
 unfold wOf
 rw [filt_f (p := fun m : Msg => decide (routeN P m.key = i)) hq (by simp [h])]
theorem front_pos {l : List Msg} (h : 0 < l.length) : 0 < (frontN l).length := by
 unfold frontN
 have h1 := idxN_le isW l
 split
 ·exact h
 ·split
  ·rw [List.length_take]; omega
  ·rw [List.length_take]; omega
theorem best_pos {P : List Str} {l : List Msg} (h : 0 < l.length) : 0 < wOf P (frontN l) (bestTo (wOf P (frontN l)) (P.length + 1)) := by
 have h0 := front_pos h
 have hr : routeN P ((frontN l)[0]).key ≤ P.length := List.length_filter_le _ _
 have hm := bestTo_max (wOf P (frontN l)) (P.length + 1) (routeN P ((frontN l)[0]).key) om9
 have : 0 < wOf P (frontN l) (routeN P ((frontN l)[0]).key) := by
  have e : (frontN l).take 1 ++ (frontN l).drop 1 = frontN l := List.take_append_drop _ _
  have h1 := wOf_t (P := P) (F := frontN l) (q := 0) h0 rfl
  have h2 : 0 < ((frontN l)[0]).size := by unfold Msg.size; split <;> omega
  have h3 : wOf P (frontN l) (routeN P ((frontN l)[0]).key) = wOf P ((frontN l).take 1) (routeN P ((frontN l)[0]).key) + wOf P ((frontN l).drop 1) (routeN P ((frontN l)[0]).key) := by
   generalize routeN P ((frontN l)[0]).key = z
   conv => lhs; rw [← e]
   unfold wOf
   rw [List.filter_append, sizes_app]
  have h4 := wOf_pos P ((frontN l).take 0) (routeN P ((frontN l)[0]).key)
  have h5 := wOf_pos P ((frontN l).drop 1) (routeN P ((frontN l)[0]).key)
  rw [h3]
  rw [show (0 + 1 : Nat) = 1 from rfl] at h1
  omega
 omega
theorem victim_n {P : List Str} {l : List Msg} (h : ¬ 0 < l.length) : victimN P l = (0, false) := by unfold victimN; rw [if_pos om9]
theorem victim_p {P : List Str} {l : List Msg} (h : 0 < l.length) : victimN P l = (((bestTo (wOf P (frontN l)) (P.length + 1) : Nat) : Int), true) := by unfold victimN; rw [if_neg om9]
theorem victim_lt {P : List Str} {l : List Msg} : 0 ≤ (victimN P l).1 ∧ (victimN P l).1 ≤ P.length := by
 unfold victimN
 split
 ·exact ⟨Int.le_refl 0, om9⟩
 ·rcases bestTo_lt (wOf P (frontN l)) (P.length + 1) with h | h
  ·dsimp only; omega
  ·omega
theorem bt_t {w : Nat → Int} {i : Nat} (h : (if i = 0 then 0 else w (bestTo w i)) < w i) : bestTo w (i + 1) = i := by
 by_cases e : i = 0
 ·subst e
  unfold bestTo
  split
  ·rfl
  ·rfl
 ·rw [if_neg e] at h; exact bestTo_t h
theorem bt_f {w : Nat → Int} {i : Nat} (h : ¬ (if i = 0 then 0 else w (bestTo w i)) < w i) : bestTo w (i + 1) = bestTo w i := by
 by_cases e : i = 0
 ·subst e
  unfold bestTo
  split
  ·rfl
  ·rfl
 ·rw [if_neg e] at h; exact bestTo_f h
theorem mt_f {w : Nat → Int} (hw : ∀ j, 0 ≤ w j) {i : Nat} (h : ¬ (if i = 0 then 0 else w (bestTo w i)) < w i) : w (bestTo w (i + 1)) = if i = 0 then 0 else w (bestTo w i) := by
 rw [bt_f h]
 by_cases e : i = 0
 ·subst e
  rw [if_pos rfl] at h ⊢
  have := hw 0
  show w 0 = 0
  omega
 ·rw [if_neg e]
theorem rvic_eq (P : List Str) (l : List Msg) : (Value.tuple #[.int .i64 ((bestTo (wOf P (frontN l)) (P.length + 1) : Nat) : Int), .bool (decide (0 < wOf P (frontN l) (bestTo (wOf P (frontN l)) (P.length + 1))))] : Value) = .tuple #[.int .i64 (victimN P l).1, .bool (victimN P l).2] := by
 by_cases h : 0 < l.length
 ·rw [decide_eq_true (best_pos h), victim_p h]
 ·have e : l = [] := List.eq_nil_of_length_eq_zero om9
  subst e
  have hz : ∀ i, wOf P (frontN []) i = 0 := fun i => rfl
  have hb : ∀ k, bestTo (wOf P (frontN [])) k = 0 := fun k => by
   induction k with
   | zero => rfl
   | succ k ih => rw [bestTo_f (by rw [hz, hz]; omega), ih]
  rw [hz, hb]
  rfl
def wts (P : List Str) (F : List Msg) : List Int := (List.range (P.length + 1)).map (wOf P F)
theorem wts_len (P : List Str) (F : List Msg) : (wts P F).length = P.length + 1 := by simp [wts]
theorem wts_get {P : List Str} {F : List Msg} {i : Nat} (h : i < (wts P F).length) : (wts P F)[i] = wOf P F i := by simp [wts]
theorem wts_nil (P : List Str) : List.replicate (P.length + 1) (0 : Int) = wts P [] := by
 refine List.ext_getElem (by simp [wts]) fun i h1 h2 => ?_
 rw [wts_get h2]
 simp [wOf, sizesN]
theorem wts_set {P : List Str} {F : List Msg} {q : Nat} (hq : q < F.length) (h : routeN P F[q].key < (wts P (F.take q)).length) : (wts P (F.take q)).set (routeN P F[q].key) ((wts P (F.take q))[routeN P F[q].key] + F[q].size) = wts P (F.take (q + 1)) := by
 refine List.ext_getElem (by rw [List.length_set, wts_len, wts_len]) fun i h1 h2 => ?_
 rw [wts_get h2, List.getElem_set]
 rw [List.length_set] at h1
 split
 ·rename_i e
  subst e
  rw [wts_get h1, wOf_t hq rfl]
 ·rename_i e
  rw [wts_get h1, wOf_f hq e]
theorem front_1 {l : List Msg} {k : Nat} (h : idxN isW l = ((k : Nat) : Int)) (h0 : k = 0) : (l.take 1).drop 0 = frontN l := by unfold frontN; rw [if_neg om9, if_pos om9, List.drop_zero]
theorem front_k {l : List Msg} {k : Nat} (h : idxN isW l = ((k : Nat) : Int)) (h0 : ¬ k = 0) : l.take k = frontN l := by unfold frontN; rw [if_neg om9, if_neg om9, h]; rfl
theorem front_no {l : List Msg} {k : Nat} (h : ∀ j (h : j < l.length), isW l[j] = false) (hk : l.length ≤ k) : l.take k = frontN l := by rw [List.take_of_length_le hk]; exact front_all (idxN_no h)
def chooseN (c : Cfg) (n : Nd) (k : Str) : Int × Int :=
 if n.level = 0 then (0, 0) else if n.slot = 0 ∧ fullN c n = true then (1, 0) else (2, if (victimN n.pivots n.msgs).2 = true then (victimN n.pivots n.msgs).1 else ((routeN n.pivots k : Nat) : Int))
noncomputable def decideN (c : Cfg) (p k : Nd) (i : Int) : Int :=
 if 0 < k.level ∧ fullN c k = true then (if fullN c p = true then 0 else 3) else if 0 < countN c.leaf c.bud p k i then 4 else if 0 < k.level then 5 else if 0 < (forN p.pivots p.msgs i).length then (if fullN c p = true then 0 else 3) else 0
theorem pour_n (leaf bud : Int) (p k : Nd) (i : Int) : (pourN leaf bud p k i).2.2 = countN leaf bud p k i := by
 unfold pourN
 split
 ·rename_i h; rw [h]
 ·rfl
theorem choose_0 {c : Cfg} {n : Nd} {k : Str} (h : n.level = 0) : chooseN c n k = (0, 0) := if_pos h
theorem choose_1 {c : Cfg} {n : Nd} {k : Str} (h : ¬ n.level = 0) (h2 : n.slot = 0) (h3 : fullN c n = true) : chooseN c n k = (1, 0) := by unfold chooseN; rw [if_neg h, if_pos ⟨h2, h3⟩]
theorem choose_v {c : Cfg} {n : Nd} {k : Str} (h : ¬ n.level = 0) (h2 : ¬ (n.slot = 0 ∧ fullN c n = true)) (h3 : (victimN n.pivots n.msgs).2 = true) : chooseN c n k = (2, (victimN n.pivots n.msgs).1) := by unfold chooseN; rw [if_neg h, if_neg h2, if_pos h3]
theorem choose_r {c : Cfg} {n : Nd} {k : Str} (h : ¬ n.level = 0) (h2 : ¬ (n.slot = 0 ∧ fullN c n = true)) (h3 : (victimN n.pivots n.msgs).2 = false) : chooseN c n k = (2, ((routeN n.pivots k : Nat) : Int)) := by unfold chooseN; rw [if_neg h, if_neg h2, if_neg (by simp [h3])]
theorem norm_empty9 (s : Span) : s.norm.empty = s.empty := by
 rw [Bool.eq_iff_iff, empty_iff, empty_iff]
 exact ⟨fun h k => by rw [← norm_has]; exact h k, fun h k => by rw [norm_has]; exact h k⟩
theorem without_eq {w : Msg} {s : Span} (hw : w.R) (hk : w.kind = 4) (hs : s.has w.key = true) (hn : s.norm = s) :
  ((withoutN w s).2 = true ↔ s.opn = false ∧ (w.opn = true ∨ s.hi.lt w.hi = true)) ∧ ((withoutN w s).2 = true → (withoutN w s).1 = { w with key := s.hi }) := by
 unfold withoutN
 cases ho : s.opn
 ·rw [if_neg (by simp)]
  have hlt : w.key.lt s.hi = true := by
   rcases (span_has.1 hs).2 with h | h
   ·rw [ho] at h; cases h
   ·exact h
  have hsp : w.span = ⟨w.key, w.hi, w.opn⟩ := by unfold Msg.span; rw [if_pos hk]
  have hm : w.span.meet ⟨s.hi, Str.nil, true⟩ = Span.norm ⟨s.hi, w.hi, w.opn⟩ := by
   rw [hsp]
   unfold Span.meet
   simp [hlt]
  have he : (w.span.meet ⟨s.hi, Str.nil, true⟩).empty = false ↔ (w.opn = true ∨ s.hi.lt w.hi = true) := by
   rw [hm]
   rw [norm_empty9]
   unfold Span.empty
   simp
   constructor
   ·intro h
    by_cases h1 : w.opn = true
    ·exact .inl h1
    ·exact .inr (h (by simpa using h1))
   ·rintro (h | h) h1
    ·rw [h] at h1; exact absurd h1 (by simp)
    ·exact h
  have hR := hw.2
  rw [if_pos hk] at hR
  constructor
  ·rw [← he]
   constructor
   ·intro h; exact ⟨rfl, (clip_of h).1⟩
   ·rintro ⟨_, h⟩
    cases h2 : (w.clip ⟨s.hi, Str.nil, true⟩).2
    ·rw [clip_no.1 h2] at h; cases h
    ·rfl
  ·intro h
   have h1 := (clip_of h).1
   rw [(clip_of h).2, if_pos hk, hm]
   rw [hm] at h1
   have h3 : (Span.mk s.hi w.hi w.opn).empty = false := by rw [norm_empty9] at h1; exact h1
   unfold Span.norm
   rw [if_neg (by simp [h3])]
   by_cases h5 : w.opn = true
   ·rw [if_pos h5]
    have : w.hi = Str.nil := by
     rcases hR.2.1 with h6 | h6
     ·rw [h5] at h6; cases h6
     ·exact h6
    simp [this]
   ·rw [if_neg h5]
 ·rw [if_pos rfl]
  simp
theorem range_norm (P : List Str) (i : Int) : (rangeN P i).norm = rangeN P i := by
 unfold rangeN
 split
 ·unfold Span.norm
  split
  ·rfl
  ·rfl
 ·exact norm_norm _
theorem moved_key {P : List Str} {i : Nat} {l T : List Msg} (hP : rising P = true) (hi : i ≤ P.length) (hm : MsgsR l) (h : Moved P i l T) {m : Msg} (hl : m ∈ l) (hs : m.stamp ∈ T.map Msg.stamp) (hk : m.kind = 4) : (rangeN P i).has m.key = true := by
 have hr := rst_of hm
 cases h with
 | none hT => rw [hT] at hs; cases hs
 | wipe w R hl2 hk2 hrt hc hT hA =>
  rw [hT] at hs
  simp [clip_stamp hc] at hs
  rw [hl2] at hl hr
  have e : m = w := rst_inj hr hl (by simp) hs
  rw [e, range_has hP _ hi, decide_eq_true hrt.symm]
 | points F R hl2 hF hT hA =>
  rw [hT] at hs
  obtain ⟨x, hx, e⟩ := List.mem_map.1 hs
  have hx1 := (List.mem_filter.1 hx).1
  have : x = m := rst_inj hr (by rw [hl2]; exact List.mem_append_left _ hx1) hl e
  rw [this] at hx1
  exact absurd hk (hF m hx1)
def lastS (A : List Msg) : Int := (A.getLast?.map Msg.stamp).getD 0
theorem lastS_get {A : List Msg} (h : 0 < A.length) : lastS A = (A[A.length - 1]'om9).stamp := by
 unfold lastS
 rw [List.getLast?_eq_getElem?, List.getElem?_eq_getElem om9]; rfl
theorem lastS_snoc (A : List Msg) (m : Msg) : lastS (A ++ [m]) = m.stamp := by unfold lastS; rw [List.getLast?_concat]; rfl
theorem lastS_nil {A : List Msg} (h : A.length = 0) : lastS A = 0 := by rw [List.eq_nil_of_length_eq_zero h]; rfl
theorem take_app {k l : List Msg} {i : Nat} (h : i < l.length) : k ++ l.take (i + 1) = (k ++ l.take i) ++ [l[i]] := by rw [List.take_succ_eq_append_getElem h, List.append_assoc]
theorem sizes_one (A : List Msg) (m : Msg) : sizesN (A ++ [m]) = sizesN A + m.size := by rw [sizes_app]; simp [sizesN]
theorem room_last {bud : Int} {A : List Msg} {m : Msg} (h : 0 < A.length) (h2 : m.stamp ≤ lastS A) : roomB bud A m = false := room_f2 h (by rw [← lastS_get h]; exact h2)
theorem room_yes {bud : Int} {A : List Msg} {m : Msg} (h : m.size ≤ bud - sizesN A) (h2 : 0 < A.length → lastS A < m.stamp) : roomB bud A m = true := room_iff.2 ⟨h, fun h3 => by rw [← lastS_get h3]; exact h2 h3⟩
theorem in_t {T : List Msg} {s : Int} {y : Nat} (h : decide (s ∈ (T.take y).map Msg.stamp) = true) : true = decide (s ∈ (T.take (y + 1)).map Msg.stamp) := by
 symm
 rw [decide_eq_true_eq] at h ⊢
 obtain ⟨x, hx, e⟩ := List.mem_map.1 h
 exact List.mem_map.2 ⟨x, (List.take_sublist_take_left (Nat.le_succ y)).subset hx, e⟩
theorem in_s {T : List Msg} {s : Int} {y : Nat} (hy : y < T.length) (h : decide (s ∈ (T.take y).map Msg.stamp) = false) : decide (T[y].stamp = s) = decide (s ∈ (T.take (y + 1)).map Msg.stamp) := by
 rw [decide_eq_false_iff_not] at h
 rw [decide_eq_decide, List.take_succ_eq_append_getElem hy, List.map_append, List.mem_append]
 constructor
 ·intro e; right; simp [e]
 ·rintro (e | e)
  ·exact absurd e h
  ·simp at e; exact e.symm
theorem pour_l {leaf bud : Int} {p k : Nd} {i : Int} (hk : KidOf p k i) (h0 : k.level = 0) (h : 0 < (movedN leaf bud k (forN p.pivots p.msgs i)).2) (hn : (movedN leaf bud k (forN p.pivots p.msgs i)).2 - 1 < (forN p.pivots p.msgs i).length) :
  pourN leaf bud p k i = ({ p with msgs := restN p.pivots i ((forN p.pivots p.msgs i).take (movedN leaf bud k (forN p.pivots p.msgs i)).2) p.msgs },
   { k with rows := foldN k.rows ((forN p.pivots p.msgs i).take (movedN leaf bud k (forN p.pivots p.msgs i)).2), seen := ((forN p.pivots p.msgs i)[(movedN leaf bud k (forN p.pivots p.msgs i)).2 - 1]'hn).stamp }, (movedN leaf bud k (forN p.pivots p.msgs i)).2) := by
 have e := moved_len leaf bud k (forN p.pivots p.msgs i)
 rw [pour_t hk rfl om9]
 have e2 : (movedN leaf bud k (forN p.pivots p.msgs i)).1 = { k with rows := foldN k.rows ((forN p.pivots p.msgs i).take (movedN leaf bud k (forN p.pivots p.msgs i)).2) } := by
  rw [moved_0 h0]
  dsimp only
  rw [← drain_fold]
 have e3 : (((forN p.pivots p.msgs i).take (movedN leaf bud k (forN p.pivots p.msgs i)).2)[((forN p.pivots p.msgs i).take (movedN leaf bud k (forN p.pivots p.msgs i)).2).length - 1]'om9) = (forN p.pivots p.msgs i)[(movedN leaf bud k (forN p.pivots p.msgs i)).2 - 1]'hn := by
  rw [List.getElem_take]
  simp only [e]
 rw [e3, e2, e]
theorem pour_i {leaf bud : Int} {p k : Nd} {i : Int} (hk : KidOf p k i) (h0 : ¬ k.level = 0) (h : 0 < (movedN leaf bud k (forN p.pivots p.msgs i)).2) (hn : (movedN leaf bud k (forN p.pivots p.msgs i)).2 - 1 < (forN p.pivots p.msgs i).length) :
  pourN leaf bud p k i = ({ p with msgs := restN p.pivots i ((forN p.pivots p.msgs i).take (movedN leaf bud k (forN p.pivots p.msgs i)).2) p.msgs },
   { k with msgs := k.msgs ++ (forN p.pivots p.msgs i).take (movedN leaf bud k (forN p.pivots p.msgs i)).2, seen := ((forN p.pivots p.msgs i)[(movedN leaf bud k (forN p.pivots p.msgs i)).2 - 1]'hn).stamp }, (movedN leaf bud k (forN p.pivots p.msgs i)).2) := by
 have e := moved_len leaf bud k (forN p.pivots p.msgs i)
 rw [pour_t hk rfl om9]
 have e2 : (movedN leaf bud k (forN p.pivots p.msgs i)).1 = { k with msgs := k.msgs ++ (forN p.pivots p.msgs i).take (movedN leaf bud k (forN p.pivots p.msgs i)).2 } := by
  rw [moved_n (leaf := leaf) (bud := bud) (l := forN p.pivots p.msgs i) h0 rfl]
 have e3 : (((forN p.pivots p.msgs i).take (movedN leaf bud k (forN p.pivots p.msgs i)).2)[((forN p.pivots p.msgs i).take (movedN leaf bud k (forN p.pivots p.msgs i)).2).length - 1]'om9) = (forN p.pivots p.msgs i)[(movedN leaf bud k (forN p.pivots p.msgs i)).2 - 1]'hn := by
  rw [List.getElem_take]
  simp only [e]
 rw [e3, e2, e]
theorem left_hi {P : List Str} {i : Nat} {l T : List Msg} {m : Msg} (hP : rising P = true) (hi : i ≤ P.length) (hm : MsgsR l) (h : Moved P i l T) (hl : m ∈ l) (hs : m.stamp ∈ T.map Msg.stamp) (hk : m.kind = 4) (ho : (rangeN P i).opn = false) (h2 : m.opn = true ∨ (rangeN P i).hi.lt m.hi = true) :
  leftN P i T m = some { m with key := (rangeN P i).hi } := by
 have hw := without_eq ((MsgsR.iff.1 hm).1 m hl) hk (moved_key hP hi hm h hl hs hk) (range_norm P i)
 have h3 := hw.1.2 ⟨ho, h2⟩
 rw [left_w hs hk h3, hw.2 h3]
theorem left_gone {P : List Str} {i : Nat} {l T : List Msg} {m : Msg} (hP : rising P = true) (hi : i ≤ P.length) (hm : MsgsR l) (h : Moved P i l T) (hl : m ∈ l) (hs : m.stamp ∈ T.map Msg.stamp) (h2 : ¬ (m.kind = 4 ∧ (rangeN P i).opn = false ∧ (m.opn = true ∨ (rangeN P i).hi.lt m.hi = true))) :
  leftN P i T m = none := left_n hs fun hh => h2 ⟨hh.1, (without_eq ((MsgsR.iff.1 hm).1 m hl) hh.1 (moved_key hP hi hm h hl hs hh.1) (range_norm P i)).1.1 hh.2⟩
theorem left_hiI {P : List Str} {i : Int} {l T : List Msg} {m : Msg} (h0 : 0 ≤ i) (hP : rising P = true) (hi : i.toNat ≤ P.length) (hm : MsgsR l) (h : Moved P i.toNat l T) (hl : m ∈ l) (hs : m.stamp ∈ T.map Msg.stamp) (hk : m.kind = 4) (ho : (rangeN P i).opn = false) (h2 : m.opn = true ∨ (rangeN P i).hi.lt m.hi = true) :
  leftN P i T m = some { m with key := (rangeN P i).hi } := by
 obtain ⟨n, rfl⟩ : ∃ n : Nat, i = n := ⟨i.toNat, om9⟩
 exact left_hi hP hi hm h hl hs hk ho h2
theorem left_goneI {P : List Str} {i : Int} {l T : List Msg} {m : Msg} (h0 : 0 ≤ i) (hP : rising P = true) (hi : i.toNat ≤ P.length) (hm : MsgsR l) (h : Moved P i.toNat l T) (hl : m ∈ l) (hs : m.stamp ∈ T.map Msg.stamp) (h2 : ¬ (m.kind = 4 ∧ (rangeN P i).opn = false ∧ (m.opn = true ∨ (rangeN P i).hi.lt m.hi = true))) :
  leftN P i T m = none := by
 obtain ⟨n, rfl⟩ : ∃ n : Nat, i = n := ⟨i.toNat, om9⟩
 exact left_gone hP hi hm h hl hs h2
section
variable {c : Cfg} {p k : Nd} {i : Int}
theorem dec_full (h : 0 < k.level) (h2 : fullN c k = true) : decideN c p k i = if fullN c p = true then 0 else 3 := if_pos ⟨h, h2⟩
theorem dec_pour (h : ¬ (0 < k.level ∧ fullN c k = true)) (hc : 0 < countN c.leaf c.bud p k i) : decideN c p k i = 4 := by unfold decideN; rw [if_neg h, if_pos hc]
theorem dec_down (h : ¬ (0 < k.level ∧ fullN c k = true)) (hc : ¬ 0 < countN c.leaf c.bud p k i) (h0 : 0 < k.level) : decideN c p k i = 5 := by unfold decideN; rw [if_neg h, if_neg hc, if_pos h0]
theorem dec_need (hc : ¬ 0 < countN c.leaf c.bud p k i) (h0 : ¬ 0 < k.level) (hw : 0 < (forN p.pivots p.msgs i).length) : decideN c p k i = if fullN c p = true then 0 else 3 := by unfold decideN; rw [if_neg (fun h => h0 h.1), if_neg hc, if_neg h0, if_pos hw]
theorem dec_end (hc : ¬ 0 < countN c.leaf c.bud p k i) (h0 : ¬ 0 < k.level) (hw : ¬ 0 < (forN p.pivots p.msgs i).length) : decideN c p k i = 0 := by unfold decideN; rw [if_neg (fun h => h0 h.1), if_neg hc, if_neg h0, if_neg hw]
end
def ChoosePre (n : Nd) : Prop := ¬ n.level = 0 → rising n.pivots = true ∧ (∀ m ∈ n.msgs, m.key.b.size ≤ 16 ∧ m.val.b.size ≤ 16) ∧ n.msgs.length ≤ 100000 ∧ n.pivots.length ≤ 100000
theorem choose_pre {c : Cfg} {n : Nd} (h : n.R c.fan c.leaf c.bud) (s : NdS n) : ChoosePre n := fun h0 => by
 have h4 := h.2.2.2
 rw [if_neg h0] at h4
 obtain ⟨_, s2, s3, _⟩ := s
 exact ⟨(rightN_spec h4.2.1).1, fun m hm => msgR_key (nd_msgsR h m hm), om9, om9⟩
end Go.Fw
namespace Go.Proofs.YtfmigmijckdldaaGreat
open Go Go.Fw Go.RowKit
attribute [local irreducible] Ok W WC
theorem rfront_fc {G : GH} {v_l : Value} {l : List Msg} (h_l : SlR eMsg G v_l l) :
    Fc Tryz.prog 110 [v_l] G [] (fun v G' M' => M' = [] ∧ ∃ u0, v = u0 ∧ SlR eMsg G' u0 (frontN l)) := by
 obtain ⟨sa_l, sc_l, rfl⟩ := h_l.form
 have hl := h_l.len47
 have hlb : l.length * 72 ≤ 140737488355328 := h_l.bytes
 refine Fc.go [.tmp 2] Tryz.func110 Tryz.ntmps110 rfl (fun w0 => (g9 17 ?_))
 refine WC.loop (X := (Nat) × Value × MH) (fun k => [(4, nt9 k.1), (0, lV sa_l l.length sc_l), (3, k.2.1)]) (fun k G Ml => Ml = (k.2.2 ++ []) ∧ OwnR eMsg 90 G k.2.1 (l.take k.1) k.2.2 ∧ k.1 ≤ l.length ∧ ∀ j (h : j < l.length), j < k.1 → isW l[j] = false) (fun k => l.length - k.1) (0, lV none 0 0, ([] : MH)) hs9 ?_ ?_
 ·exact ⟨rfl, (by exact OwnR.nil), om9, fun j _ h => by omega⟩
 rintro ⟨k, v_3, M_3⟩ gG1 G1 _ hG1 ⟨rfl, ho_3, hk, hj⟩
 try dsimp only at ho_3 hk hj
 refine WC.fr (f := setL gG1 [(4, nt9 k), (0, lV sa_l l.length sc_l), (3, v_3)]) rfl (g9 9 ?_)
 refine WC.cd (fun h8 p8 => ?_) (fun h8 p8 => ?_)
 ·refine g9 9 ?_
  refine (h_l.mono hG1).a2 (i := k) om9 (fun he2 hm3 => (g9 6 ?_))
  refine WC.cd (fun h16 p16 => ?_) (fun h16 p16 => ?_)
  ·have hix : idxN isW l = ((k : Nat) : Int) := idxN_at (q := isW) om9 h16 hj
   refine g9 7 ?_
   refine WC.cd (fun h18 p18 => ?_) (fun h18 p18 => ?_)
   ·refine g9 3 ?_
    have hs7 := SlR.slice (h_l.mono hG1) (lo := 0) (hi := 1) om9 om9
    refine W.ok (ok_slice (0) (1) sl51 ty90 (h_l.mono hG1) rfl rfl ⟨_, _, rfl, om9⟩ ⟨om9, om9⟩) (g9 12 ?_)
    refine ⟨rfl, _, rfl, ?_⟩
    exact SlR.cast hs7 (front_1 hix om9)
   refine g9 8 ?_
   refine WC.giveO ho_3 pr9 (fun G8 hG8 hv8 => (g9 8 ?_))
   refine ⟨rfl, _, rfl, ?_⟩
   exact SlR.cast hv8 (front_k hix om9)
  refine g9 6 ?_
  refine (h_l.mono hG1).a2 (i := k) om9 (fun he9 hm10 => (g9 2 ?_))
  refine W.lit (e := eMsg) (l := [(l[k]'om9)]) (css := [[iV _, iV _, sV _, sV _, .bool _, sV _]]) sl51 ty90 zr90 rfl rfl rfl rfl rfl rfl ⟨⟨rfl, hm10⟩, trivial⟩ (fun bl14 G14 hG14 hv14 => (W.app (e := eMsg) sl51 ty90 zr90 rfl by90 rfl rfl ((ho_3.mono hG14)) (hv14) pr9 (by show (List.length _ + 1) * 72 ≤ _; rw [List.length_take]; omega) (fun v15 Ms16 ho17 => (g9 10 ?_))))
  exact ⟨hG14, (k + 1, v15, Ms16), hs9, ⟨rfl, (by have h := ho17; rw [List.take_succ_eq_append_getElem om9]; exact h), om9, fun j h hji => by
      by_cases e2 : j = k
      · subst e2; exact h16
      · exact hj j h om9⟩, om9⟩
 refine g9 11 ?_
 refine WC.giveO ho_3 pr9 (fun G18 hG18 hv18 => (g9 2 ?_))
 refine ⟨rfl, _, rfl, ?_⟩
 exact SlR.cast hv18 (front_no (fun j h => hj j h om9) om9)

theorem rfor_fc {G : GH} {v_P : Value} {P : List Str} (h_P : SlR eStr G v_P P) {v_l : Value} {l : List Msg} (h_l : SlR eMsg G v_l l) (i : Int) (hks : ∀ m ∈ l, m.key.b.size < 140737488355328) (hi : i64 i) :
    Fc Tryz.prog 76 [v_P, v_l, iV i] G [] (fun v G' M' => M' = [] ∧ ∃ u0, v = u0 ∧ SlR eMsg G' u0 (forN P l i)) := by
 obtain ⟨sa_P, sc_P, rfl⟩ := h_P.form
 obtain ⟨sa_l, sc_l, rfl⟩ := h_l.form
 have hl := h_l.len47
 have hlb : l.length * 72 ≤ 140737488355328 := h_l.bytes
 have hfl := front_len l
 have hkf : ∀ m ∈ frontN l, m.key.b.size < 140737488355328 := fun m h => hks m (front_mem h)
 refine Fc.go [.tmp 6] Tryz.func76 Tryz.ntmps76 rfl (fun w0 => (g9 14 ?_))
 refine W.cS (rfront_fc h_l) rfl (fun sa_hv20 sc_hv20 G19 hG19 hv20 => (g9 5 ?_))
 refine WC.loop (X := (Nat) × Value × MH) (fun k => [(15, nt9 k.1), (0, lV sa_P P.length sc_P), (2, iV i), (13, lV sa_hv20 (frontN (l)).length sc_hv20), (14, nt9 ((frontN (l)).length)), (7, k.2.1)]) (fun k G Ml => Ml = (k.2.2 ++ []) ∧ OwnR eMsg 90 G k.2.1 (((frontN l).take k.1).filterMap (forF P i)) k.2.2 ∧ k.1 ≤ (frontN l).length) (fun k => (frontN l).length - k.1) (0, lV none 0 0, ([] : MH)) hs9 ?_ ?_
 ·exact ⟨rfl, (by exact OwnR.nil), om9⟩
 rintro ⟨k, v_7, M_7⟩ gG26 G26 _ hG26 ⟨rfl, ho_7, hk⟩
 try dsimp only at ho_7 hk
 have hfm := fm_lek (forF P i) (frontN l) k
 refine WC.fr (f := setL gG26 [(15, nt9 k), (0, lV sa_P P.length sc_P), (2, iV i), (13, lV sa_hv20 (frontN (l)).length sc_hv20), (14, nt9 ((frontN (l)).length)), (7, v_7)]) rfl (g9 6 ?_)
 refine WC.cd (fun h16 p16 => ?_) (fun h16 p16 => ?_)
 ·refine g9 6 ?_
  refine (hv20.mono hG26).a2 (i := k) om9 (fun he27 hm28 => (g9 2 ?_))
  refine W.alloc zr90 (fun b32 => (g9 4 ?_))
  refine WC.dw sr9.k9 (d9 [0, 1, 2] ?_)
  refine WD.any [3, 8] (by kernel_rfl) rfl ⟨WD.ap ?_, WD.ap ?_, trivial⟩
  ·refine W.qcall (rrange_fc (h_P.mono lec) _ hi) rfl (W.nn ?_)
   refine WD.any [4, 8] (by kernel_rfl) rfl ⟨WD.ap ?_, WD.ap ?_, trivial⟩
   ·refine W.qcall (rclip_fc _ _ _ _ _ _ _ _ _ (hkf _ (List.getElem_mem (by omega : k < (frontN l).length)))) rfl (W.nn (d9 [5, 6, 7] ?_))
    refine WD.a1 8 rfl (W.alloc zr90 (fun b33 => (W.nn (d9 [9, 10] ?_))))
    refine g9 6 ?_
    refine W.sp 28 rfl (fun h24_1 => ?_) (fun h24_1 => ?_)
    ·refine g9 7 ?_
     refine W.qcall (rroute_fc (h_P.mono lec) _) rfl (g9 7 ?_)
     refine WC.cd (fun h34 p34 => ?_) (fun h34 p34 => ?_)
     ·refine g9 3 ?_
      refine W.lit (e := eMsg) (l := [(Msg.clip (frontN l)[k] (rangeN P i)).1]) (css := [[iV _, iV _, sV _, sV _, .bool _, sV _]]) sl51 ty90 zr90 rfl rfl rfl rfl rfl rfl ⟨⟨rfl, clip_ok (by assumption)⟩, trivial⟩ (fun bl34 G34 hG34 hv34 => (W.app (e := eMsg) sl51 ty90 zr90 rfl by90 rfl rfl ((ho_7.mono hG34)) (hv34) (pmC (pmC pr9)) (by show (List.length _ + 1) * 72 ≤ _; omega) (fun v35 Ms36 ho37 => (W.perm (pmC (pmC pr9)).symm (g9 7 ?_)))))
      refine W.sub ((sr9.cons _).cons _) (g9 2 ?_)
      exact ⟨hG34, (k + 1, v35, Ms36), hs9, ⟨rfl, (by have h := ho37; rw [for_t om9 p34 h24_1]; exact h), om9⟩, om9⟩
     refine g9 6 ?_
     refine W.sub ((sr9.cons _).cons _) (g9 2 ?_)
     exact ⟨Le.rfl, (k + 1, v_7, M_7), hs9, ⟨rfl, (by have h := ho_7; rw [for_n om9 (fun hh => p34 hh.1)]; exact h), om9⟩, om9⟩
    refine g9 16 ?_
    refine W.sub ((sr9.cons _).cons _) (g9 2 ?_)
    exact ⟨Le.rfl, (k + 1, v_7, M_7), hs9, ⟨rfl, (by have h := ho_7; rw [for_n om9 (fun hh => absurd (h24_1.symm.trans hh.2) (by simp))]; exact h), om9⟩, om9⟩
   refine W.alloc zr90 (fun b38 => (W.nn (WD.a1 4 rfl (W.qcall (rclip_fc _ _ _ _ _ _ _ _ _ (hkf _ (List.getElem_mem (by omega : k < (frontN l).length)))) rfl (W.nn (d9 [5, 6, 7, 9, 10] ?_))))))
   refine g9 6 ?_
   refine W.sp 28 rfl (fun h24_1 => ?_) (fun h24_1 => ?_)
   ·refine g9 7 ?_
    refine W.qcall (rroute_fc (h_P.mono lec) _) rfl (g9 7 ?_)
    refine WC.cd (fun h34 p34 => ?_) (fun h34 p34 => ?_)
    ·refine g9 3 ?_
     refine W.lit (e := eMsg) (l := [(Msg.clip (frontN l)[k] (rangeN P i)).1]) (css := [[iV _, iV _, sV _, sV _, .bool _, sV _]]) sl51 ty90 zr90 rfl rfl rfl rfl rfl rfl ⟨⟨rfl, clip_ok (by assumption)⟩, trivial⟩ (fun bl39 G39 hG39 hv39 => (W.app (e := eMsg) sl51 ty90 zr90 rfl by90 rfl rfl ((ho_7.mono hG39)) (hv39) (pmC (pmC pr9)) (by show (List.length _ + 1) * 72 ≤ _; omega) (fun v40 Ms41 ho42 => (W.perm (pmC (pmC pr9)).symm (g9 7 ?_)))))
     refine W.sub ((sr9.cons _).cons _) (g9 2 ?_)
     exact ⟨hG39, (k + 1, v40, Ms41), hs9, ⟨rfl, (by have h := ho42; rw [for_t om9 p34 h24_1]; exact h), om9⟩, om9⟩
    refine g9 6 ?_
    refine W.sub ((sr9.cons _).cons _) (g9 2 ?_)
    exact ⟨Le.rfl, (k + 1, v_7, M_7), hs9, ⟨rfl, (by have h := ho_7; rw [for_n om9 (fun hh => p34 hh.1)]; exact h), om9⟩, om9⟩
   refine g9 16 ?_
   refine W.sub ((sr9.cons _).cons _) (g9 2 ?_)
   exact ⟨Le.rfl, (k + 1, v_7, M_7), hs9, ⟨rfl, (by have h := ho_7; rw [for_n om9 (fun hh => absurd (h24_1.symm.trans hh.2) (by simp))]; exact h), om9⟩, om9⟩
  refine W.alloc zr90 (fun b43 => (W.nn (WD.a1 3 rfl (W.qcall (rrange_fc (h_P.mono lec) _ hi) rfl (W.nn (WD.a1 4 rfl (W.qcall (rclip_fc _ _ _ _ _ _ _ _ _ (hkf _ (List.getElem_mem (by omega : k < (frontN l).length)))) rfl (W.nn (d9 [5, 6, 7, 9, 10] ?_)))))))))
  refine g9 6 ?_
  refine W.sp 28 rfl (fun h24_1 => ?_) (fun h24_1 => ?_)
  ·refine g9 7 ?_
   refine W.qcall (rroute_fc (h_P.mono lec) _) rfl (g9 7 ?_)
   refine WC.cd (fun h34 p34 => ?_) (fun h34 p34 => ?_)
   ·refine g9 3 ?_
    refine W.lit (e := eMsg) (l := [(Msg.clip (frontN l)[k] (rangeN P i)).1]) (css := [[iV _, iV _, sV _, sV _, .bool _, sV _]]) sl51 ty90 zr90 rfl rfl rfl rfl rfl rfl ⟨⟨rfl, clip_ok (by assumption)⟩, trivial⟩ (fun bl44 G44 hG44 hv44 => (W.app (e := eMsg) sl51 ty90 zr90 rfl by90 rfl rfl ((ho_7.mono hG44)) (hv44) (pmC (pmC pr9)) (by show (List.length _ + 1) * 72 ≤ _; omega) (fun v45 Ms46 ho47 => (W.perm (pmC (pmC pr9)).symm (g9 7 ?_)))))
    refine W.sub ((sr9.cons _).cons _) (g9 2 ?_)
    exact ⟨hG44, (k + 1, v45, Ms46), hs9, ⟨rfl, (by have h := ho47; rw [for_t om9 p34 h24_1]; exact h), om9⟩, om9⟩
   refine g9 6 ?_
   refine W.sub ((sr9.cons _).cons _) (g9 2 ?_)
   exact ⟨Le.rfl, (k + 1, v_7, M_7), hs9, ⟨rfl, (by have h := ho_7; rw [for_n om9 (fun hh => p34 hh.1)]; exact h), om9⟩, om9⟩
  refine g9 16 ?_
  refine W.sub ((sr9.cons _).cons _) (g9 2 ?_)
  exact ⟨Le.rfl, (k + 1, v_7, M_7), hs9, ⟨rfl, (by have h := ho_7; rw [for_n om9 (fun hh => absurd (h24_1.symm.trans hh.2) (by simp))]; exact h), om9⟩, om9⟩
 refine g9 11 ?_
 refine WC.giveO ho_7 pr9 (fun G48 hG48 hv48 => (g9 2 ?_))
 refine ⟨rfl, _, rfl, ?_⟩
 · have h := hv48; rw [List.take_of_length_le om9] at h; exact h

theorem fvictim_fc {G : GH} {v_P : Value} {P : List Str} (h_P : SlR eStr G v_P P) {v_l : Value} {l : List Msg} (h_l : SlR eMsg G v_l l) (hs : ∀ m ∈ l, m.key.b.size ≤ 16 ∧ m.val.b.size ≤ 16) (hl9 : l.length ≤ 100000 ∧ P.length ≤ 100000) (hr : rising P = true) :
    Fc Tryz.prog 58 [v_P, v_l] G [] (fun v _ _ => v = .tuple #[iV ((victimN P l).1), .bool ((victimN P l).2)]) := by
 obtain ⟨sa_P, sc_P, rfl⟩ := h_P.form
 obtain ⟨sa_l, sc_l, rfl⟩ := h_l.form
 have hl := h_l.len47
 have hlP := h_P.len47
 have hfl := front_len l
 have hfs : ∀ m ∈ frontN l, m.key.b.size ≤ 16 ∧ m.val.b.size ≤ 16 := fun m h => hs m (front_mem h)
 refine Fc.go [.tmp 4, .tmp 5] Tryz.func58 Tryz.ntmps58 rfl (fun w0 => (g9 14 ?_))
 refine WC.cd (fun h14 p14 => ?_) (fun h14 p14 => ?_)
 ·refine g9 9 ?_
  show Value.tuple #[Value.int _ _, Value.bool _] = _
  rw [victim_n om9]
 refine g9 6 ?_
 refine W.ok (Ok.int (n := ((P.length + 1 : Nat) : Int)) (ok_add rfl rfl om9) om9) (W.mkSl (e := eInt) (a0 := (0 : Int)) (n := P.length + 1) sl50 ty3 zr3 rfl by3 (⟨rfl, by decide, by decide⟩) rfl rfl (by first | (show _ * 8 ≤ 140737488355328; omega) | (show _ * 8 ≤ 16777216; omega) | (show _ * 1 ≤ 16777216; omega)) (by first | (show _ * 8 ≤ 140737488355328; omega) | (show _ * 8 ≤ 16777216; omega) | (show _ * 1 ≤ 16777216; omega)) (fun v1 Ms2 ho3 => ?_))
 have q7 := ho3.form
 refine match q7 with | ⟨sa4, sc5, e_6⟩ => ?_
 subst e_6
 refine g9 7 ?_
 refine W.cS (front_fc h_l) rfl (fun sa_hv9 sc_hv9 G8 hG8 hv9 => (g9 5 ?_))
 refine WC.loop (X := (Nat) × Value × MH) (fun q => [(22, nt9 q.1), (0, lV sa_P P.length sc_P), (20, lV sa_hv9 ((frontN l)).length sc_hv9), (21, nt9 (((frontN l)).length)), (6, q.2.1)]) (fun q G Ml => Ml = (q.2.2 ++ []) ∧ OwnR eInt 3 G q.2.1 (wts P ((frontN l).take q.1)) q.2.2 ∧ q.1 ≤ (frontN l).length) (fun q => (frontN l).length - q.1) (0, lV sa4 ((List.replicate (P.length + 1) (0 : Int))).length sc5, Ms2) hs9 ?_ ?_
 ·exact ⟨rfl, (by exact OwnR.cast (ho3.mono hG8) (wts_nil P)), om9⟩
 rintro ⟨q, v_6, M_6⟩ gG15 G15 _ hG15 ⟨rfl, ho_6, hq⟩
 try dsimp only at ho_6 hq
 have hwl := wts_len P ((frontN l).take q)
 refine WC.fr (f := setL gG15 [(22, nt9 q), (0, lV sa_P P.length sc_P), (20, lV sa_hv9 ((frontN l)).length sc_hv9), (21, nt9 (((frontN l)).length)), (6, v_6)]) rfl (g9 6 ?_)
 refine WC.cd (fun h23 p23 => ?_) (fun h23 p23 => ?_)
 ·have hrl : (routeN P ((frontN l)[q]'om9).key) < (wts P ((frontN l).take q)).length := by rw [wts_len]; have : (routeN P ((frontN l)[q]'om9).key) ≤ P.length := List.length_filter_le _ _; omega
  have hg9 := wts_get hrl
  have hb9 := wOf_le P ((frontN l).take q) (routeN P ((frontN l)[q]'om9).key) (fun m h => hfs m (List.mem_of_mem_take h))
  have hb8 := wOf_pos P ((frontN l).take q) (routeN P ((frontN l)[q]'om9).key)
  have ht9 : ((frontN l).take q).length ≤ 100000 := by rw [List.length_take]; omega
  have hz9 := size_36 (hfs _ (List.getElem_mem (by omega : q < (frontN l).length)))
  have hwi : i64 ((wts P ((frontN l).take q))[(routeN P ((frontN l)[q]'om9).key)]'hrl + ((frontN l)[q]'om9).size) := ⟨om9, om9⟩
  have he9 : Msg.size ⟨((frontN l)[q]'om9).stamp, ((frontN l)[q]'om9).kind, ((frontN l)[q]'om9).key, ((frontN l)[q]'om9).hi, ((frontN l)[q]'om9).opn, ((frontN l)[q]'om9).val⟩ = ((frontN l)[q]'om9).size := rfl
  refine g9 6 ?_
  refine (hv9.mono hG15).a2 (i := q) om9 (fun he16 hm17 => (g9 2 ?_))
  refine W.alloc zr90 (fun b21 => (g9 3 ?_))
  refine WC.dw sn9.k9 (d9 [0, 1, 2, 3, 7] ?_)
  refine WD.a1 4 rfl (W.qcall (broute_fc (h_P.mono lec) _ hr) rfl (W.nn (ho_6.a2 (i := (routeN P ((frontN l)[q]'om9).key)) om9 (fun he22 hi23 => (WD.tk 5 rfl (ok_indexAddrO (i := (routeN P ((frontN l)[q]'om9).key)) sl50 ty3 ho_6 rfl rfl ⟨rfl, om9⟩) ?_)))))
  refine WD.any [6, 8] (by kernel_rfl) rfl ⟨WD.ap ?_, WD.ap ?_, trivial⟩
  ·refine W.ok (ok_loadO (vs := ic9) ty3 he22 (pmC pr9) rfl rfl rfl (by simp)) (W.nn (WD.a1 8 rfl (W.qcall (mmsize_fc _ _ _ _ _ _) rfl (W.nn (d9 [9] ?_)))))
   refine ho_6.a2 (i := (routeN P ((frontN l)[q]'om9).key)) om9 (fun he26 hi27 => (WD.tk 10 rfl (ok_indexAddrO (i := (routeN P ((frontN l)[q]'om9).key)) sl50 ty3 ho_6 rfl rfl ⟨rfl, om9⟩) (WD.a1 11 rfl (W.storeO (i := (routeN P ((frontN l)[q]'om9).key)) (o := 0) (vs := ic9) (a' := ((wts P ((frontN l).take q))[(routeN P ((frontN l)[q]'om9).key)]'hrl + ((frontN l)[q]'om9).size)) ty3 rfl rfl rfl rfl rfl (ho_6) (pmC pr9) om9 (by decide) (fun cs h => by rw [h.1]; exact ⟨rfl, hwi⟩) (fun Ms30 ho31 => (W.perm (pmC pr9).symm (W.nn (WD.done (by kernel_rfl) (blk_n (thn_n (g9 3 ?_)))))))))))
   refine W.sub (sr9.cons _) (g9 2 ?_)
   exact ⟨Le.rfl, (q + 1, v_6, Ms30), hs9, ⟨rfl, (by have h := ho31; rw [wts_set om9 hrl] at h; exact h), om9⟩, om9⟩
  refine W.qcall (mmsize_fc _ _ _ _ _ _) rfl (W.nn (WD.a1 6 rfl (W.ok (ok_loadO (vs := ic9) ty3 he22 (pmC pr9) rfl rfl rfl (by simp)) (W.nn (d9 [9] ?_)))))
  refine ho_6.a2 (i := (routeN P ((frontN l)[q]'om9).key)) om9 (fun he32 hi33 => (WD.tk 10 rfl (ok_indexAddrO (i := (routeN P ((frontN l)[q]'om9).key)) sl50 ty3 ho_6 rfl rfl ⟨rfl, om9⟩) (WD.a1 11 rfl (W.storeO (i := (routeN P ((frontN l)[q]'om9).key)) (o := 0) (vs := ic9) (a' := ((wts P ((frontN l).take q))[(routeN P ((frontN l)[q]'om9).key)]'hrl + ((frontN l)[q]'om9).size)) ty3 rfl rfl rfl rfl rfl (ho_6) (pmC pr9) om9 (by decide) (fun cs h => by rw [h.1]; exact ⟨rfl, hwi⟩) (fun Ms36 ho37 => (W.perm (pmC pr9).symm (W.nn (WD.done (by kernel_rfl) (blk_n (thn_n (g9 3 ?_)))))))))))
  refine W.sub (sr9.cons _) (g9 2 ?_)
  exact ⟨Le.rfl, (q + 1, v_6, Ms36), hs9, ⟨rfl, (by have h := ho37; rw [wts_set om9 hrl] at h; exact h), om9⟩, om9⟩
 refine g9 6 ?_
 have hw38 := ho_6
 rw [List.take_of_length_le (by omega : (frontN l).length ≤ q)] at hw38
 refine g9 13 ?_
 refine WC.loop (X := Nat) (fun k => [(9, nt9 ((bestTo (wOf P (frontN l)) k))), (40, nt9 k), (6, v_6), (38, v_6), (39, nt9 (((wts P (frontN l))).length))]) (fun k _ Ml => Ml = (M_6 ++ []) ∧ k ≤ P.length + 1) (fun k => P.length + 1 - k) 0 hs9 ?_ ?_
 ·exact ⟨rfl, om9⟩
 rintro k gG39 G39 _ hG39 ⟨rfl, hk⟩
 have hbl := bestTo_lt (wOf P (frontN l)) k
 have hwl9 := wts_len P (frontN l)
 refine g9 6 ?_
 refine WC.cd (fun h41 p41 => ?_) (fun h41 p41 => ?_)
 ·refine g9 7 ?_
  refine (hw38.mono hG39).a2 (i := k) om9 (fun he40 hi41 => (W.ok (ok_indexAddrO (i := k) sl50 ty3 (hw38.mono hG39) rfl rfl ⟨om9, om9⟩) (W.ok (ok_loadO (vs := ic9) ty3 he40 pr9 rfl rfl rfl (by simp)) (g9 9 ?_))))
  refine (hw38.mono hG39).a2 (i := (bestTo (wOf P (frontN l)) k)) om9 (fun he44 hi45 => (W.ok (ok_indexAddrO (i := (bestTo (wOf P (frontN l)) k)) sl50 ty3 (hw38.mono hG39) rfl rfl ⟨rfl, om9⟩) (W.ok (ok_loadO (vs := ic9) ty3 he44 pr9 rfl rfl rfl (by simp)) (g9 3 ?_))))
  refine WC.cd (fun h50 p50 => ?_) (fun h50 p50 => ?_)
  ·refine g9 11 ?_
   exact ⟨Le.rfl, k + 1, ⟨(iv (by rw [bestTo_t (by rw [wts_get, wts_get] at p50; omega)])), eqv, eqv, eqv, eqv, trivial⟩, ⟨rfl, om9⟩, om9⟩
  refine g9 8 ?_
  exact ⟨Le.rfl, k + 1, ⟨(iv (by rw [bestTo_f (by rw [wts_get, wts_get] at p50; omega)])), eqv, eqv, eqv, eqv, trivial⟩, ⟨rfl, om9⟩, om9⟩
 refine g9 14 ?_
 show Value.tuple #[Value.int _ _, Value.bool _] = _
 rw [victim_p om9, show k = P.length + 1 by omega]

end Go.Proofs.YtfmigmijckdldaaGreat
