/- A sound tree with a kid in two: its seats, that it is sound, and what it stands for. Plain Lean; nothing of the program is named here. No condition. -/
import Derived.Test.YtemoalimclnfkaaGreatQjNv
set_option linter.unusedVariables false
set_option linter.unusedSimpArgs false
set_option linter.unnecessarySimpa false

namespace Go.Fw
open Go Go.RowKit
namespace PartOf
variable {c : Cfg} {l : List Nd} {ss : List Seat} {P : Seat} {i : Nat} {a b : Nd} {k : Str} {h : Nat}
noncomputable def fP (l : List Nd) (P : Seat) (i : Nat) (a b : Nd) (k : Str) (x : Seat) : List Seat :=
 if x.n.slot = (kidSt l P i).n.slot then [nA l P i a b k, nB l P i a b k] else if x.n.slot = P.n.slot then [nP l P i k] else [x]
theorem f_k : fP l P i a b k (kidSt l P i) = [nA l P i a b k, nB l P i a b k] := if_pos rfl
theorem f_p (p : PartOf c l ss P i a b k h) : fP l P i a b k P = [nP l P i k] := by
 unfold fP; rw [if_neg p.ksl.symm, if_pos rfl]
theorem f_x {x : Seat} (h1 : x.n.slot ≠ P.n.slot) (h2 : x.n.slot ≠ (kidSt l P i).n.slot) : fP l P i a b k x = [x] := by
 unfold fP; rw [if_neg h2, if_neg h1]
theorem fixK (p : PartOf c l ss P i a b k h) : (kidsO (partL l P.n i a b k) (nA l P i a b k)).isSome = true ∧ (kidsO (partL l P.n i a b k) (nB l P i a b k)).isSome = true ∧ kidsD (partL l P.n i a b k) (nA l P i a b k) ++ kidsD (partL l P.n i a b k) (nB l P i a b k) = kidsD l (kidSt l P i) := by
 refine HSeat.kids p.t p.km.1 p.hs fun j hj => ?_
 by_cases h0 : (kidSt l P i).n.level = 0
 ·have := (p.t.leaf p.km.1 h0).1
  omega
 ·have e := p.t.at p.km.1 h0 hj
  have g := p.km.2
  rw [p.slot_at p.km.1 h0 hj]
  exact p.find_x e.1 (p.ne e.1 p.mem om9) (p.ne e.1 p.km.1 om9)
theorem e_lo (p : PartOf c l ss P i a b k h) {j : Nat} (hj : j < i) : findN (partL l P.n i a b k) ((nP l P i k).n.kids.getD j 0) = findN l (P.n.kids.getD j 0) := by
 have hi := p.hi
 have e := p.t.at p.mem p.h0 (j := j) om9
 have hkl := (kids_all (p.t.kids p.mem) p.h0)
 rw [p.kid_j, if_pos om9, p.slot_at p.mem p.h0 om9]
 refine p.find_x e.1 (p.ne e.1 p.mem om9) fun e2 => ?_
 have := p.t.kid_nd p.mem (i := j) (j := i) (by rw [hkl.1, kidsF_len]; omega) (by rw [hkl.1, kidsF_len]; omega) (by rw [(p.t.kidsD_at p.mem p.h0).2, (p.t.kidsD_at p.mem p.h0).2]; exact e2)
 omega
theorem e_hi (p : PartOf c l ss P i a b k h) {j : Nat} (hj : i < j) (hj2 : j < P.n.kids.length) : findN (partL l P.n i a b k) ((nP l P i k).n.kids.getD (j + 1) 0) = findN l (P.n.kids.getD j 0) := by
 have hi := p.hi
 have e := p.t.at p.mem p.h0 (j := j) om9
 have hkl := (kids_all (p.t.kids p.mem) p.h0)
 rw [p.kid_j, if_neg om9, if_neg om9, show j + 1 - 1 = j from rfl, p.slot_at p.mem p.h0 om9]
 refine p.find_x e.1 (p.ne e.1 p.mem om9) fun e2 => ?_
 have := p.t.kid_nd p.mem (i := j) (j := i) (by rw [hkl.1, kidsF_len]; omega) (by rw [hkl.1, kidsF_len]; omega) (by rw [(p.t.kidsD_at p.mem p.h0).2, (p.t.kidsD_at p.mem p.h0).2]; exact e2)
 omega
theorem k_lo (p : PartOf c l ss P i a b k h) {j : Nat} (hj : j < i) : kidSt (partL l P.n i a b k) (nP l P i k) j = kidSt l P j := by
 have hi := p.hi
 refine kidSt_ext (by rw [p.e_lo hj]) (fun q => ?_) fun s _ => rfl
 show _ = (kidSt l P j).s.has q
 rw [p.shas om9, p.khas om9]
 cases hq : q.lt k
 ·have := (p.route q).2 hq
  rw [decide_eq_false (show ¬ j = routeN (nP l P i k).n.pivots q by omega), decide_eq_false (show ¬ j = routeN P.n.pivots q by omega)]
 ·rw [((p.route q).1 hq).1]
theorem k_hi (p : PartOf c l ss P i a b k h) {j : Nat} (hj : i < j) (hj2 : j < P.n.kids.length) : kidSt (partL l P.n i a b k) (nP l P i k) (j + 1) = kidSt l P j := by
 refine kidSt_ext (by rw [p.e_hi hj hj2]) (fun q => ?_) fun s _ => rfl
 show _ = (kidSt l P j).s.has q
 rw [p.shas om9, p.khas om9]
 cases hq : q.lt k
 ·rw [((p.route q).2 hq).1]; simp
 ·have := (p.route q).1 hq
  rw [decide_eq_false (show ¬ j + 1 = routeN (nP l P i k).n.pivots q by omega), decide_eq_false (show ¬ j = routeN P.n.pivots q by omega)]
theorem fixP (p : PartOf c l ss P i a b k h) : (kidsO (partL l P.n i a b k) (nP l P i k)).isSome = true ∧ kidsD (partL l P.n i a b k) (nP l P i k) = (kidsD l P).flatMap (fP l P i a b k) := by
 obtain ⟨h1, h2, h3, h4⟩ := kids_all (p.t.kids p.mem) p.h0
 have hi := p.hi
 have hkl := p.klen
 have hkm := p.km.2
 obtain ⟨g1, g2⟩ := kids_mk (l := partL l P.n i a b k) (x := nP l P i k) h2 p.rt' fun j hj => by
  by_cases c1 : j < i
  ·rw [kidOk_ext (l' := l) (y := P) (j := j) (p.e_lo c1) rfl]; exact h4 j om9
  ·by_cases c2 : j = i
   ·subst c2
    unfold kidOk
    rw [p.kid_j, if_pos (Nat.le_refl _), p.slot_at p.mem p.h0 p.hi, p.find_k]
    simp only [Bool.true_and, decide_eq_true_eq]
    rw [p.hv.la, hkm]; rfl
   ·by_cases c3 : j = i + 1
    ·subst c3
     unfold kidOk
     rw [p.kid_j, if_neg om9, if_pos rfl, p.find_y]
     simp only [Bool.true_and, decide_eq_true_eq]
     rw [p.hv.lb, hkm]; rfl
    ·obtain ⟨q, rfl⟩ : ∃ q, j = q + 1 := ⟨j - 1, om9⟩
     rw [kidOk_ext (l' := l) (y := P) (j := q) (p.e_hi om9 om9) rfl]; exact h4 q om9
 refine ⟨g1, ?_⟩
 obtain ⟨r, hr⟩ : ∃ r, P.n.kids.length = i + (1 + r) := ⟨P.n.kids.length - (i + 1), om9⟩
 rw [g2, h1, hkl, hr, show i + (1 + r) + 1 = i + (2 + r) by omega]
 have hf : ∀ j, j < P.n.kids.length → j ≠ i → fP l P i a b k (kidSt l P j) = [kidSt l P j] := fun j hj hne => by
  have e := p.t.at p.mem p.h0 hj
  refine f_x (p.ne e.1 p.mem om9) fun e2 => ?_
  have := p.t.kid_nd p.mem (i := j) (j := i) (by rw [h1, kidsF_len]; omega) (by rw [h1, kidsF_len]; omega) (by rw [(p.t.kidsD_at p.mem p.h0).2, (p.t.kidsD_at p.mem p.h0).2]; exact e2)
  exact hne this
 unfold kidsF
 rw [show List.range (i + (2 + r)) = List.range i ++ (List.range (2 + r)).map (i + ·) from List.range_add, show List.range (i + (1 + r)) = List.range i ++ (List.range (1 + r)).map (i + ·) from List.range_add, List.map_append, List.map_append, List.flatMap_append, List.map_map, List.map_map]
 congr 1
 ·rw [flat_id fun y hy => ?_]
  ·exact List.map_congr_left fun j hj => p.k_lo (List.mem_range.1 hj)
  ·obtain ⟨j, hj, rfl⟩ := List.mem_map.1 hy
   have := List.mem_range.1 hj
   exact hf j om9 om9
 ·rw [show List.range (2 + r) = List.range 2 ++ (List.range r).map (2 + ·) from List.range_add, show List.range (1 + r) = List.range 1 ++ (List.range r).map (1 + ·) from List.range_add, List.map_append, List.map_append, List.flatMap_append, List.map_map, List.map_map]
  congr 1
  ·show [kidSt (partL l P.n i a b k) (nP l P i k) (i + 0), kidSt (partL l P.n i a b k) (nP l P i k) (i + 1)] = ([kidSt l P (i + 0)]).flatMap _
   rw [List.flatMap_cons, List.flatMap_nil, List.append_nil, Nat.add_zero, f_k]; rfl
  ·rw [flat_id fun y hy => ?_]
   ·refine List.map_congr_left fun j hj => ?_
    have := List.mem_range.1 hj
    have e := p.k_hi (j := i + (1 + j)) om9 om9
    rw [show i + (1 + j) + 1 = i + (2 + j) by omega] at e
    exact e
   ·obtain ⟨j, hj, rfl⟩ := List.mem_map.1 hy
    have := List.mem_range.1 hj
    exact hf (i + (1 + j)) om9 om9
theorem kid_in (p : PartOf c l ss P i a b k h) : kidSt l P i ∈ kidsD l P := by
 have h1 := (kids_all (p.t.kids p.mem) p.h0).1
 rw [h1]
 exact List.mem_map.2 ⟨i, List.mem_range.2 p.hi, rfl⟩
theorem fixX (p : PartOf c l ss P i a b k h) {x : Seat} (hx : x ∈ ss) (n1 : x.n.slot ≠ P.n.slot) : (kidsO (partL l P.n i a b k) x).isSome = true ∧ kidsD (partL l P.n i a b k) x = (kidsD l x).flatMap (fP l P i a b k) := by
 by_cases h0 : x.n.level = 0
 ·rw [kidsO_0 h0, kids_leaf h0, kids_leaf h0]; exact ⟨rfl, rfl⟩
 ·obtain ⟨h1, h2, h3, h4⟩ := kids_all (p.t.kids hx) h0
  have key : ∀ j, j < x.n.kids.length → fP l P i a b k (kidSt l x j) = [kidSt (partL l P.n i a b k) x j] ∧ kidOk (partL l P.n i a b k) x j = true := fun j hj => by
   have e := p.t.at hx h0 hj
   have hin : kidSt l x j ∈ kidsD l x := by rw [h1]; exact List.mem_map.2 ⟨j, List.mem_range.2 hj, rfl⟩
   have nk : (kidSt l x j).n.slot ≠ (kidSt l P i).n.slot := fun e2 => n1 (by rw [p.t.parent hx p.mem hin p.kid_in e2])
   by_cases c1 : (kidSt l x j).n.slot = P.n.slot
   ·have eP := p.t.uniq e.1 p.mem c1
    have ef : findN (partL l P.n i a b k) (x.n.kids.getD j 0) = (adoptNd P.n i k l.length, true) := by rw [p.slot_at hx h0 hj, c1, p.find_p]
    have ek : kidSt (partL l P.n i a b k) x j = ⟨adoptNd P.n i k l.length, (kidSt l x j).s, (kidSt l x j).ms⟩ := by
     show (⟨(findN _ _).1, _, _⟩ : Seat) = _
     rw [ef]; rfl
    refine ⟨?_, ?_⟩
    ·rw [ek, eP, p.f_p]; rfl
    ·unfold kidOk
     rw [ef]
     simp only [Bool.true_and, decide_eq_true_eq]
     have := e.2.2.2
     rw [eP] at this
     exact this
   ·have ef : findN (partL l P.n i a b k) (x.n.kids.getD j 0) = findN l (x.n.kids.getD j 0) := by rw [p.slot_at hx h0 hj, p.find_x e.1 c1 nk]
    refine ⟨?_, ?_⟩
    ·rw [f_x c1 nk, kidSt_ext (l := l) (l' := partL l P.n i a b k) (x := x) (y := x) (i := j) (j := j) (by rw [ef]) (fun _ => rfl) (fun _ _ => rfl)]
    ·rw [kidOk_ext (l' := l) (y := x) (j := j) ef rfl]; exact h4 j hj
  obtain ⟨g1, g2⟩ := kids_mk (l := partL l P.n i a b k) (x := x) h2 h3 fun j hj => (key j hj).2
  refine ⟨g1, ?_⟩
  rw [g2, h1]
  unfold kidsF
  rw [List.flatMap_map]
  have : ∀ (L : List Nat), (∀ j ∈ L, j < x.n.kids.length) → L.map (kidSt (partL l P.n i a b k) x) = L.flatMap fun j => fP l P i a b k (kidSt l x j) := by
   intro L
   induction L with
   | nil => intro _; rfl
   | cons j L ih =>
    intro hL
    rw [List.map_cons, List.flatMap_cons, (key j (hL j (by simp))).1, ih fun z hz => hL z (List.mem_cons_of_mem _ hz)]; rfl
  exact this _ fun j hj => List.mem_range.1 hj
theorem froot (p : PartOf c l ss P i a b k h) : fP l P i a b k (rootS l 0) = [rootS (partL l P.n i a b k) 0] := by
 have n2 : (rootS l 0).n.slot ≠ (kidSt l P i).n.slot := (p.t.root_kid p.mem p.kid_in).symm
 have e0 := p.t.root0
 by_cases c1 : (rootS l 0).n.slot = P.n.slot
 ·have eP := p.t.uniq p.t.root p.mem c1
  have e : rootS (partL l P.n i a b k) 0 = ⟨adoptNd P.n i k l.length, (rootS l 0).s, (rootS l 0).ms⟩ := by
   show (⟨(findN _ _).1, _, _⟩ : Seat) = _
   have := p.find_p
   rw [← c1, e0] at this
   rw [this]; rfl
  rw [e, eP, p.f_p]; rfl
 ·rw [f_x c1 n2]
  have := p.find_x p.t.root c1 n2
  rw [e0] at this
  show [(⟨(findN l 0).1, _, _⟩ : Seat)] = [⟨(findN _ 0).1, _, _⟩]
  rw [this]
theorem each (p : PartOf c l ss P i a b k h) {x : Seat} (hx : x ∈ ss) : (∀ z ∈ fP l P i a b k x, (kidsO (partL l P.n i a b k) z).isSome = true) ∧ (fP l P i a b k x).flatMap (kidsD (partL l P.n i a b k)) = (kidsD l x).flatMap (fP l P i a b k) := by
 by_cases c1 : x.n.slot = (kidSt l P i).n.slot
 ·rw [p.t.uniq hx p.km.1 c1, f_k]
  obtain ⟨g1, g2, g3⟩ := p.fixK
  refine ⟨fun z hz => ?_, ?_⟩
  ·simp only [List.mem_cons, List.not_mem_nil, or_false] at hz
   rcases hz with rfl | rfl
   ·exact g1
   ·exact g2
  ·rw [flat_id (L := kidsD l (kidSt l P i)) fun y hy => ?_]
   ·simpa using g3
   ·have e := p.t.kid_lvl p.km.1 hy
    have g := p.km.2
    exact f_x (p.ne e.1 p.mem om9) (p.ne e.1 p.km.1 om9)
 ·by_cases c2 : x.n.slot = P.n.slot
  ·rw [p.t.uniq hx p.mem c2, p.f_p]
   refine ⟨fun z hz => ?_, ?_⟩
   ·rw [List.mem_singleton] at hz; rw [hz]; exact p.fixP.1
   ·rw [← p.fixP.2]; simp
  ·rw [f_x c2 c1]
   refine ⟨fun z hz => ?_, ?_⟩
   ·rw [List.mem_singleton] at hz; rw [hz]; exact (p.fixX hx c2).1
   ·rw [← (p.fixX hx c2).2]; simp
theorem fix (p : PartOf c l ss P i a b k h) : ss.flatMap (fP l P i a b k) = rootS (partL l P.n i a b k) 0 :: (ss.flatMap (fP l P i a b k)).flatMap (kidsD (partL l P.n i a b k)) := by
 rw [flat_fix fun x hx => (p.each hx).2]
 conv => lhs; rw [p.t.fix]
 rw [List.flatMap_cons, p.froot]; rfl
theorem keys_out (p : PartOf c l ss P i a b k h) : ∀ (L : List Seat), (∀ x ∈ L, x ∈ ss ∧ x.n.slot ≠ (kidSt l P i).n.slot) → (L.flatMap (fP l P i a b k)).map Seat.key = L.map Seat.key
 | [], _ => rfl
 | x :: L, hL => by
  rw [List.flatMap_cons, List.map_append, p.keys_out L fun z hz => hL z (List.mem_cons_of_mem _ hz), List.map_cons]
  have g := hL x (by simp)
  by_cases c2 : x.n.slot = P.n.slot
  ·rw [p.t.uniq g.1 p.mem c2, p.f_p]; rfl
  ·rw [f_x c2 g.2]; rfl
theorem keys (p : PartOf c l ss P i a b k h) : ∃ S1 S2 : List Key9, ss.map Seat.key = S1 ++ ((kidSt l P i).n.slot, (kidSt l P i).n.level, (kidSt l P i).n.right) :: S2 ∧
  (ss.flatMap (fP l P i a b k)).map Seat.key = S1 ++ ((kidSt l P i).n.slot, (kidSt l P i).n.level, (l.length : Int)) :: ((l.length : Int), (kidSt l P i).n.level, (kidSt l P i).n.right) :: S2 := by
 obtain ⟨A, B, e⟩ := List.append_of_mem p.km.1
 have hnd := p.t.nodup_s
 have hA : ∀ x ∈ A, x ∈ ss ∧ x.n.slot ≠ (kidSt l P i).n.slot := fun x hx => by
  refine ⟨by rw [e]; exact List.mem_append_left _ hx, fun e2 => ?_⟩
  rw [e, List.map_append, List.nodup_append] at hnd
  exact hnd.2.2 _ (List.mem_map.2 ⟨x, hx, rfl⟩) _ (List.mem_map.2 ⟨kidSt l P i, by simp, rfl⟩) e2
 have hB : ∀ x ∈ B, x ∈ ss ∧ x.n.slot ≠ (kidSt l P i).n.slot := fun x hx => by
  refine ⟨by rw [e]; exact List.mem_append_right _ (List.mem_cons_of_mem _ hx), fun e2 => ?_⟩
  rw [e, List.map_append, List.nodup_append, List.map_cons, List.nodup_cons] at hnd
  exact hnd.2.1.1 (List.mem_map.2 ⟨x, hx, e2⟩)
 refine ⟨A.map Seat.key, B.map Seat.key, ?_, ?_⟩
 ·conv => lhs; rw [e]
  rw [List.map_append, List.map_cons]; rfl
 ·conv => lhs; rw [e]
  rw [List.flatMap_append, List.flatMap_cons, List.map_append, List.map_append, p.keys_out A hA, p.keys_out B hB, f_k]
  congr 1
  show [Seat.key (nA l P i a b k), Seat.key (nB l P i a b k)] ++ _ = _
  have k1 : Seat.key (nA l P i a b k) = ((kidSt l P i).n.slot, (kidSt l P i).n.level, (l.length : Int)) := by
   unfold Seat.key; rw [p.an, p.sa, p.hv.la, p.hv.aright, p.sb]
  have k2 : Seat.key (nB l P i a b k) = ((l.length : Int), (kidSt l P i).n.level, (kidSt l P i).n.right) := by
   unfold Seat.key; rw [p.bn, p.sb, p.hv.lb, p.hv.bend.2.2]
  rw [k1, k2]; rfl
theorem perm (p : PartOf c l ss P i a b k h) : ((ss.flatMap (fP l P i a b k)).map fun x : Seat => x.n.slot).Perm ((partL l P.n i a b k).map fun n : Nd => n.slot) := by
 obtain ⟨S1, S2, e1, e2⟩ := p.keys
 have h1 : (ss.flatMap (fP l P i a b k)).map (fun x : Seat => x.n.slot) = ((ss.flatMap (fP l P i a b k)).map Seat.key).map (·.1) := by rw [List.map_map]; rfl
 have h2 : ss.map (fun x : Seat => x.n.slot) = (ss.map Seat.key).map (·.1) := by rw [List.map_map]; rfl
 have h3 : ((ss.flatMap (fP l P i a b k)).map fun x : Seat => x.n.slot).Perm ((ss.map fun x : Seat => x.n.slot) ++ [(l.length : Int)]) := by
  rw [h1, h2, e1, e2, List.map_append, List.map_append, List.append_assoc]
  refine List.Perm.append_left _ ?_
  simp only [List.map_cons, List.cons_append]
  exact List.Perm.cons _ (List.perm_append_singleton _ _).symm
 refine h3.trans ?_
 have h4 : ((partL l P.n i a b k).map fun n : Nd => n.slot) = (l.map fun n : Nd => n.slot) ++ [(l.length : Int)] := by
  rw [slots_range p.slots, slots_range p.t.slot, p.len, List.range_succ, List.map_append]; rfl
 rw [h4]
 exact List.Perm.append_right _ p.t.perm_s
end PartOf
namespace PartOf
variable {c : Cfg} {l : List Nd} {ss : List Seat} {P : Seat} {i : Nat} {a b : Nd} {k : Str} {h : Nat}
theorem msA (p : PartOf c l ss P i a b k h) : ∀ m ∈ (nA l P i a b k).n.msgs, ∃ m' ∈ (kidSt l P i).n.msgs, (m'.clip ⟨Str.nil, k, false⟩).2 = true ∧ (m'.clip ⟨Str.nil, k, false⟩).1 = m := fun m hm => by
 rw [p.an] at hm
 by_cases h0 : (kidSt l P i).n.level = 0
 ·rw [(p.m0 h0).1, p.t.nomsgs p.km.1 h0] at hm; cases hm
 ·rw [(p.m1 h0).1] at hm; exact clips_mem hm
theorem msB (p : PartOf c l ss P i a b k h) : ∀ m ∈ (nB l P i a b k).n.msgs, ∃ m' ∈ (kidSt l P i).n.msgs, (m'.clip ⟨k, Str.nil, true⟩).2 = true ∧ (m'.clip ⟨k, Str.nil, true⟩).1 = m := fun m hm => by
 rw [p.bn] at hm
 by_cases h0 : (kidSt l P i).n.level = 0
 ·rw [(p.m0 h0).2, p.t.nomsgs p.km.1 h0] at hm; cases hm
 ·rw [(p.m1 h0).2] at hm; exact clips_mem hm
theorem kin9 (p : PartOf c l ss P i a b k h) : (kidSt l P i).s.has k = true ∧ k ≠ (kidSt l P i).s.lo := p.t.k_in p.km.1 p.hv p.nk
theorem phas (p : PartOf c l ss P i a b k h) : P.s.has k = true ∧ k ≠ P.s.lo := by
 obtain ⟨k1, k2⟩ := p.kin9
 have h1 : P.s.has k = true := kid_sub (l := l) (j := i) k k1
 refine ⟨h1, fun e => ?_⟩
 have he : (kidSt l P i).s.empty = false := by
  cases e9 : (kidSt l P i).s.empty
  ·rfl
  ·have := empty_iff.1 e9 k; rw [k1] at this; cases this
 have h2 := kid_sub (l := l) (j := i) _ (lo_in he)
 have h3 := (span_has.1 h2).1
 have h4 := (span_has.1 k1).1
 rw [← e] at h3
 exact k2 (Str.lt_total h4 h3)
theorem pR (p : PartOf c l ss P i a b k h) : (adoptNd P.n i k l.length).R c.fan c.leaf c.bud := by
 obtain ⟨q1, q4, q5, q6⟩ := (p.t.seat p.mem).1
 rw [if_neg p.h0] at q6
 obtain ⟨⟨r1, r2, r3⟩, r4, r5, r6, r7, r8, r9⟩ := q6
 obtain ⟨⟨p1, p2⟩, _⟩ := (p.t.seat p.mem).2.1
 refine ⟨q1, q4, q5, ?_⟩
 rw [if_neg (show ¬ (adoptNd P.n i k l.length).level = 0 from p.h0)]
 have hkl := p.klen
 have hl : (adoptNd P.n i k l.length).kids.length = P.n.kids.length + 1 := hkl
 have hf := p.full
 refine ⟨⟨r1, om9, om9⟩, p.rt', r5, r6, fun j hj => ?_, fun j hj => ?_, r9⟩
 ·have hm : (adoptNd P.n i k l.length).kids[j] ∈ (P.n.kids.take (i + 1) ++ [(l.length : Int)]) ++ P.n.kids.drop (i + 1) := List.getElem_mem hj
  have all : ∀ z ∈ P.n.kids, 0 ≤ z := fun z hz => by obtain ⟨q, hq, rfl⟩ := List.getElem_of_mem hz; exact r7 q hq
  rcases List.mem_append.1 hm with hm | hm
  ·rcases List.mem_append.1 hm with hm | hm
   ·exact all _ (List.mem_of_mem_take hm)
   ·rw [List.mem_singleton] at hm; rw [hm]; omega
  ·exact all _ (List.mem_of_mem_drop hm)
 ·have hm : (adoptNd P.n i k l.length).pivots[j] ∈ (P.n.pivots.take i ++ [k]) ++ P.n.pivots.drop i := List.getElem_mem hj
  have all : ∀ z ∈ P.n.pivots, P.n.parts z := fun z hz => by obtain ⟨q, hq, rfl⟩ := List.getElem_of_mem hz; exact r8 q hq
  rcases List.mem_append.1 hm with hm | hm
  ·rcases List.mem_append.1 hm with hm | hm
   ·exact all _ (List.mem_of_mem_take hm)
   ·rw [List.mem_singleton] at hm; rw [hm]
    refine ⟨p.hv.size.1, p.hv.size.2, ?_⟩
    show (P.n.top || k.lt P.n.high) = true
    rw [p1, p2, Bool.or_eq_true]
    exact (span_has.1 p.phas.1).2
  ·exact all _ (List.mem_of_mem_drop hm)
theorem pP (p : PartOf c l ss P i a b k h) : PlacedP (nP l P i k) := by
 obtain ⟨p0, p3, p4, p5⟩ := (p.t.seat p.mem).2.1
 refine ⟨p0, p3, fun j hj => ?_, p5⟩
 have hm : (nP l P i k).n.pivots[j] ∈ (P.n.pivots.take i ++ [k]) ++ P.n.pivots.drop i := List.getElem_mem hj
 have all : ∀ z ∈ P.n.pivots, P.s.has z = true ∧ z ≠ P.s.lo := fun z hz => by obtain ⟨q, hq, rfl⟩ := List.getElem_of_mem hz; exact p4 q hq
 rcases List.mem_append.1 hm with hm | hm
 ·rcases List.mem_append.1 hm with hm | hm
  ·exact all _ (List.mem_of_mem_take hm)
  ·rw [List.mem_singleton] at hm; rw [hm]; exact p.phas
 ·exact all _ (List.mem_of_mem_drop hm)
theorem seats9 (p : PartOf c l ss P i a b k h) : ∀ z ∈ ss.flatMap (fP l P i a b k), SeatP c z := fun z hz => by
 obtain ⟨x, hx, hz⟩ := List.mem_flatMap.1 hz
 have sK := p.t.seat p.km.1
 have room := p.room
 by_cases c1 : x.n.slot = (kidSt l P i).n.slot
 ·rw [p.t.uniq hx p.km.1 c1, f_k] at hz
  simp only [List.mem_cons, List.not_mem_nil, or_false] at hz
  have st : ∀ {s : Span} {ms : List Msg}, ms = clips s (kidSt l P i).ms → ∀ j (hj : j < ms.length), (kidSt l P i).n.seen < ms[j].stamp := fun e j hj => by
   subst e
   obtain ⟨m0, hm0, e⟩ := clips_stamp (List.getElem_mem hj)
   rw [e]
   obtain ⟨q, hq, rfl⟩ := List.getElem_of_mem hm0
   exact sK.2.2.2 q hq
  rcases hz with rfl | rfl
  ·refine ⟨by rw [p.an]; exact p.aR, HSeat.placedA p.t p.km.1 p.hs (meet_norm _ _) p.nk p.msA, by rw [p.an, p.sa]; exact sK.2.2.1, fun j hj => ?_⟩
   rw [p.an, p.ea]; exact st p.ams j hj
  ·refine ⟨by rw [p.bn]; exact p.bR, HSeat.placedB p.t p.km.1 p.hs (meet_norm _ _) p.nk p.msB, by rw [p.bn, p.sb]; exact room, fun j hj => ?_⟩
   rw [p.bn, p.eb]; exact st p.bms j hj
 ·by_cases c2 : x.n.slot = P.n.slot
  ·rw [p.t.uniq hx p.mem c2, p.f_p, List.mem_singleton] at hz
   rw [hz]
   have sP := p.t.seat p.mem
   exact ⟨p.pR, p.pP, sP.2.2.1, sP.2.2.2⟩
  ·rw [f_x c2 c1, List.mem_singleton] at hz
   rw [hz]; exact p.t.seat hx
theorem tree (p : PartOf c l ss P i a b k h) : Tree c (partL l P.n i a b k) (ss.flatMap (fP l P i a b k)) := by
 have hfew := p.few
 have hroom := p.room
 refine tree_mk p.t.cfg (by rw [p.len]; omega) (sml_R p.t.cfg (by rw [p.len]; omega) fun n hn => ?_) p.slots p.fix (fun z hz => ?_) p.perm ?_ (by rw [p.len]; omega) p.seats9
 ·have old : ∀ n ∈ l, n.R c.fan c.leaf c.bud := fun n hn => by
   have := (p.t.perm.mem_iff).2 hn
   obtain ⟨x, hx, rfl⟩ := List.mem_map.1 this
   exact (p.t.seat hx).1
  unfold partL at hn
  rcases List.mem_append.1 hn with hn | hn
  ·rcases List.mem_or_eq_of_mem_set hn with hn | rfl
   ·rcases List.mem_or_eq_of_mem_set hn with hn | rfl
    ·exact old n hn
    ·exact p.aR
   ·exact p.pR
  ·rw [List.mem_singleton] at hn; rw [hn]; exact p.bR
 ·obtain ⟨x, hx, hz⟩ := List.mem_flatMap.1 hz
  exact (p.each hx).1 z hz
 ·obtain ⟨S1, S2, e1, e2⟩ := p.keys
  rw [e2]
  have := (linked_iff ss).1 p.t.q.1.2.1
  rw [e1] at this
  exact lk_part S1 S2 this
theorem map (p : PartOf c l ss P i a b k h) : mapN (partL l P.n i a b k) = mapN l := by
 rw [mapN_t p.tree.sts, mapN_t p.t.sts]
 refine leaves_flat fun x hx => ?_
 by_cases c1 : x.n.slot = (kidSt l P i).n.slot
 ·rw [p.t.uniq hx p.km.1 c1, f_k]
  exact HSeat.view p.t p.km.1 p.hs (fun _ => by rw [p.ams, clips_clips fun _ h => h]) fun _ => by rw [p.bms, clips_clips fun _ h => h]
 ·by_cases c2 : x.n.slot = P.n.slot
  ·rw [p.t.uniq hx p.mem c2, p.f_p]
   have e1 : ¬ P.n.level = 0 := p.h0
   have e2 : ¬ (nP l P i k).n.level = 0 := p.h0
   simp [leavesS, List.filter_cons, e1, e2]
  ·rw [f_x c2 c1]
end PartOf
end Go.Fw
