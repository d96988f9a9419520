/- Whole trees as objects: what is read, put and taken away. -/
import Derived.Test.YtemoalimclnfkaaGreatQjSl
set_option maxRecDepth 100000
set_option maxHeartbeats 1600000
set_option linter.unusedVariables false
set_option linter.unusedSimpArgs false
set_option linter.unnecessarySimpa false
namespace Go.Proofs.YtemoalimclnfkaaGreat
open Go Go.Fw Go.RowKit
attribute [local irreducible] Ok W WC
theorem bpm_view {G : GH} {b_t : Nat} {fan leaf : Int} {t : BTr} {Ms : MH} (h : BpM (fun ba => ArR ePt 64 4 3 114 ba) 66 70 9 b_t fan leaf G t Ms) : ∃ ba root cells, root = t.y.slot ∧ ∀ G1, Le G G1 → (∀ p ∈ Ms, G1 p.1 = some p.2) → TrG b_t ba root fan leaf cells t.u G1 ∧ NsG cells (nds t.k t.y) G1 := by
  obtain ⟨ba, root, cells, Ma, Mn, hP, hr, ha, hn⟩ := h
  refine ⟨ba, root, cells, hr, fun G1 h1 h2 => ?_⟩
  have h3 := fun (p : Nat × Obj) hp => h2 p (hP.mem_iff.2 hp)
  exact ⟨ArR.lent ha h1 (fun p hp => h3 p (List.mem_cons_of_mem _ (List.mem_append_left _ hp))) (h3 _ (List.mem_cons_self ..)), hn.lent h1 fun p hp => h3 p (List.mem_cons_of_mem _ (List.mem_append_right _ hp))⟩
theorem bpM.mono {G : GH} {b_t : Nat} {fan leaf : Int} {t : BTr} {Ms : MH} {G' : GH} (hl : Le G G') (h : BpM (fun ba => ArR ePt 64 4 3 114 ba) 66 70 9 b_t fan leaf G t Ms) : BpM (fun ba => ArR ePt 64 4 3 114 ba) 66 70 9 b_t fan leaf G' t Ms := by
  obtain ⟨ba, root, cells, Ma, Mn, hP, hr, ha, hn⟩ := h
  exact ⟨ba, root, cells, Ma, Mn, hP, hr, ha.mono hl, hn.mono hl⟩
theorem bpm_all {G : GH} {b_t : Nat} {fan leaf : Int} {t : BTr} {Ms : MH} (h : BpM (fun ba => ArR ePt 64 4 3 114 ba) 66 70 9 b_t fan leaf G t Ms) : ∃ ba root cells, root = t.y.slot ∧ (b_t, Obj.cells (List.toArray [pt9 ba, iV root, iV fan, iV leaf]) 66 (0, 0)) ∈ Ms ∧ (∀ G1, Le G G1 → (∀ p ∈ Ms, G1 p.1 = some p.2) → TrG b_t ba root fan leaf cells t.u G1 ∧ NsG cells (nds t.k t.y) G1) ∧
    ∀ n ∈ nds t.k t.y, ∃ b vp vk vr Mp, Blk cells n.slot b ∧ (b, Obj.cells (List.toArray [iV n.lvl, vp, vk, vr]) 70 (0, 0)) ∈ Ms ∧ (∀ p ∈ Mp, p ∈ Ms) ∧ OwnR eStr 9 G vp n.P Mp ∧ SlR eInt G vk n.K ∧ SlR ePair G vr n.R := by
  obtain ⟨ba, root, cells, Ma, Mn, hP, hr, ha, hn⟩ := h
  refine ⟨ba, root, cells, hr, hP.mem_iff.2 (List.mem_cons_self ..), fun G1 h1 h2 => ?_, fun n hn9 => ?_⟩
  · have h3 := fun (p : Nat × Obj) hp => h2 p (hP.mem_iff.2 hp)
    exact ⟨ArR.lent ha h1 (fun p hp => h3 p (List.mem_cons_of_mem _ (List.mem_append_left _ hp))) (h3 _ (List.mem_cons_self ..)), hn.lent h1 fun p hp => h3 p (List.mem_cons_of_mem _ (List.mem_append_right _ hp))⟩
  obtain ⟨b, vp, vk, vr, Mp, h1, h2, h3, h4⟩ := hn.mem n hn9
  have h5 := fun (p : Nat × Obj) (hp : p ∈ Mn) => hP.mem_iff.2 (List.mem_cons_of_mem _ (List.mem_append_right _ hp) : p ∈ _)
  exact ⟨b, vp, vk, vr, Mp, h1, h5 _ h2, fun p hp => h5 p (h3.subset hp), h4⟩
theorem lendclone {G : GH} {v : Value} {l : List Str} {Ms Mp : MH} (hp : ∀ p ∈ Mp, p ∈ Ms) (ho : OwnR eStr 9 G v l Mp) : Fc Tryz.prog 45 [v] G (Ms ++ []) (fun v' G' M' => ∃ Mq, M' = Ms ++ Mq ∧ ∀ G9, OwnR eStr 9 G9 v' l Mq) :=
  Fc.lend (Q := fun v' Mq => ∀ G9, OwnR eStr 9 G9 v' l Mq) cl45 fun G1 h1 h2 => (clonesO_fc (ho.lent h1 fun p hp9 => h2 p (hp p hp9))).mono fun v' G2 M2 hl2 h3 G9 => flat_str.own h3
theorem oput_fc {G : GH} {b_t : Nat} {fan leaf : Int} {t : BTr} {Ms : MH} (h : BpM (fun ba => ArR ePt 64 4 3 114 ba) 66 70 9 b_t fan leaf G t Ms) (hT : TOk fan leaf t) (k : Str) (ek : Int) (ev : Str) (hk12 : ek = 1 ∨ ek = 2) (hk16 : k.b.size ≤ 16) (hv16 : ev.b.size ≤ 16) (hg9 : Grows ⟨ek, ev⟩) :
    Fc Tryz.prog 39 [pt9 b_t, sV k.b, .agg (List.toArray [iV ek, sV ev.b])] G Ms (fun v G' M' => v = iV (putT fan leaf k ⟨ek, ev⟩ t).1 ∧ BpM (fun ba => ArR ePt 64 4 3 114 ba) 66 70 9 b_t fan leaf G' (putT fan leaf k ⟨ek, ev⟩ t).2 M') := by
  obtain ⟨ba, root, cells, Ma, Mn, hP, hr, ha, hn⟩ := h
  exact Fc.perm hP.symm (bput_fc (st := (cells, t.u)) ha k ek ev hn hT hr hk12 hk16 hv16 hg9)
theorem odel_fc : ∀ {G : GH} {b_t : Nat} {fan leaf : Int} {t : BTr} {Ms : MH} (h : BpM (fun ba => ArR ePt 64 4 3 114 ba) 66 70 9 b_t fan leaf G t Ms) (hT : TOk fan leaf t) (k : Str) (hk16 : k.b.size ≤ 16),
    Fc Tryz.prog 37 [pt9 b_t, sV k.b] G Ms (fun v G' M' => v = .tuple #[] ∧ BpM (fun ba => ArR ePt 64 4 3 114 ba) 66 70 9 b_t fan leaf G' (delT fan leaf k t) M')
  | G, b_t, fan, leaf, ⟨0, y, u⟩, Ms, h, hT, k, hk16 => by
    obtain ⟨ba, root, cells, Ma, Mn, hP, hr, ha, hn⟩ := h
    exact Fc.perm hP.symm (bdel0_fc (st := (cells, u)) ha k hn hT hr hk16)
  | G, b_t, fan, leaf, ⟨kk + 1, y, u⟩, Ms, h, hT, k, hk16 => by
    obtain ⟨ba, root, cells, Ma, Mn, hP, hr, ha, hn⟩ := h
    exact Fc.perm hP.symm (bdel1_fc (st := (cells, u)) ha k hn hT hr hk16)
theorem oscan_fc {G : GH} {b_t : Nat} {fan leaf : Int} {t : BTr} {Ms : MH} (h : BpM (fun ba => ArR ePt 64 4 3 114 ba) 66 70 9 b_t fan leaf G t Ms) (hT : TOk fan leaf t) (slo shi : Str) (so : Bool) (lim : Int) (hlim : lim ≤ 1000000) (i : Int) (hi : i = t.y.slot) :
    Fc Tryz.prog 35 [pt9 b_t, iV i, .agg (List.toArray [sV slo.b, sV shi.b, .bool so]), iV lim, lV none 0 0] G (Ms ++ []) (fun v G' M' => ∃ Mq, M' = Ms ++ Mq ∧ ∀ G9, OwnR ePair 84 G9 v (scanN t.rows ⟨slo, shi, so⟩ lim) Mq) := by
  obtain ⟨ba, root, cells, hr, hv⟩ := bpm_view h
  obtain ⟨c1, c2, c3, c4⟩ := hT.cfg
  refine Fc.lend (Q := fun v Mq => ∀ G9, OwnR ePair 84 G9 v (scanN t.rows ⟨slo, shi, so⟩ lim) Mq) cl35 fun G1 h1 h2 => ?_
  obtain ⟨g1, g2⟩ := hv G1 h1 h2
  refine (bscan_all t.k g1 i slo shi so lim OwnR.nil t.y _ _ _ allS_norm hT.ok g2 hT.us hi ⟨om9, om9, by unfold mxB; split <;> omega⟩ hlim).mono fun v G2 M2 hl2 h3 G9 => ?_
  rw [scB_map] at h3
  exact flat_pair.own h3
theorem opath_fc {G : GH} {b_t : Nat} {fan leaf : Int} {t : BTr} {Ms : MH} (h : BpM (fun ba => ArR ePt 64 4 3 114 ba) 66 70 9 b_t fan leaf G t Ms) (hT : TOk fan leaf t) (k : Str) :
    Fc Tryz.prog 33 [pt9 b_t, sV k.b] G (Ms ++ []) (fun v G' M' => ∃ Mq, M' = Ms ++ Mq ∧ ∃ L : List (Option Nat), (∀ G9, OwnR ePt 64 G9 v L Mq) ∧ ∃ h : L.length = t.k + 1, ∃ b l vp vk vr, (b, Obj.cells (List.toArray [iV l, vp, vk, vr]) 70 (0, 0)) ∈ Ms ∧ SlR ePair G vr (leafB k t.k t.y) ∧ L[t.k]'om9 = some b) := by
  have h0 := h
  obtain ⟨ba, root, cells, Ma, Mn, hP, hr, ha, hn⟩ := h
  obtain ⟨b, l, vp, vk, vr, m1, m2, m3, m4⟩ := hn.leaf (key := k) allS_norm hT.ok
  refine Fc.lend (Q := fun v Mq => ∃ L : List (Option Nat), (∀ G9, OwnR ePt 64 G9 v L Mq) ∧ ∃ h : L.length = t.k + 1, ∃ b l vp vk vr, (b, Obj.cells (List.toArray [iV l, vp, vk, vr]) 70 (0, 0)) ∈ Ms ∧ SlR ePair G vr (leafB k t.k t.y) ∧ L[t.k]'om9 = some b) cl33 fun G1 h1 h2 => ?_
  have h3 := fun (p : Nat × Obj) hp => h2 p (hP.mem_iff.2 hp)
  have g1 := ArR.lent ha h1 (fun p hp => h3 p (List.mem_cons_of_mem _ (List.mem_append_left _ hp))) (h3 _ (List.mem_cons_self ..))
  have g2 := hn.lent h1 fun p hp => h3 p (List.mem_cons_of_mem _ (List.mem_append_right _ hp))
  refine (bpath_fc g1 k t.k t.y _ _ _ allS_norm hT.ok g2 hT.us hr (Nat.le_of_lt hT.high)).mono fun v G2 M2 hl2 h4 => ?_
  exact ⟨_, fun G9 => flat_pt.own h4, by rw [List.length_map, pathB_len], b, l, vp, vk, vr, hP.mem_iff.2 (List.mem_cons_of_mem _ (List.mem_append_right _ m1)), m2, m4⟩
theorem valued_fc {G : GH} (pk : Int) (pkey : Str) (phi : Str) (po : Bool) (pv : Str) (pl : Int) :
    Fc Tryz.prog 62 [.agg #[iV pk, sV pkey.b, sV phi.b, .bool po, sV pv.b, iV pl]] G [] (fun v _ _ => v = .bool (decide (pk = 1 ∨ pk = 2))) := by
 refine Fc.go [.tmp 2] Tryz.func62 Tryz.ntmps62 rfl (fun w0 => (g9 2 ?_))
 refine W.box (L := [iV _, sV _, sV _, .bool _, sV _, iV _]) rfl rfl (fun b3 => (g9 9 ?_))
 refine W.sd 6 (fun h5 p5 => ?_) (fun h5 p5 => ?_)
 ·refine g9 9 ?_
  refine congrArg Value.bool ?_
  simp_all
 refine g9 12 ?_
 refine congrArg Value.bool ?_
 simp_all

theorem ranged_fc {G : GH} (pk : Int) (pkey : Str) (phi : Str) (po : Bool) (pv : Str) (pl : Int) :
    Fc Tryz.prog 63 [.agg #[iV pk, sV pkey.b, sV phi.b, .bool po, sV pv.b, iV pl]] G [] (fun v _ _ => v = .bool (decide (pk = 4 ∨ pk = 6))) := by
 refine Fc.go [.tmp 2] Tryz.func63 Tryz.ntmps63 rfl (fun w0 => (g9 2 ?_))
 refine W.box (L := [iV _, sV _, sV _, .bool _, sV _, iV _]) rfl rfl (fun b4 => (g9 9 ?_))
 refine W.sd 6 (fun h5 p5 => ?_) (fun h5 p5 => ?_)
 ·refine g9 9 ?_
  refine congrArg Value.bool ?_
  simp_all
 refine g9 12 ?_
 refine congrArg Value.bool ?_
 simp_all

theorem writes_fc {G : GH} (pk : Int) (pkey : Str) (phi : Str) (po : Bool) (pv : Str) (pl : Int) :
    Fc Tryz.prog 73 [.agg #[iV pk, sV pkey.b, sV phi.b, .bool po, sV pv.b, iV pl]] G [] (fun v _ _ => v = .bool (decide (1 ≤ pk ∧ pk ≤ 4))) := by
 refine Fc.go [.tmp 2] Tryz.func73 Tryz.ntmps73 rfl (fun w0 => (g9 2 ?_))
 refine W.box (L := [iV _, sV _, sV _, .bool _, sV _, iV _]) rfl rfl (fun b5 => (g9 9 ?_))
 refine W.sd 6 (fun h5 p5 => ?_) (fun h5 p5 => ?_)
 ·refine g9 12 ?_
  refine congrArg Value.bool ?_
  first | (simp_all; done) | (simp_all; omega)
 refine g9 9 ?_
 refine congrArg Value.bool ?_
 first | (simp_all; done) | (simp_all; omega)

theorem opspan_fc {G : GH} (pk : Int) (pkey : Str) (phi : Str) (po : Bool) (pv : Str) (pl : Int) (hk : pkey.b.size < 140737488355328) :
    Fc Tryz.prog 36 [.agg #[iV pk, sV pkey.b, sV phi.b, .bool po, sV pv.b, iV pl]] G [] (fun v _ _ => v = .agg (List.toArray ((Opr.span (⟨pk, pkey, phi, po, pv, pl⟩ : Opr)).cells))) := by
 refine Fc.go [.cell 2 74] Tryz.func36 Tryz.ntmps36 rfl (fun w0 => (g9 2 ?_))
 refine W.box (L := [iV _, sV _, sV _, .bool _, sV _, iV _]) rfl rfl (fun b6 => (W.alloc zr74 (fun b7 => (g9 6 ?_))))
 refine W.qcall (ranged_fc _ _ _ _ _ _) rfl (g9 2 ?_)
 refine WC.cond rfl (fun h4 => ?_) (fun h4 => ?_)
 ·refine g9 8 ?_
  refine W.ok (ok_build (L := [sV _, sV _, .bool _]) pl74 zr74 rfl rfl rfl) (g9 6 ?_)
  refine congrArg (fun l => Value.agg (List.toArray l)) ?_
  rw [Opr.span, if_pos (odt h4)]; rfl
 refine g9 6 ?_
 refine W.qcall (point_fc _ (by first | assumption | omega | (dsimp only; omega))) rfl (g9 5 ?_)
 refine congrArg (fun l => Value.agg (List.toArray l)) ?_
 rw [Opr.span, if_neg (odf h4)]; try rfl

theorem opright_fc {G : GH} (pk : Int) (pkey : Str) (phi : Str) (po : Bool) (pv : Str) (pl : Int) :
    Fc Tryz.prog 32 [.agg #[iV pk, sV pkey.b, sV phi.b, .bool po, sV pv.b, iV pl]] G [] (fun v _ _ => v = iV (if Opr.R (⟨pk, pkey, phi, po, pv, pl⟩ : Opr) then 0 else 3)) := by
 have h1 := pkey.le
 have h2 := phi.le
 have h3 := pv.le
 have hn : ∀ s : Str, s.b = ⟨#[]⟩ ↔ s = Str.nil := fun s => ⟨fun h => Str.ext' h, fun h => by rw [h]; rfl⟩
 refine Fc.go [.tmp 2] Tryz.func32 Tryz.ntmps32 rfl (fun w0 => (g9 2 ?_))
 refine W.box (L := [iV _, sV _, sV _, .bool _, sV _, iV _]) rfl rfl (fun b1 => (g9 3 ?_))
 refine WC.join (X := Bool) (fun ok => [(3, .bool ok), (1, pt9 b1)]) (fun ok _ Ml => Ml = [(b1, ce9 33 [iV pk, sV pkey.b, sV phi.b, .bool po, sV pv.b, iV pl])] ∧ ok = decide (1 ≤ pk ∧ pk ≤ 6 ∧ pkey.b.size ≤ 16 ∧ phi.b.size ≤ 16 ∧ pv.b.size ≤ 16)) ?_ ?_
 ·refine g9 5 ?_
  refine W.sd 7 (fun h6 p6 => ?_) (fun h6 p6 => ?_)
  ·refine g9 8 ?_
   refine W.sd 12 (fun h10 p10 => ?_) (fun h10 p10 => ?_)
   ·refine g9 5 ?_
    refine W.qcall (kright_fc _) rfl (g9 2 ?_)
    refine W.sp 17 rfl (fun h15 => ?_) (fun h15 => ?_)
    ·have k15 := odt h15
     refine g9 5 ?_
     refine W.qcall (kright_fc _) rfl (g9 2 ?_)
     refine W.sp 22 rfl (fun h20 => ?_) (fun h20 => ?_)
     ·have k20 := odt h20
      refine g9 5 ?_
      refine W.qcall (vright_fc _) rfl (g9 4 ?_)
      exact ⟨Le.rfl, _, hs9, ⟨rfl, (by rw [Bool.eq_iff_iff, decide_eq_true_iff]; first | (simp_all; done) | (simp_all; omega) | grind)⟩⟩
     refine g9 7 ?_
     exact ⟨Le.rfl, _, hs9, ⟨rfl, (by rw [Bool.eq_iff_iff, decide_eq_true_iff]; first | (simp_all; done) | (simp_all; omega) | grind)⟩⟩
    refine g9 12 ?_
    exact ⟨Le.rfl, _, hs9, ⟨rfl, (by rw [Bool.eq_iff_iff, decide_eq_true_iff]; first | (simp_all; done) | (simp_all; omega) | grind)⟩⟩
   refine g9 17 ?_
   exact ⟨Le.rfl, _, hs9, ⟨rfl, (by rw [Bool.eq_iff_iff, decide_eq_true_iff]; first | (simp_all; done) | (simp_all; omega) | grind)⟩⟩
  refine g9 22 ?_
  exact ⟨Le.rfl, _, hs9, ⟨rfl, (by rw [Bool.eq_iff_iff, decide_eq_true_iff]; first | (simp_all; done) | (simp_all; omega) | grind)⟩⟩
 rintro ok gG2 G2 _ hG2 ⟨rfl, hok⟩
 refine WC.join (X := Bool) (fun ok => [(3, .bool ok), (1, pt9 b1)]) (fun ok _ Ml => Ml = [(b1, ce9 33 [iV pk, sV pkey.b, sV phi.b, .bool po, sV pv.b, iV pl])] ∧ ok = decide (1 ≤ pk ∧ pk ≤ 6 ∧ pkey.b.size ≤ 16 ∧ phi.b.size ≤ 16 ∧ pv.b.size ≤ 16 ∧ (2 < pk → pv = Str.nil) ∧ (po = false ∨ phi = Str.nil))) ?_ ?_
 ·refine g9 3 ?_
  refine W.sp 28 rfl (fun hokb => ?_) (fun hokb => ?_)
  ·have hP := odt (hok.symm.trans hokb)
   have hks : pkey.b.size < 140737488355328 := by omega
   refine g9 3 ?_
   refine W.qcall (valued_fc _ _ _ _ _ _) rfl (g9 2 ?_)
   refine W.sp 31 rfl (fun h30 => ?_) (fun h30 => ?_)
   ·refine g9 15 ?_
    refine W.sp 41 rfl (fun h40 => ?_) (fun h40 => ?_)
    ·refine g9 9 ?_
     exact ⟨Le.rfl, _, hs9, ⟨rfl, (by rw [Bool.eq_iff_iff, decide_eq_true_iff]; first | (simp_all; done) | (simp_all; omega) | grind)⟩⟩
    refine g9 12 ?_
    exact ⟨Le.rfl, _, hs9, ⟨rfl, (by rw [Bool.eq_iff_iff, decide_eq_true_iff]; first | (simp_all; done) | (simp_all; omega) | grind)⟩⟩
   refine g9 10 ?_
   refine W.sd 37 (fun h34 p34 => ?_) (fun h34 p34 => ?_)
   ·refine g9 8 ?_
    refine W.sp 41 rfl (fun h40 => ?_) (fun h40 => ?_)
    ·refine g9 9 ?_
     exact ⟨Le.rfl, _, hs9, ⟨rfl, (by rw [Bool.eq_iff_iff, decide_eq_true_iff]; first | (simp_all; done) | (simp_all; omega) | grind)⟩⟩
    refine g9 12 ?_
    exact ⟨Le.rfl, _, hs9, ⟨rfl, (by rw [Bool.eq_iff_iff, decide_eq_true_iff]; first | (simp_all; done) | (simp_all; omega) | grind)⟩⟩
   refine g9 12 ?_
   exact ⟨Le.rfl, _, hs9, ⟨rfl, (by rw [Bool.eq_iff_iff, decide_eq_true_iff]; first | (simp_all; done) | (simp_all; omega) | grind)⟩⟩
  refine g9 21 ?_
  exact ⟨Le.rfl, _, hs9, ⟨rfl, (by rw [Bool.eq_iff_iff, decide_eq_true_iff]; first | (simp_all; done) | (simp_all; omega) | grind)⟩⟩
 rintro ok gG3 G3 _ hG3 ⟨rfl, hok⟩
 refine WC.join (X := Bool) (fun ok => [(3, .bool ok), (1, pt9 b1)]) (fun ok _ Ml => Ml = [(b1, ce9 33 [iV pk, sV pkey.b, sV phi.b, .bool po, sV pv.b, iV pl])] ∧ ok = decide (1 ≤ pk ∧ pk ≤ 6 ∧ pkey.b.size ≤ 16 ∧ phi.b.size ≤ 16 ∧ pv.b.size ≤ 16 ∧ (2 < pk → pv = Str.nil) ∧ (po = false ∨ phi = Str.nil) ∧ if pk = 4 ∨ pk = 6 then (Opr.span (⟨pk, pkey, phi, po, pv, pl⟩ : Opr)).empty = false else phi = Str.nil ∧ po = false)) ?_ ?_
 ·refine g9 3 ?_
  refine W.qcall (ranged_fc _ _ _ _ _ _) rfl (g9 2 ?_)
  refine WC.cond rfl (fun h48 => ?_) (fun h48 => ?_)
  ·refine g9 3 ?_
   refine W.sp 50 rfl (fun hokb => ?_) (fun hokb => ?_)
   ·have hP := odt (hok.symm.trans hokb)
    have hks : pkey.b.size < 140737488355328 := by omega
    refine g9 3 ?_
    refine W.qcall (opspan_fc _ _ _ _ _ _ (by first | assumption | omega | (dsimp only; omega))) rfl (g9 1 ?_)
    refine W.qcall (spanempty_fc _ _ _) rfl (g9 6 ?_)
    exact ⟨Le.rfl, _, hs9, ⟨rfl, (by rw [Bool.eq_iff_iff, decide_eq_true_iff]; show (!(Opr.span (⟨pk, pkey, phi, po, pv, pl⟩ : Opr)).empty) = true ↔ _; rw [if_pos (odt h48)]; first | (simp_all; done) | (simp_all; omega) | grind)⟩⟩
   refine g9 8 ?_
   exact ⟨Le.rfl, _, hs9, ⟨rfl, (by refine (decide_eq_false fun h => odf (hok.symm.trans hokb) ?_).symm; obtain ⟨a, b, c, d, e, f, g, _⟩ := h; exact ⟨a, b, c, d, e, f, g⟩)⟩⟩
  refine g9 3 ?_
  refine W.sp 57 rfl (fun hokb => ?_) (fun hokb => ?_)
  ·have hP := odt (hok.symm.trans hokb)
   have hks : pkey.b.size < 140737488355328 := by omega
   refine g9 8 ?_
   refine W.sd 62 (fun h60 p60 => ?_) (fun h60 p60 => ?_)
   ·refine g9 10 ?_
    exact ⟨Le.rfl, _, hs9, ⟨rfl, (by rw [Bool.eq_iff_iff, decide_eq_true_iff]; rw [if_neg (odf h48)]; first | (simp_all; done) | (simp_all; omega) | grind)⟩⟩
   refine g9 7 ?_
   exact ⟨Le.rfl, _, hs9, ⟨rfl, (by rw [Bool.eq_iff_iff, decide_eq_true_iff]; rw [if_neg (odf h48)]; first | (simp_all; done) | (simp_all; omega) | grind)⟩⟩
  refine g9 12 ?_
  exact ⟨Le.rfl, _, hs9, ⟨rfl, (by rw [Bool.eq_iff_iff, decide_eq_true_iff]; rw [if_neg (odf h48)]; first | (simp_all; done) | (simp_all; omega) | grind)⟩⟩
 rintro ok gG4 G4 _ hG4 ⟨rfl, hok⟩
 refine WC.join (X := Bool) (fun ok => [(3, .bool ok)]) (fun ok _ Ml => Ml = [(b1, ce9 33 [iV pk, sV pkey.b, sV phi.b, .bool po, sV pv.b, iV pl])] ∧ ok = decide (Opr.R (⟨pk, pkey, phi, po, pv, pl⟩ : Opr))) ?_ ?_
 ·refine g9 7 ?_
  refine WC.cd (fun h69 p69 => ?_) (fun h69 p69 => ?_)
  ·refine g9 3 ?_
   refine W.sp 71 rfl (fun hokb => ?_) (fun hokb => ?_)
   ·have hP := odt (hok.symm.trans hokb)
    have hks : pkey.b.size < 140737488355328 := by omega
    refine g9 8 ?_
    refine W.sd 76 (fun h74 p74 => ?_) (fun h74 p74 => ?_)
    ·refine g9 10 ?_
     exact ⟨Le.rfl, _, hs9, ⟨rfl, (by rw [Bool.eq_iff_iff, decide_eq_true_iff]; simp only [Opr.R]; first | (simp_all; done) | (simp_all; omega) | grind)⟩⟩
    refine g9 7 ?_
    exact ⟨Le.rfl, _, hs9, ⟨rfl, (by rw [Bool.eq_iff_iff, decide_eq_true_iff]; simp only [Opr.R]; first | (simp_all; done) | (simp_all; omega) | grind)⟩⟩
   refine g9 12 ?_
   exact ⟨Le.rfl, _, hs9, ⟨rfl, (by rw [Bool.eq_iff_iff, decide_eq_true_iff]; simp only [Opr.R]; first | (simp_all; done) | (simp_all; omega) | grind)⟩⟩
  refine g9 3 ?_
  refine W.sp 82 rfl (fun hokb => ?_) (fun hokb => ?_)
  ·have hP := odt (hok.symm.trans hokb)
   have hks : pkey.b.size < 140737488355328 := by omega
   refine g9 10 ?_
   exact ⟨Le.rfl, _, hs9, ⟨rfl, (by rw [Bool.eq_iff_iff, decide_eq_true_iff]; simp only [Opr.R]; first | (simp_all; done) | (simp_all; omega) | grind)⟩⟩
  refine g9 7 ?_
  exact ⟨Le.rfl, _, hs9, ⟨rfl, (by rw [Bool.eq_iff_iff, decide_eq_true_iff]; simp only [Opr.R]; first | (simp_all; done) | (simp_all; omega) | grind)⟩⟩
 rintro ok gG5 G5 _ hG5 ⟨rfl, hok⟩
 refine g9 7 ?_
 refine WC.cond rfl (fun h88 => ?_) (fun h88 => ?_)
 ·refine g9 8 ?_
  refine congrArg (Value.int .i64) ?_
  subst hok
  rw [if_neg (by simpa using h88)]
 refine g9 9 ?_
 refine congrArg (Value.int .i64) ?_
 subst hok
 rw [if_pos (by simpa using h88)]

theorem r7long_fc {G : GH} (pk : Int) (pkey : Str) (phi : Str) (po : Bool) (pv : Str) (pl : Int) (n : Int) :
    Fc Tryz.prog 25 [.agg #[iV pk, sV pkey.b, sV phi.b, .bool po, sV pv.b, iV pl], iV n] G [] (fun v _ _ => v = .bool (decide ((pkey.b.size : Int) ≤ n ∧ (phi.b.size : Int) ≤ n ∧ (pv.b.size : Int) ≤ n))) := by
 have h1 := pkey.le
 have h2 := phi.le
 have h3 := pv.le
 refine Fc.go [.tmp 4] Tryz.func25 Tryz.ntmps25 rfl (fun w0 => (g9 2 ?_))
 refine W.box (L := [iV _, sV _, sV _, .bool _, sV _, iV _]) rfl rfl (fun b6 => (g9 11 ?_))
 refine W.sd 10 (fun h9 p9 => ?_) (fun h9 p9 => ?_)
 ·refine g9 12 ?_
  refine W.sd 17 (fun h15 p15 => ?_) (fun h15 p15 => ?_)
  ·refine g9 16 ?_
   refine congrArg Value.bool ?_
   first | (simp_all; done) | (simp_all; omega) | (simp_all; intros; omega)
  refine g9 11 ?_
  refine congrArg Value.bool ?_
  first | (simp_all; done) | (simp_all; omega) | (simp_all; intros; omega)
 refine g9 18 ?_
 refine congrArg Value.bool ?_
 first | (simp_all; done) | (simp_all; omega) | (simp_all; intros; omega)

theorem opmsg_fc {G : GH} (pk : Int) (pkey : Str) (phi : Str) (po : Bool) (pv : Str) (pl : Int) (s : Int) (hR : Opr.R (⟨pk, pkey, phi, po, pv, pl⟩ : Opr)) (hk4 : pk ≤ 4) (hs : 1 ≤ s) :
    Fc Tryz.prog 38 [.agg #[iV pk, sV pkey.b, sV phi.b, .bool po, sV pv.b, iV pl], iV s] G [] (fun v _ _ => v = .tuple #[.agg (List.toArray ((Opr.msg (⟨pk, pkey, phi, po, pv, pl⟩ : Opr) s).cells)), .bool (true)]) := by
 have hk1 := hR.1.1
 dsimp only at hk1
 refine Fc.go [.cell 4 78, .tmp 5] Tryz.func38 Tryz.ntmps38 rfl (fun w0 => (g9 2 ?_))
 refine W.box (L := [iV _, sV _, sV _, .bool _, sV _, iV _]) rfl rfl (fun b1 => (W.alloc zr78 (fun b2 => (g9 7 ?_))))
 refine W.qcall (opright_fc _ _ _ _ _ _) rfl (g9 2 ?_)
 refine W.sm 9 (fun h8 p8 => ?_) (fun h8 p8 => ?_)
 ·simp [hR] at h8
 refine g9 3 ?_
 refine W.qcall (writes_fc _ _ _ _ _ _) rfl (g9 4 ?_)
 refine W.sp 14 rfl (fun h12 => ?_) (fun h12 => ?_)
 ·simp only [Bool.not_eq_true', decide_eq_false_iff_not] at h12
  exfalso; omega
 refine g9 7 ?_
 refine WC.cd (fun h16 p16 => ?_) (fun h16 p16 => ?_)
 ·exfalso; omega
 refine g9 15 ?_
 refine W.ok (ok_build (L := [iV _, iV _, sV _, sV _, .bool _, sV _]) pl78 zr78 rfl rfl rfl) (g9 6 ?_)
 rfl

theorem bpdo_fc {G : GH} {b_t : Nat} {fan leaf : Int} {t : BTr} {Ms_t : MH} (h_t : BpM (fun ba => ArR ePt 64 4 3 114 ba) 66 70 9 b_t fan leaf G t Ms_t) (pk : Int) (pkey : Str) (phi : Str) (po : Bool) (pv : Str) (pl : Int)  (hT : TOk fan leaf t) :
    Fc Tryz.prog 11 [pt9 b_t, .agg #[iV pk, sV pkey.b, sV phi.b, .bool po, sV pv.b, iV pl]] G Ms_t (fun v G' M' => (∃ cs, v = .agg (List.toArray cs) ∧ AnsC G' cs (doT fan leaf (⟨pk, pkey, phi, po, pv, pl⟩ : Opr) t).1) ∧ BpM (fun ba => ArR ePt 64 4 3 114 ba) 66 70 9 b_t fan leaf G' (doT fan leaf (⟨pk, pkey, phi, po, pv, pl⟩ : Opr) t).2 M') := by
 obtain ⟨ba_t, root_t, cells_t, hr_t, hm_t, hv_t, hn_t⟩ := bpm_all h_t
 have hrw9 := hT.few
 have hru9 : hasN t.u t.y.slot = true := by have h9 := hT.us _ nds_head; rw [ndB_slot] at h9; exact h9
 have hkh9 := hT.high
 refine Fc.go [.cell 4 35] Tryz.func11 Tryz.ntmps11 rfl (fun w0 => (WC.perm (M' := (Ms_t ++ [])) (by simp) (g9 2 ?_)))
 refine W.box (L := [iV _, sV _, sV _, .bool _, sV _, iV _]) rfl rfl (fun b1 => (W.alloc zr35 (fun b2 => (g9 6 ?_))))
 refine W.ok (ok_eqlPN pp27 rfl rfl) (g9 9 ?_)
 refine W.qcall (opright_fc _ _ _ _ _ _) rfl (g9 9 ?_)
 refine WC.cn (fun h17 p17 => ?_) (fun h17 p17 => ?_)
 ·try dsimp only at p17
  have hR : ¬ Opr.R (⟨pk, pkey, phi, po, pv, pl⟩ : Opr) := fun hq => by rw [if_pos hq] at p17; exact p17 rfl
  refine g9 3 ?_
  refine W.ok (ok_build (L := [iV _, .bool _, sV _, lV _ _ _]) pl35 zr35 rfl rfl rfl) (g9 5 ?_)
  refine ⟨.inr rfl, [_], ⟨⟨_, _, _, _, _, rfl, nthM_mem (i := 0) rfl, ty35, (by simp), rfl, rfl⟩, trivial⟩, Ms_t, ((List.sublist_append_left _ _).cons _).cons _, ?_⟩
  have hE := doT_0 (fan := fan) (leaf := leaf) (t := t) hR
  have hE1 := congrArg Prod.fst hE
  have hE2 := congrArg Prod.snd hE
  have h3e : (if Opr.R (⟨pk, pkey, phi, po, pv, pl⟩ : Opr) then (0 : Int) else 3) = 3 := if_neg hR
  rw [← h3e] at hE1
  exact ⟨⟨_, rfl, AnsC.to ⟨_, _, rfl, SlR.nil, (by rw [h3e]; exact (⟨by decide, by decide⟩ : i64 3))⟩ hE1⟩, BpM.to hE2 h_t⟩
 try dsimp only at p17
 have hR : Opr.R (⟨pk, pkey, phi, po, pv, pl⟩ : Opr) := by
   by_cases hq : Opr.R (⟨pk, pkey, phi, po, pv, pl⟩ : Opr)
   · exact hq
   rw [if_neg hq] at p17; omega
 have hks9 := hR.1.2.2.1
 have hk6 := hR.1.2.1
 have hk1 := hR.1.1
 dsimp only at hks9 hk6 hk1
 have hkb9 : pkey.b.size < 140737488355328 := by omega
 refine g9 16 ?_
 refine WC.cd (fun h37 p37 => ?_) (fun h37 p37 => ?_)
 ·try dsimp only at p37
  refine g9 5 ?_
  refine W.call (Mp := Ms_t ++ []) (Mr := ((b2, ce9 35 [iV 0, .bool false, sV ⟨#[]⟩, lV none 0 0]) :: ((b1, ce9 33 [iV pk, sV pkey.b, sV phi.b, .bool po, sV pv.b, iV pl]) :: []))) (opath_fc h_t hT pkey) rfl (of_mq (show mq ((Ms_t ++ []) ++ ((b2, ce9 35 [iV 0, .bool false, sV ⟨#[]⟩, lV none 0 0]) :: ((b1, ce9 33 [iV pk, sV pkey.b, sV phi.b, .bool po, sV pv.b, iV pl]) :: []))) = mq ((b2, ce9 35 [iV 0, .bool false, sV ⟨#[]⟩, lV none 0 0]) :: ((b1, ce9 33 [iV pk, sV pkey.b, sV phi.b, .bool po, sV pv.b, iV pl]) :: (Ms_t ++ []))) by first | (simp only [mq_app, mq_cons, mq_zero]; done) | (simp only [mq_app, mq_cons, mq_zero]; ac_rfl))) ?_
  intro v6 G3 Ms5 hG3 q4
  refine match q4 with | ⟨Mq_l7, e_8, L_l7, hL_l7, hlen9, b_l, lv_l, vp_l, vk_l, vr_l, hm_l, hr_l, hLk9⟩ => ?_
  subst e_8
  refine W.perm (M' := ((b2, ce9 35 [iV 0, .bool false, sV ⟨#[]⟩, lV none 0 0]) :: ((b1, ce9 33 [iV pk, sV pkey.b, sV phi.b, .bool po, sV pv.b, iV pl]) :: (Mq_l7 ++ (Ms_t ++ []))))) (of_mq (show mq ((b2, ce9 35 [iV 0, .bool false, sV ⟨#[]⟩, lV none 0 0]) :: ((b1, ce9 33 [iV pk, sV pkey.b, sV phi.b, .bool po, sV pv.b, iV pl]) :: (Mq_l7 ++ (Ms_t ++ [])))) = mq ((Ms_t ++ Mq_l7) ++ ((b2, ce9 35 [iV 0, .bool false, sV ⟨#[]⟩, lV none 0 0]) :: ((b1, ce9 33 [iV pk, sV pkey.b, sV phi.b, .bool po, sV pv.b, iV pl]) :: []))) by first | (simp only [mq_app, mq_cons, mq_zero]; done) | (simp only [mq_app, mq_cons, mq_zero]; ac_rfl))) ?_
  have hq_l7 := hL_l7 G3
  have q10 := hr_l.form
  refine match q10 with | ⟨sa_l, sc_l, e_9⟩ => ?_
  subst e_9
  have hPl9 := leafB_ok (fan := fan) (leaf := leaf) (key := pkey) allS_norm (allS_has pkey) hT.ok
  have hPr9 := hPl9.1.srt
  have q14 := hq_l7.form
  refine match q14 with | ⟨sa11, sc12, e_13⟩ => ?_
  subst e_13
  refine g9 3 ?_
  refine WC.dw (sr9.k9.cons _) (d9 [0, 1, 2, 3] ?_)
  refine hq_l7.a1 (i := t.k) om9 (fun he15 => (WD.tk 4 rfl (ok_indexAddrO (i := t.k) sl80 ty64 hq_l7 rfl rfl ⟨om9, om9⟩) (WD.tk 5 rfl (Ok.to (v := Value.pointer ((L_l7[t.k]'om9).map fun b => ⟨b, 0, none⟩)) (ok_loadO (b := false) (j := 1) (vs := [.pointer _]) ty64 he15 (pmC pr9) rfl rfl rfl (by simp)) (show Value.pointer ((L_l7[t.k]'om9).map fun b => ⟨b, 0, none⟩) = pt9 b_l by rw [hLk9]; rfl)) (d9 [6, 7] ?_))))
  refine WD.tk 8 rfl (ok_loadM (vs := lc9) ((((List.sublist_append_left _ _).trans (List.sublist_append_right _ _)).cons _).subset hm_l) ty31 rfl rfl rfl (by simp)) (d9 [9, 10] ?_)
  refine WD.a1 11 rfl (W.qcall (mget_fc (hr_l.mono hG3) _ (by assumption)) rfl (W.nn (d9 [12, 13, 14, 15, 16, 17, 18] ?_)))
  refine WD.done (by kernel_rfl) (blk_n (thn_n (g9 7 ?_)))
  refine ⟨.inr rfl, [_], ⟨⟨_, _, _, _, _, rfl, nthM_mem (i := 0) rfl, ty35, (by simp), rfl, rfl⟩, trivial⟩, Ms_t, (((List.sublist_append_left _ _).trans (List.sublist_append_right _ _)).cons _).cons _, ?_⟩
  have hE := doT_5 (fan := fan) (leaf := leaf) (t := t) hR p37
  have hE1 := congrArg Prod.fst hE
  have hE2 := congrArg Prod.snd hE
  rw [show t.rows = BT.rows t.k t.y from rfl, ← hPl9.2.2] at hE1
  exact ⟨⟨_, rfl, AnsC.to ⟨_, _, rfl, SlR.nil, ⟨by dsimp only; omega, by dsimp only; omega⟩⟩ hE1⟩, BpM.to hE2 (bpM.mono hG3 h_t)⟩
 try dsimp only at p37
 refine g9 6 ?_
 refine WC.cd (fun h60 p60 => ?_) (fun h60 p60 => ?_)
 ·try dsimp only at p60
  have hl64 := (hR.2.2.2.1 p60)
  dsimp only at hl64
  refine WC.dw (sr9.k9.cons _) (d9 [0, 1, 2, 3] ?_)
  refine WD.tk 4 rfl (ok_loadM (vs := ic9) (((List.sublist_append_left _ _).cons _).subset hm_t) ty3 rfl rfl rfl (by simp)) (d9 [5, 7, 8] ?_)
  refine WD.a1 6 rfl (W.qcall (opspan_fc _ _ _ _ _ _ (by first | assumption | omega | (dsimp only; omega))) rfl (W.nn (WD.a1 9 rfl (W.call (Mp := Ms_t ++ []) (Mr := ((b2, ce9 35 [iV 0, .bool false, sV ⟨#[]⟩, lV none 0 0]) :: ((b1, ce9 33 [iV pk, sV pkey.b, sV phi.b, .bool po, sV pv.b, iV pl]) :: []))) (oscan_fc h_t hT (Opr.span (⟨pk, pkey, phi, po, pv, pl⟩ : Opr)).lo (Opr.span (⟨pk, pkey, phi, po, pv, pl⟩ : Opr)).hi (Opr.span (⟨pk, pkey, phi, po, pv, pl⟩ : Opr)).opn pl om9 root_t hr_t) rfl (of_mq (show mq ((Ms_t ++ []) ++ ((b2, ce9 35 [iV 0, .bool false, sV ⟨#[]⟩, lV none 0 0]) :: ((b1, ce9 33 [iV pk, sV pkey.b, sV phi.b, .bool po, sV pv.b, iV pl]) :: []))) = mq ((b2, ce9 35 [iV 0, .bool false, sV ⟨#[]⟩, lV none 0 0]) :: ((b1, ce9 33 [iV pk, sV pkey.b, sV phi.b, .bool po, sV pv.b, iV pl]) :: (Ms_t ++ []))) by first | (simp only [mq_app, mq_cons, mq_zero]; done) | (simp only [mq_app, mq_cons, mq_zero]; ac_rfl))) ?_))))
  intro v21 G18 Ms20 hG18 q19
  refine match q19 with | ⟨Mq_l22, e_23, hL_l22⟩ => ?_
  subst e_23
  refine W.perm (M' := ((b2, ce9 35 [iV 0, .bool false, sV ⟨#[]⟩, lV none 0 0]) :: ((b1, ce9 33 [iV pk, sV pkey.b, sV phi.b, .bool po, sV pv.b, iV pl]) :: (Mq_l22 ++ (Ms_t ++ []))))) (of_mq (show mq ((b2, ce9 35 [iV 0, .bool false, sV ⟨#[]⟩, lV none 0 0]) :: ((b1, ce9 33 [iV pk, sV pkey.b, sV phi.b, .bool po, sV pv.b, iV pl]) :: (Mq_l22 ++ (Ms_t ++ [])))) = mq ((Ms_t ++ Mq_l22) ++ ((b2, ce9 35 [iV 0, .bool false, sV ⟨#[]⟩, lV none 0 0]) :: ((b1, ce9 33 [iV pk, sV pkey.b, sV phi.b, .bool po, sV pv.b, iV pl]) :: []))) by first | (simp only [mq_app, mq_cons, mq_zero]; done) | (simp only [mq_app, mq_cons, mq_zero]; ac_rfl))) ?_
  have hq_l22 : OwnR ePair 84 G18 v21 (scanN t.rows (Opr.span (⟨pk, pkey, phi, po, pv, pl⟩ : Opr)) pl) Mq_l22 := hL_l22 G18
  have hln_l22 := hq_l22.len47
  have q27 := hq_l22.form
  refine match q27 with | ⟨sa24, sc25, e_26⟩ => ?_
  subst e_26
  refine W.nil (WD.n9 hG18 (((sr9.trans (List.sublist_append_right _ _)).k9).cons _) (d9 [10] ?_))
  refine WD.a1 11 rfl (W.giveO hq_l22 (pmC (pmC pr9)) (fun G28 hG28 hv28 => (g9 1 ?_)))
  refine W.nn (WD.done (by kernel_rfl) (blk_n (thn_n (g9 7 ?_))))
  refine ⟨.inr rfl, [_], ⟨⟨_, _, _, _, _, rfl, nthM_mem (i := 0) rfl, ty35, (by simp), rfl, rfl⟩, trivial⟩, Ms_t, ((List.sublist_append_left _ _).cons _).cons _, ?_⟩
  have hE := doT_6 (fan := fan) (leaf := leaf) (t := t) hR p60
  have hE1 := congrArg Prod.fst hE
  have hE2 := congrArg Prod.snd hE
  exact ⟨⟨_, rfl, AnsC.to ⟨_, _, rfl, hv28, ⟨by dsimp only; omega, by dsimp only; omega⟩⟩ hE1⟩, BpM.to hE2 (bpM.mono lec h_t)⟩
 try dsimp only at p60
 refine g9 6 ?_
 refine WC.cd (fun h73 p73 => ?_) (fun h73 p73 => ?_)
 ·try dsimp only at p73
  have hk9 : ∀ p ∈ (scanN t.rows (Opr.span (⟨pk, pkey, phi, po, pv, pl⟩ : Opr)) 262144), p.key.b.size ≤ 16 := fun p hp => ((pairsR_iff.1 hT.rows).1 p (List.mem_filter.1 (List.mem_of_mem_take hp)).1).1
  refine WC.seq (WC.dw (sr9.k9.k9) (d9 [0, 1, 2, 3] ?_))
  refine WD.tk 4 rfl (ok_loadM (vs := ic9) ((((List.sublist_append_left _ _).cons _).cons _).subset hm_t) ty3 rfl rfl rfl (by simp)) (d9 [5, 9] ?_)
  refine WD.a1 6 rfl (W.qcall (opspan_fc _ _ _ _ _ _ (by first | assumption | omega | (dsimp only; omega))) rfl (W.nn (WD.a1 7 rfl (W.call (Mp := Ms_t ++ []) (Mr := ((b2, ce9 35 [iV 0, .bool false, sV ⟨#[]⟩, lV none 0 0]) :: ((b1, ce9 33 [iV pk, sV pkey.b, sV phi.b, .bool po, sV pv.b, iV pl]) :: []))) (oscan_fc h_t hT (Opr.span (⟨pk, pkey, phi, po, pv, pl⟩ : Opr)).lo (Opr.span (⟨pk, pkey, phi, po, pv, pl⟩ : Opr)).hi (Opr.span (⟨pk, pkey, phi, po, pv, pl⟩ : Opr)).opn 262144 om9 root_t hr_t) rfl (of_mq (show mq ((Ms_t ++ []) ++ ((b2, ce9 35 [iV 0, .bool false, sV ⟨#[]⟩, lV none 0 0]) :: ((b1, ce9 33 [iV pk, sV pkey.b, sV phi.b, .bool po, sV pv.b, iV pl]) :: []))) = mq ((b2, ce9 35 [iV 0, .bool false, sV ⟨#[]⟩, lV none 0 0]) :: ((b1, ce9 33 [iV pk, sV pkey.b, sV phi.b, .bool po, sV pv.b, iV pl]) :: (Ms_t ++ []))) by first | (simp only [mq_app, mq_cons, mq_zero]; done) | (simp only [mq_app, mq_cons, mq_zero]; ac_rfl))) ?_))))
  intro v32 G29 Ms31 hG29 q30
  refine match q30 with | ⟨Mq_l33, e_34, hL_l33⟩ => ?_
  subst e_34
  refine W.perm (M' := ((b2, ce9 35 [iV 0, .bool false, sV ⟨#[]⟩, lV none 0 0]) :: ((b1, ce9 33 [iV pk, sV pkey.b, sV phi.b, .bool po, sV pv.b, iV pl]) :: (Mq_l33 ++ (Ms_t ++ []))))) (of_mq (show mq ((b2, ce9 35 [iV 0, .bool false, sV ⟨#[]⟩, lV none 0 0]) :: ((b1, ce9 33 [iV pk, sV pkey.b, sV phi.b, .bool po, sV pv.b, iV pl]) :: (Mq_l33 ++ (Ms_t ++ [])))) = mq ((Ms_t ++ Mq_l33) ++ ((b2, ce9 35 [iV 0, .bool false, sV ⟨#[]⟩, lV none 0 0]) :: ((b1, ce9 33 [iV pk, sV pkey.b, sV phi.b, .bool po, sV pv.b, iV pl]) :: []))) by first | (simp only [mq_app, mq_cons, mq_zero]; done) | (simp only [mq_app, mq_cons, mq_zero]; ac_rfl))) ?_
  have hq_l33 : OwnR ePair 84 G29 v32 (scanN t.rows (Opr.span (⟨pk, pkey, phi, po, pv, pl⟩ : Opr)) 262144) Mq_l33 := hL_l33 G29
  have hln_l33 := hq_l33.len47
  have q38 := hq_l33.form
  refine match q38 with | ⟨sa35, sc36, e_37⟩ => ?_
  subst e_37
  refine W.nil (WD.n9 hG29 (((sr9.trans (List.sublist_append_right _ _)).k9).k9) (d9 [8] ?_))
  refine g9 3 ?_
  refine WC.giveO (hq_l33) (pmC (pmC pr9)) (fun G39 hG39 hv39 => ?_)
  refine WC.loop (X := (Nat) × MH) (fun j => [(83, nt9 j.1), (4, pt9 b2), (81, lV sa35 ((scanN t.rows (Opr.span (⟨pk, pkey, phi, po, pv, pl⟩ : Opr)) 262144)).length sc36), (82, nt9 (((scanN t.rows (Opr.span (⟨pk, pkey, phi, po, pv, pl⟩ : Opr)) 262144)).length)), (0, pt9 b_t)]) (fun j G Ml => Ml = ((b2, ce9 35 [iV 0, .bool false, sV ⟨#[]⟩, lV none 0 0]) :: ((b1, ce9 33 [iV pk, sV pkey.b, sV phi.b, .bool po, sV pv.b, iV pl]) :: (j.2 ++ []))) ∧ BpM (fun ba => ArR ePt 64 4 3 114 ba) 66 70 9 b_t fan leaf G (delsT fan leaf ((scanN t.rows (Opr.span (⟨pk, pkey, phi, po, pv, pl⟩ : Opr)) 262144).take j.1) t) j.2 ∧ j.1 ≤ (scanN t.rows (Opr.span (⟨pk, pkey, phi, po, pv, pl⟩ : Opr)) 262144).length) (fun j => (scanN t.rows (Opr.span (⟨pk, pkey, phi, po, pv, pl⟩ : Opr)) 262144).length - j.1) (0, Ms_t) hs9 ?_ ?_
  ·exact ⟨rfl, (by exact (bpM.mono lec h_t)), Nat.zero_le _⟩
  rintro ⟨j, M_0⟩ gG40 G40 _ hG40 ⟨rfl, ho_0, hj⟩
  try dsimp only at ho_0 hj
  have hT9 := (dels_ok (ps := (scanN t.rows (Opr.span (⟨pk, pkey, phi, po, pv, pl⟩ : Opr)) 262144).take j) hT fun p hp => hk9 p (List.mem_of_mem_take hp)).1
  refine WC.fr (f := setL gG40 [(83, nt9 j), (4, pt9 b2), (81, lV sa35 ((scanN t.rows (Opr.span (⟨pk, pkey, phi, po, pv, pl⟩ : Opr)) 262144)).length sc36), (82, nt9 (((scanN t.rows (Opr.span (⟨pk, pkey, phi, po, pv, pl⟩ : Opr)) 262144)).length)), (0, pt9 b_t)]) rfl (g9 6 ?_)
  refine WC.cd (fun h84 p84 => ?_) (fun h84 p84 => ?_)
  ·try dsimp only at p84
   refine g9 6 ?_
   refine (hv39.mono hG40).a1 (i := j) om9 (fun he41 => (g9 2 ?_))
   refine W.alloc zr84 (fun b44 => (g9 7 ?_))
   refine W.call (Mp := M_0) (odel_fc ho_0 hT9 (scanN t.rows (Opr.span (⟨pk, pkey, phi, po, pv, pl⟩ : Opr)) 262144)[j].key (hk9 _ (List.getElem_mem om9))) rfl (pmC (pmC (pmC pr9))) ?_
   intro v48 G45 Ms47 hG45 q46
   refine match q46 with | ⟨_, hR49⟩ => ?_
   refine W.perm (pmC (pmC (pmC pr9))).symm (g9 6 ?_)
   refine W.sub (sr9.cons _) (g9 2 ?_)
   exact ⟨hG45, (j + 1, Ms47), hs9, ⟨rfl, (by have h := hR49; rw [dels_succ om9]; exact h), om9⟩, om9⟩
  try dsimp only at p84
  refine g9 13 ?_
  refine ⟨.inr rfl, [_], ⟨⟨_, _, _, _, _, rfl, nthM_mem (i := 0) rfl, ty35, (by simp), rfl, rfl⟩, trivial⟩, M_0, ((List.sublist_append_left _ _).cons _).cons _, ?_⟩
  have hE := doT_4 (fan := fan) (leaf := leaf) (t := t) hR p73
  have hE1 := congrArg Prod.fst hE
  have hE2 := congrArg Prod.snd hE
  have hj9 : j = (scanN t.rows (Opr.span (⟨pk, pkey, phi, po, pv, pl⟩ : Opr)) 262144).length := by omega
  have hB9 := ho_0
  rw [hj9, List.take_length] at hB9
  exact ⟨⟨_, rfl, AnsC.to ⟨_, _, rfl, SlR.nil, ⟨by dsimp only; omega, by dsimp only; omega⟩⟩ hE1⟩, BpM.to hE2 hB9⟩
 try dsimp only at p73
 refine g9 6 ?_
 refine WC.cd (fun h93 p93 => ?_) (fun h93 p93 => ?_)
 ·try dsimp only at p93
  refine g9 4 ?_
  refine W.call (Mp := Ms_t) (odel_fc h_t hT pkey hks9) rfl (pmC (pmC pr9)) ?_
  intro v53 G50 Ms52 hG50 q51
  refine match q51 with | ⟨_, hR54⟩ => ?_
  refine W.perm (pmC (pmC pr9)).symm (g9 10 ?_)
  refine ⟨.inr rfl, [_], ⟨⟨_, _, _, _, _, rfl, nthM_mem (i := 0) rfl, ty35, (by simp), rfl, rfl⟩, trivial⟩, Ms52, ((List.sublist_append_left _ _).cons _).cons _, ?_⟩
  have hE := doT_3 (fan := fan) (leaf := leaf) (t := t) hR p93
  have hE1 := congrArg Prod.fst hE
  have hE2 := congrArg Prod.snd hE
  exact ⟨⟨_, rfl, AnsC.to ⟨_, _, rfl, SlR.nil, ⟨by dsimp only; omega, by dsimp only; omega⟩⟩ hE1⟩, BpM.to hE2 hR54⟩
 try dsimp only at p93
 have hk4 : pk ≤ 4 := by omega
 refine g9 3 ?_
 refine W.qcall (opmsg_fc pk pkey phi po pv pl 1 hR hk4 om9) rfl (g9 3 ?_)
 refine W.alloc zr78 (fun b55 => (g9 4 ?_))
 refine WC.dw ((sn9.k9.cons _).k9) (d9 [0, 1, 2, 3, 4, 5] ?_)
 refine WD.a1 6 rfl (W.qcall (mon_fc _ _ _ _ _ _ _ (by first | assumption | omega | (dsimp only; omega))) rfl (W.nn (WD.a1 7 rfl ?_)))
 have q56 := grows_op (o := (⟨pk, pkey, phi, po, pv, pl⟩ : Opr)) hR (by dsimp only; omega) (by dsimp only; omega) (by dsimp only; omega)
 refine match q56 with | ⟨hg9, hk12, hv16⟩ => ?_
 refine W.call (Mp := Ms_t) (oput_fc h_t hT pkey (opE (⟨pk, pkey, phi, po, pv, pl⟩ : Opr)).kind (opE (⟨pk, pkey, phi, po, pv, pl⟩ : Opr)).val hk12 hks9 hv16 hg9) rfl (pmC (pmC (pmC pr9))) ?_
 intro v60 G57 Ms59 hG57 q58
 refine match q58 with | ⟨e_62, hR61⟩ => ?_
 subst e_62
 refine W.perm (pmC (pmC (pmC pr9))).symm (W.nn (d9 [8, 9] ?_))
 refine WD.done (by kernel_rfl) (blk_n (thn_n (g9 7 ?_)))
 refine ⟨.inr rfl, [_], ⟨⟨_, _, _, _, _, rfl, nthM_mem (i := 1) rfl, ty35, (by simp), rfl, rfl⟩, trivial⟩, Ms59, (((List.sublist_append_left _ _).cons _).cons _).cons _, ?_⟩
 have hE := doT_p (fan := fan) (leaf := leaf) (t := t) hR p37 p60 p73 p93
 have hE1 := congrArg Prod.fst hE
 have hE2 := congrArg Prod.snd hE
 exact ⟨⟨_, rfl, AnsC.to ⟨_, _, rfl, SlR.nil, (by dsimp only; unfold putT; split <;> exact ⟨by dsimp only; omega, by dsimp only; omega⟩)⟩ hE1⟩, BpM.to hE2 hR61⟩

end Go.Proofs.YtemoalimclnfkaaGreat
