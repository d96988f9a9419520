/- The law StorePlays is walked. -/
import Derived.Test.YtmbafmifalppaaaQaVf
import Derived.Test.YtmbafmifalppaaaQaU5
set_option maxRecDepth 100000
set_option maxHeartbeats 1600000
set_option linter.unusedVariables false
set_option linter.unusedSimpArgs false
set_option linter.unnecessarySimpa false
namespace Go.Proofs.Ytmbafmifalppaaa
open Go Go.Fw Go.RowKit
def S_63 : Str := ⟨⟨#[63]⟩, by decide⟩
set_option maxHeartbeats 16000000
theorem storePlays_fc {G : GH} (cfan : Int) (cleaf : Int) (cbud : Int) (cslots : Int) (crest : Int) {v_l : Value} {l : List Act25} (h_l : SlR eAct25 G v_l l) (slot : Int) :
    Fc Try.prog 5 [.agg #[.int .i64 cfan, .int .i64 cleaf, .int .i64 cbud, .int .i64 cslots, .int .i64 crest], v_l, .int .i64 slot] G [] (fun v _ _ => v = .bool (true)) := by
 obtain ⟨sa_l, sc_l, rfl⟩ := h_l.form
 have hl := h_l.len47
 refine Fc.intro (rs := [.tmp 6]) cl5 Try.func5 rfl Try.ntmps5 rfl rfl (fun w0 => ?_)
 refine WC.seq ?_
 refine WC.region ?_
 refine W.box (L := [.int .i64 _, .int .i64 _, .int .i64 _, .int .i64 _, .int .i64 _]) rfl rfl (fun b1 => ?_)
 refine W.as ?_
 refine W.nil (thn_n ?_)
 refine WC.seq ?_
 refine WC.region ?_
 refine W.ok (ok_loadB (i := 0) (vs := [.int .i64 _, .int .i64 _, .int .i64 _, .int .i64 _, .int .i64 _]) ty23 rfl rfl rfl rfl (by simp)) ?_
 refine W.call (Mp := []) (stnew_fc (cfan) (cleaf) (cbud) (cslots) (crest)) rfl (List.Perm.refl _) ?_
 intro v5 G2 Ms4 hG2 q3
 refine Or.elim q3 (fun q6 => ?_) (fun q7 => ?_)
 ·refine match q6 with | ⟨hnc, e_8, e_9⟩ => ?_
  subst e_8
  subst e_9
  refine W.mv ?_
  refine W.ok (ok_extract rfl rfl) ?_
  refine W.ok (ok_extract rfl rfl) ?_
  refine W.as ?_
  refine W.as ?_
  refine W.nil (thn_n ?_)
  refine WC.seq ?_
  refine WC.seq ?_
  refine WC.region ?_
  refine W.ok (ok_loadB (i := 0) (vs := [.int .i64 _, .int .i64 _, .int .i64 _, .int .i64 _, .int .i64 _]) ty23 rfl rfl rfl rfl (by simp)) ?_
  refine W.qcall ((rright25_fc (cfan) (cleaf) (cbud) (cslots) (crest)).mono (fun v _ _ _ hv => hv.trans (congrArg Value.bool (decide_eq_false hnc)))) rfl ?_
  refine W.as ?_
  refine W.nil (thn_n ?_)
  refine WC.seq ?_
  refine WC.region ?_
  refine W.ok (ok_loadB (i := 0) (vs := [.int .i64 _, .int .i64 _, .int .i64 _, .int .i64 _, .int .i64 _]) ty23 rfl rfl rfl rfl (by simp)) ?_
  refine W.qcall ((stright_fc (cfan) (cleaf) (cbud) (cslots) (crest)).mono (fun v _ _ _ hv => hv.trans (congrArg Value.bool (decide_eq_false hnc)))) rfl ?_
  refine W.mv ?_
  refine W.ok (ok_neqB bo4 rfl rfl) ?_
  refine W.mv ?_
  refine W.yes (dj := 34) rfl rfl rfl ?_
  refine W.mv ?_
  refine W.yes (dj := 34) rfl rfl rfl ?_
  refine W.ok (ok_neqPN pp54 rfl rfl) ?_
  refine W.yes (dj := 34) rfl rfl rfl ?_
  refine W.mv ?_
  refine W.yes (dj := 34) rfl rfl rfl ?_
  refine W.ok (ok_neqB bo4 rfl rfl) ?_
  refine W.ok (ok_pick_f rfl rfl) ?_
  refine W.mv ?_
  refine W.yes (dj := 40) rfl rfl rfl ?_
  refine W.mv ?_
  refine W.yes (dj := 40) rfl rfl rfl ?_
  refine W.ok (ok_eql rfl rfl) ?_
  refine W.yes (dj := 40) rfl rfl rfl ?_
  refine W.mv ?_
  refine W.yes (dj := 40) rfl rfl rfl ?_
  refine W.ok (ok_neqB bo4 rfl rfl) ?_
  refine W.ok (ok_pick_f rfl rfl) ?_
  refine W.mv ?_
  refine W.yes (dj := 46) rfl rfl rfl ?_
  refine W.mv ?_
  refine W.yes (dj := 46) rfl rfl rfl ?_
  refine W.ok (ok_not rfl) ?_
  refine W.yes (dj := 46) rfl rfl rfl ?_
  refine W.mv ?_
  refine W.yes (dj := 49) rfl rfl rfl ?_
  refine W.mv ?_
  refine W.yes (dj := 49) rfl rfl rfl ?_
  refine W.ok (ok_neq rfl rfl) ?_
  refine W.yes (dj := 46) rfl rfl rfl ?_
  refine W.ok (ok_pick_t rfl rfl) ?_
  refine W.ok (ok_pick_f rfl rfl) ?_
  refine W.nil (thn_n ?_)
  refine WC.cond_f rfl rfl ?_
  refine WC.skip (thn_n ?_)
  refine WC.seq ?_
  refine WC.seq ?_
  refine WC.region ?_
  refine W.mv ?_
  refine W.ok (ok_eqlPN pp54 rfl rfl) ?_
  refine W.mv ?_
  refine W.no (dj := 56) rfl rfl rfl ?_
  refine W.no (dj := 56) rfl rfl rfl ?_
  refine W.no (dj := 56) rfl rfl rfl ?_
  refine W.ok (ok_pick_t rfl rfl) ?_
  refine W.nil (thn_n ?_)
  refine WC.cond_t rfl rfl ?_
  refine WC.seq ?_
  refine WC.region ?_
  refine W.qcall (awk25_fc) rfl ?_
  refine W.as ?_
  refine W.nil (thn_n ?_)
  refine WC.ret (thn_r ?_)
  refine ⟨.inr rfl, [_], ⟨rfl, trivial⟩, [], List.nil_sublist _, ?_⟩
  rfl
 ·refine match q7 with | ⟨hC, bSt, e_10, hS9⟩ => ?_
  subst e_10
  refine W.perm (pmC (List.Perm.refl _)).symm ?_
  refine W.mv ?_
  refine W.ok (ok_extract rfl rfl) ?_
  refine W.ok (ok_extract rfl rfl) ?_
  refine W.as ?_
  refine W.as ?_
  refine W.nil (thn_n ?_)
  refine WC.seq ?_
  refine WC.seq ?_
  refine WC.region ?_
  refine W.ok (ok_loadB (i := 0) (vs := [.int .i64 _, .int .i64 _, .int .i64 _, .int .i64 _, .int .i64 _]) ty23 rfl rfl rfl rfl (by simp)) ?_
  refine W.qcall ((rright25_fc (cfan) (cleaf) (cbud) (cslots) (crest)).mono (fun v _ _ _ hv => hv.trans (congrArg Value.bool (decide_eq_true hC)))) rfl ?_
  refine W.as ?_
  refine W.nil (thn_n ?_)
  refine WC.seq ?_
  refine WC.region ?_
  refine W.ok (ok_loadB (i := 0) (vs := [.int .i64 _, .int .i64 _, .int .i64 _, .int .i64 _, .int .i64 _]) ty23 rfl rfl rfl rfl (by simp)) ?_
  refine W.qcall ((stright_fc (cfan) (cleaf) (cbud) (cslots) (crest)).mono (fun v _ _ _ hv => hv.trans (congrArg Value.bool (decide_eq_true hC)))) rfl ?_
  refine W.mv ?_
  refine W.ok (ok_neqB bo4 rfl rfl) ?_
  refine W.mv ?_
  refine W.yes (dj := 34) rfl rfl rfl ?_
  refine W.mv ?_
  refine W.yes (dj := 34) rfl rfl rfl ?_
  refine W.ok (ok_neqPN pp54 rfl rfl) ?_
  refine W.yes (dj := 34) rfl rfl rfl ?_
  refine W.mv ?_
  refine W.yes (dj := 34) rfl rfl rfl ?_
  refine W.ok (ok_neqB bo4 rfl rfl) ?_
  refine W.ok (ok_pick_f rfl rfl) ?_
  refine W.mv ?_
  refine W.yes (dj := 40) rfl rfl rfl ?_
  refine W.mv ?_
  refine W.yes (dj := 40) rfl rfl rfl ?_
  refine W.ok (ok_eql rfl rfl) ?_
  refine W.yes (dj := 40) rfl rfl rfl ?_
  refine W.mv ?_
  refine W.yes (dj := 40) rfl rfl rfl ?_
  refine W.ok (ok_neqB bo4 rfl rfl) ?_
  refine W.ok (ok_pick_f rfl rfl) ?_
  refine W.mv ?_
  refine W.yes (dj := 46) rfl rfl rfl ?_
  refine W.mv ?_
  refine W.yes (dj := 46) rfl rfl rfl ?_
  refine W.ok (ok_not rfl) ?_
  refine W.yes (dj := 46) rfl rfl rfl ?_
  refine W.mv ?_
  refine W.no (dj := 49) rfl rfl rfl ?_
  refine W.no (dj := 49) rfl rfl rfl ?_
  refine W.yes (dj := 46) rfl rfl rfl ?_
  refine W.ok (ok_pick_f rfl rfl) ?_
  refine W.ok (ok_pick_f rfl rfl) ?_
  refine W.nil (thn_n ?_)
  refine WC.cond_f rfl rfl ?_
  refine WC.skip (thn_n ?_)
  refine WC.seq ?_
  refine WC.seq ?_
  refine WC.region ?_
  refine W.mv ?_
  refine W.ok (ok_eqlPN pp54 rfl rfl) ?_
  refine W.mv ?_
  refine W.yes (dj := 56) rfl rfl rfl ?_
  refine W.mv ?_
  refine W.yes (dj := 56) rfl rfl rfl ?_
  refine W.ok (ok_len sl53 (h_l.mono hG2) rfl) ?_
  refine W.yes (dj := 56) rfl rfl rfl ?_
  refine W.ok (ok_gtr rfl rfl) ?_
  refine W.ok (ok_pick_f rfl rfl) ?_
  refine W.nil (thn_n ?_)
  refine WC.cond (b := _) rfl (fun h59 => ?_) (fun h59 => ?_)
  ·have p59 := of_decide_eq_true h59
   try dsimp only at p59
   refine WC.seq ?_
   refine WC.region ?_
   refine W.qcall (awk25_fc) rfl ?_
   refine W.as ?_
   refine W.nil (thn_n ?_)
   refine WC.ret (thn_r ?_)
   refine ⟨.inr rfl, [_], ⟨rfl, trivial⟩, [], List.nil_sublist _, ?_⟩
   rfl
  ·have p59 := of_decide_eq_false h59
   try dsimp only at p59
   have hC9 := hC
   unfold CfgR at hC9
   dsimp only at hC9
   refine WC.skip (thn_n ?_)
   refine WC.seq ?_
   refine WC.region ?_
   refine W.ok (ok_loadB (i := 0) (vs := [.int .i64 _, .int .i64 _, .int .i64 _, .int .i64 _, .int .i64 _]) ty23 rfl rfl rfl rfl (by simp)) ?_
   refine W.call (Mp := []) (rnew25_fc (cfan) (cleaf) (cbud) (cslots) (crest)) rfl (List.Perm.refl _) ?_
   intro v14 G11 Ms13 hG11 q12
   refine match q12 with | ⟨bRf, e_16, hR15⟩ => ?_
   subst e_16
   refine W.perm (pmC (List.Perm.refl _)).symm ?_
   refine W.as ?_
   refine W.nil (thn_n ?_)
   refine WC.seq ?_
   refine WC.seq ?_
   refine WC.region ?_
   refine W.mv ?_
   refine W.ok (ok_len sl53 (h_l.mono (hG2.trans hG11)) rfl) ?_
   refine W.mv ?_
   refine W.nil (thn_n ?_)
   refine WC.block ?_
   refine WC.perm (M' := ((b1, .cells (List.toArray [.int .i64 cfan, .int .i64 cleaf, .int .i64 cbud, .int .i64 cslots, .int .i64 crest]) 23 (0, 0)) :: (Ms4 ++ (Ms13 ++ [])))) (((List.Perm.append_left _ ((List.Perm.append_left _ (List.Perm.refl _)).trans (List.Perm.refl _))).trans (pmA (List.Perm.refl _))).cons _) ?_
   refine WC.loop (X := (Nat × List Nd) × MH × MH) (fun y => [(66, .int .i64 ((y.1.1 : Nat) : Int)), (3, .pointer (some ⟨b1, 0, none⟩)), (2, .int .i64 slot), (64, .slice sa_l l.length sc_l), (65, .int .i64 (((l).length : Nat) : Int)), (7, .pointer (some ⟨bSt, 0, none⟩)), (10, .pointer (some ⟨bRf, 0, none⟩))]) (fun y G Ml => Ml = ((b1, .cells (List.toArray [.int .i64 cfan, .int .i64 cleaf, .int .i64 cbud, .int .i64 cslots, .int .i64 crest]) 23 (0, 0)) :: (y.2.1 ++ (y.2.2 ++ []))) ∧ StR 35 4 3 179 132 bSt (⟨cfan, cleaf, cbud, cslots, crest⟩ : Cfg) G (y.1.2) y.2.1 ∧ RfR 35 75 bRf (⟨cfan, cleaf, cbud, cslots, crest⟩ : Cfg) G (y.1.2) y.2.2 ∧ y.1.1 ≤ l.length ∧ y.1.2.length ≤ y.1.1 + 1) (fun y => l.length - y.1.1) (((0, [leafN 0]) : Nat × List Nd), Ms4, Ms13) ⟨eqv, eqv, eqv, eqv, eqv, eqv, eqv, trivial⟩ ?_ ?_
   ·exact ⟨rfl, (by exact (StR.mono hG11 hS9)), (by exact hR15), Nat.zero_le _, Nat.le_refl _⟩
   ·rintro ⟨⟨k, L⟩, M_7, M_10⟩ gG17 G17 _ hG17 ⟨rfl, ho_7, ho_10, hk, hLk⟩
    try dsimp only at ho_7 ho_10 hk hLk
    refine WC.fr (f := setL gG17 [(66, .int .i64 ((k : Nat) : Int)), (3, .pointer (some ⟨b1, 0, none⟩)), (2, .int .i64 slot), (64, .slice sa_l l.length sc_l), (65, .int .i64 (((l).length : Nat) : Int)), (7, .pointer (some ⟨bSt, 0, none⟩)), (10, .pointer (some ⟨bRf, 0, none⟩))]) rfl ?_
    refine WC.seq ?_
    refine WC.region ?_
    refine W.ok (ok_lss rfl rfl) ?_
    refine W.nil (thn_n ?_)
    refine WC.seq ?_
    refine WC.cond (b := _) rfl (fun h67 => ?_) (fun h67 => ?_)
    ·have p67 := of_decide_eq_true h67
     try dsimp only at p67
     refine WC.skip (thn_n ?_)
     refine WC.seq ?_
     refine WC.block ?_
     refine WC.seq ?_
     refine WC.region ?_
     have q21 := (h_l.mono ((hG2.trans hG11).trans hG17)).at (i := k) (by omega)
     refine match q21 with | ⟨_, he18, ⟨pa_a19, pc_a19, ka_a19, kc_a19, ma_a19, mc_a19, ra_a19, rc_a19, e_20, hp_a19, hk_a19, hm_a19, hr_a19, hok_a19, hq_a19⟩⟩ => ?_
     subst e_20
     refine W.ok (ok_indexAddr (i := k) sl53 ty62 (h_l.mono ((hG2.trans hG11).trans hG17)) rfl rfl ⟨by omega, by omega⟩) ?_
     refine W.ok (ok_loadE (vs := [.int .i64 _, .int .i64 _, .int .i64 _, .slice _ _ _, .slice _ _ _, .string _, .bool _, .int .i64 _, .int .i64 _, .slice _ _ _, .slice _ _ _]) ty62 he18 rfl rfl rfl (by simp)) ?_
     refine W.alloc zr62 (fun b22 => ?_)
     refine W.store (i := 0) (vs := [.int .i64 _, .int .i64 _, .int .i64 _, .slice _ _ _, .slice _ _ _, .string _, .bool _, .int .i64 _, .int .i64 _, .slice _ _ _, .slice _ _ _]) (L' := [.int .i64 _, .int .i64 _, .int .i64 _, .slice _ _ _, .slice _ _ _, .string _, .bool _, .int .i64 _, .int .i64 _, .slice _ _ _, .slice _ _ _]) ty62 rfl rfl rfl rfl rfl rfl rfl rfl ?_
     refine W.nil (thn_n ?_)
     refine WC.seq ?_
     refine WC.seq ?_
     refine WC.region ?_
     refine W.ok (ok_fieldB fd62_1 rfl) ?_
     refine W.ok (ok_loadB (i := 0) (vs := [.int .i64 _, .int .i64 _, .slice _ _ _, .slice _ _ _, .string _, .bool _, .int .i64 _, .int .i64 _, .slice _ _ _, .slice _ _ _]) ty35 rfl rfl rfl rfl (by simp)) ?_
     refine W.lit (e := eNode) (l := [((l)[k]).n]) (css := [[.int .i64 _, .int .i64 _, .slice _ _ _, .slice _ _ _, .string _, .bool _, .int .i64 _, .int .i64 _, .slice _ _ _, .slice _ _ _]]) sl24 ty35 zr35 rfl rfl rfl rfl rfl rfl ⟨⟨_, _, _, _, _, _, _, _, rfl, hp_a19, hk_a19, hm_a19, hr_a19, hok_a19⟩, trivial⟩ (fun bl23 G23 hG23 hv23 => ?_)
     refine W.qcall (light_fc hv23 _ _ (by omega)) rfl ?_
     refine W.ok (ok_not rfl) ?_
     refine W.nil (thn_n ?_)
     refine WC.cond (b := _) rfl (fun h74 => ?_) (fun h74 => ?_)
     ·refine WC.seq ?_
      refine WC.region ?_
      refine W.qcall (awk25_fc) rfl ?_
      refine W.as ?_
      refine W.nil (thn_n ?_)
      refine WC.ret (thn_r (blk_r (thn_r (thn_r (blk_r (thn_r ?_))))))
      refine ⟨.inr rfl, [_], ⟨rfl, trivial⟩, [], List.nil_sublist _, ?_⟩
      rfl
     ·refine WC.skip (thn_n ?_)
      refine WC.join (X := (List Nd) × MH × MH) (fun z => [(3, .pointer (some ⟨b1, 0, none⟩)), (12, .pointer (some ⟨b22, 0, none⟩)), (2, .int .i64 slot), (64, .slice sa_l l.length sc_l), (65, .int .i64 (((l).length : Nat) : Int)), (66, .int .i64 ((k : Nat) : Int)), (7, .pointer (some ⟨bSt, 0, none⟩)), (10, .pointer (some ⟨bRf, 0, none⟩))]) (fun z G Ml => Ml = ((b22, .cells (List.toArray [.int .i64 ((l)[k]).kind, .int .i64 ((l)[k]).n.slot, .int .i64 ((l)[k]).n.level, .slice pa_a19 (((l)[k]).n.pivots).length pc_a19, .slice ka_a19 (((l)[k]).n.kids).length kc_a19, .string ((l)[k]).n.high.b, .bool ((l)[k]).n.top, .int .i64 ((l)[k]).n.right, .int .i64 ((l)[k]).n.seen, .slice ma_a19 (((l)[k]).n.msgs).length mc_a19, .slice ra_a19 (((l)[k]).n.rows).length rc_a19]) 62 (0, 0)) :: ((b1, .cells (List.toArray [.int .i64 cfan, .int .i64 cleaf, .int .i64 cbud, .int .i64 cslots, .int .i64 crest]) 23 (0, 0)) :: (z.2.1 ++ (z.2.2 ++ [])))) ∧ StR 35 4 3 179 132 bSt (⟨cfan, cleaf, cbud, cslots, crest⟩ : Cfg) G (z.1) z.2.1 ∧ RfR 35 75 bRf (⟨cfan, cleaf, cbud, cslots, crest⟩ : Cfg) G (z.1) z.2.2 ∧ z.1.length ≤ k + 2) ?_ ?_
      ·refine WC.seq ?_
       refine WC.region ?_
       refine W.ok (ok_fieldB fd62_0 rfl) ?_
       refine W.ok (ok_loadB (i := 0) (vs := [.int .i64 _]) ty3 rfl rfl rfl rfl (by simp)) ?_
       refine W.ok (ok_convW un3 un63 rfl) ?_
       refine W.ok (ok_rem rfl rfl (by decide)) ?_
       refine W.ok (ok_eql rfl rfl) ?_
       refine W.nil (thn_n ?_)
       refine WC.cond (b := _) rfl (fun h80 => ?_) (fun h80 => ?_)
       ·have p80 := of_decide_eq_true h80
        try dsimp only at p80
        refine WC.seq ?_
        refine WC.region ?_
        refine W.mv ?_
        refine W.ok (ok_fieldB fd62_1 rfl) ?_
        refine W.ok (ok_loadB (i := 0) (vs := [.int .i64 _, .int .i64 _, .slice _ _ _, .slice _ _ _, .string _, .bool _, .int .i64 _, .int .i64 _, .slice _ _ _, .slice _ _ _]) ty35 rfl rfl rfl rfl (by simp)) ?_
        have q24 := Decidable.em (0 ≤ ((l)[k]).n.slot ∧ ((l)[k]).n.slot < (L.length : Int))
        refine Or.elim q24 (fun q25 => ?_) (fun q26 => ?_)
        ·refine W.call (Mp := M_7) (pset_fc (StR.mono hG23 ho_7) (x := ((l)[k]).n) ⟨_, _, _, _, _, _, _, _, rfl, (hp_a19.mono hG23), (hk_a19.mono hG23), (hm_a19.mono hG23), (hr_a19.mono hG23), hok_a19⟩) rfl (pmC (pmC (List.Perm.refl _))) ?_
         intro v30 G27 Ms29 hG27 q28
         rw [putL_t q25] at q28
         refine match q28 with | ⟨e_32, hC31⟩ => ?_
         subst e_32
         refine W.perm (pmC (pmC (List.Perm.refl _))).symm ?_
         refine W.as ?_
         refine W.nil (thn_n ?_)
         refine WC.seq ?_
         refine WC.region ?_
         refine W.mv ?_
         refine W.ok (ok_eql rfl rfl) ?_
         refine W.mv ?_
         refine W.ok (ok_fieldB fd62_1 rfl) ?_
         refine W.ok (ok_loadB (i := 0) (vs := [.int .i64 _, .int .i64 _, .slice _ _ _, .slice _ _ _, .string _, .bool _, .int .i64 _, .int .i64 _, .slice _ _ _, .slice _ _ _]) ty35 rfl rfl rfl rfl (by simp)) ?_
         refine W.call (Mp := M_10) (qset25_fc (RfR.mono (hG23.trans hG27) ho_10) (x := ((l)[k]).n) ⟨_, _, _, _, _, _, _, _, rfl, (hp_a19.mono (hG23.trans hG27)), (hk_a19.mono (hG23.trans hG27)), (hm_a19.mono (hG23.trans hG27)), (hr_a19.mono (hG23.trans hG27)), hok_a19⟩) rfl (pmC (pmC (pmA (List.Perm.refl _)))) ?_
         intro v36 G33 Ms35 hG33 q34
         rw [putL_t q25, decide_eq_true q25] at q34
         refine match q34 with | ⟨e_38, hC37⟩ => ?_
         subst e_38
         refine W.perm (pmC (pmC (List.Perm.refl _))).symm ?_
         refine W.ok (ok_neqB bo4 rfl rfl) ?_
         refine W.mv ?_
         refine W.yes (dj := 92) rfl rfl rfl ?_
         refine W.mv ?_
         refine W.yes (dj := 92) rfl rfl rfl ?_
         refine W.ok (ok_neq rfl rfl) ?_
         refine W.yes (dj := 92) rfl rfl rfl ?_
         refine W.mv ?_
         refine W.no (dj := 95) rfl rfl rfl ?_
         refine W.no (dj := 95) rfl rfl rfl ?_
         refine W.yes (dj := 92) rfl rfl rfl ?_
         refine W.ok (ok_pick_f rfl rfl) ?_
         refine W.ok (ok_pick_f rfl rfl) ?_
         refine W.nil (thn_n ?_)
         refine WC.cond_f rfl rfl ?_
         refine WC.perm (M' := ((b22, .cells (List.toArray [.int .i64 ((l)[k]).kind, .int .i64 ((l)[k]).n.slot, .int .i64 ((l)[k]).n.level, .slice pa_a19 (((l)[k]).n.pivots).length pc_a19, .slice ka_a19 (((l)[k]).n.kids).length kc_a19, .string ((l)[k]).n.high.b, .bool ((l)[k]).n.top, .int .i64 ((l)[k]).n.right, .int .i64 ((l)[k]).n.seen, .slice ma_a19 (((l)[k]).n.msgs).length mc_a19, .slice ra_a19 (((l)[k]).n.rows).length rc_a19]) 62 (0, 0)) :: ((b1, .cells (List.toArray [.int .i64 cfan, .int .i64 cleaf, .int .i64 cbud, .int .i64 cslots, .int .i64 crest]) 23 (0, 0)) :: (Ms29 ++ (Ms35 ++ []))))) ((((List.Perm.append_left _ ((List.Perm.append_left _ (List.Perm.refl _)).trans (List.Perm.refl _))).trans (pmA (List.Perm.refl _))).cons _).cons _) ?_
         refine WC.skip (thn_n ?_)
         exact ⟨(hG27.trans hG33), ((L.set (((l)[k]).n.slot).toNat ((l)[k]).n), Ms29, Ms35), ⟨eqv, eqv, eqv, eqv, eqv, eqv, eqv, eqv, trivial⟩, ⟨rfl, (by exact (StR.mono hG33 hC31)), (by exact hC37), by simp only [List.length_set, List.length_append, List.length_singleton]; omega⟩⟩
        ·refine W.call (Mp := M_7) (pset_fc (StR.mono hG23 ho_7) (x := ((l)[k]).n) ⟨_, _, _, _, _, _, _, _, rfl, (hp_a19.mono hG23), (hk_a19.mono hG23), (hm_a19.mono hG23), (hr_a19.mono hG23), hok_a19⟩) rfl (pmC (pmC (List.Perm.refl _))) ?_
         intro v42 G39 Ms41 hG39 q40
         rw [putL_f q26] at q40
         refine match q40 with | ⟨e_44, hC43⟩ => ?_
         subst e_44
         refine W.perm (pmC (pmC (List.Perm.refl _))).symm ?_
         refine W.as ?_
         refine W.nil (thn_n ?_)
         refine WC.seq ?_
         refine WC.region ?_
         refine W.mv ?_
         refine W.ok (ok_eql rfl rfl) ?_
         refine W.mv ?_
         refine W.ok (ok_fieldB fd62_1 rfl) ?_
         refine W.ok (ok_loadB (i := 0) (vs := [.int .i64 _, .int .i64 _, .slice _ _ _, .slice _ _ _, .string _, .bool _, .int .i64 _, .int .i64 _, .slice _ _ _, .slice _ _ _]) ty35 rfl rfl rfl rfl (by simp)) ?_
         refine W.call (Mp := M_10) (qset25_fc (RfR.mono (hG23.trans hG39) ho_10) (x := ((l)[k]).n) ⟨_, _, _, _, _, _, _, _, rfl, (hp_a19.mono (hG23.trans hG39)), (hk_a19.mono (hG23.trans hG39)), (hm_a19.mono (hG23.trans hG39)), (hr_a19.mono (hG23.trans hG39)), hok_a19⟩) rfl (pmC (pmC (pmA (List.Perm.refl _)))) ?_
         intro v48 G45 Ms47 hG45 q46
         rw [putL_f q26, decide_eq_false q26] at q46
         refine match q46 with | ⟨e_50, hC49⟩ => ?_
         subst e_50
         refine W.perm (pmC (pmC (List.Perm.refl _))).symm ?_
         refine W.ok (ok_neqB bo4 rfl rfl) ?_
         refine W.mv ?_
         refine W.yes (dj := 92) rfl rfl rfl ?_
         refine W.mv ?_
         refine W.yes (dj := 92) rfl rfl rfl ?_
         refine W.ok (ok_neq rfl rfl) ?_
         refine W.yes (dj := 92) rfl rfl rfl ?_
         refine W.mv ?_
         refine W.yes (dj := 95) rfl rfl rfl ?_
         refine W.mv ?_
         refine W.yes (dj := 95) rfl rfl rfl ?_
         refine W.ok (ok_neq rfl rfl) ?_
         refine W.yes (dj := 92) rfl rfl rfl ?_
         refine W.ok (ok_pick_t rfl rfl) ?_
         refine W.ok (ok_pick_f rfl rfl) ?_
         refine W.nil (thn_n ?_)
         refine WC.cond_f rfl rfl ?_
         refine WC.perm (M' := ((b22, .cells (List.toArray [.int .i64 ((l)[k]).kind, .int .i64 ((l)[k]).n.slot, .int .i64 ((l)[k]).n.level, .slice pa_a19 (((l)[k]).n.pivots).length pc_a19, .slice ka_a19 (((l)[k]).n.kids).length kc_a19, .string ((l)[k]).n.high.b, .bool ((l)[k]).n.top, .int .i64 ((l)[k]).n.right, .int .i64 ((l)[k]).n.seen, .slice ma_a19 (((l)[k]).n.msgs).length mc_a19, .slice ra_a19 (((l)[k]).n.rows).length rc_a19]) 62 (0, 0)) :: ((b1, .cells (List.toArray [.int .i64 cfan, .int .i64 cleaf, .int .i64 cbud, .int .i64 cslots, .int .i64 crest]) 23 (0, 0)) :: (Ms41 ++ (Ms47 ++ []))))) ((((List.Perm.append_left _ ((List.Perm.append_left _ (List.Perm.refl _)).trans (List.Perm.refl _))).trans (pmA (List.Perm.refl _))).cons _).cons _) ?_
         refine WC.skip (thn_n ?_)
         exact ⟨(hG39.trans hG45), (L, Ms41, Ms47), ⟨eqv, eqv, eqv, eqv, eqv, eqv, eqv, eqv, trivial⟩, ⟨rfl, (by exact (StR.mono hG45 hC43)), (by exact hC49), by simp only [List.length_set, List.length_append, List.length_singleton]; omega⟩⟩
       ·have p80 := of_decide_eq_false h80
        try dsimp only at p80
        refine WC.seq ?_
        refine WC.region ?_
        refine W.mv ?_
        refine W.ok (ok_fieldB fd62_1 rfl) ?_
        refine W.ok (ok_loadB (i := 0) (vs := [.int .i64 _, .int .i64 _, .slice _ _ _, .slice _ _ _, .string _, .bool _, .int .i64 _, .int .i64 _, .slice _ _ _, .slice _ _ _]) ty35 rfl rfl rfl rfl (by simp)) ?_
        have q51 := Decidable.em ((L.length : Int) < cslots)
        refine Or.elim q51 (fun q52 => ?_) (fun q53 => ?_)
        ·refine W.call (Mp := M_7) (ptake_fc (StR.mono hG23 ho_7) (x := ((l)[k]).n) ⟨_, _, _, _, _, _, _, _, rfl, (hp_a19.mono hG23), (hk_a19.mono hG23), (hm_a19.mono hG23), (hr_a19.mono hG23), hok_a19⟩) rfl (pmC (pmC (List.Perm.refl _))) ?_
         intro v57 G54 Ms56 hG54 q55
         rw [takeL_t (by dsimp only; omega)] at q55
         refine match q55 with | ⟨e_59, hC58⟩ => ?_
         subst e_59
         refine W.perm (pmC (pmC (List.Perm.refl _))).symm ?_
         refine W.mv ?_
         refine W.ok (ok_extract rfl rfl) ?_
         refine W.ok (ok_extract rfl rfl) ?_
         refine W.as ?_
         refine W.as ?_
         refine W.nil (thn_n ?_)
         refine WC.seq ?_
         refine WC.region ?_
         refine W.mv ?_
         refine W.ok (ok_fieldB fd62_1 rfl) ?_
         refine W.ok (ok_loadB (i := 0) (vs := [.int .i64 _, .int .i64 _, .slice _ _ _, .slice _ _ _, .string _, .bool _, .int .i64 _, .int .i64 _, .slice _ _ _, .slice _ _ _]) ty35 rfl rfl rfl rfl (by simp)) ?_
         refine W.call (Mp := M_10) (qtake25_fc (RfR.mono (hG23.trans hG54) ho_10) (x := ((l)[k]).n) ⟨_, _, _, _, _, _, _, _, rfl, (hp_a19.mono (hG23.trans hG54)), (hk_a19.mono (hG23.trans hG54)), (hm_a19.mono (hG23.trans hG54)), (hr_a19.mono (hG23.trans hG54)), hok_a19⟩ (by omega)) rfl (pmC (pmC (pmA (List.Perm.refl _)))) ?_
         intro v63 G60 Ms62 hG60 q61
         rw [if_pos q52, if_pos q52] at q61
         refine match q61 with | ⟨e_65, hC64⟩ => ?_
         subst e_65
         refine W.perm (pmC (pmC (List.Perm.refl _))).symm ?_
         refine W.as ?_
         refine W.nil (thn_n ?_)
         refine WC.seq ?_
         refine WC.region ?_
         refine W.mv ?_
         refine W.ok (ok_lss rfl rfl) ?_
         refine W.mv ?_
         refine W.sp 113 rfl (fun h112 => ?_) (fun h112 => ?_)
         ·have p112 := of_decide_eq_true h112
          try dsimp only at p112
          exfalso; omega
         ·have p112 := of_decide_eq_false h112
          try dsimp only at p112
          refine W.no (dj := 113) rfl rfl h112 ?_
          refine W.no (dj := 113) rfl rfl h112 ?_
          refine W.no (dj := 113) rfl rfl h112 ?_
          refine W.nou (dj := 116) rfl rfl ?_
          refine W.nou (dj := 116) rfl rfl ?_
          refine W.no (dj := 113) rfl rfl h112 ?_
          refine W.ok (ok_pick_f rfl h112) ?_
          refine W.mv ?_
          refine W.yes (dj := 121) rfl rfl rfl ?_
          refine W.mv ?_
          refine W.yes (dj := 121) rfl rfl rfl ?_
          refine W.ok (ok_geq rfl rfl) ?_
          refine W.yes (dj := 121) rfl rfl rfl ?_
          refine W.mv ?_
          refine W.sp 124 rfl (fun h123 => ?_) (fun h123 => ?_)
          ·have p123 := of_decide_eq_true h123
           try dsimp only at p123
           refine W.yes (dj := 124) rfl rfl h123 ?_
           refine W.mv ?_
           refine W.yes (dj := 124) rfl rfl h123 ?_
           refine W.mv ?_
           refine W.yes (dj := 124) rfl rfl h123 ?_
           refine W.ok (ok_neq rfl rfl) ?_
           refine W.yes (dj := 124) rfl rfl h123 ?_
           refine W.mv ?_
           refine W.sp 128 rfl (fun h127 => ?_) (fun h127 => ?_)
           ·have p127 := nd_t h127
            try dsimp only at p127
            exfalso; omega
           ·have p127 := nd_f h127
            try dsimp only at p127
            refine W.yes (dj := 128) rfl rfl h127 ?_
            refine W.mv ?_
            refine W.yes (dj := 128) rfl rfl h127 ?_
            refine W.ok (ok_neq rfl rfl) ?_
            refine W.yes (dj := 124) rfl rfl h123 ?_
            refine W.ok (ok_pick_f rfl h127) ?_
            refine W.yes (dj := 121) rfl rfl rfl ?_
            refine W.ok (ok_pick_t rfl h123) ?_
            refine W.ok (ok_pick_f rfl rfl) ?_
            refine W.nil (thn_n ?_)
            refine WC.cond_f rfl rfl ?_
            refine WC.perm (M' := ((b22, .cells (List.toArray [.int .i64 ((l)[k]).kind, .int .i64 ((l)[k]).n.slot, .int .i64 ((l)[k]).n.level, .slice pa_a19 (((l)[k]).n.pivots).length pc_a19, .slice ka_a19 (((l)[k]).n.kids).length kc_a19, .string ((l)[k]).n.high.b, .bool ((l)[k]).n.top, .int .i64 ((l)[k]).n.right, .int .i64 ((l)[k]).n.seen, .slice ma_a19 (((l)[k]).n.msgs).length mc_a19, .slice ra_a19 (((l)[k]).n.rows).length rc_a19]) 62 (0, 0)) :: ((b1, .cells (List.toArray [.int .i64 cfan, .int .i64 cleaf, .int .i64 cbud, .int .i64 cslots, .int .i64 crest]) 23 (0, 0)) :: (Ms56 ++ (Ms62 ++ []))))) ((((List.Perm.append_left _ ((List.Perm.append_left _ (List.Perm.refl _)).trans (List.Perm.refl _))).trans (pmA (List.Perm.refl _))).cons _).cons _) ?_
            refine WC.skip (thn_n ?_)
            exact ⟨(hG54.trans hG60), ((L ++ [{ ((l)[k]).n with slot := (L.length : Int) }]), Ms56, Ms62), ⟨eqv, eqv, eqv, eqv, eqv, eqv, eqv, eqv, trivial⟩, ⟨rfl, (by exact (StR.mono hG60 hC58)), (by exact hC64), by simp only [List.length_set, List.length_append, List.length_singleton]; omega⟩⟩
          ·have p123 := of_decide_eq_false h123
           try dsimp only at p123
           exfalso; omega
        ·refine W.call (Mp := M_7) (ptake_fc (StR.mono hG23 ho_7) (x := ((l)[k]).n) ⟨_, _, _, _, _, _, _, _, rfl, (hp_a19.mono hG23), (hk_a19.mono hG23), (hm_a19.mono hG23), (hr_a19.mono hG23), hok_a19⟩) rfl (pmC (pmC (List.Perm.refl _))) ?_
         intro v69 G66 Ms68 hG66 q67
         rw [takeL_f (by dsimp only; omega)] at q67
         refine match q67 with | ⟨e_71, hC70⟩ => ?_
         subst e_71
         refine W.perm (pmC (pmC (List.Perm.refl _))).symm ?_
         refine W.mv ?_
         refine W.ok (ok_extract rfl rfl) ?_
         refine W.ok (ok_extract rfl rfl) ?_
         refine W.as ?_
         refine W.as ?_
         refine W.nil (thn_n ?_)
         refine WC.seq ?_
         refine WC.region ?_
         refine W.mv ?_
         refine W.ok (ok_fieldB fd62_1 rfl) ?_
         refine W.ok (ok_loadB (i := 0) (vs := [.int .i64 _, .int .i64 _, .slice _ _ _, .slice _ _ _, .string _, .bool _, .int .i64 _, .int .i64 _, .slice _ _ _, .slice _ _ _]) ty35 rfl rfl rfl rfl (by simp)) ?_
         refine W.call (Mp := M_10) (qtake25_fc (RfR.mono (hG23.trans hG66) ho_10) (x := ((l)[k]).n) ⟨_, _, _, _, _, _, _, _, rfl, (hp_a19.mono (hG23.trans hG66)), (hk_a19.mono (hG23.trans hG66)), (hm_a19.mono (hG23.trans hG66)), (hr_a19.mono (hG23.trans hG66)), hok_a19⟩ (by omega)) rfl (pmC (pmC (pmA (List.Perm.refl _)))) ?_
         intro v75 G72 Ms74 hG72 q73
         rw [if_neg q53, if_neg q53] at q73
         refine match q73 with | ⟨e_77, hC76⟩ => ?_
         subst e_77
         refine W.perm (pmC (pmC (List.Perm.refl _))).symm ?_
         refine W.as ?_
         refine W.nil (thn_n ?_)
         refine WC.seq ?_
         refine WC.region ?_
         refine W.mv ?_
         refine W.ok (ok_lss rfl rfl) ?_
         refine W.mv ?_
         refine W.sp 113 rfl (fun h112 => ?_) (fun h112 => ?_)
         ·have p112 := of_decide_eq_true h112
          try dsimp only at p112
          refine W.yes (dj := 113) rfl rfl h112 ?_
          refine W.mv ?_
          refine W.yes (dj := 113) rfl rfl h112 ?_
          refine W.ok (ok_neq rfl rfl) ?_
          refine W.yes (dj := 113) rfl rfl h112 ?_
          refine W.mv ?_
          refine W.yes (dj := 116) rfl rfl rfl ?_
          refine W.mv ?_
          refine W.yes (dj := 116) rfl rfl rfl ?_
          refine W.ok (ok_neq rfl rfl) ?_
          refine W.yes (dj := 113) rfl rfl h112 ?_
          refine W.ok (ok_pick_f rfl rfl) ?_
          refine W.ok (ok_pick_t rfl h112) ?_
          refine W.mv ?_
          refine W.yes (dj := 121) rfl rfl rfl ?_
          refine W.mv ?_
          refine W.yes (dj := 121) rfl rfl rfl ?_
          refine W.ok (ok_geq rfl rfl) ?_
          refine W.yes (dj := 121) rfl rfl rfl ?_
          refine W.mv ?_
          refine W.sp 124 rfl (fun h123 => ?_) (fun h123 => ?_)
          ·have p123 := of_decide_eq_true h123
           try dsimp only at p123
           exfalso; omega
          ·have p123 := of_decide_eq_false h123
           try dsimp only at p123
           refine W.no (dj := 124) rfl rfl h123 ?_
           refine W.no (dj := 124) rfl rfl h123 ?_
           refine W.no (dj := 124) rfl rfl h123 ?_
           refine W.no (dj := 124) rfl rfl h123 ?_
           refine W.nou (dj := 128) rfl rfl ?_
           refine W.nou (dj := 128) rfl rfl ?_
           refine W.no (dj := 124) rfl rfl h123 ?_
           refine W.yes (dj := 121) rfl rfl rfl ?_
           refine W.ok (ok_pick_f rfl h123) ?_
           refine W.ok (ok_pick_f rfl rfl) ?_
           refine W.nil (thn_n ?_)
           refine WC.cond_f rfl rfl ?_
           refine WC.perm (M' := ((b22, .cells (List.toArray [.int .i64 ((l)[k]).kind, .int .i64 ((l)[k]).n.slot, .int .i64 ((l)[k]).n.level, .slice pa_a19 (((l)[k]).n.pivots).length pc_a19, .slice ka_a19 (((l)[k]).n.kids).length kc_a19, .string ((l)[k]).n.high.b, .bool ((l)[k]).n.top, .int .i64 ((l)[k]).n.right, .int .i64 ((l)[k]).n.seen, .slice ma_a19 (((l)[k]).n.msgs).length mc_a19, .slice ra_a19 (((l)[k]).n.rows).length rc_a19]) 62 (0, 0)) :: ((b1, .cells (List.toArray [.int .i64 cfan, .int .i64 cleaf, .int .i64 cbud, .int .i64 cslots, .int .i64 crest]) 23 (0, 0)) :: (Ms68 ++ (Ms74 ++ []))))) ((((List.Perm.append_left _ ((List.Perm.append_left _ (List.Perm.refl _)).trans (List.Perm.refl _))).trans (pmA (List.Perm.refl _))).cons _).cons _) ?_
           refine WC.skip (thn_n ?_)
           exact ⟨(hG66.trans hG72), (L, Ms68, Ms74), ⟨eqv, eqv, eqv, eqv, eqv, eqv, eqv, eqv, trivial⟩, ⟨rfl, (by exact (StR.mono hG72 hC70)), (by exact hC76), by simp only [List.length_set, List.length_append, List.length_singleton]; omega⟩⟩
         ·have p112 := of_decide_eq_false h112
          try dsimp only at p112
          exfalso; omega
      ·rintro ⟨L2, M_7, M_10⟩ gG78 G78 _ hG78 ⟨rfl, ho_7, ho_10, hL2⟩
       try dsimp only at ho_7 ho_10 hL2
       refine WC.seq ?_
       refine WC.region ?_
       refine W.mv ?_
       refine W.ok (ok_fieldB fd62_1 rfl) ?_
       refine W.ok (ok_fieldB fd35_0 rfl) ?_
       refine W.ok (ok_loadB (i := 0) (vs := [.int .i64 _]) ty3 rfl rfl rfl rfl (by simp)) ?_
       refine W.call (Mp := M_7) (pnodeO_fc ho_7 _) rfl (pmC (pmC (List.Perm.refl _))) ?_
       intro v82 G79 Ms81 hG79 q80
       refine match q80 with | ⟨cs9, Mn9, Ms84, e_85, ⟨pa9, pc9, vk9, ma9, mc9, vr9, Mk9, Mr9, e_86, e_87, h19, h29, h39, h49⟩, hpm9, hC83⟩ => ?_
       subst e_85
       subst e_86
       subst e_87
       have q89 := h29.form
       refine match q89 with | ⟨ka9, kc9, e_88⟩ => ?_
       subst e_88
       have q91 := h49.form
       refine match q91 with | ⟨ra9, rc9, e_90⟩ => ?_
       subst e_90
       rw [List.append_assoc] at hpm9
       have hbr := h49.len47
       have hbk := h29.len47
       refine W.perm (M' := ((b22, .cells (List.toArray [.int .i64 ((l)[k]).kind, .int .i64 ((l)[k]).n.slot, .int .i64 ((l)[k]).n.level, .slice pa_a19 (((l)[k]).n.pivots).length pc_a19, .slice ka_a19 (((l)[k]).n.kids).length kc_a19, .string ((l)[k]).n.high.b, .bool ((l)[k]).n.top, .int .i64 ((l)[k]).n.right, .int .i64 ((l)[k]).n.seen, .slice ma_a19 (((l)[k]).n.msgs).length mc_a19, .slice ra_a19 (((l)[k]).n.rows).length rc_a19]) 62 (0, 0)) :: ((b1, .cells (List.toArray [.int .i64 cfan, .int .i64 cleaf, .int .i64 cbud, .int .i64 cslots, .int .i64 crest]) 23 (0, 0)) :: (Mr9 ++ (Mk9 ++ (Ms84 ++ (M_10 ++ []))))))) ((pmC (pmC ((pmF ((pmF (List.Perm.refl _)).trans (List.Perm.refl _))).trans (List.Perm.refl _)))).symm.trans (hpm9.symm.append_right _)) ?_
       refine W.mv ?_
       refine W.ok (ok_extract rfl rfl) ?_
       refine W.ok (ok_extract rfl rfl) ?_
       refine W.alloc zr35 (fun b92 => ?_)
       refine W.store (i := 0) (vs := [.int .i64 _, .int .i64 _, .slice _ _ _, .slice _ _ _, .string _, .bool _, .int .i64 _, .int .i64 _, .slice _ _ _, .slice _ _ _]) (L' := [.int .i64 _, .int .i64 _, .slice _ _ _, .slice _ _ _, .string _, .bool _, .int .i64 _, .int .i64 _, .slice _ _ _, .slice _ _ _]) ty35 rfl rfl rfl rfl rfl rfl rfl rfl ?_
       refine W.as ?_
       refine W.nil (thn_n ?_)
       refine WC.seq ?_
       refine WC.seq ?_
       refine WC.region ?_
       refine W.ok (ok_fieldB fd35_9 rfl) ?_
       refine W.ok (ok_loadB (i := 0) (vs := [.slice _ _ _]) ty31 rfl rfl rfl rfl (by simp)) ?_
       refine W.ok (ok_lenO sl31 h49 rfl) ?_
       refine W.mv ?_
       refine W.nil (thn_n ?_)
       refine WC.block ?_
       have hN93 : NbR 35 3 71 b92 G79 ((getL L2 ((l)[k]).n.slot).kids.length, (getL L2 ((l)[k]).n.slot).rows.length) ((b92, .cells (List.toArray [.int .i64 (getL L2 ((l)[k]).n.slot).slot, .int .i64 (getL L2 ((l)[k]).n.slot).level, .slice pa9 (getL L2 ((l)[k]).n.slot).pivots.length pc9, .slice ka9 (getL L2 ((l)[k]).n.slot).kids.length kc9, .string (getL L2 ((l)[k]).n.slot).high.b, .bool (getL L2 ((l)[k]).n.slot).top, .int .i64 (getL L2 ((l)[k]).n.slot).right, .int .i64 (getL L2 ((l)[k]).n.slot).seen, .slice ma9 (getL L2 ((l)[k]).n.slot).msgs.length mc9, .slice ra9 (getL L2 ((l)[k]).n.slot).rows.length rc9]) 35 (0, 0)) :: (Mk9 ++ Mr9)) := ⟨_, _, _, _, _, _, _, _, _, _, _, _, _, _, rfl, h29, h49, by first | rfl | simp [*], by first | rfl | simp [*]⟩
       refine WC.perm (M' := ((b22, .cells (List.toArray [.int .i64 ((l)[k]).kind, .int .i64 ((l)[k]).n.slot, .int .i64 ((l)[k]).n.level, .slice pa_a19 (((l)[k]).n.pivots).length pc_a19, .slice ka_a19 (((l)[k]).n.kids).length kc_a19, .string ((l)[k]).n.high.b, .bool ((l)[k]).n.top, .int .i64 ((l)[k]).n.right, .int .i64 ((l)[k]).n.seen, .slice ma_a19 (((l)[k]).n.msgs).length mc_a19, .slice ra_a19 (((l)[k]).n.rows).length rc_a19]) 62 (0, 0)) :: ((b1, .cells (List.toArray [.int .i64 cfan, .int .i64 cleaf, .int .i64 cbud, .int .i64 cslots, .int .i64 crest]) 23 (0, 0)) :: (((b92, .cells (List.toArray [.int .i64 (getL L2 ((l)[k]).n.slot).slot, .int .i64 (getL L2 ((l)[k]).n.slot).level, .slice pa9 (getL L2 ((l)[k]).n.slot).pivots.length pc9, .slice ka9 (getL L2 ((l)[k]).n.slot).kids.length kc9, .string (getL L2 ((l)[k]).n.slot).high.b, .bool (getL L2 ((l)[k]).n.slot).top, .int .i64 (getL L2 ((l)[k]).n.slot).right, .int .i64 (getL L2 ((l)[k]).n.slot).seen, .slice ma9 (getL L2 ((l)[k]).n.slot).msgs.length mc9, .slice ra9 (getL L2 ((l)[k]).n.slot).rows.length rc9]) 35 (0, 0)) :: (Mk9 ++ Mr9)) ++ (Ms84 ++ (M_10 ++ [])))))) ((pmC (pmC (List.Perm.refl _))).symm.trans (((pmC (pmC ((pmF (List.Perm.refl _)).trans (pmA (List.Perm.refl _))))).cons _).trans (List.Perm.refl _))) ?_
       refine WC.loop (X := (Nat) × MH) (fun j => [(145, .int .i64 ((j.1 : Nat) : Int)), (7, .pointer (some ⟨bSt, 0, none⟩)), (10, .pointer (some ⟨bRf, 0, none⟩)), (3, .pointer (some ⟨b1, 0, none⟩)), (12, .pointer (some ⟨b22, 0, none⟩)), (2, .int .i64 slot), (18, .bool (decide (0 ≤ (((l)[k]).n.slot : Int) ∧ (((l)[k]).n.slot : Int) < (L2).length))), (64, .slice sa_l l.length sc_l), (65, .int .i64 (((l).length : Nat) : Int)), (66, .int .i64 ((k : Nat) : Int)), (144, .int .i64 ((((getL L2 ((l)[k]).n.slot).rows).length : Nat) : Int)), (17, .pointer (some ⟨b92, 0, none⟩))]) (fun j G Ml => Ml = ((b22, .cells (List.toArray [.int .i64 ((l)[k]).kind, .int .i64 ((l)[k]).n.slot, .int .i64 ((l)[k]).n.level, .slice pa_a19 (((l)[k]).n.pivots).length pc_a19, .slice ka_a19 (((l)[k]).n.kids).length kc_a19, .string ((l)[k]).n.high.b, .bool ((l)[k]).n.top, .int .i64 ((l)[k]).n.right, .int .i64 ((l)[k]).n.seen, .slice ma_a19 (((l)[k]).n.msgs).length mc_a19, .slice ra_a19 (((l)[k]).n.rows).length rc_a19]) 62 (0, 0)) :: ((b1, .cells (List.toArray [.int .i64 cfan, .int .i64 cleaf, .int .i64 cbud, .int .i64 cslots, .int .i64 crest]) 23 (0, 0)) :: (j.2 ++ (Ms84 ++ (M_10 ++ []))))) ∧ NbR 35 3 71 b92 G (((getL L2 ((l)[k]).n.slot).kids.length, (getL L2 ((l)[k]).n.slot).rows.length)) j.2 ∧ j.1 ≤ (getL L2 ((l)[k]).n.slot).rows.length) (fun j => (getL L2 ((l)[k]).n.slot).rows.length - j.1) (0, ((b92, .cells (List.toArray [.int .i64 (getL L2 ((l)[k]).n.slot).slot, .int .i64 (getL L2 ((l)[k]).n.slot).level, .slice pa9 (getL L2 ((l)[k]).n.slot).pivots.length pc9, .slice ka9 (getL L2 ((l)[k]).n.slot).kids.length kc9, .string (getL L2 ((l)[k]).n.slot).high.b, .bool (getL L2 ((l)[k]).n.slot).top, .int .i64 (getL L2 ((l)[k]).n.slot).right, .int .i64 (getL L2 ((l)[k]).n.slot).seen, .slice ma9 (getL L2 ((l)[k]).n.slot).msgs.length mc9, .slice ra9 (getL L2 ((l)[k]).n.slot).rows.length rc9]) 35 (0, 0)) :: (Mk9 ++ Mr9))) ⟨eqv, eqv, eqv, eqv, eqv, eqv, eqv, eqv, eqv, eqv, eqv, eqv, trivial⟩ ?_ ?_
       ·exact ⟨rfl, (by exact hN93), Nat.zero_le _⟩
       ·rintro ⟨j, M_17⟩ gG94 G94 _ hG94 ⟨rfl, ho_17, hj⟩
        try dsimp only at ho_17 hj
        refine WC.fr (f := setL gG94 [(145, .int .i64 ((j : Nat) : Int)), (7, .pointer (some ⟨bSt, 0, none⟩)), (10, .pointer (some ⟨bRf, 0, none⟩)), (3, .pointer (some ⟨b1, 0, none⟩)), (12, .pointer (some ⟨b22, 0, none⟩)), (2, .int .i64 slot), (18, .bool (decide (0 ≤ (((l)[k]).n.slot : Int) ∧ (((l)[k]).n.slot : Int) < (L2).length))), (64, .slice sa_l l.length sc_l), (65, .int .i64 (((l).length : Nat) : Int)), (66, .int .i64 ((k : Nat) : Int)), (144, .int .i64 ((((getL L2 ((l)[k]).n.slot).rows).length : Nat) : Int)), (17, .pointer (some ⟨b92, 0, none⟩))]) rfl ?_
        refine WC.seq ?_
        refine WC.region ?_
        refine W.ok (ok_lss rfl rfl) ?_
        refine W.nil (thn_n ?_)
        refine WC.seq ?_
        refine WC.cond (b := _) rfl (fun h146 => ?_) (fun h146 => ?_)
        ·have p146 := of_decide_eq_true h146
         try dsimp only at p146
         refine WC.skip (thn_n ?_)
         refine WC.seq ?_
         refine WC.block ?_
         refine WC.seq ?_
         obtain ⟨c0u95, c1u95, c2u95, vku95, c4u95, c5u95, c6u95, c7u95, c8u95, vru95, ksu95, rsu95, Mku95, Mru95, eMu95, hku95, hru95, hklu95, hrlu95⟩ := ho_17
         subst eMu95
         have q97 := hku95.form
         refine match q97 with | ⟨kau95, kcu95, e_96⟩ => ?_
         subst e_96
         have q99 := hru95.form
         refine match q99 with | ⟨rau95, rcu95, e_98⟩ => ?_
         subst e_98
         dsimp only at hklu95 hrlu95
         refine WC.perm (M' := ((b92, .cells (List.toArray [c0u95, c1u95, c2u95, .slice kau95 ksu95.length kcu95, c4u95, c5u95, c6u95, c7u95, c8u95, .slice rau95 rsu95.length rcu95]) 35 (0, 0)) :: ((b22, .cells (List.toArray [.int .i64 ((l)[k]).kind, .int .i64 ((l)[k]).n.slot, .int .i64 ((l)[k]).n.level, .slice pa_a19 (((l)[k]).n.pivots).length pc_a19, .slice ka_a19 (((l)[k]).n.kids).length kc_a19, .string ((l)[k]).n.high.b, .bool ((l)[k]).n.top, .int .i64 ((l)[k]).n.right, .int .i64 ((l)[k]).n.seen, .slice ma_a19 (((l)[k]).n.msgs).length mc_a19, .slice ra_a19 (((l)[k]).n.rows).length rc_a19]) 62 (0, 0)) :: ((b1, .cells (List.toArray [.int .i64 cfan, .int .i64 cleaf, .int .i64 cbud, .int .i64 cslots, .int .i64 crest]) 23 (0, 0)) :: (Mku95 ++ (Mru95 ++ (Ms84 ++ (M_10 ++ [])))))))) (pmD (pmD ((pmF (List.Perm.refl _)).cons _))).symm ?_
         refine WC.region ?_
         refine W.mv ?_
         refine W.as ?_
         refine W.nil (thn_n ?_)
         refine WC.region ?_
         refine W.ok (ok_fieldB fd35_9 rfl) ?_
         refine W.ok (ok_loadB (i := 0) (vs := [.slice _ _ _]) ty31 rfl rfl rfl rfl (by simp)) ?_
         refine W.mv ?_
         have q102 := hru95.at (i := j) (by omega)
         refine match q102 with | ⟨_, he100, e_101⟩ => ?_
         subst e_101
         refine W.ok (ok_indexAddrO (i := j) sl31 ty71 hru95 rfl rfl ⟨by omega, by omega⟩) ?_
         refine W.ok (ok_fieldE fd71_1 rfl he100.form) ?_
         have hjr : j < rsu95.length := by omega
         refine W.storeO (i := j) (o := 1) (vs := [.string _]) (a' := ⟨(rsu95[j]'hjr).key, S_63⟩) ty9 rfl rfl rfl rfl rfl (hru95) (pmC (pmC (pmC (pmA (List.Perm.refl _))))) (by omega) (by decide) (fun cs h => by rw [h]; rfl) (fun Ms103 ho104 => ?_)
         refine W.perm (pmC (pmC (pmC (List.Perm.refl _)))).symm ?_
         refine W.nil (blk_n (thn_n ?_))
         have hN105 : NbR 35 3 71 b92 G94 ((getL L2 ((l)[k]).n.slot).kids.length, (getL L2 ((l)[k]).n.slot).rows.length) ((b92, .cells (List.toArray [c0u95, c1u95, c2u95, .slice kau95 ksu95.length kcu95, c4u95, c5u95, c6u95, c7u95, c8u95, .slice rau95 rsu95.length rcu95]) 35 (0, 0)) :: (Mku95 ++ Ms103)) := ⟨_, _, _, _, _, _, _, _, _, _, _, _, _, _, rfl, hku95, ho104, by first | rfl | simp [*], by first | rfl | simp [*]⟩
         refine WC.perm (M' := ((b22, .cells (List.toArray [.int .i64 ((l)[k]).kind, .int .i64 ((l)[k]).n.slot, .int .i64 ((l)[k]).n.level, .slice pa_a19 (((l)[k]).n.pivots).length pc_a19, .slice ka_a19 (((l)[k]).n.kids).length kc_a19, .string ((l)[k]).n.high.b, .bool ((l)[k]).n.top, .int .i64 ((l)[k]).n.right, .int .i64 ((l)[k]).n.seen, .slice ma_a19 (((l)[k]).n.msgs).length mc_a19, .slice ra_a19 (((l)[k]).n.rows).length rc_a19]) 62 (0, 0)) :: ((b1, .cells (List.toArray [.int .i64 cfan, .int .i64 cleaf, .int .i64 cbud, .int .i64 cslots, .int .i64 crest]) 23 (0, 0)) :: (((b92, .cells (List.toArray [c0u95, c1u95, c2u95, .slice kau95 ksu95.length kcu95, c4u95, c5u95, c6u95, c7u95, c8u95, .slice rau95 rsu95.length rcu95]) 35 (0, 0)) :: (Mku95 ++ Ms103)) ++ (Ms84 ++ (M_10 ++ [])))))) ((pmC (pmC (List.Perm.refl _))).symm.trans (((pmC (pmC ((pmF (List.Perm.refl _)).trans (pmA (List.Perm.refl _))))).cons _).trans (List.Perm.refl _))) ?_
         refine WC.region ?_
         refine W.ok (ok_add rfl rfl (by omega)) ?_
         refine W.mv ?_
         refine W.nil (thn_n ?_)
         exact ⟨Le.rfl, (j + 1, ((b92, .cells (List.toArray [c0u95, c1u95, c2u95, .slice kau95 ksu95.length kcu95, c4u95, c5u95, c6u95, c7u95, c8u95, .slice rau95 rsu95.length rcu95]) 35 (0, 0)) :: (Mku95 ++ Ms103))), ⟨eqv, eqv, eqv, eqv, eqv, eqv, eqv, eqv, eqv, eqv, eqv, eqv, trivial⟩, ⟨rfl, (by exact hN105), by omega⟩, by omega⟩
        ·have p146 := of_decide_eq_false h146
         try dsimp only at p146
         refine WC.exit (thn_x (thn_x (blk_h (thn_n ?_))))
         refine WC.seq ?_
         refine WC.seq ?_
         obtain ⟨c0u106, c1u106, c2u106, vku106, c4u106, c5u106, c6u106, c7u106, c8u106, vru106, ksu106, rsu106, Mku106, Mru106, eMu106, hku106, hru106, hklu106, hrlu106⟩ := ho_17
         subst eMu106
         have q108 := hku106.form
         refine match q108 with | ⟨kau106, kcu106, e_107⟩ => ?_
         subst e_107
         have q110 := hru106.form
         refine match q110 with | ⟨rau106, rcu106, e_109⟩ => ?_
         subst e_109
         dsimp only at hklu106 hrlu106
         refine WC.perm (M' := ((b92, .cells (List.toArray [c0u106, c1u106, c2u106, .slice kau106 ksu106.length kcu106, c4u106, c5u106, c6u106, c7u106, c8u106, .slice rau106 rsu106.length rcu106]) 35 (0, 0)) :: ((b22, .cells (List.toArray [.int .i64 ((l)[k]).kind, .int .i64 ((l)[k]).n.slot, .int .i64 ((l)[k]).n.level, .slice pa_a19 (((l)[k]).n.pivots).length pc_a19, .slice ka_a19 (((l)[k]).n.kids).length kc_a19, .string ((l)[k]).n.high.b, .bool ((l)[k]).n.top, .int .i64 ((l)[k]).n.right, .int .i64 ((l)[k]).n.seen, .slice ma_a19 (((l)[k]).n.msgs).length mc_a19, .slice ra_a19 (((l)[k]).n.rows).length rc_a19]) 62 (0, 0)) :: ((b1, .cells (List.toArray [.int .i64 cfan, .int .i64 cleaf, .int .i64 cbud, .int .i64 cslots, .int .i64 crest]) 23 (0, 0)) :: (Mku106 ++ (Mru106 ++ (Ms84 ++ (M_10 ++ [])))))))) (pmD (pmD ((pmF (List.Perm.refl _)).cons _))).symm ?_
         refine WC.region ?_
         refine W.ok (ok_fieldB fd35_3 rfl) ?_
         refine W.ok (ok_loadB (i := 0) (vs := [.slice _ _ _]) ty30 rfl rfl rfl rfl (by simp)) ?_
         refine W.ok (ok_lenO sl30 hku106 rfl) ?_
         refine W.mv ?_
         refine W.nil (thn_n ?_)
         refine WC.block ?_
         have hN111 : NbR 35 3 71 b92 G94 ((getL L2 ((l)[k]).n.slot).kids.length, (getL L2 ((l)[k]).n.slot).rows.length) ((b92, .cells (List.toArray [c0u106, c1u106, c2u106, .slice kau106 ksu106.length kcu106, c4u106, c5u106, c6u106, c7u106, c8u106, .slice rau106 rsu106.length rcu106]) 35 (0, 0)) :: (Mku106 ++ Mru106)) := ⟨_, _, _, _, _, _, _, _, _, _, _, _, _, _, rfl, hku106, hru106, by first | rfl | simp [*], by first | rfl | simp [*]⟩
         refine WC.perm (M' := ((b22, .cells (List.toArray [.int .i64 ((l)[k]).kind, .int .i64 ((l)[k]).n.slot, .int .i64 ((l)[k]).n.level, .slice pa_a19 (((l)[k]).n.pivots).length pc_a19, .slice ka_a19 (((l)[k]).n.kids).length kc_a19, .string ((l)[k]).n.high.b, .bool ((l)[k]).n.top, .int .i64 ((l)[k]).n.right, .int .i64 ((l)[k]).n.seen, .slice ma_a19 (((l)[k]).n.msgs).length mc_a19, .slice ra_a19 (((l)[k]).n.rows).length rc_a19]) 62 (0, 0)) :: ((b1, .cells (List.toArray [.int .i64 cfan, .int .i64 cleaf, .int .i64 cbud, .int .i64 cslots, .int .i64 crest]) 23 (0, 0)) :: (((b92, .cells (List.toArray [c0u106, c1u106, c2u106, .slice kau106 ksu106.length kcu106, c4u106, c5u106, c6u106, c7u106, c8u106, .slice rau106 rsu106.length rcu106]) 35 (0, 0)) :: (Mku106 ++ Mru106)) ++ (Ms84 ++ (M_10 ++ [])))))) ((pmC (pmC (List.Perm.refl _))).symm.trans (((pmC (pmC ((pmF (List.Perm.refl _)).trans (List.Perm.refl _)))).cons _).trans (List.Perm.refl _))) ?_
         refine WC.loop (X := (Nat) × MH) (fun j => [(157, .int .i64 ((j.1 : Nat) : Int)), (7, .pointer (some ⟨bSt, 0, none⟩)), (10, .pointer (some ⟨bRf, 0, none⟩)), (3, .pointer (some ⟨b1, 0, none⟩)), (12, .pointer (some ⟨b22, 0, none⟩)), (2, .int .i64 slot), (18, .bool (decide (0 ≤ (((l)[k]).n.slot : Int) ∧ (((l)[k]).n.slot : Int) < (L2).length))), (64, .slice sa_l l.length sc_l), (65, .int .i64 (((l).length : Nat) : Int)), (66, .int .i64 ((k : Nat) : Int)), (156, .int .i64 (((ksu106).length : Nat) : Int)), (17, .pointer (some ⟨b92, 0, none⟩))]) (fun j G Ml => Ml = ((b22, .cells (List.toArray [.int .i64 ((l)[k]).kind, .int .i64 ((l)[k]).n.slot, .int .i64 ((l)[k]).n.level, .slice pa_a19 (((l)[k]).n.pivots).length pc_a19, .slice ka_a19 (((l)[k]).n.kids).length kc_a19, .string ((l)[k]).n.high.b, .bool ((l)[k]).n.top, .int .i64 ((l)[k]).n.right, .int .i64 ((l)[k]).n.seen, .slice ma_a19 (((l)[k]).n.msgs).length mc_a19, .slice ra_a19 (((l)[k]).n.rows).length rc_a19]) 62 (0, 0)) :: ((b1, .cells (List.toArray [.int .i64 cfan, .int .i64 cleaf, .int .i64 cbud, .int .i64 cslots, .int .i64 crest]) 23 (0, 0)) :: (j.2 ++ (Ms84 ++ (M_10 ++ []))))) ∧ NbR 35 3 71 b92 G (((getL L2 ((l)[k]).n.slot).kids.length, (getL L2 ((l)[k]).n.slot).rows.length)) j.2 ∧ j.1 ≤ (getL L2 ((l)[k]).n.slot).kids.length) (fun j => (getL L2 ((l)[k]).n.slot).kids.length - j.1) (0, ((b92, .cells (List.toArray [c0u106, c1u106, c2u106, .slice kau106 ksu106.length kcu106, c4u106, c5u106, c6u106, c7u106, c8u106, .slice rau106 rsu106.length rcu106]) 35 (0, 0)) :: (Mku106 ++ Mru106))) ⟨eqv, eqv, eqv, eqv, eqv, eqv, eqv, eqv, eqv, eqv, eqv, eqv, trivial⟩ ?_ ?_
         ·exact ⟨rfl, (by exact hN111), Nat.zero_le _⟩
         ·rintro ⟨j, M_17⟩ gG112 G112 _ hG112 ⟨rfl, ho_17, hj⟩
          try dsimp only at ho_17 hj
          refine WC.fr (f := setL gG112 [(157, .int .i64 ((j : Nat) : Int)), (7, .pointer (some ⟨bSt, 0, none⟩)), (10, .pointer (some ⟨bRf, 0, none⟩)), (3, .pointer (some ⟨b1, 0, none⟩)), (12, .pointer (some ⟨b22, 0, none⟩)), (2, .int .i64 slot), (18, .bool (decide (0 ≤ (((l)[k]).n.slot : Int) ∧ (((l)[k]).n.slot : Int) < (L2).length))), (64, .slice sa_l l.length sc_l), (65, .int .i64 (((l).length : Nat) : Int)), (66, .int .i64 ((k : Nat) : Int)), (156, .int .i64 (((ksu106).length : Nat) : Int)), (17, .pointer (some ⟨b92, 0, none⟩))]) rfl ?_
          refine WC.seq ?_
          refine WC.region ?_
          refine W.ok (ok_lss rfl rfl) ?_
          refine W.nil (thn_n ?_)
          refine WC.seq ?_
          refine WC.cond (b := _) rfl (fun h158 => ?_) (fun h158 => ?_)
          ·have p158 := of_decide_eq_true h158
           try dsimp only at p158
           refine WC.skip (thn_n ?_)
           refine WC.seq ?_
           refine WC.block ?_
           refine WC.seq ?_
           obtain ⟨c0u113, c1u113, c2u113, vku113, c4u113, c5u113, c6u113, c7u113, c8u113, vru113, ksu113, rsu113, Mku113, Mru113, eMu113, hku113, hru113, hklu113, hrlu113⟩ := ho_17
           subst eMu113
           have q115 := hku113.form
           refine match q115 with | ⟨kau113, kcu113, e_114⟩ => ?_
           subst e_114
           have q117 := hru113.form
           refine match q117 with | ⟨rau113, rcu113, e_116⟩ => ?_
           subst e_116
           dsimp only at hklu113 hrlu113
           refine WC.perm (M' := ((b92, .cells (List.toArray [c0u113, c1u113, c2u113, .slice kau113 ksu113.length kcu113, c4u113, c5u113, c6u113, c7u113, c8u113, .slice rau113 rsu113.length rcu113]) 35 (0, 0)) :: ((b22, .cells (List.toArray [.int .i64 ((l)[k]).kind, .int .i64 ((l)[k]).n.slot, .int .i64 ((l)[k]).n.level, .slice pa_a19 (((l)[k]).n.pivots).length pc_a19, .slice ka_a19 (((l)[k]).n.kids).length kc_a19, .string ((l)[k]).n.high.b, .bool ((l)[k]).n.top, .int .i64 ((l)[k]).n.right, .int .i64 ((l)[k]).n.seen, .slice ma_a19 (((l)[k]).n.msgs).length mc_a19, .slice ra_a19 (((l)[k]).n.rows).length rc_a19]) 62 (0, 0)) :: ((b1, .cells (List.toArray [.int .i64 cfan, .int .i64 cleaf, .int .i64 cbud, .int .i64 cslots, .int .i64 crest]) 23 (0, 0)) :: (Mku113 ++ (Mru113 ++ (Ms84 ++ (M_10 ++ [])))))))) (pmD (pmD ((pmF (List.Perm.refl _)).cons _))).symm ?_
           refine WC.region ?_
           refine W.mv ?_
           refine W.as ?_
           refine W.nil (thn_n ?_)
           refine WC.region ?_
           refine W.ok (ok_fieldB fd35_3 rfl) ?_
           refine W.ok (ok_loadB (i := 0) (vs := [.slice _ _ _]) ty30 rfl rfl rfl rfl (by simp)) ?_
           refine W.mv ?_
           have q121 := hku113.at (i := j) (by omega)
           refine match q121 with | ⟨_, he118, ⟨e_120, hi119⟩⟩ => ?_
           subst e_120
           refine W.ok (ok_indexAddrO (i := j) sl30 ty3 hku113 rfl rfl ⟨by omega, by omega⟩) ?_
           refine W.storeO (i := j) (o := 0) (vs := [.int .i64 _]) (a' := (-7)) ty3 rfl rfl rfl rfl rfl (hku113) (pmC (pmC (pmC (List.Perm.refl _)))) (by omega) (by decide) (fun cs h => by rw [h.1]; exact ⟨rfl, by decide, by decide⟩) (fun Ms122 ho123 => ?_)
           refine W.perm (pmC (pmC (pmC (List.Perm.refl _)))).symm ?_
           refine W.nil (blk_n (thn_n ?_))
           have hN124 : NbR 35 3 71 b92 G112 ((getL L2 ((l)[k]).n.slot).kids.length, (getL L2 ((l)[k]).n.slot).rows.length) ((b92, .cells (List.toArray [c0u113, c1u113, c2u113, .slice kau113 ksu113.length kcu113, c4u113, c5u113, c6u113, c7u113, c8u113, .slice rau113 rsu113.length rcu113]) 35 (0, 0)) :: (Ms122 ++ Mru113)) := ⟨_, _, _, _, _, _, _, _, _, _, _, _, _, _, rfl, ho123, hru113, by first | rfl | simp [*], by first | rfl | simp [*]⟩
           refine WC.perm (M' := ((b22, .cells (List.toArray [.int .i64 ((l)[k]).kind, .int .i64 ((l)[k]).n.slot, .int .i64 ((l)[k]).n.level, .slice pa_a19 (((l)[k]).n.pivots).length pc_a19, .slice ka_a19 (((l)[k]).n.kids).length kc_a19, .string ((l)[k]).n.high.b, .bool ((l)[k]).n.top, .int .i64 ((l)[k]).n.right, .int .i64 ((l)[k]).n.seen, .slice ma_a19 (((l)[k]).n.msgs).length mc_a19, .slice ra_a19 (((l)[k]).n.rows).length rc_a19]) 62 (0, 0)) :: ((b1, .cells (List.toArray [.int .i64 cfan, .int .i64 cleaf, .int .i64 cbud, .int .i64 cslots, .int .i64 crest]) 23 (0, 0)) :: (((b92, .cells (List.toArray [c0u113, c1u113, c2u113, .slice kau113 ksu113.length kcu113, c4u113, c5u113, c6u113, c7u113, c8u113, .slice rau113 rsu113.length rcu113]) 35 (0, 0)) :: (Ms122 ++ Mru113)) ++ (Ms84 ++ (M_10 ++ [])))))) ((pmC (pmC (List.Perm.refl _))).symm.trans (((pmC (pmC ((pmF (List.Perm.refl _)).trans (List.Perm.refl _)))).cons _).trans (List.Perm.refl _))) ?_
           refine WC.region ?_
           refine W.ok (ok_add rfl rfl (by omega)) ?_
           refine W.mv ?_
           refine W.nil (thn_n ?_)
           exact ⟨Le.rfl, (j + 1, ((b92, .cells (List.toArray [c0u113, c1u113, c2u113, .slice kau113 ksu113.length kcu113, c4u113, c5u113, c6u113, c7u113, c8u113, .slice rau113 rsu113.length rcu113]) 35 (0, 0)) :: (Ms122 ++ Mru113))), ⟨eqv, eqv, eqv, eqv, eqv, eqv, eqv, eqv, eqv, eqv, eqv, eqv, trivial⟩, ⟨rfl, (by exact hN124), by omega⟩, by omega⟩
          ·have p158 := of_decide_eq_false h158
           try dsimp only at p158
           refine WC.exit (thn_x (thn_x (blk_h (thn_n ?_))))
           refine WC.seq ?_
           refine WC.sub (M' := ((b22, .cells (List.toArray [.int .i64 ((l)[k]).kind, .int .i64 ((l)[k]).n.slot, .int .i64 ((l)[k]).n.level, .slice pa_a19 (((l)[k]).n.pivots).length pc_a19, .slice ka_a19 (((l)[k]).n.kids).length kc_a19, .string ((l)[k]).n.high.b, .bool ((l)[k]).n.top, .int .i64 ((l)[k]).n.right, .int .i64 ((l)[k]).n.seen, .slice ma_a19 (((l)[k]).n.msgs).length mc_a19, .slice ra_a19 (((l)[k]).n.rows).length rc_a19]) 62 (0, 0)) :: ((b1, .cells (List.toArray [.int .i64 cfan, .int .i64 cleaf, .int .i64 cbud, .int .i64 cslots, .int .i64 crest]) 23 (0, 0)) :: (Ms84 ++ (M_10 ++ []))))) ((((List.sublist_append_right _ _)).cons_cons _).cons_cons _) ?_
           refine WC.region ?_
           refine W.mv ?_
           refine W.mv ?_
           refine W.ok (ok_fieldB fd62_1 rfl) ?_
           refine W.ok (ok_fieldB fd35_0 rfl) ?_
           refine W.ok (ok_loadB (i := 0) (vs := [.int .i64 _]) ty3 rfl rfl rfl rfl (by simp)) ?_
           refine W.call (Mp := M_10) (qhas25_fc (RfR.mono ((hG79.trans hG94).trans hG112) ho_10) _) rfl (pmC (pmC (pmA (List.Perm.refl _)))) ?_
           intro v128 G125 Ms127 hG125 q126
           refine match q126 with | ⟨e_130, eeq126⟩ => ?_
           subst e_130
           have eeq126 := eeq126.symm
           subst eeq126
           refine W.perm (pmC (pmC (List.Perm.refl _))).symm ?_
           refine W.ok (ok_neqB bo4 rfl rfl) ?_
           refine W.nil (thn_n ?_)
           refine WC.cond (b := _) rfl (fun h171 => ?_) (fun h171 => ?_)
           ·simp at h171
           ·refine WC.skip (blk_n (thn_n ?_))
            refine WC.region ?_
            refine W.ok (ok_add rfl rfl (by omega)) ?_
            refine W.mv ?_
            refine W.sub ((List.Sublist.refl _).cons _) ?_
            refine W.perm (M' := ((b1, .cells (List.toArray [.int .i64 cfan, .int .i64 cleaf, .int .i64 cbud, .int .i64 cslots, .int .i64 crest]) 23 (0, 0)) :: (Ms84 ++ (M_10 ++ [])))) (((List.Perm.append_left _ ((List.Perm.append_left _ (List.Perm.refl _)).trans (List.Perm.refl _))).trans (pmA (List.Perm.refl _))).cons _) ?_
            refine W.nil (thn_n ?_)
            exact ⟨(((((hG23.trans hG78).trans hG79).trans hG94).trans hG112).trans hG125), (((k + 1, L2) : Nat × List Nd), Ms84, M_10), ⟨eqv, eqv, eqv, eqv, eqv, eqv, eqv, trivial⟩, ⟨rfl, (by exact (StR.mono ((hG94.trans hG112).trans hG125) hC83)), (by exact (RfR.mono (((hG79.trans hG94).trans hG112).trans hG125) ho_10)), by dsimp only; omega, by dsimp only; omega⟩, by dsimp only; omega⟩
    ·have p67 := of_decide_eq_false h67
     try dsimp only at p67
     refine WC.exit (thn_x (thn_x (blk_h (thn_n ?_))))
     refine WC.seq ?_
     refine WC.region ?_
     refine W.mv ?_
     refine W.mv ?_
     refine W.call (Mp := M_7) (pnode_fc ho_7 _) rfl (pmC (List.Perm.refl _)) ?_
     intro v134 G131 Ms133 hG131 q132
     refine match q132 with | ⟨⟨_, e_136, ⟨pa_n8, pc_n8, ka_n8, kc_n8, ma_n8, mc_n8, ra_n8, rc_n8, e_137, hp_n8, hk_n8, hm_n8, hr_n8, hok_n8⟩⟩, eeq132⟩ => ?_
     subst e_136
     subst e_137
     have eeq132 := eeq132.symm
     subst eeq132
     refine W.perm (pmC (List.Perm.refl _)).symm ?_
     refine W.mv ?_
     refine W.ok (ok_extract rfl rfl) ?_
     refine W.ok (ok_extract rfl rfl) ?_
     refine W.alloc zr35 (fun b138 => ?_)
     refine W.store (i := 0) (vs := [.int .i64 _, .int .i64 _, .slice _ _ _, .slice _ _ _, .string _, .bool _, .int .i64 _, .int .i64 _, .slice _ _ _, .slice _ _ _]) (L' := [.int .i64 _, .int .i64 _, .slice _ _ _, .slice _ _ _, .string _, .bool _, .int .i64 _, .int .i64 _, .slice _ _ _, .slice _ _ _]) ty35 rfl rfl rfl rfl rfl rfl rfl rfl ?_
     refine W.as ?_
     refine W.nil (thn_n ?_)
     refine WC.seq ?_
     refine WC.seq ?_
     refine match (RfR.mono hG131 ho_10) with | ⟨vR, MoR, eM_, hoR⟩ => ?_
     subst eM_
     refine WC.perm (M' := ((bRf, .cells (List.toArray [.int .i64 cfan, .int .i64 cleaf, .int .i64 cbud, .int .i64 cslots, .int .i64 crest, vR]) 75 (0, 0)) :: ((b138, .cells (List.toArray [.int .i64 (getL L slot).slot, .int .i64 (getL L slot).level, .slice pa_n8 ((getL L slot).pivots).length pc_n8, .slice ka_n8 ((getL L slot).kids).length kc_n8, .string (getL L slot).high.b, .bool (getL L slot).top, .int .i64 (getL L slot).right, .int .i64 (getL L slot).seen, .slice ma_n8 ((getL L slot).msgs).length mc_n8, .slice ra_n8 ((getL L slot).rows).length rc_n8]) 35 (0, 0)) :: ((b1, .cells (List.toArray [.int .i64 cfan, .int .i64 cleaf, .int .i64 cbud, .int .i64 cslots, .int .i64 crest]) 23 (0, 0)) :: (M_7 ++ (MoR ++ [])))))) (pmD (pmD (pmB (List.Perm.refl _)))).symm ?_
     have q140 := hoR.form
     refine match q140 with | ⟨saR, scR, e_139⟩ => ?_
     subst e_139
     have hle9 := ((StR.mono hG131 ho_7)).2.1
     dsimp only at hle9
     refine WC.drawW _ ((((List.nil_sublist _).cons_cons _).cons_cons _).cons_cons _) mix (by rintro _ _ _ _ ⟨h | h, _⟩ <;> cases h) ?_
     refine WD.take 0 rfl rfl rfl (by kernel_rfl) (by kernel_rfl) (by kernel_rfl) (ok_mv) ?_
     refine WD.take 1 rfl rfl rfl (by kernel_rfl) (by kernel_rfl) (by kernel_rfl) (ok_mv) ?_
     refine WD.take 2 rfl rfl rfl (by kernel_rfl) (by kernel_rfl) (by kernel_rfl) (ok_mv) ?_
     refine WD.any [3] (by kernel_rfl) rfl ⟨⟨_, rfl, rfl, ?_⟩, trivial⟩
     refine W.call (Mp := ((bRf, .cells (List.toArray [.int .i64 cfan, .int .i64 cleaf, .int .i64 cbud, .int .i64 cslots, .int .i64 crest, .slice saR L.length scR]) 75 (0, 0)) :: MoR)) (Mr := ((b138, .cells (List.toArray [.int .i64 (getL L slot).slot, .int .i64 (getL L slot).level, .slice pa_n8 ((getL L slot).pivots).length pc_n8, .slice ka_n8 ((getL L slot).kids).length kc_n8, .string (getL L slot).high.b, .bool (getL L slot).top, .int .i64 (getL L slot).right, .int .i64 (getL L slot).seen, .slice ma_n8 ((getL L slot).msgs).length mc_n8, .slice ra_n8 ((getL L slot).rows).length rc_n8]) 35 (0, 0)) :: ((b1, .cells (List.toArray [.int .i64 cfan, .int .i64 cleaf, .int .i64 cbud, .int .i64 cslots, .int .i64 crest]) 23 (0, 0)) :: (M_7 ++ [])))) (rhas25_fc (c := (⟨cfan, cleaf, cbud, cslots, crest⟩ : Cfg)) hoR _) rfl (((pmC (pmC (pmA (List.Perm.refl _)))).cons _).trans (List.Perm.refl _)) ?_
     intro v144 G141 Ms143 hG141 q142
     refine match q142 with | ⟨e_145, e_146⟩ => ?_
     subst e_145
     subst e_146
     refine W.perm (M' := ((bRf, .cells (List.toArray [.int .i64 cfan, .int .i64 cleaf, .int .i64 cbud, .int .i64 cslots, .int .i64 crest, .slice saR L.length scR]) 75 (0, 0)) :: ((b138, .cells (List.toArray [.int .i64 (getL L slot).slot, .int .i64 (getL L slot).level, .slice pa_n8 ((getL L slot).pivots).length pc_n8, .slice ka_n8 ((getL L slot).kids).length kc_n8, .string (getL L slot).high.b, .bool (getL L slot).top, .int .i64 (getL L slot).right, .int .i64 (getL L slot).seen, .slice ma_n8 ((getL L slot).msgs).length mc_n8, .slice ra_n8 ((getL L slot).rows).length rc_n8]) 35 (0, 0)) :: ((b1, .cells (List.toArray [.int .i64 cfan, .int .i64 cleaf, .int .i64 cbud, .int .i64 cslots, .int .i64 crest]) 23 (0, 0)) :: (MoR ++ (M_7 ++ [])))))) (((pmC (pmC (List.Perm.refl _))).cons _).trans (List.Perm.refl _)).symm ?_
     refine W.nil ⟨hG141, (((List.nil_sublist _).cons_cons _).cons_cons _).cons_cons _, _, (((List.nil_sublist _).cons_cons _).cons_cons _).cons_cons _, List.Sublist.refl _, ?_⟩
     refine WD.take 4 rfl rfl rfl (by kernel_rfl) (by kernel_rfl) (by kernel_rfl) (ok_neqB bo4 rfl rfl) ?_
     refine WD.take 5 rfl rfl rfl (by kernel_rfl) (by kernel_rfl) (by kernel_rfl) (ok_mv) ?_
     refine WD.sp 184 rfl (fun h183 => ?_) (fun h183 => ?_)
     ·simp at h183
     ·refine WD.takeY 6 184 rfl rfl rfl rfl rfl h183 (by kernel_rfl) (by kernel_rfl) (by kernel_rfl) (ok_mv) ?_
      refine WD.takeY 7 184 rfl rfl rfl rfl rfl h183 (by kernel_rfl) (by kernel_rfl) (by kernel_rfl) (ok_mv) ?_
      refine WD.sp 186 rfl (fun hnd8 => ?_) (fun hnd8 => ?_)
      ·have pnd8 := of_decide_eq_true hnd8
       try dsimp only at pnd8
       have h8 : (0 ≤ slot ∧ slot < (L.length : Int)) := by simpa using hnd8
       refine WD.takeY 8 186 rfl rfl rfl rfl rfl hnd8 (by kernel_rfl) (by kernel_rfl) (by kernel_rfl) (ok_loadB (i := 1) (vs := [.int .i64 _, .int .i64 _, .slice _ _ _, .slice _ _ _, .string _, .bool _, .int .i64 _, .int .i64 _, .slice _ _ _, .slice _ _ _]) ty35 rfl rfl rfl rfl (by simp)) ?_
       refine WD.takeY 9 186 rfl rfl rfl rfl rfl hnd8 (by kernel_rfl) (by kernel_rfl) (by kernel_rfl) (ok_mv) ?_
       refine WD.takeY 10 186 rfl rfl rfl rfl rfl hnd8 (by kernel_rfl) (by kernel_rfl) (by kernel_rfl) (ok_nilP rfl) ?_
       refine WD.takeY 11 186 rfl rfl rfl rfl rfl hnd8 (by kernel_rfl) (by kernel_rfl) (by kernel_rfl) (ok_fieldB fd75_1 rfl) ?_
       refine WD.takeY 12 186 rfl rfl rfl rfl rfl hnd8 (by kernel_rfl) (by kernel_rfl) (by kernel_rfl) (ok_loadB (i := 0) (vs := [.slice _ _ _]) ty24 rfl rfl rfl rfl (by simp)) ?_
       refine WD.takeY 13 186 rfl rfl rfl rfl rfl hnd8 (by kernel_rfl) (by kernel_rfl) (by kernel_rfl) (ok_mv) ?_
       have q150 := (hoR.mono hG141).at (i := slot.toNat) (by omega)
       refine match q150 with | ⟨_, he147, ⟨pa_n148, pc_n148, ka_n148, kc_n148, ma_n148, mc_n148, ra_n148, rc_n148, e_149, hp_n148, hk_n148, hm_n148, hr_n148, hok_n148⟩⟩ => ?_
       subst e_149
       refine WD.takeY 14 186 rfl rfl rfl rfl rfl hnd8 (by kernel_rfl) (by kernel_rfl) (by kernel_rfl) (ok_indexAddrO (i := slot.toNat) sl24 ty35 (hoR.mono hG141) rfl rfl ⟨by omega, by omega⟩) ?_
       refine WD.anyG [15] (by kernel_rfl) rfl ⟨⟨_, rfl, .inr ⟨_, 186, _, _, rfl, rfl, rfl, hnd8, rfl⟩, ?_⟩, trivial⟩
       refine W.ok (ok_loadO (vs := [.int .i64 _, .int .i64 _, .slice _ _ _, .slice _ _ _, .string _, .bool _, .int .i64 _, .int .i64 _, .slice _ _ _, .slice _ _ _]) ty35 he147 (pmC (pmC (pmC (List.Perm.refl _)))) rfl rfl rfl (by simp)) ?_
       refine W.nil ⟨Le.rfl, (((List.nil_sublist _).cons_cons _).cons_cons _).cons_cons _, _, (((List.nil_sublist _).cons_cons _).cons_cons _).cons_cons _, List.Sublist.refl _, ?_⟩
       refine WD.anyG [16] (by kernel_rfl) rfl ⟨⟨_, rfl, .inr ⟨_, 186, _, _, rfl, rfl, rfl, hnd8, rfl⟩, ?_⟩, trivial⟩
       refine W.qcall ((nsame3_fc (a := getL L slot) (b := L[slot.toNat]'(by omega)) ⟨_, _, _, _, _, _, _, _, rfl, (hp_n8.mono hG141), (hk_n8.mono hG141), (hm_n8.mono hG141), (hr_n8.mono hG141), hok_n8⟩ ⟨_, _, _, _, _, _, _, _, rfl, hp_n148, hk_n148, hm_n148, hr_n148, hok_n148⟩).mono (fun v _ _ _ hv => hv.trans (congrArg Value.bool (decide_eq_true (getL_in h8))))) rfl ?_
       refine W.nil ⟨Le.rfl, (((List.nil_sublist _).cons_cons _).cons_cons _).cons_cons _, _, (((List.nil_sublist _).cons_cons _).cons_cons _).cons_cons _, List.Sublist.refl _, ?_⟩
       refine WD.takeY 17 186 rfl rfl rfl rfl rfl hnd8 (by kernel_rfl) (by kernel_rfl) (by kernel_rfl) (ok_not rfl) ?_
       refine WD.takeY 18 184 rfl rfl rfl rfl rfl h183 (by kernel_rfl) (by kernel_rfl) (by kernel_rfl) (ok_pick_t rfl hnd8) ?_
       refine WD.take 19 rfl rfl rfl (by kernel_rfl) (by kernel_rfl) (by kernel_rfl) (ok_pick_f rfl h183) ?_
       refine WD.take 20 rfl rfl rfl (by kernel_rfl) (by kernel_rfl) (by kernel_rfl) (ok_mv) ?_
       refine WD.takeY 21 199 rfl rfl rfl rfl rfl rfl (by kernel_rfl) (by kernel_rfl) (by kernel_rfl) (ok_mv) ?_
       refine WD.takeY 22 199 rfl rfl rfl rfl rfl rfl (by kernel_rfl) (by kernel_rfl) (by kernel_rfl) (ok_not rfl) ?_
       refine WD.takeY 23 199 rfl rfl rfl rfl rfl rfl (by kernel_rfl) (by kernel_rfl) (by kernel_rfl) (ok_mv) ?_
       refine WD.takeN 24 202 rfl rfl rfl rfl rfl (congrArg not hnd8) (by kernel_rfl) (by kernel_rfl) (by kernel_rfl) ?_
       refine WD.takeN 25 202 rfl rfl rfl rfl rfl (congrArg not hnd8) (by kernel_rfl) (by kernel_rfl) (by kernel_rfl) ?_
       refine WD.takeN 26 202 rfl rfl rfl rfl rfl (congrArg not hnd8) (by kernel_rfl) (by kernel_rfl) (by kernel_rfl) ?_
       refine WD.takeN 27 202 rfl rfl rfl rfl rfl (congrArg not hnd8) (by kernel_rfl) (by kernel_rfl) (by kernel_rfl) ?_
       refine WD.takeY 28 199 rfl rfl rfl rfl rfl rfl (by kernel_rfl) (by kernel_rfl) (by kernel_rfl) (ok_pick_f rfl (congrArg not hnd8)) ?_
       refine WD.take 29 rfl rfl rfl (by kernel_rfl) (by kernel_rfl) (by kernel_rfl) (ok_pick_f rfl rfl) ?_
       refine WD.done (by kernel_rfl) (thn_n ?_)
       refine WC.cond_f rfl rfl ?_
       refine WC.skip (thn_n ?_)
       refine WC.seq ?_
       refine WC.drawW _ ((((List.nil_sublist _).cons_cons _).cons_cons _).cons_cons _) mix (by rintro _ _ _ _ ⟨h | h, _⟩ <;> cases h) ?_
       refine WD.take 0 rfl rfl rfl (by kernel_rfl) (by kernel_rfl) (by kernel_rfl) (ok_mv) ?_
       refine WD.take 2 rfl rfl rfl (by kernel_rfl) (by kernel_rfl) (by kernel_rfl) (ok_mv) ?_
       refine WD.take 3 rfl rfl rfl (by kernel_rfl) (by kernel_rfl) (by kernel_rfl) (ok_nilP rfl) ?_
       refine WD.take 4 rfl rfl rfl (by kernel_rfl) (by kernel_rfl) (by kernel_rfl) (ok_fieldB fd75_1 rfl) ?_
       refine WD.take 5 rfl rfl rfl (by kernel_rfl) (by kernel_rfl) (by kernel_rfl) (ok_loadB (i := 0) (vs := [.slice _ _ _]) ty24 rfl rfl rfl rfl (by simp)) ?_
       refine WD.any [1] (by kernel_rfl) rfl ⟨⟨_, rfl, rfl, ?_⟩, trivial⟩
       refine W.call (Mp := M_7) (pnodes_fc (StR.mono (hG131.trans hG141) ho_7)) rfl (pmC (pmC (pmC (pmA (List.Perm.refl _))))) ?_
       intro v154 G151 Ms153 hG151 q152
       refine match q152 with | ⟨hR155, eeq152⟩ => ?_
       have eeq152 := eeq152.symm
       subst eeq152
       refine W.perm (pmC (pmC (pmC (List.Perm.refl _)))).symm ?_
       have q157 := hR155.form
       refine match q157 with | ⟨sa_hR155, sc_hR155, e_156⟩ => ?_
       subst e_156
       refine W.nil ⟨hG151, (((List.nil_sublist _).cons_cons _).cons_cons _).cons_cons _, _, (((List.nil_sublist _).cons_cons _).cons_cons _).cons_cons _, List.Sublist.refl _, ?_⟩
       refine WD.any [6] (by kernel_rfl) rfl ⟨⟨_, rfl, rfl, ?_⟩, trivial⟩
       refine W.giveO (hoR.mono (hG141.trans hG151)) (pmC (pmC (pmC (pmA (List.Perm.refl _))))) (fun G158 hG158 hv158 => ?_)
       refine W.qcall ((all21_fc (hR155.mono hG158) hv158).mono (fun v _ _ _ hv => hv.trans (congrArg Value.bool (decide_eq_true rfl)))) rfl ?_
       refine W.nil ⟨hG158, (((List.nil_sublist _).cons_cons _).cons_cons _).cons_cons _, _, (((List.nil_sublist _).cons_cons _).cons_cons _).cons_cons _, List.Sublist.refl _, ?_⟩
       refine WD.take 7 rfl rfl rfl (by kernel_rfl) (by kernel_rfl) (by kernel_rfl) (ok_mv) ?_
       refine WD.takeY 8 216 rfl rfl rfl rfl rfl rfl (by kernel_rfl) (by kernel_rfl) (by kernel_rfl) (ok_mv) ?_
       refine WD.takeY 10 216 rfl rfl rfl rfl rfl rfl (by kernel_rfl) (by kernel_rfl) (by kernel_rfl) (ok_mv) ?_
       refine WD.takeY 11 216 rfl rfl rfl rfl rfl rfl (by kernel_rfl) (by kernel_rfl) (by kernel_rfl) (ok_nilP rfl) ?_
       refine WD.takeY 12 216 rfl rfl rfl rfl rfl rfl (by kernel_rfl) (by kernel_rfl) (by kernel_rfl) (ok_fieldB fd75_1 rfl) ?_
       refine WD.takeY 13 216 rfl rfl rfl rfl rfl rfl (by kernel_rfl) (by kernel_rfl) (by kernel_rfl) (ok_loadB (i := 0) (vs := [.slice _ _ _]) ty24 rfl rfl rfl rfl (by simp)) ?_
       refine WD.takeY 14 216 rfl rfl rfl rfl rfl rfl (by kernel_rfl) (by kernel_rfl) (by kernel_rfl) (ok_lenO sl24 (hoR.mono ((hG141.trans hG151).trans hG158)) rfl) ?_
       refine WD.anyG [9] (by kernel_rfl) rfl ⟨⟨_, rfl, .inr ⟨_, 216, _, _, rfl, rfl, rfl, rfl, rfl⟩, ?_⟩, trivial⟩
       refine W.call (Mp := M_7) (pused_fc (StR.mono (((hG131.trans hG141).trans hG151).trans hG158) ho_7)) rfl (pmC (pmC (pmC (List.Perm.refl _)))) ?_
       intro v162 G159 Ms161 hG159 q160
       refine match q160 with | ⟨e_164, eeq160⟩ => ?_
       subst e_164
       have eeq160 := eeq160.symm
       subst eeq160
       refine W.perm (pmC (pmC (pmC (List.Perm.refl _)))).symm ?_
       refine W.nil ⟨hG159, (((List.nil_sublist _).cons_cons _).cons_cons _).cons_cons _, _, (((List.nil_sublist _).cons_cons _).cons_cons _).cons_cons _, List.Sublist.refl _, ?_⟩
       refine WD.takeY 15 216 rfl rfl rfl rfl rfl rfl (by kernel_rfl) (by kernel_rfl) (by kernel_rfl) (ok_eql rfl rfl) ?_
       refine WD.take 16 rfl rfl rfl (by kernel_rfl) (by kernel_rfl) (by kernel_rfl) (ok_pick_t rfl rfl) ?_
       refine WD.take 17 rfl rfl rfl (by kernel_rfl) (by kernel_rfl) (by kernel_rfl) (ok_mv) ?_
       refine WD.sp 226 rfl (fun h224 => ?_) (fun h224 => ?_)
       ·have p224 := of_decide_eq_true h224
        try dsimp only at p224
        refine WD.takeY 18 226 rfl rfl rfl rfl rfl h224 (by kernel_rfl) (by kernel_rfl) (by kernel_rfl) (ok_mv) ?_
        refine WD.takeY 20 226 rfl rfl rfl rfl rfl h224 (by kernel_rfl) (by kernel_rfl) (by kernel_rfl) (ok_fieldB fd23_3 rfl) ?_
        refine WD.takeY 21 226 rfl rfl rfl rfl rfl h224 (by kernel_rfl) (by kernel_rfl) (by kernel_rfl) (ok_loadB (i := 2) (vs := [.int .i64 _]) ty3 rfl rfl rfl rfl (by simp)) ?_
        refine WD.takeY 22 226 rfl rfl rfl rfl rfl h224 (by kernel_rfl) (by kernel_rfl) (by kernel_rfl) (ok_mv) ?_
        refine WD.takeY 23 226 rfl rfl rfl rfl rfl h224 (by kernel_rfl) (by kernel_rfl) (by kernel_rfl) (ok_nilP rfl) ?_
        refine WD.takeY 24 226 rfl rfl rfl rfl rfl h224 (by kernel_rfl) (by kernel_rfl) (by kernel_rfl) (ok_fieldB fd75_1 rfl) ?_
        refine WD.takeY 25 226 rfl rfl rfl rfl rfl h224 (by kernel_rfl) (by kernel_rfl) (by kernel_rfl) (ok_loadB (i := 0) (vs := [.slice _ _ _]) ty24 rfl rfl rfl rfl (by simp)) ?_
        refine WD.takeY 26 226 rfl rfl rfl rfl rfl h224 (by kernel_rfl) (by kernel_rfl) (by kernel_rfl) (ok_lenO sl24 (hoR.mono (((hG141.trans hG151).trans hG158).trans hG159)) rfl) ?_
        refine WD.takeY 27 226 rfl rfl rfl rfl rfl h224 (by kernel_rfl) (by kernel_rfl) (by kernel_rfl) (ok_sub rfl rfl (by omega)) ?_
        refine WD.anyG [19] (by kernel_rfl) rfl ⟨⟨_, rfl, .inr ⟨_, 226, _, _, rfl, rfl, rfl, h224, rfl⟩, ?_⟩, trivial⟩
        refine W.call (Mp := M_7) (proom_fc (StR.mono ((((hG131.trans hG141).trans hG151).trans hG158).trans hG159) ho_7)) rfl (pmC (pmC (pmC (List.Perm.refl _)))) ?_
        intro v168 G165 Ms167 hG165 q166
        refine match q166 with | ⟨e_170, eeq166⟩ => ?_
        subst e_170
        have eeq166 := eeq166.symm
        subst eeq166
        refine W.perm (pmC (pmC (pmC (List.Perm.refl _)))).symm ?_
        refine W.nil ⟨hG165, (((List.nil_sublist _).cons_cons _).cons_cons _).cons_cons _, _, (((List.nil_sublist _).cons_cons _).cons_cons _).cons_cons _, List.Sublist.refl _, ?_⟩
        refine WD.takeY 28 226 rfl rfl rfl rfl rfl h224 (by kernel_rfl) (by kernel_rfl) (by kernel_rfl) (ok_eql rfl rfl) ?_
        refine WD.take 29 rfl rfl rfl (by kernel_rfl) (by kernel_rfl) (by kernel_rfl) (ok_pick_t rfl h224) ?_
        refine WD.take 30 rfl rfl rfl (by kernel_rfl) (by kernel_rfl) (by kernel_rfl) (ok_mv) ?_
        refine WD.sp 239 rfl (fun h237 => ?_) (fun h237 => ?_)
        ·have p237 := of_decide_eq_true h237
         try dsimp only at p237
         refine WD.takeY 31 239 rfl rfl rfl rfl rfl h237 (by kernel_rfl) (by kernel_rfl) (by kernel_rfl) (ok_mv) ?_
         refine WD.takeY 33 239 rfl rfl rfl rfl rfl h237 (by kernel_rfl) (by kernel_rfl) (by kernel_rfl) (ok_loadB (i := 2) (vs := [.int .i64 _, .int .i64 _, .int .i64 _, .int .i64 _, .int .i64 _]) ty23 rfl rfl rfl rfl (by simp)) ?_
         refine WD.anyG [32] (by kernel_rfl) rfl ⟨⟨_, rfl, .inr ⟨_, 239, _, _, rfl, rfl, rfl, h237, rfl⟩, ?_⟩, trivial⟩
         refine W.call (Mp := M_7) (pconfig_fc (StR.mono (((((hG131.trans hG141).trans hG151).trans hG158).trans hG159).trans hG165) ho_7)) rfl (pmC (pmC (pmC (List.Perm.refl _)))) ?_
         intro v174 G171 Ms173 hG171 q172
         refine match q172 with | ⟨e_176, eeq172⟩ => ?_
         subst e_176
         have eeq172 := eeq172.symm
         subst eeq172
         refine W.perm (pmC (pmC (pmC (List.Perm.refl _)))).symm ?_
         refine W.nil ⟨hG171, (((List.nil_sublist _).cons_cons _).cons_cons _).cons_cons _, _, (((List.nil_sublist _).cons_cons _).cons_cons _).cons_cons _, List.Sublist.refl _, ?_⟩
         refine WD.takeY 34 239 rfl rfl rfl rfl rfl h237 (by kernel_rfl) (by kernel_rfl) (by kernel_rfl) (ok_eqlA (L1 := [.int .i64 _, .int .i64 _, .int .i64 _, .int .i64 _, .int .i64 _]) (L2 := [.int .i64 _, .int .i64 _, .int .i64 _, .int .i64 _, .int .i64 _]) eq23 rfl rfl rfl rfl) ?_
         refine WD.take 35 rfl rfl rfl (by kernel_rfl) (by kernel_rfl) (by kernel_rfl) (ok_pick_t rfl h237) ?_
         refine WD.take 36 rfl rfl rfl (by kernel_rfl) (by kernel_rfl) (by kernel_rfl) (ok_mv) ?_
         refine WD.sp 245 rfl (fun h243 => ?_) (fun h243 => ?_)
         ·refine WD.anyG [37] (by kernel_rfl) rfl ⟨⟨_, rfl, .inr ⟨_, 245, _, _, rfl, rfl, rfl, h243, rfl⟩, ?_⟩, trivial⟩
          refine W.qcall (awk25_fc) rfl ?_
          refine W.nil ⟨Le.rfl, (((List.nil_sublist _).cons_cons _).cons_cons _).cons_cons _, _, (((List.nil_sublist _).cons_cons _).cons_cons _).cons_cons _, List.Sublist.refl _, ?_⟩
          refine WD.take 38 rfl rfl rfl (by kernel_rfl) (by kernel_rfl) (by kernel_rfl) (ok_pick_t rfl h243) ?_
          refine WD.take 39 rfl rfl rfl (by kernel_rfl) (by kernel_rfl) (by kernel_rfl) (ok_as) ?_
          refine WD.done (by kernel_rfl) (thn_n ?_)
          refine WC.ret ?_
          refine ⟨.inr rfl, [_], ⟨rfl, trivial⟩, [], List.nil_sublist _, ?_⟩
          rfl
         ·simp [eqCells] at h243
        ·have p237 := of_decide_eq_false h237
         try dsimp only at p237
         exfalso; omega
       ·have p224 := of_decide_eq_false h224
        try dsimp only at p224
        exfalso; omega
      ·have pnd8 := of_decide_eq_false hnd8
       try dsimp only at pnd8
       have h8 : ¬ (0 ≤ slot ∧ slot < (L.length : Int)) := by simp at hnd8; omega
       refine WD.takeN 8 186 rfl rfl rfl rfl rfl hnd8 (by kernel_rfl) (by kernel_rfl) (by kernel_rfl) ?_
       refine WD.takeN 9 186 rfl rfl rfl rfl rfl hnd8 (by kernel_rfl) (by kernel_rfl) (by kernel_rfl) ?_
       refine WD.takeN 10 186 rfl rfl rfl rfl rfl hnd8 (by kernel_rfl) (by kernel_rfl) (by kernel_rfl) ?_
       refine WD.takeN 11 186 rfl rfl rfl rfl rfl hnd8 (by kernel_rfl) (by kernel_rfl) (by kernel_rfl) ?_
       refine WD.takeN 12 186 rfl rfl rfl rfl rfl hnd8 (by kernel_rfl) (by kernel_rfl) (by kernel_rfl) ?_
       refine WD.takeN 13 186 rfl rfl rfl rfl rfl hnd8 (by kernel_rfl) (by kernel_rfl) (by kernel_rfl) ?_
       refine WD.takeN 14 186 rfl rfl rfl rfl rfl hnd8 (by kernel_rfl) (by kernel_rfl) (by kernel_rfl) ?_
       refine WD.takeN 15 186 rfl rfl rfl rfl rfl hnd8 (by kernel_rfl) (by kernel_rfl) (by kernel_rfl) ?_
       refine WD.takeN 16 186 rfl rfl rfl rfl rfl hnd8 (by kernel_rfl) (by kernel_rfl) (by kernel_rfl) ?_
       refine WD.takeN 17 186 rfl rfl rfl rfl rfl hnd8 (by kernel_rfl) (by kernel_rfl) (by kernel_rfl) ?_
       refine WD.takeY 18 184 rfl rfl rfl rfl rfl h183 (by kernel_rfl) (by kernel_rfl) (by kernel_rfl) (ok_pick_f rfl hnd8) ?_
       refine WD.take 19 rfl rfl rfl (by kernel_rfl) (by kernel_rfl) (by kernel_rfl) (ok_pick_f rfl h183) ?_
       refine WD.take 20 rfl rfl rfl (by kernel_rfl) (by kernel_rfl) (by kernel_rfl) (ok_mv) ?_
       refine WD.takeY 21 199 rfl rfl rfl rfl rfl rfl (by kernel_rfl) (by kernel_rfl) (by kernel_rfl) (ok_mv) ?_
       refine WD.takeY 22 199 rfl rfl rfl rfl rfl rfl (by kernel_rfl) (by kernel_rfl) (by kernel_rfl) (ok_not rfl) ?_
       refine WD.takeY 23 199 rfl rfl rfl rfl rfl rfl (by kernel_rfl) (by kernel_rfl) (by kernel_rfl) (ok_mv) ?_
       refine WD.takeY 24 202 rfl rfl rfl rfl rfl (congrArg not hnd8) (by kernel_rfl) (by kernel_rfl) (by kernel_rfl) (ok_loadB (i := 1) (vs := [.int .i64 _, .int .i64 _, .slice _ _ _, .slice _ _ _, .string _, .bool _, .int .i64 _, .int .i64 _, .slice _ _ _, .slice _ _ _]) ty35 rfl rfl rfl rfl (by simp)) ?_
       refine WD.takeY 25 202 rfl rfl rfl rfl rfl (congrArg not hnd8) (by kernel_rfl) (by kernel_rfl) (by kernel_rfl) (ok_build (L := [.int .i64 _, .int .i64 _, .slice _ _ _, .slice _ _ _, .string _, .bool _, .int .i64 _, .int .i64 _, .slice _ _ _, .slice _ _ _]) pl35 zr35 rfl rfl rfl) ?_
       refine WD.anyG [26] (by kernel_rfl) rfl ⟨⟨_, rfl, .inr ⟨_, 202, _, _, rfl, rfl, rfl, (congrArg not hnd8), rfl⟩, ?_⟩, trivial⟩
       refine W.qcall ((nsame3_fc (a := getL L slot) (b := Nd.zero) ⟨_, _, _, _, _, _, _, _, rfl, (hp_n8.mono hG141), (hk_n8.mono hG141), (hm_n8.mono hG141), (hr_n8.mono hG141), hok_n8⟩ ⟨_, _, _, _, _, _, _, _, rfl, SlR.nil, SlR.nil, SlR.nil, SlR.nil, Nd.zero_ok⟩).mono (fun v _ _ _ hv => hv.trans (congrArg Value.bool (decide_eq_true (getL_out h8))))) rfl ?_
       refine W.nil ⟨Le.rfl, (((List.nil_sublist _).cons_cons _).cons_cons _).cons_cons _, _, (((List.nil_sublist _).cons_cons _).cons_cons _).cons_cons _, List.Sublist.refl _, ?_⟩
       refine WD.takeY 27 202 rfl rfl rfl rfl rfl (congrArg not hnd8) (by kernel_rfl) (by kernel_rfl) (by kernel_rfl) (ok_not rfl) ?_
       refine WD.takeY 28 199 rfl rfl rfl rfl rfl rfl (by kernel_rfl) (by kernel_rfl) (by kernel_rfl) (ok_pick_t rfl (congrArg not hnd8)) ?_
       refine WD.take 29 rfl rfl rfl (by kernel_rfl) (by kernel_rfl) (by kernel_rfl) (ok_pick_f rfl rfl) ?_
       refine WD.done (by kernel_rfl) (thn_n ?_)
       refine WC.cond_f rfl rfl ?_
       refine WC.skip (thn_n ?_)
       refine WC.seq ?_
       refine WC.drawW _ ((((List.nil_sublist _).cons_cons _).cons_cons _).cons_cons _) mix (by rintro _ _ _ _ ⟨h | h, _⟩ <;> cases h) ?_
       refine WD.take 0 rfl rfl rfl (by kernel_rfl) (by kernel_rfl) (by kernel_rfl) (ok_mv) ?_
       refine WD.take 2 rfl rfl rfl (by kernel_rfl) (by kernel_rfl) (by kernel_rfl) (ok_mv) ?_
       refine WD.take 3 rfl rfl rfl (by kernel_rfl) (by kernel_rfl) (by kernel_rfl) (ok_nilP rfl) ?_
       refine WD.take 4 rfl rfl rfl (by kernel_rfl) (by kernel_rfl) (by kernel_rfl) (ok_fieldB fd75_1 rfl) ?_
       refine WD.take 5 rfl rfl rfl (by kernel_rfl) (by kernel_rfl) (by kernel_rfl) (ok_loadB (i := 0) (vs := [.slice _ _ _]) ty24 rfl rfl rfl rfl (by simp)) ?_
       refine WD.any [1] (by kernel_rfl) rfl ⟨⟨_, rfl, rfl, ?_⟩, trivial⟩
       refine W.call (Mp := M_7) (pnodes_fc (StR.mono (hG131.trans hG141) ho_7)) rfl (pmC (pmC (pmC (pmA (List.Perm.refl _))))) ?_
       intro v180 G177 Ms179 hG177 q178
       refine match q178 with | ⟨hR181, eeq178⟩ => ?_
       have eeq178 := eeq178.symm
       subst eeq178
       refine W.perm (pmC (pmC (pmC (List.Perm.refl _)))).symm ?_
       have q183 := hR181.form
       refine match q183 with | ⟨sa_hR181, sc_hR181, e_182⟩ => ?_
       subst e_182
       refine W.nil ⟨hG177, (((List.nil_sublist _).cons_cons _).cons_cons _).cons_cons _, _, (((List.nil_sublist _).cons_cons _).cons_cons _).cons_cons _, List.Sublist.refl _, ?_⟩
       refine WD.any [6] (by kernel_rfl) rfl ⟨⟨_, rfl, rfl, ?_⟩, trivial⟩
       refine W.giveO (hoR.mono (hG141.trans hG177)) (pmC (pmC (pmC (pmA (List.Perm.refl _))))) (fun G184 hG184 hv184 => ?_)
       refine W.qcall ((all21_fc (hR181.mono hG184) hv184).mono (fun v _ _ _ hv => hv.trans (congrArg Value.bool (decide_eq_true rfl)))) rfl ?_
       refine W.nil ⟨hG184, (((List.nil_sublist _).cons_cons _).cons_cons _).cons_cons _, _, (((List.nil_sublist _).cons_cons _).cons_cons _).cons_cons _, List.Sublist.refl _, ?_⟩
       refine WD.take 7 rfl rfl rfl (by kernel_rfl) (by kernel_rfl) (by kernel_rfl) (ok_mv) ?_
       refine WD.takeY 8 216 rfl rfl rfl rfl rfl rfl (by kernel_rfl) (by kernel_rfl) (by kernel_rfl) (ok_mv) ?_
       refine WD.takeY 10 216 rfl rfl rfl rfl rfl rfl (by kernel_rfl) (by kernel_rfl) (by kernel_rfl) (ok_mv) ?_
       refine WD.takeY 11 216 rfl rfl rfl rfl rfl rfl (by kernel_rfl) (by kernel_rfl) (by kernel_rfl) (ok_nilP rfl) ?_
       refine WD.takeY 12 216 rfl rfl rfl rfl rfl rfl (by kernel_rfl) (by kernel_rfl) (by kernel_rfl) (ok_fieldB fd75_1 rfl) ?_
       refine WD.takeY 13 216 rfl rfl rfl rfl rfl rfl (by kernel_rfl) (by kernel_rfl) (by kernel_rfl) (ok_loadB (i := 0) (vs := [.slice _ _ _]) ty24 rfl rfl rfl rfl (by simp)) ?_
       refine WD.takeY 14 216 rfl rfl rfl rfl rfl rfl (by kernel_rfl) (by kernel_rfl) (by kernel_rfl) (ok_lenO sl24 (hoR.mono ((hG141.trans hG177).trans hG184)) rfl) ?_
       refine WD.anyG [9] (by kernel_rfl) rfl ⟨⟨_, rfl, .inr ⟨_, 216, _, _, rfl, rfl, rfl, rfl, rfl⟩, ?_⟩, trivial⟩
       refine W.call (Mp := M_7) (pused_fc (StR.mono (((hG131.trans hG141).trans hG177).trans hG184) ho_7)) rfl (pmC (pmC (pmC (List.Perm.refl _)))) ?_
       intro v188 G185 Ms187 hG185 q186
       refine match q186 with | ⟨e_190, eeq186⟩ => ?_
       subst e_190
       have eeq186 := eeq186.symm
       subst eeq186
       refine W.perm (pmC (pmC (pmC (List.Perm.refl _)))).symm ?_
       refine W.nil ⟨hG185, (((List.nil_sublist _).cons_cons _).cons_cons _).cons_cons _, _, (((List.nil_sublist _).cons_cons _).cons_cons _).cons_cons _, List.Sublist.refl _, ?_⟩
       refine WD.takeY 15 216 rfl rfl rfl rfl rfl rfl (by kernel_rfl) (by kernel_rfl) (by kernel_rfl) (ok_eql rfl rfl) ?_
       refine WD.take 16 rfl rfl rfl (by kernel_rfl) (by kernel_rfl) (by kernel_rfl) (ok_pick_t rfl rfl) ?_
       refine WD.take 17 rfl rfl rfl (by kernel_rfl) (by kernel_rfl) (by kernel_rfl) (ok_mv) ?_
       refine WD.sp 226 rfl (fun h224 => ?_) (fun h224 => ?_)
       ·have p224 := of_decide_eq_true h224
        try dsimp only at p224
        refine WD.takeY 18 226 rfl rfl rfl rfl rfl h224 (by kernel_rfl) (by kernel_rfl) (by kernel_rfl) (ok_mv) ?_
        refine WD.takeY 20 226 rfl rfl rfl rfl rfl h224 (by kernel_rfl) (by kernel_rfl) (by kernel_rfl) (ok_fieldB fd23_3 rfl) ?_
        refine WD.takeY 21 226 rfl rfl rfl rfl rfl h224 (by kernel_rfl) (by kernel_rfl) (by kernel_rfl) (ok_loadB (i := 2) (vs := [.int .i64 _]) ty3 rfl rfl rfl rfl (by simp)) ?_
        refine WD.takeY 22 226 rfl rfl rfl rfl rfl h224 (by kernel_rfl) (by kernel_rfl) (by kernel_rfl) (ok_mv) ?_
        refine WD.takeY 23 226 rfl rfl rfl rfl rfl h224 (by kernel_rfl) (by kernel_rfl) (by kernel_rfl) (ok_nilP rfl) ?_
        refine WD.takeY 24 226 rfl rfl rfl rfl rfl h224 (by kernel_rfl) (by kernel_rfl) (by kernel_rfl) (ok_fieldB fd75_1 rfl) ?_
        refine WD.takeY 25 226 rfl rfl rfl rfl rfl h224 (by kernel_rfl) (by kernel_rfl) (by kernel_rfl) (ok_loadB (i := 0) (vs := [.slice _ _ _]) ty24 rfl rfl rfl rfl (by simp)) ?_
        refine WD.takeY 26 226 rfl rfl rfl rfl rfl h224 (by kernel_rfl) (by kernel_rfl) (by kernel_rfl) (ok_lenO sl24 (hoR.mono (((hG141.trans hG177).trans hG184).trans hG185)) rfl) ?_
        refine WD.takeY 27 226 rfl rfl rfl rfl rfl h224 (by kernel_rfl) (by kernel_rfl) (by kernel_rfl) (ok_sub rfl rfl (by omega)) ?_
        refine WD.anyG [19] (by kernel_rfl) rfl ⟨⟨_, rfl, .inr ⟨_, 226, _, _, rfl, rfl, rfl, h224, rfl⟩, ?_⟩, trivial⟩
        refine W.call (Mp := M_7) (proom_fc (StR.mono ((((hG131.trans hG141).trans hG177).trans hG184).trans hG185) ho_7)) rfl (pmC (pmC (pmC (List.Perm.refl _)))) ?_
        intro v194 G191 Ms193 hG191 q192
        refine match q192 with | ⟨e_196, eeq192⟩ => ?_
        subst e_196
        have eeq192 := eeq192.symm
        subst eeq192
        refine W.perm (pmC (pmC (pmC (List.Perm.refl _)))).symm ?_
        refine W.nil ⟨hG191, (((List.nil_sublist _).cons_cons _).cons_cons _).cons_cons _, _, (((List.nil_sublist _).cons_cons _).cons_cons _).cons_cons _, List.Sublist.refl _, ?_⟩
        refine WD.takeY 28 226 rfl rfl rfl rfl rfl h224 (by kernel_rfl) (by kernel_rfl) (by kernel_rfl) (ok_eql rfl rfl) ?_
        refine WD.take 29 rfl rfl rfl (by kernel_rfl) (by kernel_rfl) (by kernel_rfl) (ok_pick_t rfl h224) ?_
        refine WD.take 30 rfl rfl rfl (by kernel_rfl) (by kernel_rfl) (by kernel_rfl) (ok_mv) ?_
        refine WD.sp 239 rfl (fun h237 => ?_) (fun h237 => ?_)
        ·have p237 := of_decide_eq_true h237
         try dsimp only at p237
         refine WD.takeY 31 239 rfl rfl rfl rfl rfl h237 (by kernel_rfl) (by kernel_rfl) (by kernel_rfl) (ok_mv) ?_
         refine WD.takeY 33 239 rfl rfl rfl rfl rfl h237 (by kernel_rfl) (by kernel_rfl) (by kernel_rfl) (ok_loadB (i := 2) (vs := [.int .i64 _, .int .i64 _, .int .i64 _, .int .i64 _, .int .i64 _]) ty23 rfl rfl rfl rfl (by simp)) ?_
         refine WD.anyG [32] (by kernel_rfl) rfl ⟨⟨_, rfl, .inr ⟨_, 239, _, _, rfl, rfl, rfl, h237, rfl⟩, ?_⟩, trivial⟩
         refine W.call (Mp := M_7) (pconfig_fc (StR.mono (((((hG131.trans hG141).trans hG177).trans hG184).trans hG185).trans hG191) ho_7)) rfl (pmC (pmC (pmC (List.Perm.refl _)))) ?_
         intro v200 G197 Ms199 hG197 q198
         refine match q198 with | ⟨e_202, eeq198⟩ => ?_
         subst e_202
         have eeq198 := eeq198.symm
         subst eeq198
         refine W.perm (pmC (pmC (pmC (List.Perm.refl _)))).symm ?_
         refine W.nil ⟨hG197, (((List.nil_sublist _).cons_cons _).cons_cons _).cons_cons _, _, (((List.nil_sublist _).cons_cons _).cons_cons _).cons_cons _, List.Sublist.refl _, ?_⟩
         refine WD.takeY 34 239 rfl rfl rfl rfl rfl h237 (by kernel_rfl) (by kernel_rfl) (by kernel_rfl) (ok_eqlA (L1 := [.int .i64 _, .int .i64 _, .int .i64 _, .int .i64 _, .int .i64 _]) (L2 := [.int .i64 _, .int .i64 _, .int .i64 _, .int .i64 _, .int .i64 _]) eq23 rfl rfl rfl rfl) ?_
         refine WD.take 35 rfl rfl rfl (by kernel_rfl) (by kernel_rfl) (by kernel_rfl) (ok_pick_t rfl h237) ?_
         refine WD.take 36 rfl rfl rfl (by kernel_rfl) (by kernel_rfl) (by kernel_rfl) (ok_mv) ?_
         refine WD.sp 245 rfl (fun h243 => ?_) (fun h243 => ?_)
         ·refine WD.anyG [37] (by kernel_rfl) rfl ⟨⟨_, rfl, .inr ⟨_, 245, _, _, rfl, rfl, rfl, h243, rfl⟩, ?_⟩, trivial⟩
          refine W.qcall (awk25_fc) rfl ?_
          refine W.nil ⟨Le.rfl, (((List.nil_sublist _).cons_cons _).cons_cons _).cons_cons _, _, (((List.nil_sublist _).cons_cons _).cons_cons _).cons_cons _, List.Sublist.refl _, ?_⟩
          refine WD.take 38 rfl rfl rfl (by kernel_rfl) (by kernel_rfl) (by kernel_rfl) (ok_pick_t rfl h243) ?_
          refine WD.take 39 rfl rfl rfl (by kernel_rfl) (by kernel_rfl) (by kernel_rfl) (ok_as) ?_
          refine WD.done (by kernel_rfl) (thn_n ?_)
          refine WC.ret ?_
          refine ⟨.inr rfl, [_], ⟨rfl, trivial⟩, [], List.nil_sublist _, ?_⟩
          rfl
         ·simp [eqCells] at h243
        ·have p237 := of_decide_eq_false h237
         try dsimp only at p237
         exfalso; omega
       ·have p224 := of_decide_eq_false h224
        try dsimp only at p224
        exfalso; omega

end Go.Proofs.Ytmbafmifalppaaa
