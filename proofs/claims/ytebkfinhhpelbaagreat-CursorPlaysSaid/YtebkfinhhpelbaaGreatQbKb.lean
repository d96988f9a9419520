/- The law CursorPlays is walked. -/
import Derived.Test.YtebkfinhhpelbaaGreatQbVa
set_option maxRecDepth 100000
set_option maxHeartbeats 1600000
set_option linter.unusedVariables false
set_option linter.unusedSimpArgs false
set_option linter.unnecessarySimpa false
namespace Go.Proofs.YtebkfinhhpelbaaGreat
open Go Go.Fw Go.RowKit
theorem cursorPlays_fc {G : GH} (cfan : Int) (cleaf : Int) (cbud : Int) (cslots : Int) (crest : Int) {v_l : Value} {l : List Nd} (h_l : SlR eNode G v_l l) {v_acts : Value} {acts : List Act54} (h_acts : SlR eAct54 G v_acts acts) :
    Fc Tryz.prog 5 [.agg #[.int .i64 cfan, .int .i64 cleaf, .int .i64 cbud, .int .i64 cslots, .int .i64 crest], v_l, v_acts] G [] (fun v _ _ => v = .bool (true)) := by
 obtain ⟨sa_l, sc_l, rfl⟩ := h_l.form
 obtain ⟨sa_acts, sc_acts, rfl⟩ := h_acts.form
 have hl := h_l.len47
 have hal := h_acts.len47
 refine Fc.intro (rs := [.tmp 6]) cl5 Tryz.func5 rfl Tryz.ntmps5 rfl rfl (fun w0 => ?_)
 refine WC.seq ?_
 refine WC.region ?_
 refine W.box (L := [.int .i64 _, .int .i64 _, .int .i64 _, .int .i64 _, .int .i64 _]) rfl rfl (fun b1 => ?_)
 refine W.as ?_
 refine W.nil (thn_n ?_)
 refine WC.seq ?_
 refine WC.seq ?_
 refine WC.region ?_
 refine W.ok (ok_loadB (i := 0) (vs := [.int .i64 _, .int .i64 _, .int .i64 _, .int .i64 _, .int .i64 _]) ty23 rfl rfl rfl rfl (by simp)) ?_
 refine W.mv ?_
 refine W.qcall (tree_fc _ _ _ _ _ h_l _ (by omega)) rfl ?_
 refine W.ok (ok_not rfl) ?_
 refine W.mv ?_
 refine W.sp 21 rfl (fun h20 => ?_) (fun h20 => ?_)
 ·refine W.no (dj := 21) rfl rfl h20 ?_
  refine W.no (dj := 21) rfl rfl h20 ?_
  refine W.no (dj := 21) rfl rfl h20 ?_
  refine W.ok (ok_pick_t rfl h20) ?_
  refine W.nil (thn_n ?_)
  refine WC.cond_t rfl rfl ?_
  refine WC.seq ?_
  refine WC.region ?_
  refine W.qcall (awk54_fc) rfl ?_
  refine W.as ?_
  refine W.nil (thn_n ?_)
  refine WC.ret (thn_r ?_)
  refine ⟨.inr rfl, [_], ⟨rfl, trivial⟩, [], List.nil_sublist _, ?_⟩
  rfl
 ·refine W.yes (dj := 21) rfl rfl h20 ?_
  refine W.mv ?_
  refine W.yes (dj := 21) rfl rfl h20 ?_
  refine W.ok (ok_len sl59 h_acts rfl) ?_
  refine W.yes (dj := 21) rfl rfl h20 ?_
  refine W.ok (ok_gtr rfl rfl) ?_
  refine W.ok (ok_pick_f rfl h20) ?_
  refine W.nil (thn_n ?_)
  refine WC.cond (b := _) rfl (fun h24 => ?_) (fun h24 => ?_)
  ·have p24 := of_decide_eq_true h24
   try dsimp only at p24
   refine WC.seq ?_
   refine WC.region ?_
   refine W.qcall (awk54_fc) rfl ?_
   refine W.as ?_
   refine W.nil (thn_n ?_)
   refine WC.ret (thn_r ?_)
   refine ⟨.inr rfl, [_], ⟨rfl, trivial⟩, [], List.nil_sublist _, ?_⟩
   rfl
  ·have p24 := of_decide_eq_false h24
   try dsimp only at p24
   have t20 : treeN (⟨cfan, cleaf, cbud, cslots, crest⟩ : Cfg) l 40 = true := by simpa using h20
   obtain ⟨ss, t⟩ := tree_of t20 (by omega : (40 : Int) ≤ 100)
   have hL := t.lvF
   have hmp : mapN l = ((leavesS ss).flatMap viewS) := mapN_t t.sts
   have htp : (totP (leavesS ss)) = (mapN l).length := by unfold totP; rw [hmp]
   have hml := t.map_small
   have hPm := t.mapFits
   refine WC.skip (thn_n ?_)
   refine WC.seq ?_
   refine WC.region ?_
   refine W.mv ?_
   refine W.call (Mp := []) (map27_fc h_l _ _ t) rfl (List.Perm.refl _) ?_
   intro _ G2 _ hG2 q4
   refine match q4 with | ⟨e_5, _, e_6, hv3⟩ => ?_
   subst e_5
   subst e_6
   have q8 := hv3.form
   refine match q8 with | ⟨sa_hv3, sc_hv3, e_7⟩ => ?_
   subst e_7
   refine W.as ?_
   refine W.nil (thn_n ?_)
   refine WC.seq ?_
   refine WC.region ?_
   refine W.mv ?_
   refine W.call (Mp := []) (cnew_fc (h_l.mono hG2) _ _ t) rfl (List.Perm.refl _) ?_
   intro v12 G9 Ms11 hG9 q10
   refine match q10 with | ⟨bc14, e_15, hC13⟩ => ?_
   subst e_15
   refine W.perm (pmC (List.Perm.refl _)).symm ?_
   refine W.as ?_
   refine W.nil (thn_n ?_)
   refine WC.seq ?_
   refine WC.region ?_
   refine W.as ?_
   refine W.nil (thn_n ?_)
   refine WC.seq ?_
   refine WC.seq ?_
   refine WC.region ?_
   refine W.mv ?_
   refine W.ok (ok_len sl59 (h_acts.mono (hG2.trans hG9)) rfl) ?_
   refine W.mv ?_
   refine W.nil (thn_n ?_)
   refine WC.block ?_
   refine WC.loop (X := (Nat × Option Nat) × MH) (fun y => [(9, .int .i64 (qI y.1.2)), (33, .int .i64 ((y.1.1 : Nat) : Int)), (7, .slice sa_hv3 (mapN l).length sc_hv3), (31, .slice sa_acts acts.length sc_acts), (32, .int .i64 (((acts).length : Nat) : Int)), (8, .pointer (some ⟨bc14, 0, none⟩))]) (fun y G Ml => Ml = ((b1, .cells (List.toArray [.int .i64 cfan, .int .i64 cleaf, .int .i64 cbud, .int .i64 cslots, .int .i64 crest]) 23 (0, 0)) :: (y.2 ++ [])) ∧ CuR 124 130 bc14 (leavesS ss) G (y.1.2) y.2 ∧ y.1.1 ≤ acts.length ∧ ∀ f, y.1.2 = some f → f < (totP (leavesS ss))) (fun y => acts.length - y.1.1) (((0, none) : Nat × Option Nat), Ms11) ⟨eqv, eqv, eqv, eqv, eqv, eqv, trivial⟩ ?_ ?_
   ·exact ⟨rfl, (by exact hC13), Nat.zero_le _, fun f hf => by cases hf⟩
   ·rintro ⟨⟨i, q⟩, M_8⟩ gG16 G16 _ hG16 ⟨rfl, ho_8, hi, hq⟩
    try dsimp only at ho_8 hi hq
    have hqr := qI_rng hq
    refine WC.fr (f := setL gG16 [(9, .int .i64 (qI q)), (33, .int .i64 ((i : Nat) : Int)), (7, .slice sa_hv3 (mapN l).length sc_hv3), (31, .slice sa_acts acts.length sc_acts), (32, .int .i64 (((acts).length : Nat) : Int)), (8, .pointer (some ⟨bc14, 0, none⟩))]) rfl ?_
    refine WC.seq ?_
    refine WC.region ?_
    refine W.ok (ok_lss rfl rfl) ?_
    refine W.nil (thn_n ?_)
    refine WC.seq ?_
    refine WC.cond (b := _) rfl (fun h34 => ?_) (fun h34 => ?_)
    ·have p34 := of_decide_eq_true h34
     try dsimp only at p34
     refine WC.skip (thn_n ?_)
     refine WC.seq ?_
     refine WC.block ?_
     refine WC.seq ?_
     refine WC.region ?_
     have q20 := (h_acts.mono ((hG2.trans hG9).trans hG16)).at (i := i) (by omega)
     refine match q20 with | ⟨_, he17, ⟨e_19, hqa_ha18, hqb_ha18⟩⟩ => ?_
     subst e_19
     refine W.ok (ok_indexAddr (i := i) sl59 ty63 (h_acts.mono ((hG2.trans hG9).trans hG16)) rfl rfl ⟨by omega, by omega⟩) ?_
     refine W.ok (ok_loadE (vs := [.int .i64 _, .string _, .int .i64 _]) ty63 he17 rfl rfl rfl (by simp)) ?_
     refine W.alloc zr63 (fun b21 => ?_)
     refine W.store (i := 0) (vs := [.int .i64 _, .string _, .int .i64 _]) (L' := [.int .i64 _, .string _, .int .i64 _]) ty63 rfl rfl rfl rfl rfl rfl rfl rfl ?_
     refine W.nil (thn_n ?_)
     refine WC.seq ?_
     refine WC.seq ?_
     refine WC.region ?_
     refine W.ok (ok_fieldB fd63_1 rfl) ?_
     refine W.ok (ok_loadB (i := 0) (vs := [.string _]) ty9 rfl rfl rfl rfl (by simp)) ?_
     refine W.ok (ok_lenS st9 rfl) ?_
     refine W.ok (ok_gtr rfl rfl) ?_
     refine W.nil (thn_n ?_)
     refine WC.cond (b := _) rfl (fun h40 => ?_) (fun h40 => ?_)
     ·have p40 := of_decide_eq_true h40
      try dsimp only at p40
      refine WC.seq ?_
      refine WC.region ?_
      refine W.qcall (awk54_fc) rfl ?_
      refine W.as ?_
      refine W.nil (thn_n ?_)
      refine WC.ret (thn_r (blk_r (thn_r (thn_r (blk_r (thn_r ?_))))))
      refine ⟨.inr rfl, [_], ⟨rfl, trivial⟩, [], List.nil_sublist _, ?_⟩
      rfl
     ·have p40 := of_decide_eq_false h40
      try dsimp only at p40
      have hfn := fndN_le (mapN l) ((acts)[i]).key
      refine WC.skip (thn_n ?_)
      refine WC.seq ?_
      refine WC.region ?_
      refine W.mv ?_
      refine W.as ?_
      refine W.nil (thn_n ?_)
      refine WC.seq ?_
      refine WC.region ?_
      refine W.as ?_
      refine W.nil (thn_n ?_)
      refine WC.join (X := (Option Nat × Int) × MH) (fun z => [(12, .int .i64 z.1.2), (13, .bool z.1.1.isSome), (7, .slice sa_hv3 (mapN l).length sc_hv3), (31, .slice sa_acts acts.length sc_acts), (32, .int .i64 (((acts).length : Nat) : Int)), (33, .int .i64 ((i : Nat) : Int)), (8, .pointer (some ⟨bc14, 0, none⟩))]) (fun z G Ml => Ml = ((b21, .cells (List.toArray [.int .i64 ((acts)[i]).kind, .string ((acts)[i]).key.b, .int .i64 ((acts)[i]).n]) 63 (0, 0)) :: ((b1, .cells (List.toArray [.int .i64 cfan, .int .i64 cleaf, .int .i64 cbud, .int .i64 cslots, .int .i64 crest]) 23 (0, 0)) :: (z.2 ++ []))) ∧ CuR 124 130 bc14 (leavesS ss) G (z.1.1) z.2 ∧ WantP (totP (leavesS ss)) z.1.1 z.1.2) ?_ ?_
      ·refine WC.seq ?_
       refine WC.region ?_
       refine W.ok (ok_fieldB fd63_0 rfl) ?_
       refine W.ok (ok_loadB (i := 0) (vs := [.int .i64 _]) ty3 rfl rfl rfl rfl (by simp)) ?_
       refine W.ok (ok_convW un3 un64 rfl) ?_
       refine W.ok (ok_rem rfl rfl (by decide)) ?_
       refine W.nil (thn_n ?_)
       refine WC.block ?_
       refine WC.seq ?_
       refine WC.seq ?_
       refine WC.region ?_
       refine W.ok (ok_eql rfl rfl) ?_
       refine W.as ?_
       refine W.nil (thn_n ?_)
       refine WC.cond (b := _) rfl (fun h83 => ?_) (fun h83 => ?_)
       ·have p83 := of_decide_eq_true h83
        try dsimp only at p83
        refine WC.skip (thn_n ?_)
        refine WC.cond_t rfl h83 ?_
        refine WC.seq ?_
        refine WC.region ?_
        refine W.mv ?_
        refine W.ok (ok_fieldB fd63_1 rfl) ?_
        refine W.ok (ok_loadB (i := 0) (vs := [.string _]) ty9 rfl rfl rfl rfl (by simp)) ?_
        refine W.qcall (less14_fc (hv3.mono (hG9.trans hG16)) ((acts)[i]).key) rfl ?_
        refine W.as ?_
        refine W.nil (thn_n ?_)
        refine WC.region ?_
        refine W.mv ?_
        refine W.ok (ok_fieldB fd63_1 rfl) ?_
        refine W.ok (ok_loadB (i := 0) (vs := [.string _]) ty9 rfl rfl rfl rfl (by simp)) ?_
        refine W.call (Mp := M_8) (cseekq_fc ho_8 hL ((acts)[i]).key) rfl (pmC (pmC (List.Perm.refl _))) ?_
        intro v25 G22 Ms24 hG22 q23
        rw [← hmp] at q23
        refine match q23 with | ⟨e_27, hC26⟩ => ?_
        subst e_27
        refine W.perm (pmC (pmC (List.Perm.refl _))).symm ?_
        refine W.as ?_
        refine W.nil (blk_n (thn_n ?_))
        exact ⟨hG22, ((((fwdN (totP (leavesS ss)) (fndN (mapN l) ((acts)[i]).key)), (((fndN (mapN l) (((acts)[i]).key)) : Nat) : Int)) : Option Nat × Int), Ms24), ⟨rfl, rfl, eqv, eqv, eqv, eqv, eqv, trivial⟩, ⟨rfl, (by exact hC26), (by have h9 := want_fwd (T := (totP (leavesS ss))) (f := fndN (mapN l) ((acts)[i]).key); exact h9)⟩⟩
       ·have p83 := of_decide_eq_false h83
        try dsimp only at p83
        refine WC.region ?_
        refine W.ok (ok_eql rfl rfl) ?_
        refine W.as ?_
        refine W.nil (thn_n ?_)
        refine WC.cond (b := _) rfl (fun h84 => ?_) (fun h84 => ?_)
        ·have p84 := of_decide_eq_true h84
         try dsimp only at p84
         refine WC.seq ?_
         refine WC.region ?_
         refine W.mv ?_
         refine W.ok (ok_fieldB fd63_1 rfl) ?_
         refine W.ok (ok_loadB (i := 0) (vs := [.string _]) ty9 rfl rfl rfl rfl (by simp)) ?_
         refine W.qcall (less14_fc (hv3.mono (hG9.trans hG16)) ((acts)[i]).key) rfl ?_
         refine W.as ?_
         refine W.nil (thn_n ?_)
         refine WC.region ?_
         refine W.mv ?_
         refine W.ok (ok_fieldB fd63_1 rfl) ?_
         refine W.ok (ok_loadB (i := 0) (vs := [.string _]) ty9 rfl rfl rfl rfl (by simp)) ?_
         refine W.call (Mp := M_8) (cseekq_fc ho_8 hL ((acts)[i]).key) rfl (pmC (pmC (List.Perm.refl _))) ?_
         intro v31 G28 Ms30 hG28 q29
         rw [← hmp] at q29
         refine match q29 with | ⟨e_33, hC32⟩ => ?_
         subst e_33
         refine W.perm (pmC (pmC (List.Perm.refl _))).symm ?_
         refine W.as ?_
         refine W.nil (blk_n (thn_n ?_))
         exact ⟨hG28, ((((fwdN (totP (leavesS ss)) (fndN (mapN l) ((acts)[i]).key)), (((fndN (mapN l) (((acts)[i]).key)) : Nat) : Int)) : Option Nat × Int), Ms30), ⟨rfl, rfl, eqv, eqv, eqv, eqv, eqv, trivial⟩, ⟨rfl, (by exact hC32), (by have h9 := want_fwd (T := (totP (leavesS ss))) (f := fndN (mapN l) ((acts)[i]).key); exact h9)⟩⟩
        ·have p84 := of_decide_eq_false h84
         try dsimp only at p84
         refine WC.seq ?_
         refine WC.region ?_
         refine W.ok (ok_eql rfl rfl) ?_
         refine W.as ?_
         refine W.nil (thn_n ?_)
         refine WC.cond (b := _) rfl (fun h94 => ?_) (fun h94 => ?_)
         ·have p94 := of_decide_eq_true h94
          try dsimp only at p94
          refine WC.seq ?_
          refine WC.region ?_
          refine W.mv ?_
          refine W.ok (ok_fieldB fd63_1 rfl) ?_
          refine W.ok (ok_loadB (i := 0) (vs := [.string _]) ty9 rfl rfl rfl rfl (by simp)) ?_
          refine W.qcall (less14_fc (hv3.mono (hG9.trans hG16)) ((acts)[i]).key) rfl ?_
          refine W.ok (ok_sub rfl rfl (by omega)) ?_
          refine W.as ?_
          refine W.nil (thn_n ?_)
          refine WC.region ?_
          refine W.mv ?_
          refine W.ok (ok_fieldB fd63_1 rfl) ?_
          refine W.ok (ok_loadB (i := 0) (vs := [.string _]) ty9 rfl rfl rfl rfl (by simp)) ?_
          refine W.call (Mp := M_8) (cbeforeq_fc ho_8 hL ((acts)[i]).key) rfl (pmC (pmC (List.Perm.refl _))) ?_
          intro v37 G34 Ms36 hG34 q35
          rw [← hmp] at q35
          refine match q35 with | ⟨e_39, hC38⟩ => ?_
          subst e_39
          refine W.perm (pmC (pmC (List.Perm.refl _))).symm ?_
          refine W.as ?_
          refine W.nil (blk_n (thn_n ?_))
          exact ⟨hG34, ((((bwdN (fndN (mapN l) ((acts)[i]).key)), (((((fndN (mapN l) (((acts)[i]).key)) : Nat) : Int)) - (1))) : Option Nat × Int), Ms36), ⟨rfl, rfl, eqv, eqv, eqv, eqv, eqv, trivial⟩, ⟨rfl, (by exact hC38), (by have h8 := fndN_le (mapN l) ((acts)[i]).key; exact want_bwd (by rw [htp]; exact h8))⟩⟩
         ·have p94 := of_decide_eq_false h94
          try dsimp only at p94
          refine WC.seq ?_
          refine WC.seq ?_
          refine WC.region ?_
          refine W.ok (ok_eql rfl rfl) ?_
          refine W.as ?_
          refine W.nil (thn_n ?_)
          refine WC.cond (b := _) rfl (fun h105 => ?_) (fun h105 => ?_)
          ·have p105 := of_decide_eq_true h105
           try dsimp only at p105
           refine WC.skip (thn_n ?_)
           refine WC.cond_t rfl h105 ?_
           refine WC.seq ?_
           refine WC.seq ?_
           refine WC.region ?_
           refine W.mv ?_
           refine W.ok (ok_geq rfl rfl) ?_
           refine W.nil (thn_n ?_)
           refine WC.cond (b := _) rfl (fun h108 => ?_) (fun h108 => ?_)
           ·have p108 := of_decide_eq_true h108
            try dsimp only at p108
            obtain ⟨f, rfl, hf⟩ := qI_pos hq p108
            have hqi : qI (some f) = (f : Int) := rfl
            refine WC.region ?_
            refine W.mv ?_
            refine W.ok (ok_add rfl rfl (by omega)) ?_
            refine W.as ?_
            refine W.nil (thn_n ?_)
            refine WC.region ?_
            refine W.mv ?_
            refine W.call (Mp := M_8) (cnext_fc ho_8 hL) rfl (pmC (pmC (List.Perm.refl _))) ?_
            intro v43 G40 Ms42 hG40 q41
            rw [show nxtN (totP (leavesS ss)) (some f) = fwdN (totP (leavesS ss)) (f + 1) from rfl] at q41
            refine match q41 with | ⟨e_45, hC44⟩ => ?_
            subst e_45
            refine W.perm (pmC (pmC (List.Perm.refl _))).symm ?_
            refine W.as ?_
            refine W.nil (blk_n (thn_n ?_))
            exact ⟨hG40, ((((fwdN (totP (leavesS ss)) (f + 1)), ((((f : Nat) : Int)) + (1))) : Option Nat × Int), Ms42), ⟨rfl, rfl, eqv, eqv, eqv, eqv, eqv, trivial⟩, ⟨rfl, (by exact hC44), (by have h9 := want_fwd (T := (totP (leavesS ss))) (f := f + 1); exact h9)⟩⟩
           ·have p108 := of_decide_eq_false h108
            try dsimp only at p108
            obtain rfl := qI_neg hq p108
            have hqi : qI none = -1 := rfl
            refine WC.skip (thn_n ?_)
            refine WC.region ?_
            refine W.mv ?_
            refine W.call (Mp := M_8) (cnext_fc ho_8 hL) rfl (pmC (pmC (List.Perm.refl _))) ?_
            intro v49 G46 Ms48 hG46 q47
            rw [show nxtN (totP (leavesS ss)) none = none from rfl] at q47
            refine match q47 with | ⟨e_51, hC50⟩ => ?_
            subst e_51
            refine W.perm (pmC (pmC (List.Perm.refl _))).symm ?_
            refine W.as ?_
            refine W.nil (blk_n (thn_n ?_))
            exact ⟨hG46, (((none, (-1)) : Option Nat × Int), Ms48), ⟨rfl, rfl, eqv, eqv, eqv, eqv, eqv, trivial⟩, ⟨rfl, (by exact hC50), want_none⟩⟩
          ·have p105 := of_decide_eq_false h105
           try dsimp only at p105
           refine WC.region ?_
           refine W.ok (ok_eql rfl rfl) ?_
           refine W.as ?_
           refine W.nil (thn_n ?_)
           refine WC.cond (b := _) rfl (fun h106 => ?_) (fun h106 => ?_)
           ·have p106 := of_decide_eq_true h106
            try dsimp only at p106
            refine WC.seq ?_
            refine WC.seq ?_
            refine WC.region ?_
            refine W.mv ?_
            refine W.ok (ok_geq rfl rfl) ?_
            refine W.nil (thn_n ?_)
            refine WC.cond (b := _) rfl (fun h108 => ?_) (fun h108 => ?_)
            ·have p108 := of_decide_eq_true h108
             try dsimp only at p108
             obtain ⟨f, rfl, hf⟩ := qI_pos hq p108
             have hqi : qI (some f) = (f : Int) := rfl
             refine WC.region ?_
             refine W.mv ?_
             refine W.ok (ok_add rfl rfl (by omega)) ?_
             refine W.as ?_
             refine W.nil (thn_n ?_)
             refine WC.region ?_
             refine W.mv ?_
             refine W.call (Mp := M_8) (cnext_fc ho_8 hL) rfl (pmC (pmC (List.Perm.refl _))) ?_
             intro v55 G52 Ms54 hG52 q53
             rw [show nxtN (totP (leavesS ss)) (some f) = fwdN (totP (leavesS ss)) (f + 1) from rfl] at q53
             refine match q53 with | ⟨e_57, hC56⟩ => ?_
             subst e_57
             refine W.perm (pmC (pmC (List.Perm.refl _))).symm ?_
             refine W.as ?_
             refine W.nil (blk_n (thn_n ?_))
             exact ⟨hG52, ((((fwdN (totP (leavesS ss)) (f + 1)), ((((f : Nat) : Int)) + (1))) : Option Nat × Int), Ms54), ⟨rfl, rfl, eqv, eqv, eqv, eqv, eqv, trivial⟩, ⟨rfl, (by exact hC56), (by have h9 := want_fwd (T := (totP (leavesS ss))) (f := f + 1); exact h9)⟩⟩
            ·have p108 := of_decide_eq_false h108
             try dsimp only at p108
             obtain rfl := qI_neg hq p108
             have hqi : qI none = -1 := rfl
             refine WC.skip (thn_n ?_)
             refine WC.region ?_
             refine W.mv ?_
             refine W.call (Mp := M_8) (cnext_fc ho_8 hL) rfl (pmC (pmC (List.Perm.refl _))) ?_
             intro v61 G58 Ms60 hG58 q59
             rw [show nxtN (totP (leavesS ss)) none = none from rfl] at q59
             refine match q59 with | ⟨e_63, hC62⟩ => ?_
             subst e_63
             refine W.perm (pmC (pmC (List.Perm.refl _))).symm ?_
             refine W.as ?_
             refine W.nil (blk_n (thn_n ?_))
             exact ⟨hG58, (((none, (-1)) : Option Nat × Int), Ms60), ⟨rfl, rfl, eqv, eqv, eqv, eqv, eqv, trivial⟩, ⟨rfl, (by exact hC62), want_none⟩⟩
           ·have p106 := of_decide_eq_false h106
            try dsimp only at p106
            refine WC.seq ?_
            refine WC.seq ?_
            refine WC.region ?_
            refine W.ok (ok_eql rfl rfl) ?_
            refine W.as ?_
            refine W.nil (thn_n ?_)
            refine WC.cond (b := _) rfl (fun h114 => ?_) (fun h114 => ?_)
            ·have p114 := of_decide_eq_true h114
             try dsimp only at p114
             refine WC.skip (thn_n ?_)
             refine WC.cond_t rfl h114 ?_
             refine WC.seq ?_
             refine WC.region ?_
             refine W.mv ?_
             refine W.ok (ok_sub rfl rfl (by omega)) ?_
             refine W.ok (ok_maxi rfl rfl) ?_
             refine W.as ?_
             refine W.nil (thn_n ?_)
             refine WC.region ?_
             refine W.mv ?_
             refine W.call (Mp := M_8) (cprev_fc ho_8 hL) rfl (pmC (pmC (List.Perm.refl _))) ?_
             intro v67 G64 Ms66 hG64 q65
             refine match q65 with | ⟨e_69, hR68⟩ => ?_
             subst e_69
             refine W.perm (pmC (pmC (List.Perm.refl _))).symm ?_
             refine W.as ?_
             refine W.nil (blk_n (thn_n ?_))
             exact ⟨hG64, ((((prvN q), _) : Option Nat × Int), Ms66), ⟨rfl, rfl, eqv, eqv, eqv, eqv, eqv, trivial⟩, ⟨rfl, (by exact hR68), want_prv hq⟩⟩
            ·have p114 := of_decide_eq_false h114
             try dsimp only at p114
             refine WC.region ?_
             refine W.ok (ok_eql rfl rfl) ?_
             refine W.as ?_
             refine W.nil (thn_n ?_)
             refine WC.cond (b := _) rfl (fun h115 => ?_) (fun h115 => ?_)
             ·have p115 := of_decide_eq_true h115
              try dsimp only at p115
              refine WC.seq ?_
              refine WC.region ?_
              refine W.mv ?_
              refine W.ok (ok_sub rfl rfl (by omega)) ?_
              refine W.ok (ok_maxi rfl rfl) ?_
              refine W.as ?_
              refine W.nil (thn_n ?_)
              refine WC.region ?_
              refine W.mv ?_
              refine W.call (Mp := M_8) (cprev_fc ho_8 hL) rfl (pmC (pmC (List.Perm.refl _))) ?_
              intro v73 G70 Ms72 hG70 q71
              refine match q71 with | ⟨e_75, hR74⟩ => ?_
              subst e_75
              refine W.perm (pmC (pmC (List.Perm.refl _))).symm ?_
              refine W.as ?_
              refine W.nil (blk_n (thn_n ?_))
              exact ⟨hG70, ((((prvN q), _) : Option Nat × Int), Ms72), ⟨rfl, rfl, eqv, eqv, eqv, eqv, eqv, trivial⟩, ⟨rfl, (by exact hR74), want_prv hq⟩⟩
             ·have p115 := of_decide_eq_false h115
              try dsimp only at p115
              refine WC.seq ?_
              refine WC.region ?_
              refine W.as ?_
              refine W.nil (thn_n ?_)
              refine WC.seq ?_
              refine WC.seq ?_
              refine WC.region ?_
              refine W.mv ?_
              refine W.ok (ok_geq rfl rfl) ?_
              refine W.nil (thn_n ?_)
              refine WC.cond (b := _) rfl (fun h48 => ?_) (fun h48 => ?_)
              ·have p48 := of_decide_eq_true h48
               try dsimp only at p48
               obtain ⟨f, rfl, hf⟩ := qI_pos hq p48
               have hqi : qI (some f) = (f : Int) := rfl
               refine WC.region ?_
               refine W.ok (ok_fieldB fd63_2 rfl) ?_
               refine W.ok (ok_loadB (i := 0) (vs := [.int .i64 _]) ty3 rfl rfl rfl rfl (by simp)) ?_
               refine W.mv ?_
               refine W.ok (ok_len sl41 (hv3.mono (hG9.trans hG16)) rfl) ?_
               refine W.mv ?_
               refine W.ok (ok_sub rfl rfl (by omega)) ?_
               refine W.ok (ok_mini rfl rfl) ?_
               refine W.ok (ok_maxi rfl rfl) ?_
               refine W.as ?_
               refine W.nil (thn_n ?_)
               refine WC.seq ?_
               refine WC.seq ?_
               refine WC.drawW _ (((List.nil_sublist _).cons_cons _).cons_cons _) mix (by rintro _ _ _ _ ⟨h | h, _⟩ <;> cases h) ?_
               refine WD.take 0 rfl rfl rfl (by kernel_rfl) (by kernel_rfl) (by kernel_rfl) (ok_mv) ?_
               refine WD.take 1 rfl rfl rfl (by kernel_rfl) (by kernel_rfl) (by kernel_rfl) (ok_fieldB fd63_2 rfl) ?_
               refine WD.take 2 rfl rfl rfl (by kernel_rfl) (by kernel_rfl) (by kernel_rfl) (ok_loadB (i := 0) (vs := [.int .i64 _]) ty3 rfl rfl rfl rfl (by simp)) ?_
               refine WD.take 4 rfl rfl rfl (by kernel_rfl) (by kernel_rfl) (by kernel_rfl) (ok_mv) ?_
               refine WD.take 5 rfl rfl rfl (by kernel_rfl) (by kernel_rfl) (by kernel_rfl) (ok_mv) ?_
               refine WD.take 6 rfl rfl rfl (by kernel_rfl) (by kernel_rfl) (by kernel_rfl) (ok_maxi rfl rfl) ?_
               refine WD.take 7 rfl rfl rfl (by kernel_rfl) (by kernel_rfl) (by kernel_rfl) (ok_mv) ?_
               refine WD.take 8 rfl rfl rfl (by kernel_rfl) (by kernel_rfl) (by kernel_rfl) (ok_maxi rfl rfl) ?_
               refine WD.take 9 rfl rfl rfl (by kernel_rfl) (by kernel_rfl) (by kernel_rfl) (ok_mv) ?_
               refine WD.take 10 rfl rfl rfl (by kernel_rfl) (by kernel_rfl) (by kernel_rfl) (ok_add rfl rfl (by omega)) ?_
               have hs76 := SlR.slice (hv3.mono (hG9.trans hG16)) (lo := f) (hi := (f + (min (((acts)[i]).n).toNat ((totP (leavesS ss)) - f)))) (by omega) (by omega)
               refine WD.take 11 rfl rfl rfl (by kernel_rfl) (by kernel_rfl) (by kernel_rfl) (ok_slice (f) ((f + (min (((acts)[i]).n).toNat ((totP (leavesS ss)) - f)))) sl41 ty69 (hv3.mono (hG9.trans hG16)) rfl ⟨_, _, rfl, by omega⟩ ⟨_, _, rfl, by omega⟩ ⟨by omega, by omega⟩) ?_
               refine WD.any [3] (by kernel_rfl) rfl ⟨⟨_, rfl, rfl, ?_⟩, trivial⟩
               refine W.call (Mp := M_8) (ctake_fc ho_8 hL ((acts)[i]).n) rfl (pmC (pmC (List.Perm.refl _))) ?_
               intro v80 G77 Ms79 hG77 q78
               rw [adv_some] at q78
               replace q78 : SlR ePair G77 v80 (tkN (leavesS ss) (some f) (min (((acts)[i]).n).toNat ((totP (leavesS ss)) - f))) ∧ CuR 124 130 bc14 (leavesS ss) G77 (fwdN (totP (leavesS ss)) (f + (min (((acts)[i]).n).toNat ((totP (leavesS ss)) - f)))) Ms79 := q78
               refine match q78 with | ⟨hv82, hC81⟩ => ?_
               refine W.perm (pmC (pmC (List.Perm.refl _))).symm ?_
               have q84 := hv82.form
               refine match q84 with | ⟨sa_hv82, sc_hv82, e_83⟩ => ?_
               subst e_83
               refine W.nil ⟨hG77, ((List.nil_sublist _).cons_cons _).cons_cons _, _, ((List.nil_sublist _).cons_cons _).cons_cons _, List.Sublist.refl _, ?_⟩
               refine WD.any [12] (by kernel_rfl) rfl ⟨⟨_, rfl, rfl, ?_⟩, trivial⟩
               refine W.qcall ((samep_fc hv82 (hs76.mono hG77)).mono (fun v _ _ _ hv => hv.trans (congrArg Value.bool (decide_eq_true (by rw [hmp]; exact tk_sl.symm))))) rfl ?_
               refine W.nil ⟨Le.rfl, ((List.nil_sublist _).cons_cons _).cons_cons _, _, ((List.nil_sublist _).cons_cons _).cons_cons _, List.Sublist.refl _, ?_⟩
               refine WD.take 13 rfl rfl rfl (by kernel_rfl) (by kernel_rfl) (by kernel_rfl) (ok_not rfl) ?_
               refine WD.done (by kernel_rfl) (thn_n ?_)
               refine WC.cond_f rfl rfl ?_
               refine WC.skip (thn_n ?_)
               refine WC.seq ?_
               refine WC.seq ?_
               refine WC.region ?_
               refine W.mv ?_
               refine W.ok (ok_geq rfl rfl) ?_
               refine W.nil (thn_n ?_)
               refine WC.cond (b := _) rfl (fun h72 => ?_) (fun h72 => ?_)
               ·have p72 := of_decide_eq_true h72
                try dsimp only at p72
                refine WC.region ?_
                refine W.mv ?_
                refine W.mv ?_
                refine W.ok (ok_add rfl rfl (by omega)) ?_
                refine W.as ?_
                refine W.nil (thn_n ?_)
                refine WC.seq ?_
                refine WC.seq ?_
                refine WC.region ?_
                refine W.mv ?_
                refine W.mv ?_
                refine W.ok (ok_len sl41 (hv3.mono ((hG9.trans hG16).trans hG77)) rfl) ?_
                refine W.ok (ok_geq rfl rfl) ?_
                refine W.nil (thn_n ?_)
                refine WC.cond (b := _) rfl (fun h79 => ?_) (fun h79 => ?_)
                ·have p79 := of_decide_eq_true h79
                 try dsimp only at p79
                 refine WC.region ?_
                 refine W.as ?_
                 refine W.nil (thn_n ?_)
                 refine WC.region ?_
                 refine W.mv ?_
                 refine W.ok (ok_geq rfl rfl) ?_
                 refine W.as ?_
                 refine W.nil (blk_n (thn_n ?_))
                 exact ⟨hG77, ((((fwdN (totP (leavesS ss)) (f + (min (((acts)[i]).n).toNat ((totP (leavesS ss)) - f)))), (-1)) : Option Nat × Int), Ms79), ⟨rfl, (congrArg Value.bool (by have e8 := fwd_some (t := (totP (leavesS ss))) (k := f + (min (((acts)[i]).n).toNat ((totP (leavesS ss)) - f))); rw [e8]; exact decide_eq_decide.2 (by omega))), eqv, eqv, eqv, eqv, eqv, trivial⟩, ⟨rfl, (by exact hC81), (by have h9 := want_fwd (T := (totP (leavesS ss))) (f := f + (min (((acts)[i]).n).toNat ((totP (leavesS ss)) - f))); have e9 : (((f + (min (((acts)[i]).n).toNat ((totP (leavesS ss)) - f)) : Nat) : Int)) = ((f : Nat) : Int) + (max 0 (min (((acts)[i]).n) (((mapN l).length : Int) - (f : Nat)))) := (by omega); refine ⟨?_, h9.2⟩; show (if (((totP (leavesS ss)) : Nat) : Int) ≤ -1 then (-1 : Int) else -1) = _; rw [ite_self]; have h7 := h9.1; rw [if_pos (by omega)] at h7; exact h7)⟩⟩
                ·have p79 := of_decide_eq_false h79
                 try dsimp only at p79
                 refine WC.skip (thn_n ?_)
                 refine WC.region ?_
                 refine W.mv ?_
                 refine W.ok (ok_geq rfl rfl) ?_
                 refine W.as ?_
                 refine W.nil (blk_n (thn_n ?_))
                 exact ⟨hG77, ((((fwdN (totP (leavesS ss)) (f + (min (((acts)[i]).n).toNat ((totP (leavesS ss)) - f)))), _) : Option Nat × Int), Ms79), ⟨rfl, (congrArg Value.bool (by have e8 := fwd_some (t := (totP (leavesS ss))) (k := f + (min (((acts)[i]).n).toNat ((totP (leavesS ss)) - f))); rw [e8]; exact decide_eq_decide.2 (by omega))), eqv, eqv, eqv, eqv, eqv, trivial⟩, ⟨rfl, (by exact hC81), (by have h9 := want_fwd (T := (totP (leavesS ss))) (f := f + (min (((acts)[i]).n).toNat ((totP (leavesS ss)) - f))); have e9 : (((f + (min (((acts)[i]).n).toNat ((totP (leavesS ss)) - f)) : Nat) : Int)) = ((f : Nat) : Int) + (max 0 (min (((acts)[i]).n) (((mapN l).length : Int) - (f : Nat)))) := (by omega); rw [e9] at h9; exact h9)⟩⟩
               ·have p72 := of_decide_eq_false h72
                try dsimp only at p72
                exfalso; omega
              ·have p48 := of_decide_eq_false h48
               try dsimp only at p48
               obtain rfl := qI_neg hq p48
               have hqi : qI none = -1 := rfl
               refine WC.skip (thn_n ?_)
               refine WC.seq ?_
               refine WC.seq ?_
               refine WC.drawW _ (((List.nil_sublist _).cons_cons _).cons_cons _) mix (by rintro _ _ _ _ ⟨h | h, _⟩ <;> cases h) ?_
               refine WD.take 0 rfl rfl rfl (by kernel_rfl) (by kernel_rfl) (by kernel_rfl) (ok_mv) ?_
               refine WD.take 1 rfl rfl rfl (by kernel_rfl) (by kernel_rfl) (by kernel_rfl) (ok_fieldB fd63_2 rfl) ?_
               refine WD.take 2 rfl rfl rfl (by kernel_rfl) (by kernel_rfl) (by kernel_rfl) (ok_loadB (i := 0) (vs := [.int .i64 _]) ty3 rfl rfl rfl rfl (by simp)) ?_
               refine WD.take 4 rfl rfl rfl (by kernel_rfl) (by kernel_rfl) (by kernel_rfl) (ok_mv) ?_
               refine WD.take 5 rfl rfl rfl (by kernel_rfl) (by kernel_rfl) (by kernel_rfl) (ok_mv) ?_
               refine WD.take 6 rfl rfl rfl (by kernel_rfl) (by kernel_rfl) (by kernel_rfl) (ok_maxi rfl rfl) ?_
               refine WD.take 7 rfl rfl rfl (by kernel_rfl) (by kernel_rfl) (by kernel_rfl) (ok_mv) ?_
               refine WD.take 8 rfl rfl rfl (by kernel_rfl) (by kernel_rfl) (by kernel_rfl) (ok_maxi rfl rfl) ?_
               refine WD.take 9 rfl rfl rfl (by kernel_rfl) (by kernel_rfl) (by kernel_rfl) (ok_mv) ?_
               refine WD.take 10 rfl rfl rfl (by kernel_rfl) (by kernel_rfl) (by kernel_rfl) (ok_add rfl rfl (by omega)) ?_
               have hs85 := SlR.slice (hv3.mono (hG9.trans hG16)) (lo := 0) (hi := 0) (by simp) (by simp)
               refine WD.take 11 rfl rfl rfl (by kernel_rfl) (by kernel_rfl) (by kernel_rfl) (ok_slice (0) (0) sl41 ty69 (hv3.mono (hG9.trans hG16)) rfl ⟨_, _, rfl, by omega⟩ ⟨_, _, rfl, by omega⟩ ⟨by simp, by simp⟩) ?_
               refine WD.any [3] (by kernel_rfl) rfl ⟨⟨_, rfl, rfl, ?_⟩, trivial⟩
               refine W.call (Mp := M_8) (ctake_fc ho_8 hL ((acts)[i]).n) rfl (pmC (pmC (List.Perm.refl _))) ?_
               intro v89 G86 Ms88 hG86 q87
               rw [tk_none, adv_none] at q87
               refine match q87 with | ⟨hv91, hC90⟩ => ?_
               refine W.perm (pmC (pmC (List.Perm.refl _))).symm ?_
               have q93 := hv91.form
               refine match q93 with | ⟨sa_hv91, sc_hv91, e_92⟩ => ?_
               subst e_92
               refine W.nil ⟨hG86, ((List.nil_sublist _).cons_cons _).cons_cons _, _, ((List.nil_sublist _).cons_cons _).cons_cons _, List.Sublist.refl _, ?_⟩
               refine WD.any [12] (by kernel_rfl) rfl ⟨⟨_, rfl, rfl, ?_⟩, trivial⟩
               refine W.qcall ((samep_fc hv91 (hs85.mono hG86)).mono (fun v _ _ _ hv => hv.trans (congrArg Value.bool (decide_eq_true (by simp))))) rfl ?_
               refine W.nil ⟨Le.rfl, ((List.nil_sublist _).cons_cons _).cons_cons _, _, ((List.nil_sublist _).cons_cons _).cons_cons _, List.Sublist.refl _, ?_⟩
               refine WD.take 13 rfl rfl rfl (by kernel_rfl) (by kernel_rfl) (by kernel_rfl) (ok_not rfl) ?_
               refine WD.done (by kernel_rfl) (thn_n ?_)
               refine WC.cond_f rfl rfl ?_
               refine WC.skip (thn_n ?_)
               refine WC.seq ?_
               refine WC.seq ?_
               refine WC.region ?_
               refine W.mv ?_
               refine W.ok (ok_geq rfl rfl) ?_
               refine W.nil (thn_n ?_)
               refine WC.cond (b := _) rfl (fun h72 => ?_) (fun h72 => ?_)
               ·have p72 := of_decide_eq_true h72
                try dsimp only at p72
                exfalso; omega
               ·have p72 := of_decide_eq_false h72
                try dsimp only at p72
                refine WC.skip (thn_n ?_)
                refine WC.seq ?_
                refine WC.seq ?_
                refine WC.region ?_
                refine W.mv ?_
                refine W.mv ?_
                refine W.ok (ok_len sl41 (hv3.mono ((hG9.trans hG16).trans hG86)) rfl) ?_
                refine W.ok (ok_geq rfl rfl) ?_
                refine W.nil (thn_n ?_)
                refine WC.cond (b := _) rfl (fun h79 => ?_) (fun h79 => ?_)
                ·have p79 := of_decide_eq_true h79
                 try dsimp only at p79
                 refine WC.region ?_
                 refine W.as ?_
                 refine W.nil (thn_n ?_)
                 refine WC.region ?_
                 refine W.mv ?_
                 refine W.ok (ok_geq rfl rfl) ?_
                 refine W.as ?_
                 refine W.nil (blk_n (thn_n ?_))
                 exact ⟨hG86, (((none, (-1)) : Option Nat × Int), Ms88), ⟨rfl, rfl, eqv, eqv, eqv, eqv, eqv, trivial⟩, ⟨rfl, (by exact hC90), want_none⟩⟩
                ·have p79 := of_decide_eq_false h79
                 try dsimp only at p79
                 refine WC.skip (thn_n ?_)
                 refine WC.region ?_
                 refine W.mv ?_
                 refine W.ok (ok_geq rfl rfl) ?_
                 refine W.as ?_
                 refine W.nil (blk_n (thn_n ?_))
                 exact ⟨hG86, (((none, (-1)) : Option Nat × Int), Ms88), ⟨rfl, rfl, eqv, eqv, eqv, eqv, eqv, trivial⟩, ⟨rfl, (by exact hC90), want_none⟩⟩
      ·rintro ⟨⟨q2, w2⟩, M_8⟩ gG94 G94 _ hG94 ⟨rfl, ho_8, hW⟩
       try dsimp only at ho_8 hW
       refine WC.fr (f := setL gG94 [(12, .int .i64 w2), (13, .bool q2.isSome), (7, .slice sa_hv3 (mapN l).length sc_hv3), (31, .slice sa_acts acts.length sc_acts), (32, .int .i64 (((acts).length : Nat) : Int)), (33, .int .i64 ((i : Nat) : Int)), (8, .pointer (some ⟨bc14, 0, none⟩))]) rfl ?_
       refine WC.join (X := (Unit) × MH) (fun u42 => [(12, .int .i64 (qI q2)), (7, .slice sa_hv3 (mapN l).length sc_hv3), (13, .bool q2.isSome), (31, .slice sa_acts acts.length sc_acts), (32, .int .i64 (((acts).length : Nat) : Int)), (33, .int .i64 ((i : Nat) : Int)), (8, .pointer (some ⟨bc14, 0, none⟩))]) (fun u42 G Ml => Ml = ((b21, .cells (List.toArray [.int .i64 ((acts)[i]).kind, .string ((acts)[i]).key.b, .int .i64 ((acts)[i]).n]) 63 (0, 0)) :: ((b1, .cells (List.toArray [.int .i64 cfan, .int .i64 cleaf, .int .i64 cbud, .int .i64 cslots, .int .i64 crest]) 23 (0, 0)) :: (u42.2 ++ []))) ∧ CuR 124 130 bc14 (leavesS ss) G (q2) u42.2) ?_ ?_
       ·refine WC.seq ?_
        refine WC.region ?_
        refine W.mv ?_
        refine W.mv ?_
        refine W.ok (ok_len sl41 (hv3.mono ((hG9.trans hG16).trans hG94)) rfl) ?_
        refine W.ok (ok_geq rfl rfl) ?_
        refine W.nil (thn_n ?_)
        refine WC.cond (b := _) rfl (fun h124 => ?_) (fun h124 => ?_)
        ·have p124 := of_decide_eq_true h124
         try dsimp only at p124
         refine WC.region ?_
         refine W.as ?_
         refine W.nil (thn_n ?_)
         exact ⟨Le.rfl, ((), M_8), ⟨(congrArg (Value.int .i64) (by have h9 := hW.1; rw [if_pos (by omega)] at h9; exact h9)), eqv, eqv, eqv, eqv, eqv, eqv, trivial⟩, ⟨rfl, (by exact ho_8)⟩⟩
        ·have p124 := of_decide_eq_false h124
         try dsimp only at p124
         refine WC.skip (thn_n ?_)
         exact ⟨Le.rfl, ((), M_8), ⟨(congrArg (Value.int .i64) (by have h9 := hW.1; rw [if_neg (by omega)] at h9; exact h9)), eqv, eqv, eqv, eqv, eqv, eqv, trivial⟩, ⟨rfl, (by exact ho_8)⟩⟩
       ·rintro ⟨u42, M_8⟩ gG95 G95 _ hG95 ⟨rfl, ho_8⟩
        try dsimp only at ho_8
        refine WC.fr (f := setL gG95 [(12, .int .i64 (qI q2)), (7, .slice sa_hv3 (mapN l).length sc_hv3), (13, .bool q2.isSome), (31, .slice sa_acts acts.length sc_acts), (32, .int .i64 (((acts).length : Nat) : Int)), (33, .int .i64 ((i : Nat) : Int)), (8, .pointer (some ⟨bc14, 0, none⟩))]) rfl ?_
        refine WC.seq ?_
        refine WC.region ?_
        refine W.mv ?_
        refine W.as ?_
        refine W.nil (thn_n ?_)
        refine WC.seq ?_
        refine WC.region ?_
        refine W.mv ?_
        have q96 := or_q hW.2
        refine Or.elim q96 (fun q97 => ?_) (fun q98 => ?_)
        ·subst q97
         refine W.call (Mp := M_8) (cpair_fc ho_8 hL) rfl (pmC (pmC (List.Perm.refl _))) ?_
         intro v102 G99 Ms101 hG99 q100
         rw [show pairQ (leavesS ss) none = (⟨Str.nil, Str.nil⟩ : Pair) from rfl] at q100
         refine match q100 with | ⟨e_104, hC103⟩ => ?_
         subst e_104
         refine W.perm (pmC (pmC (List.Perm.refl _))).symm ?_
         refine W.mv ?_
         refine W.ok (ok_extract rfl rfl) ?_
         refine W.ok (ok_extract rfl rfl) ?_
         refine W.alloc zr69 (fun b105 => ?_)
         refine W.store (i := 0) (vs := [.string _, .string _]) (L' := [.string _, .string _]) ty69 rfl rfl rfl rfl rfl rfl rfl rfl ?_
         refine W.as ?_
         refine W.nil (thn_n ?_)
         refine WC.seq ?_
         refine WC.draw mix (by kernel_rfl) ?_
         refine W.mv ?_
         refine W.mv ?_
         refine W.ok (ok_geq rfl rfl) ?_
         refine W.ok (ok_neqB bo4 rfl rfl) ?_
         refine W.mv ?_
         refine W.yes (dj := 135) rfl rfl rfl ?_
         refine W.mv ?_
         refine W.yes (dj := 135) rfl rfl rfl ?_
         refine W.mv ?_
         refine W.yes (dj := 135) rfl rfl rfl ?_
         refine W.ok (ok_geq rfl rfl) ?_
         refine W.yes (dj := 135) rfl rfl rfl ?_
         refine W.ok (ok_neqB bo4 rfl rfl) ?_
         refine W.ok (ok_pick_f rfl rfl) ?_
         refine W.mv ?_
         refine W.yes (dj := 141) rfl rfl rfl ?_
         refine W.mv ?_
         refine W.yes (dj := 141) rfl rfl rfl ?_
         refine W.mv ?_
         refine W.no (dj := 143) rfl rfl rfl ?_
         refine W.no (dj := 143) rfl rfl rfl ?_
         refine W.no (dj := 143) rfl rfl rfl ?_
         refine W.no (dj := 143) rfl rfl rfl ?_
         refine W.no (dj := 143) rfl rfl rfl ?_
         refine W.no (dj := 143) rfl rfl rfl ?_
         refine W.yes (dj := 141) rfl rfl rfl ?_
         refine W.ok (ok_pick_f rfl rfl) ?_
         refine W.ok (ok_pick_f rfl rfl) ?_
         refine W.mv ?_
         refine W.yes (dj := 152) rfl rfl rfl ?_
         refine W.mv ?_
         refine W.yes (dj := 152) rfl rfl rfl ?_
         refine W.ok (ok_not rfl) ?_
         refine W.yes (dj := 152) rfl rfl rfl ?_
         refine W.mv ?_
         refine W.yes (dj := 155) rfl rfl rfl ?_
         refine W.ok (ok_loadB (i := 0) (vs := [.string _, .string _]) ty69 rfl rfl rfl rfl (by simp)) ?_
         refine W.yes (dj := 155) rfl rfl rfl ?_
         refine W.ok (ok_build (L := [.string _, .string _]) pl69 zr69 rfl rfl rfl) ?_
         refine W.yes (dj := 155) rfl rfl rfl ?_
         refine W.ok (ok_neqA (L1 := [.string _, .string _]) (L2 := [.string _, .string _]) eq69 rfl rfl rfl rfl) ?_
         refine W.yes (dj := 152) rfl rfl rfl ?_
         refine W.ok (ok_pick_t rfl rfl) ?_
         refine W.ok (ok_pick_f rfl rfl) ?_
         refine W.nil (thn_n ?_)
         refine WC.cond (b := _) rfl (fun h158 => ?_) (fun h158 => ?_)
         ·have h9 : (!eqCells [Value.string Str.nil.b, Value.string Str.nil.b] [Value.string Str.nil.b, Value.string Str.nil.b]) = true := h158
          simp [eqCells] at h9
         ·refine WC.skip (blk_n (thn_n ?_))
          refine WC.region ?_
          refine W.ok (ok_add rfl rfl (by omega)) ?_
          refine W.mv ?_
          refine W.sub (((List.Sublist.refl _).cons _).cons _) ?_
          refine W.nil (thn_n ?_)
          exact ⟨((hG94.trans hG95).trans hG99), (((i + 1, none) : Nat × Option Nat), Ms101), ⟨rfl, eqv, eqv, eqv, eqv, eqv, trivial⟩, ⟨rfl, (by exact hC103), by dsimp only; omega, hW.2⟩, by dsimp only; omega⟩
        ·refine match q98 with | ⟨f2, e_106, hf2⟩ => ?_
         subst e_106
         rw [htp] at hf2
         have hqi2 : qI (some f2) = (f2 : Int) := rfl
         refine W.call (Mp := M_8) (cpair_fc ho_8 hL) rfl (pmC (pmC (List.Perm.refl _))) ?_
         intro v110 G107 Ms109 hG107 q108
         rw [show pairQ (leavesS ss) (some f2) = (mapN l)[f2]'hf2 from by rw [show some f2 = fwdN (totP (leavesS ss)) f2 from (if_pos (by rw [htp]; exact hf2)).symm, pair_fwd (by rw [← hmp]; exact hf2)]; simp only [hmp]] at q108
         refine match q108 with | ⟨e_112, hC111⟩ => ?_
         subst e_112
         refine W.perm (pmC (pmC (List.Perm.refl _))).symm ?_
         refine W.mv ?_
         refine W.ok (ok_extract rfl rfl) ?_
         refine W.ok (ok_extract rfl rfl) ?_
         refine W.alloc zr69 (fun b113 => ?_)
         refine W.store (i := 0) (vs := [.string _, .string _]) (L' := [.string _, .string _]) ty69 rfl rfl rfl rfl rfl rfl rfl rfl ?_
         refine W.as ?_
         refine W.nil (thn_n ?_)
         refine WC.seq ?_
         refine WC.draw mix (by kernel_rfl) ?_
         refine W.mv ?_
         refine W.mv ?_
         refine W.ok (ok_geq rfl rfl) ?_
         refine W.ok (ok_neqB bo4 rfl rfl) ?_
         refine W.mv ?_
         refine W.yes (dj := 135) rfl rfl rfl ?_
         refine W.mv ?_
         refine W.yes (dj := 135) rfl rfl rfl ?_
         refine W.mv ?_
         refine W.yes (dj := 135) rfl rfl rfl ?_
         refine W.ok (ok_geq rfl rfl) ?_
         refine W.yes (dj := 135) rfl rfl rfl ?_
         refine W.ok (ok_neqB bo4 rfl rfl) ?_
         refine W.ok (ok_pick_f rfl rfl) ?_
         refine W.mv ?_
         refine W.yes (dj := 141) rfl rfl rfl ?_
         refine W.mv ?_
         refine W.yes (dj := 141) rfl rfl rfl ?_
         refine W.mv ?_
         refine W.yes (dj := 143) rfl rfl rfl ?_
         refine W.ok (ok_loadB (i := 0) (vs := [.string _, .string _]) ty69 rfl rfl rfl rfl (by simp)) ?_
         refine W.yes (dj := 143) rfl rfl rfl ?_
         refine W.mv ?_
         refine W.yes (dj := 143) rfl rfl rfl ?_
         refine W.mv ?_
         refine W.yes (dj := 143) rfl rfl rfl ?_
         have q116 := (hv3.mono ((((hG9.trans hG16).trans hG94).trans hG95).trans hG107)).at (i := f2) (by omega)
         refine match q116 with | ⟨_, he114, e_115⟩ => ?_
         subst e_115
         refine W.ok (ok_indexAddr (i := f2) sl41 ty69 (hv3.mono ((((hG9.trans hG16).trans hG94).trans hG95).trans hG107)) rfl rfl ⟨by omega, by omega⟩) ?_
         refine W.yes (dj := 143) rfl rfl rfl ?_
         refine W.ok (ok_loadE (vs := [.string _, .string _]) ty69 he114 rfl rfl rfl (by simp)) ?_
         refine W.yes (dj := 143) rfl rfl rfl ?_
         refine W.ok (ok_neqA (L1 := [.string _, .string _]) (L2 := [.string _, .string _]) eq69 rfl rfl rfl rfl) ?_
         refine W.yes (dj := 141) rfl rfl rfl ?_
         refine W.ok (ok_pick_t rfl rfl) ?_
         refine W.ok (ok_pick_f rfl rfl) ?_
         refine W.mv ?_
         refine W.sp 152 rfl (fun h149 => ?_) (fun h149 => ?_)
         ·simp [eqCells] at h149
         ·refine W.yes (dj := 152) rfl rfl h149 ?_
          refine W.mv ?_
          refine W.yes (dj := 152) rfl rfl h149 ?_
          refine W.ok (ok_not rfl) ?_
          refine W.yes (dj := 152) rfl rfl h149 ?_
          refine W.mv ?_
          refine W.no (dj := 155) rfl rfl rfl ?_
          refine W.no (dj := 155) rfl rfl rfl ?_
          refine W.no (dj := 155) rfl rfl rfl ?_
          refine W.yes (dj := 152) rfl rfl h149 ?_
          refine W.ok (ok_pick_f rfl rfl) ?_
          refine W.ok (ok_pick_f rfl h149) ?_
          refine W.nil (thn_n ?_)
          refine WC.cond_f rfl rfl ?_
          refine WC.skip (blk_n (thn_n ?_))
          refine WC.region ?_
          refine W.ok (ok_add rfl rfl (by omega)) ?_
          refine W.mv ?_
          refine W.sub (((List.Sublist.refl _).cons _).cons _) ?_
          refine W.nil (thn_n ?_)
          exact ⟨((hG94.trans hG95).trans hG107), (((i + 1, (some f2)) : Nat × Option Nat), Ms109), ⟨rfl, eqv, eqv, eqv, eqv, eqv, trivial⟩, ⟨rfl, (by exact hC111), by dsimp only; omega, hW.2⟩, by dsimp only; omega⟩
    ·have p34 := of_decide_eq_false h34
     try dsimp only at p34
     refine WC.exit (thn_x (thn_x (blk_h (thn_n ?_))))
     refine WC.seq ?_
     refine WC.region ?_
     refine W.qcall (awk54_fc) rfl ?_
     refine W.as ?_
     refine W.nil (thn_n ?_)
     refine WC.ret ?_
     refine ⟨.inr rfl, [_], ⟨rfl, trivial⟩, [], List.nil_sublist _, ?_⟩
     rfl

end Go.Proofs.YtebkfinhhpelbaaGreat
