/- The law LookupGets is walked. -/
import Derived.Test.YtebkfinhhpelbaaGreatQuUg
import Derived.Test.YtebkfinhhpelbaaGreatQuA28
namespace Go.Proofs.YtebkfinhhpelbaaGreat
open Go Go.Fw Go.RowKit
set_option maxRecDepth 100000
set_option maxHeartbeats 1600000
set_option linter.unusedVariables false
set_option linter.unusedSimpArgs false
set_option linter.unnecessarySimpa false
theorem lookupGets_fc {G : GH} (cfan : Int) (cleaf : Int) (cbud : Int) (cslots : Int) (crest : Int) {v_l : Value} {l : List Nd} (h_l : SlR eNode G v_l l) (k : Str) :
    Fc Tryz.prog 4 [.agg #[.int .i64 cfan, .int .i64 cleaf, .int .i64 cbud, .int .i64 cslots, .int .i64 crest], v_l, .string k.b] G [] (fun v _ _ => v = .bool (true)) := by
 obtain ⟨sa_l, sc_l, rfl⟩ := h_l.form
 have hl := h_l.len47
 have hkle := k.le
 refine Fc.intro (rs := [.tmp 6]) cl4 Tryz.func4 rfl Tryz.ntmps4 rfl rfl (fun w0 => ?_)
 refine WC.seq (WC.region (W.box (L := [.int .i64 _, .int .i64 _, .int .i64 _, .int .i64 _, .int .i64 _]) rfl rfl (fun b1 => (W.as (W.nil (thn_n (WC.seq (WC.seq (WC.region ?_)))))))))
 refine W.ok (ok_loadB (i := 0) (vs := [.int .i64 _, .int .i64 _, .int .i64 _, .int .i64 _, .int .i64 _]) ty23 rfl rfl rfl rfl (by simp)) (W.mv (W.qcall (tree_fc _ _ _ _ _ h_l _ (by omega)) rfl (W.ok (ok_not rfl) (W.mv ?_))))
 refine W.sp 24 rfl (fun h23 => ?_) (fun h23 => ?_)
 ·refine W.no (dj := 24) rfl rfl h23 (W.no (dj := 24) rfl rfl h23 (W.no (dj := 24) rfl rfl h23 (W.ok (ok_pick_t rfl h23) (W.nil (thn_n (WC.cond_t rfl rfl (WC.seq (WC.region ?_))))))))
  refine W.qcall (awake28_fc) rfl (W.as (W.nil (thn_n (WC.ret (thn_r ?_)))))
  refine ⟨.inr rfl, [_], ⟨rfl, trivial⟩, [], List.nil_sublist _, ?_⟩
  rfl
 ·obtain ⟨ss, t⟩ := tree_of (c := (⟨cfan, cleaf, cbud, cslots, crest⟩ : Cfg)) (by simpa using h23) (by omega : (60 : Int) ≤ 100)
  have hS := t.sml
  have hl100 := hS.1
  refine W.yes (dj := 24) rfl rfl h23 (W.mv (W.yes (dj := 24) rfl rfl h23 (W.ok (ok_lenS st9 rfl) (W.yes (dj := 24) rfl rfl h23 (W.ok (ok_gtr rfl rfl) (W.ok (ok_pick_f rfl h23) (W.nil (thn_n ?_))))))))
  refine WC.cond (b := _) rfl (fun h27 => ?_) (fun h27 => ?_)
  ·have p27 := of_decide_eq_true h27
   try dsimp only at p27
   refine WC.seq (WC.region (W.qcall (awake28_fc) rfl (W.as (W.nil (thn_n (WC.ret (thn_r ?_)))))))
   refine ⟨.inr rfl, [_], ⟨rfl, trivial⟩, [], List.nil_sublist _, ?_⟩
   rfl
  ·have p27 := of_decide_eq_false h27
   try dsimp only at p27
   refine WC.skip (thn_n (WC.seq (WC.region (W.ok (ok_loadB (i := 0) (vs := [.int .i64 _, .int .i64 _, .int .i64 _, .int .i64 _, .int .i64 _]) ty23 rfl rfl rfl rfl (by simp)) (W.mv (W.call (Mp := []) (gload_fc (cfan) (cleaf) (cbud) (cslots) (crest) h_l) rfl (List.Perm.refl _) ?_))))))
   intro v5 G2 Ms4 hG2 q3
   have q6 := or3 q3
   refine Or.elim q6 (fun q7 => ?_) (fun q8 => ?_)
   ·refine match q7 with | ⟨hnl, e_9, e_10⟩ => ?_
    subst e_9
    subst e_10
    exact absurd ⟨t.cfg, t.pos, placed_of t.slot⟩ hnl
   ·refine Or.elim q8 (fun q11 => ?_) (fun q12 => ?_)
    ·refine match q11 with | ⟨hOK, hnle, e_13, e_14⟩ => ?_
     subst e_13
     subst e_14
     exact absurd t.q.1.2.2 hnle
    ·refine match q12 with | ⟨hOK, hle, bSt, e_15, hS9⟩ => ?_
     subst e_15
     refine W.perm (pmC (List.Perm.refl _)).symm (W.mv (W.ok (ok_extract rfl rfl) (W.ok (ok_extract rfl rfl) (W.as (W.as (W.nil (thn_n (WC.seq ?_))))))))
     refine WC.seq (WC.region (W.mv (W.ok (ok_neq rfl rfl) (W.nil (thn_n (WC.cond_f rfl rfl (WC.skip (thn_n (WC.seq ?_)))))))))
     refine WC.region (W.as (W.nil (thn_n (WC.seq (WC.seq (WC.region (W.mv (W.ok (ok_len sl24 (h_l.mono hG2) rfl) ?_))))))))
     refine W.mv (W.nil (thn_n (WC.block ?_)))
     refine WC.loop (X := Nat) (fun i => [(9, .int .i64 ((allN k (l.take i) : Nat) : Int)), (40, .int .i64 ((i : Nat) : Int)), (7, .pointer (some ⟨bSt, 0, none⟩)), (1, .slice sa_l l.length sc_l), (2, .string k.b), (38, .slice sa_l l.length sc_l), (39, .int .i64 (((l).length : Nat) : Int))]) (fun i _ Ml => Ml = ((b1, .cells (List.toArray [.int .i64 cfan, .int .i64 cleaf, .int .i64 cbud, .int .i64 cslots, .int .i64 crest]) 23 (0, 0)) :: (Ms4 ++ [])) ∧ i ≤ l.length) (fun i => l.length - i) 0 ⟨eqv, eqv, eqv, eqv, eqv, eqv, eqv, trivial⟩ ?_ ?_
     ·exact ⟨rfl, by omega⟩
     ·rintro i gG16 G16 _ hG16 ⟨rfl, hi⟩
      have han := allN_le (k := k) (l := l.take i) (b := 4000) (fun n hn => (t.sml.2 n (List.mem_of_mem_take hn)).2.2.1)
      have htl : (l.take i).length ≤ i := by rw [List.length_take]; omega
      refine WC.seq (WC.region (W.ok (ok_lss rfl rfl) (W.nil (thn_n (WC.seq ?_)))))
      refine WC.cond (b := _) rfl (fun h41 => ?_) (fun h41 => ?_)
      ·have p41 := of_decide_eq_true h41
       try dsimp only at p41
       have hNd := t.sml.2 (l[i]'(by omega)) (List.getElem_mem _)
       have hml : (l[i]'(by omega)).msgs.length ≤ 4000 := hNd.2.2.1
       refine WC.skip (thn_n (WC.seq (WC.block (WC.seq (WC.region ?_)))))
       have q20 := (h_l.mono (hG2.trans hG16)).at (i := i) (by omega)
       refine match q20 with | ⟨_, he17, ⟨pa_n18, pc_n18, ka_n18, kc_n18, ma_n18, mc_n18, ra_n18, rc_n18, e_19, hp_n18, hk_n18, hm_n18, hr_n18, hok_n18⟩⟩ => ?_
       subst e_19
       refine W.ok (ok_indexAddr (i := i) sl24 ty47 (h_l.mono (hG2.trans hG16)) rfl rfl ⟨by omega, by omega⟩) (W.ok (ok_loadE (vs := [.int .i64 _, .int .i64 _, .slice _ _ _, .slice _ _ _, .string _, .bool _, .int .i64 _, .int .i64 _, .slice _ _ _, .slice _ _ _]) ty47 he17 rfl rfl rfl (by simp)) (W.alloc zr47 (fun b21 => (W.store (i := 0) (vs := [.int .i64 _, .int .i64 _, .slice _ _ _, .slice _ _ _, .string _, .bool _, .int .i64 _, .int .i64 _, .slice _ _ _, .slice _ _ _]) (L' := [.int .i64 _, .int .i64 _, .slice _ _ _, .slice _ _ _, .string _, .bool _, .int .i64 _, .int .i64 _, .slice _ _ _, .slice _ _ _]) ty47 rfl rfl rfl rfl rfl rfl rfl rfl (W.nil (thn_n (WC.seq (WC.region (W.ok (ok_fieldB fd47_8 rfl) ?_)))))))))
       refine W.ok (ok_loadB (i := 0) (vs := [.slice _ _ _]) ty45 rfl rfl rfl rfl (by simp)) (W.ok (ok_len sl45 hm_n18 rfl) (W.mv (W.nil (thn_n (WC.block ?_)))))
       refine WC.loop (X := Nat) (fun j => [(9, .int .i64 ((allN k (l.take i) + cntN k ((l[i]'(by omega)).msgs.take j) : Nat) : Int)), (47, .int .i64 ((j : Nat) : Int)), (7, .pointer (some ⟨bSt, 0, none⟩)), (1, .slice sa_l l.length sc_l), (2, .string k.b), (38, .slice sa_l l.length sc_l), (39, .int .i64 (((l).length : Nat) : Int)), (40, .int .i64 ((i : Nat) : Int)), (45, .slice ma_n18 (((l)[i]).msgs).length mc_n18), (46, .int .i64 (((((l)[i]).msgs).length : Nat) : Int))]) (fun j _ Ml => Ml = ((b21, .cells (List.toArray [.int .i64 ((l)[i]).slot, .int .i64 ((l)[i]).level, .slice pa_n18 (((l)[i]).pivots).length pc_n18, .slice ka_n18 (((l)[i]).kids).length kc_n18, .string ((l)[i]).high.b, .bool ((l)[i]).top, .int .i64 ((l)[i]).right, .int .i64 ((l)[i]).seen, .slice ma_n18 (((l)[i]).msgs).length mc_n18, .slice ra_n18 (((l)[i]).rows).length rc_n18]) 47 (0, 0)) :: ((b1, .cells (List.toArray [.int .i64 cfan, .int .i64 cleaf, .int .i64 cbud, .int .i64 cslots, .int .i64 crest]) 23 (0, 0)) :: (Ms4 ++ []))) ∧ j ≤ (l[i]'(by omega)).msgs.length) (fun j => (l[i]'(by omega)).msgs.length - j) 0 ⟨(congrArg (fun n : Nat => Value.int .i64 (n : Int)) (by rw [List.take_zero]; rfl)), eqv, eqv, eqv, eqv, eqv, eqv, eqv, eqv, eqv, trivial⟩ ?_ ?_
       ·exact ⟨rfl, by omega⟩
       ·rintro j gG22 G22 _ hG22 ⟨rfl, hj⟩
        have hcl := cnt_le k ((l[i]'(by omega)).msgs.take j)
        have htl2 : ((l[i]'(by omega)).msgs.take j).length ≤ j := by rw [List.length_take]; omega
        refine WC.seq (WC.region (W.ok (ok_lss rfl rfl) (W.nil (thn_n (WC.seq ?_)))))
        refine WC.cond (b := _) rfl (fun h48 => ?_) (fun h48 => ?_)
        ·have p48 := of_decide_eq_true h48
         try dsimp only at p48
         refine WC.skip (thn_n (WC.seq (WC.block (WC.seq (WC.region ?_)))))
         have q27 := (hm_n18.mono hG22).at (i := j) (by omega)
         refine match q27 with | ⟨_, he23, ⟨e_26, hm24⟩⟩ => ?_
         subst e_26
         refine W.ok (ok_indexAddr (i := j) sl45 ty49 (hm_n18.mono hG22) rfl rfl ⟨by omega, by omega⟩) (W.ok (ok_loadE (vs := [.int .i64 _, .int .i64 _, .string _, .string _, .bool _, .string _]) ty49 he23 rfl rfl rfl (by simp)) (W.alloc zr49 (fun b28 => (W.store (i := 0) (vs := [.int .i64 _, .int .i64 _, .string _, .string _, .bool _, .string _]) (L' := [.int .i64 _, .int .i64 _, .string _, .string _, .bool _, .string _]) ty49 rfl rfl rfl rfl rfl rfl rfl rfl (W.nil (thn_n (WC.seq (WC.region (W.ok (ok_loadB (i := 0) (vs := [.int .i64 _, .int .i64 _, .string _, .string _, .bool _, .string _]) ty49 rfl rfl rfl rfl (by simp)) ?_)))))))))
         refine W.qcall (rspan_fc _ _ _ _ _ _ (by have := (hNd.2.2.2.2.2.1 ((l[i]'(by omega)).msgs[j]'(by omega)) (List.getElem_mem _)).1; omega)) rfl (W.mv (W.qcall (has_fc _ _ _ _) rfl (W.nil (thn_n ?_))))
         refine WC.cond (b := _) rfl (fun h54 => ?_) (fun h54 => ?_)
         ·refine WC.region (W.mv (W.ok (ok_add rfl rfl (by omega)) (W.as (W.nil (blk_n (thn_n (WC.region (W.ok (ok_add rfl rfl (by omega)) (W.mv ?_)))))))))
          refine W.sub ((List.Sublist.refl _).cons _) (W.nil (thn_n ?_))
          exact ⟨Le.rfl, j + 1, ⟨(iv (by have h0 := cnt_succ_t (A := (l[i]'(by omega)).msgs) (i := j) (by omega) h54; omega)), eqv, eqv, eqv, eqv, eqv, eqv, eqv, eqv, eqv, trivial⟩, ⟨rfl, by omega⟩, by omega⟩
         ·refine WC.skip (blk_n (thn_n (WC.region (W.ok (ok_add rfl rfl (by omega)) (W.mv (W.sub ((List.Sublist.refl _).cons _) (W.nil (thn_n ?_))))))))
          exact ⟨Le.rfl, j + 1, ⟨(iv (by have h0 := cnt_succ_f (A := (l[i]'(by omega)).msgs) (i := j) (by omega) h54; omega)), eqv, eqv, eqv, eqv, eqv, eqv, eqv, eqv, eqv, trivial⟩, ⟨rfl, by omega⟩, by omega⟩
        ·have p48 := of_decide_eq_false h48
         try dsimp only at p48
         refine WC.exit (thn_x (thn_x (blk_h (blk_n (thn_n (WC.region (W.ok (ok_add rfl rfl (by omega)) (W.mv (W.sub ((List.Sublist.refl _).cons _) (W.nil (thn_n ?_)))))))))))
         exact ⟨hG22, i + 1, ⟨(congrArg (fun n : Nat => Value.int .i64 (n : Int)) (by rw [allN_succ (by omega), List.take_of_length_le (l := (l[i]'(by omega)).msgs) (i := j) (by omega)])), eqv, eqv, eqv, eqv, eqv, eqv, trivial⟩, ⟨rfl, by omega⟩, by omega⟩
      ·have p41 := of_decide_eq_false h41
       try dsimp only at p41
       refine WC.exit (thn_x (thn_x (blk_h (thn_n (WC.seq (WC.region (W.mv (W.mv (W.call (Mp := Ms4) (lookget_fc (StR.mono hG16 hS9) t _) rfl (pmC (List.Perm.refl _)) ?_)))))))))
       intro v32 G29 Ms31 hG29 q30
       refine match q30 with | ⟨eeq30, e_34⟩ => ?_
       subst e_34
       have eeq30 := eeq30.symm
       subst eeq30
       refine W.perm (pmC (List.Perm.refl _)).symm (W.mv (W.ok (ok_extract rfl rfl) (W.ok (ok_extract rfl rfl) (W.as (W.as (W.nil (thn_n (WC.seq ?_))))))))
       refine WC.region (W.mv (W.call (Mp := []) (map27_fc (h_l.mono ((hG2.trans hG16).trans hG29)) _ _ t) rfl (List.Perm.refl _) ?_))
       intro _ G35 _ hG35 q37
       refine match q37 with | ⟨e_38, _, e_39, hv36⟩ => ?_
       subst e_38
       subst e_39
       have q41 := hv36.form
       refine match q41 with | ⟨sa_hv36, sc_hv36, e_40⟩ => ?_
       subst e_40
       refine W.mv (W.qcall (rget_fc hv36 _) rfl (W.mv (W.ok (ok_extract rfl rfl) (W.ok (ok_extract rfl rfl) (W.as (W.as (W.nil (thn_n ?_))))))))
       refine WC.seq (WC.region (W.mv (W.qcall (lookget_nil _) rfl (W.mv (W.ok (ok_extract rfl rfl) (W.ok (ok_extract rfl rfl) (W.as ?_)))))))
       refine W.as (W.nil (thn_n (WC.seq (WC.region (W.mv (W.mv (W.ok (ok_eqlS rfl rfl) (W.mv ?_))))))))
       refine W.sp 80 rfl (fun h79 => ?_) (fun h79 => ?_)
       ·have p79 := of_decide_eq_true h79
        try dsimp only at p79
        refine W.yes (dj := 80) rfl rfl h79 (W.mv (W.yes (dj := 80) rfl rfl h79 (W.mv (W.yes (dj := 80) rfl rfl h79 (W.ok (ok_eqlB bo4 rfl rfl) (W.ok (ok_pick_t rfl h79) (W.mv ?_)))))))
        refine W.sp 85 rfl (fun h83 => ?_) (fun h83 => ?_)
        ·refine W.yes (dj := 85) rfl rfl h83 (W.mv (W.yes (dj := 85) rfl rfl h83 (W.mv (W.yes (dj := 85) rfl rfl h83 (W.call (Mp := Ms4) (lookdep_fc (StR.mono ((hG16.trans hG29).trans hG35) hS9) t k (by omega)) rfl (pmC (List.Perm.refl _)) ?_)))))
         intro v45 G42 Ms44 hG42 q43
         refine match q43 with | ⟨eeq43, e_47⟩ => ?_
         subst e_47
         have eeq43 := eeq43.symm
         subst eeq43
         refine W.perm (pmC (List.Perm.refl _)).symm (W.yes (dj := 85) rfl rfl h83 (W.mv (W.yes (dj := 85) rfl rfl h83 (W.ok (ok_eql rfl rfl) (W.ok (ok_pick_t rfl h83) (W.mv ?_))))))
         refine W.sp 92 rfl (fun h90 => ?_) (fun h90 => ?_)
         ·have p90 := of_decide_eq_true h90
          try dsimp only at p90
          refine W.yes (dj := 92) rfl rfl h90 (W.mv (W.yes (dj := 92) rfl rfl h90 (W.ok (ok_eqlS rfl rfl) (W.ok (ok_pick_t rfl h90) (W.mv ?_)))))
          refine W.sp 96 rfl (fun h94 => ?_) (fun h94 => ?_)
          ·have p94 := of_decide_eq_true h94
           try dsimp only at p94
           refine W.yes (dj := 96) rfl rfl h94 (W.mv (W.yes (dj := 96) rfl rfl h94 (W.ok (ok_not rfl) (W.ok (ok_pick_t rfl h94) (W.mv (W.yes (dj := 100) rfl rfl rfl (W.mv ?_)))))))
           refine W.yes (dj := 100) rfl rfl rfl (W.qcall (lookdep_nil _ (by omega)) rfl (W.yes (dj := 100) rfl rfl rfl (W.ok (ok_eql rfl rfl) (W.ok (ok_pick_t rfl rfl) (W.mv ?_)))))
           refine W.sp 105 rfl (fun h103 => ?_) (fun h103 => ?_)
           ·have p103 := of_decide_eq_true h103
            try dsimp only at p103
            refine W.yes (dj := 105) rfl rfl h103 (W.qcall (awake28_fc) rfl (W.ok (ok_pick_t rfl h103) (W.as (W.nil (thn_n (WC.ret ?_))))))
            refine ⟨.inr rfl, [_], ⟨rfl, trivial⟩, [], List.nil_sublist _, ?_⟩
            rfl
           ·have p103 := of_decide_eq_false h103
            try dsimp only at p103
            exact absurd rfl p103
          ·have p94 := of_decide_eq_false h94
           try dsimp only at p94
           exact absurd rfl p94
         ·have p90 := of_decide_eq_false h90
          try dsimp only at p90
          refine absurd ?_ p90
          rw [List.take_of_length_le (by omega)]
        ·simp at h83
       ·have p79 := of_decide_eq_false h79
        try dsimp only at p79
        exact absurd rfl p79

end Go.Proofs.YtebkfinhhpelbaaGreat
