/- The law RouteWays is walked. -/
import Derived.Test.YtebkfinhhpelbaaQtUe
import Derived.Test.YtebkfinhhpelbaaQtA27
namespace Go.Proofs.Ytebkfinhhpelbaa
open Go Go.Fw Go.RowKit
set_option maxRecDepth 100000
set_option maxHeartbeats 1600000
set_option linter.unusedVariables false
set_option linter.unusedSimpArgs false
set_option linter.unnecessarySimpa false
theorem routeWays_fc {G : GH} (cfan : Int) (cleaf : Int) (cbud : Int) (cslots : Int) (crest : Int) {v_l : Value} {l : List Nd} (h_l : SlR eNode G v_l l) (k : Str) :
    Fc Try.prog 5 [.agg #[.int .i64 cfan, .int .i64 cleaf, .int .i64 cbud, .int .i64 cslots, .int .i64 crest], v_l, .string k.b] G [] (fun v _ _ => v = .bool (true)) := by
 obtain ⟨sa_l, sc_l, rfl⟩ := h_l.form
 have hl := h_l.len47
 have hkle := k.le
 refine Fc.intro (rs := [.tmp 6]) cl5 Try.func5 rfl Try.ntmps5 rfl rfl (fun w0 => ?_)
 refine WC.seq ?_
 refine WC.region ?_
 refine W.box (L := [.int .i64 _, .int .i64 _, .int .i64 _, .int .i64 _, .int .i64 _]) rfl rfl (fun b1 => ?_)
 refine W.as ?_
 refine W.nil (thn_n ?_)
 refine WC.seq ?_
 refine WC.seq ?_
 refine WC.region ?_
 refine W.ok (ok_loadB (i := 0) (vs := [.int .i64 _, .int .i64 _, .int .i64 _, .int .i64 _, .int .i64 _]) ty23 rfl rfl rfl rfl (by simp)) ?_
 refine W.mv ?_
 refine W.qcall (tree_fc _ _ _ _ _ h_l _ (by omega)) rfl ?_
 refine W.ok (ok_not rfl) ?_
 refine W.mv ?_
 refine W.sp 26 rfl (fun h25 => ?_) (fun h25 => ?_)
 ·refine W.no (dj := 26) rfl rfl h25 ?_
  refine W.no (dj := 26) rfl rfl h25 ?_
  refine W.no (dj := 26) rfl rfl h25 ?_
  refine W.ok (ok_pick_t rfl h25) ?_
  refine W.nil (thn_n ?_)
  refine WC.cond_t rfl rfl ?_
  refine WC.seq ?_
  refine WC.region ?_
  refine W.qcall (awake27_fc) rfl ?_
  refine W.as ?_
  refine W.nil (thn_n ?_)
  refine WC.ret (thn_r ?_)
  refine ⟨.inr rfl, [_], ⟨rfl, trivial⟩, [], List.nil_sublist _, ?_⟩
  rfl
 ·obtain ⟨ss, t⟩ := tree_of (c := (⟨cfan, cleaf, cbud, cslots, crest⟩ : Cfg)) (by simpa using h25) (by omega : (60 : Int) ≤ 100)
  have hS := t.sml
  have hl100 := hS.1
  refine W.yes (dj := 26) rfl rfl h25 ?_
  refine W.mv ?_
  refine W.yes (dj := 26) rfl rfl h25 ?_
  refine W.ok (ok_lenS st9 rfl) ?_
  refine W.yes (dj := 26) rfl rfl h25 ?_
  refine W.ok (ok_gtr rfl rfl) ?_
  refine W.ok (ok_pick_f rfl h25) ?_
  refine W.nil (thn_n ?_)
  refine WC.cond (b := _) rfl (fun h29 => ?_) (fun h29 => ?_)
  ·have p29 := of_decide_eq_true h29
   try dsimp only at p29
   refine WC.seq ?_
   refine WC.region ?_
   refine W.qcall (awake27_fc) rfl ?_
   refine W.as ?_
   refine W.nil (thn_n ?_)
   refine WC.ret (thn_r ?_)
   refine ⟨.inr rfl, [_], ⟨rfl, trivial⟩, [], List.nil_sublist _, ?_⟩
   rfl
  ·have p29 := of_decide_eq_false h29
   try dsimp only at p29
   refine WC.skip (thn_n ?_)
   refine WC.seq ?_
   refine WC.region ?_
   refine W.ok (ok_loadB (i := 0) (vs := [.int .i64 _, .int .i64 _, .int .i64 _, .int .i64 _, .int .i64 _]) ty23 rfl rfl rfl rfl (by simp)) ?_
   refine W.mv ?_
   refine W.call (Mp := []) (gload_fc (cfan) (cleaf) (cbud) (cslots) (crest) h_l) rfl (List.Perm.refl _) ?_
   intro v5 G2 Ms4 hG2 q3
   have q6 := or3 q3
   refine Or.elim q6 (fun q7 => ?_) (fun q8 => ?_)
   ·refine match q7 with | ⟨hnl, e_9, e_10⟩ => ?_
    subst e_9
    subst e_10
    exact absurd ⟨t.cfg, t.pos, placed_of t.slot⟩ hnl
   ·refine Or.elim q8 (fun q11 => ?_) (fun q12 => ?_)
    ·refine match q11 with | ⟨hOK, hnle, e_13, e_14⟩ => ?_
     subst e_13
     subst e_14
     exact absurd t.q.1.2.2 hnle
    ·refine match q12 with | ⟨hOK, hle, bSt, e_15, hS9⟩ => ?_
     subst e_15
     refine W.perm (pmC (List.Perm.refl _)).symm ?_
     refine W.mv ?_
     refine W.ok (ok_extract rfl rfl) ?_
     refine W.ok (ok_extract rfl rfl) ?_
     refine W.as ?_
     refine W.as ?_
     refine W.nil (thn_n ?_)
     refine WC.seq ?_
     refine WC.seq ?_
     refine WC.region ?_
     refine W.mv ?_
     refine W.ok (ok_neq rfl rfl) ?_
     refine W.nil (thn_n ?_)
     refine WC.cond_f rfl rfl ?_
     refine WC.skip (thn_n ?_)
     refine WC.seq ?_
     refine WC.region ?_
     refine W.mv ?_
     refine W.mv ?_
     refine W.call (Mp := Ms4) (nodes_fc hS9 t _) rfl (pmC (List.Perm.refl _)) ?_
     intro v20 G17 Ms19 hG17 q18
     refine match q18 with | ⟨eeq18, _, e_22, hv16⟩ => ?_
     subst e_22
     have eeq18 := eeq18.symm
     subst eeq18
     refine W.perm (pmC (List.Perm.refl _)).symm ?_
     have q24 := hv16.form
     refine match q24 with | ⟨sa_hv16, sc_hv16, e_23⟩ => ?_
     subst e_23
     refine W.mv ?_
     refine W.mv ?_
     refine W.call (Mp := Ms4) (spans_fc (StR.mono hG17 hS9) t _) rfl (pmC (List.Perm.refl _)) ?_
     intro v29 G26 Ms28 hG26 q27
     refine match q27 with | ⟨eeq27, _, e_31, hv25⟩ => ?_
     subst e_31
     have eeq27 := eeq27.symm
     subst eeq27
     refine W.perm (pmC (List.Perm.refl _)).symm ?_
     have q33 := hv25.form
     refine match q33 with | ⟨sa_hv25, sc_hv25, e_32⟩ => ?_
     subst e_32
     refine W.as ?_
     refine W.as ?_
     refine W.nil (thn_n ?_)
     refine WC.seq ?_
     refine WC.region ?_
     refine W.mv ?_
     refine W.call (Mp := []) (seats_fc (h_l.mono ((hG2.trans hG17).trans hG26)) _ (by assumption)) rfl (List.Perm.refl _) ?_
     intro v36 G34 _ hG34 q35
     have q37 := q35.1
     subst q37
     have q38 := q35.2
     refine Or.elim q38 (fun q39 => ?_) (fun q40 => ?_)
     ·refine match q39 with | ⟨u_s41, ssq, hssq, e_42, hv_s41, hqsq⟩ => ?_
      subst e_42
      have q44 := hv_s41.form
      refine match q44 with | ⟨sa_s41, sc_s41, e_43⟩ => ?_
      subst e_43
      have e9 : ss = ssq := Option.some.inj (t.sts.symm.trans hssq)
      subst e9
      have hss47q := hv_s41.len47
      refine W.mv ?_
      refine W.ok (ok_extract rfl rfl) ?_
      refine W.ok (ok_extract rfl rfl) ?_
      refine W.as ?_
      refine W.as ?_
      refine W.nil (thn_n ?_)
      refine WC.seq ?_
      refine WC.region ?_
      refine W.as ?_
      refine W.nil (thn_n ?_)
      refine WC.seq ?_
      refine WC.seq ?_
      refine WC.region ?_
      refine W.mv ?_
      refine W.ok (ok_len sl27 hv_s41 rfl) ?_
      refine W.mv ?_
      refine W.nil (thn_n ?_)
      refine WC.block ?_
      refine WC.loop (X := Nat) (fun i => [(13, .int .i64 (((hasS k (ss.take i)).length : Nat) : Int)), (53, .int .i64 ((i : Nat) : Int)), (7, .pointer (some ⟨bSt, 0, none⟩)), (2, .string k.b), (9, .slice sa_hv16 (((wayN (l) (k)).map fun y : Seat => y.n)).length sc_hv16), (10, .slice sa_hv25 (((wayN (l) (k)).map fun y : Seat => y.s)).length sc_hv25), (51, .slice sa_s41 ss.length sc_s41), (52, .int .i64 (((ss).length : Nat) : Int))]) (fun i _ Ml => Ml = ((b1, .cells (List.toArray [.int .i64 cfan, .int .i64 cleaf, .int .i64 cbud, .int .i64 cslots, .int .i64 crest]) 23 (0, 0)) :: (Ms4 ++ [])) ∧ i ≤ ss.length) (fun i => ss.length - i) 0 ⟨eqv, eqv, eqv, eqv, eqv, eqv, eqv, eqv, trivial⟩ ?_ ?_
      ·exact ⟨rfl, by omega⟩
      ·rintro i gG45 G45 _ hG45 ⟨rfl, hi⟩
       have hnle := has_le (ss := ss) k i
       refine WC.seq ?_
       refine WC.region ?_
       refine W.ok (ok_lss rfl rfl) ?_
       refine W.nil (thn_n ?_)
       refine WC.seq ?_
       refine WC.cond (b := _) rfl (fun h54 => ?_) (fun h54 => ?_)
       ·have p54 := of_decide_eq_true h54
        try dsimp only at p54
        refine WC.skip (thn_n ?_)
        refine WC.seq ?_
        refine WC.block ?_
        refine WC.seq ?_
        refine WC.region ?_
        have q49 := (hv_s41.mono hG45).at (i := i) (by omega)
        refine match q49 with | ⟨_, he46, ⟨pa_t47, pc_t47, ka_t47, kc_t47, ma_t47, mc_t47, ra_t47, rc_t47, qa_t47, qc_t47, e_48, hp_t47, hk_t47, hm_t47, hr_t47, hq_t47, hok_t47⟩⟩ => ?_
        subst e_48
        obtain ⟨sx, hssx⟩ : ∃ y, y = ((ss)[i]) := ⟨_, rfl⟩
        rw [← hssx] at he46 hp_t47 hk_t47 hm_t47 hr_t47 hq_t47 hok_t47
        refine W.ok (ok_indexAddr (i := i) sl27 ty39 (hv_s41.mono hG45) rfl rfl ⟨by omega, by omega⟩) ?_
        refine W.ok (ok_loadE (vs := [.int .i64 _, .int .i64 _, .slice _ _ _, .slice _ _ _, .string _, .bool _, .int .i64 _, .int .i64 _, .slice _ _ _, .slice _ _ _, .string _, .string _, .bool _, .slice _ _ _]) ty39 he46 rfl rfl rfl (by simp)) ?_
        refine W.alloc zr39 (fun b50 => ?_)
        refine W.store (i := 0) (vs := [.int .i64 _, .int .i64 _, .slice _ _ _, .slice _ _ _, .string _, .bool _, .int .i64 _, .int .i64 _, .slice _ _ _, .slice _ _ _, .string _, .string _, .bool _, .slice _ _ _]) (L' := [.int .i64 _, .int .i64 _, .slice _ _ _, .slice _ _ _, .string _, .bool _, .int .i64 _, .int .i64 _, .slice _ _ _, .slice _ _ _, .string _, .string _, .bool _, .slice _ _ _]) ty39 rfl rfl rfl rfl rfl rfl rfl rfl ?_
        refine W.nil (thn_n ?_)
        refine WC.seq ?_
        refine WC.seq ?_
        refine WC.region ?_
        refine W.ok (ok_fieldB fd39_1 rfl) ?_
        refine W.ok (ok_loadB (i := 0) (vs := [.string _, .string _, .bool _]) ty37 rfl rfl rfl rfl (by simp)) ?_
        refine W.mv ?_
        refine W.qcall (has_fc _ _ _ _) rfl ?_
        refine W.ok (ok_not rfl) ?_
        refine W.nil (thn_n ?_)
        refine WC.cond (b := _) rfl (fun h61 => ?_) (fun h61 => ?_)
        ·refine WC.exit (thn_x (blk_h (thn_n ?_)))
         refine WC.region ?_
         refine W.ok (ok_add rfl rfl (by omega)) ?_
         refine W.mv ?_
         refine W.sub ((List.Sublist.refl _).cons _) ?_
         refine W.nil (thn_n ?_)
         exact ⟨Le.rfl, i + 1, ⟨(congrArg (fun n : Nat => Value.int .i64 (n : Int)) (by rw [has_succ_f (by omega) (by rw [← hssx]; simpa using h61)])), eqv, eqv, eqv, eqv, eqv, eqv, eqv, trivial⟩, ⟨rfl, by omega⟩, by omega⟩
        ·have hk : sx.s.has k = true := by simpa using h61
         have hmem : sx ∈ ss := by rw [hssx]; exact List.getElem_mem _
         obtain ⟨hb1, hb2⟩ := has_at (ss := ss) (k := k) (i := i) (by omega) (by rw [← hssx]; exact hk)
         simp only [t.way k] at hb2
         rw [t.way k] at hb1
         rw [← hssx] at hb2
         have hwn : ((wayN l k).map fun y : Seat => y.n).length = (wayN l k).length := List.length_map ..
         have hws : ((wayN l k).map fun y : Seat => y.s).length = (wayN l k).length := List.length_map ..
         have hwl := t.way_len k
         have hen : ((wayN l k).map fun y : Seat => y.n)[(hasS k (ss.take i)).length]'(by omega) = sx.n := by rw [List.getElem_map, hb2]
         have hes : ((wayN l k).map fun y : Seat => y.s)[(hasS k (ss.take i)).length]'(by omega) = sx.s := by rw [List.getElem_map, hb2]
         refine WC.skip (thn_n ?_)
         refine WC.seq ?_
         refine WC.seq ?_
         refine WC.draw mix (by kernel_rfl) ?_
         refine W.mv ?_
         refine W.mv ?_
         refine W.ok (ok_len sl24 (hv16.mono ((hG26.trans hG34).trans hG45)) rfl) ?_
         refine W.ok (ok_geq rfl rfl) ?_
         refine W.mv ?_
         refine W.sp 66 rfl (fun h65 => ?_) (fun h65 => ?_)
         ·have p65 := of_decide_eq_true h65
          try dsimp only at p65
          exfalso; omega
         ·have p65 := of_decide_eq_false h65
          try dsimp only at p65
          refine W.yes (dj := 66) rfl rfl h65 ?_
          refine W.mv ?_
          refine W.yes (dj := 66) rfl rfl h65 ?_
          refine W.mv ?_
          refine W.yes (dj := 66) rfl rfl h65 ?_
          refine W.ok (ok_len sl79 (hv25.mono (hG34.trans hG45)) rfl) ?_
          refine W.yes (dj := 66) rfl rfl h65 ?_
          refine W.ok (ok_geq rfl rfl) ?_
          refine W.ok (ok_pick_f rfl h65) ?_
          refine W.mv ?_
          refine W.sp 72 rfl (fun h70 => ?_) (fun h70 => ?_)
          ·have p70 := of_decide_eq_true h70
           try dsimp only at p70
           exfalso; omega
          ·have p70 := of_decide_eq_false h70
           try dsimp only at p70
           refine W.yes (dj := 72) rfl rfl h70 ?_
           refine W.mv ?_
           refine W.yes (dj := 72) rfl rfl h70 ?_
           refine W.mv ?_
           refine W.yes (dj := 72) rfl rfl h70 ?_
           have q54 := (hv16.mono ((hG26.trans hG34).trans hG45)).at (i := (hasS k (ss.take i)).length) (by omega)
           refine match q54 with | ⟨_, he51, ⟨pa_n52, pc_n52, ka_n52, kc_n52, ma_n52, mc_n52, ra_n52, rc_n52, e_53, hp_n52, hk_n52, hm_n52, hr_n52, hok_n52⟩⟩ => ?_
           subst e_53
           refine W.ok (ok_indexAddr (i := (hasS k (ss.take i)).length) sl24 ty35 (hv16.mono ((hG26.trans hG34).trans hG45)) rfl rfl ⟨by omega, by omega⟩) ?_
           refine W.yes (dj := 72) rfl rfl h70 ?_
           refine W.ok (ok_loadE (vs := [.int .i64 _, .int .i64 _, .slice _ _ _, .slice _ _ _, .string _, .bool _, .int .i64 _, .int .i64 _, .slice _ _ _, .slice _ _ _]) ty35 he51 rfl rfl rfl (by simp)) ?_
           refine W.yes (dj := 72) rfl rfl h70 ?_
           refine W.ok (ok_fieldB fd39_0 rfl) ?_
           refine W.yes (dj := 72) rfl rfl h70 ?_
           refine W.ok (ok_loadB (i := 0) (vs := [.int .i64 _, .int .i64 _, .slice _ _ _, .slice _ _ _, .string _, .bool _, .int .i64 _, .int .i64 _, .slice _ _ _, .slice _ _ _]) ty35 rfl rfl rfl rfl (by simp)) ?_
           refine W.yes (dj := 72) rfl rfl h70 ?_
           refine W.qcall ((nsame3_fc ⟨_, _, _, _, _, _, _, _, rfl, hp_n52, hk_n52, hm_n52, hr_n52, hok_n52⟩ ⟨_, _, _, _, _, _, _, _, rfl, hp_t47, hk_t47, hm_t47, hr_t47, hok_t47⟩).mono (fun v _ _ _ hv => hv.trans (congrArg Value.bool (decide_eq_true (hen))))) rfl ?_
           refine W.yes (dj := 72) rfl rfl h70 ?_
           refine W.ok (ok_not rfl) ?_
           refine W.ok (ok_pick_f rfl h70) ?_
           refine W.mv ?_
           refine W.yes (dj := 82) rfl rfl rfl ?_
           refine W.mv ?_
           refine W.yes (dj := 82) rfl rfl rfl ?_
           refine W.mv ?_
           refine W.yes (dj := 82) rfl rfl rfl ?_
           have q58 := (hv25.mono (hG34.trans hG45)).at (i := (hasS k (ss.take i)).length) (by omega)
           refine match q58 with | ⟨_, he55, e_57⟩ => ?_
           subst e_57
           refine W.ok (ok_indexAddr (i := (hasS k (ss.take i)).length) sl79 ty37 (hv25.mono (hG34.trans hG45)) rfl rfl ⟨by omega, by omega⟩) ?_
           refine W.yes (dj := 82) rfl rfl rfl ?_
           refine W.ok (ok_loadE (vs := [.string _, .string _, .bool _]) ty37 he55 rfl rfl rfl (by simp)) ?_
           refine W.yes (dj := 82) rfl rfl rfl ?_
           refine W.ok (ok_fieldB fd39_1 rfl) ?_
           refine W.yes (dj := 82) rfl rfl rfl ?_
           refine W.ok (ok_loadB (i := 0) (vs := [.string _, .string _, .bool _]) ty37 rfl rfl rfl rfl (by simp)) ?_
           refine W.yes (dj := 82) rfl rfl rfl ?_
           refine W.ok (ok_neqA (L1 := [.string _, .string _, .bool _]) (L2 := [.string _, .string _, .bool _]) eq37 rfl rfl rfl rfl) ?_
           refine W.ok (ok_pick_f rfl rfl) ?_
           refine W.nil (thn_n ?_)
           refine WC.cond (b := _) rfl (fun h89 => ?_) (fun h89 => ?_)
           ·have h0 : (!eqCells (Span.cells (((wayN l k).map fun y : Seat => y.s)[(hasS k (ss.take i)).length])) (Span.cells sx.s)) = true := h89
            rw [Span.eqC, hes] at h0
            simp at h0
           ·refine WC.skip (thn_n ?_)
            refine WC.seq ?_
            refine WC.region ?_
            refine W.mv ?_
            refine W.ok (ok_add rfl rfl (by omega)) ?_
            refine W.as ?_
            refine W.nil (thn_n ?_)
            refine WC.seq ?_
            refine WC.region ?_
            refine W.ok (ok_fieldB fd39_0 rfl) ?_
            refine W.ok (ok_fieldB fd35_1 rfl) ?_
            refine W.ok (ok_loadB (i := 0) (vs := [.int .i64 _]) ty3 rfl rfl rfl rfl (by simp)) ?_
            refine W.ok (ok_eql rfl rfl) ?_
            refine W.nil (thn_n ?_)
            refine WC.cond (b := _) rfl (fun h96 => ?_) (fun h96 => ?_)
            ·have p96 := of_decide_eq_true h96
             try dsimp only at p96
             have hlf : sx = leafS l k := t.leaf_eq hmem hk p96
             refine WC.seq ?_
             refine WC.region ?_
             refine W.mv ?_
             refine W.mv ?_
             refine W.call (Mp := Ms4) (leaf_fc (StR.mono (((hG17.trans hG26).trans hG34).trans hG45) hS9) t _) rfl (pmC (pmC (List.Perm.refl _))) ?_
             intro v63 G60 Ms62 hG60 q61
             refine match q61 with | ⟨eeq61, _, e_65, hv59⟩ => ?_
             subst e_65
             have eeq61 := eeq61.symm
             subst eeq61
             refine W.perm (pmC (pmC (List.Perm.refl _))).symm ?_
             refine match hv59 with | ⟨pa_hv59, pc_hv59, ka_hv59, kc_hv59, ma_hv59, mc_hv59, ra_hv59, rc_hv59, e_66, hp_hv59, hk_hv59, hm_hv59, hr_hv59, hok_hv59⟩ => ?_
             subst e_66
             refine W.mv ?_
             refine W.ok (ok_extract rfl rfl) ?_
             refine W.ok (ok_extract rfl rfl) ?_
             refine W.ok (ok_extract rfl rfl) ?_
             refine W.alloc zr35 (fun b67 => ?_)
             refine W.alloc zr37 (fun b68 => ?_)
             refine W.store (i := 1) (vs := [.int .i64 _, .int .i64 _, .slice _ _ _, .slice _ _ _, .string _, .bool _, .int .i64 _, .int .i64 _, .slice _ _ _, .slice _ _ _]) (L' := [.int .i64 _, .int .i64 _, .slice _ _ _, .slice _ _ _, .string _, .bool _, .int .i64 _, .int .i64 _, .slice _ _ _, .slice _ _ _]) ty35 rfl rfl rfl rfl rfl rfl rfl rfl ?_
             refine W.store (i := 0) (vs := [.string _, .string _, .bool _]) (L' := [.string _, .string _, .bool _]) ty37 rfl rfl rfl rfl rfl rfl rfl rfl ?_
             refine W.as ?_
             refine W.nil (thn_n ?_)
             refine WC.seq ?_
             refine WC.drawW _ (((((List.nil_sublist _).cons_cons _).cons_cons _).cons_cons _).cons_cons _) mix (by rintro _ _ _ _ ⟨h | h, _⟩ <;> cases h) ?_
             refine WD.take 0 rfl rfl rfl (by kernel_rfl) (by kernel_rfl) (by kernel_rfl) (ok_mv) ?_
             refine WD.take 1 rfl rfl rfl (by kernel_rfl) (by kernel_rfl) (by kernel_rfl) (ok_not rfl) ?_
             refine WD.take 2 rfl rfl rfl (by kernel_rfl) (by kernel_rfl) (by kernel_rfl) (ok_mv) ?_
             refine WD.takeY 3 106 rfl rfl rfl rfl rfl rfl (by kernel_rfl) (by kernel_rfl) (by kernel_rfl) (ok_loadB (i := 1) (vs := [.int .i64 _, .int .i64 _, .slice _ _ _, .slice _ _ _, .string _, .bool _, .int .i64 _, .int .i64 _, .slice _ _ _, .slice _ _ _]) ty35 rfl rfl rfl rfl (by simp)) ?_
             refine WD.takeY 4 106 rfl rfl rfl rfl rfl rfl (by kernel_rfl) (by kernel_rfl) (by kernel_rfl) (ok_fieldB fd39_0 rfl) ?_
             refine WD.takeY 5 106 rfl rfl rfl rfl rfl rfl (by kernel_rfl) (by kernel_rfl) (by kernel_rfl) (ok_loadB (i := 2) (vs := [.int .i64 _, .int .i64 _, .slice _ _ _, .slice _ _ _, .string _, .bool _, .int .i64 _, .int .i64 _, .slice _ _ _, .slice _ _ _]) ty35 rfl rfl rfl rfl (by simp)) ?_
             refine WD.anyG [6] (by kernel_rfl) rfl ⟨⟨_, rfl, .inr ⟨_, 106, _, _, rfl, rfl, rfl, rfl, rfl⟩, ?_⟩, trivial⟩
             refine W.qcall ((nsame3_fc ⟨_, _, _, _, _, _, _, _, rfl, hp_hv59, hk_hv59, hm_hv59, hr_hv59, hok_hv59⟩ ⟨_, _, _, _, _, _, _, _, rfl, (hp_t47.mono hG60), (hk_t47.mono hG60), (hm_t47.mono hG60), (hr_t47.mono hG60), hok_t47⟩).mono (fun v _ _ _ hv => hv.trans (congrArg Value.bool (decide_eq_true (congrArg Seat.n hlf.symm))))) rfl ?_
             refine W.nil ⟨Le.rfl, ((((List.nil_sublist _).cons_cons _).cons_cons _).cons_cons _).cons_cons _, _, ((((List.nil_sublist _).cons_cons _).cons_cons _).cons_cons _).cons_cons _, List.Sublist.refl _, ?_⟩
             refine WD.takeY 7 106 rfl rfl rfl rfl rfl rfl (by kernel_rfl) (by kernel_rfl) (by kernel_rfl) (ok_not rfl) ?_
             refine WD.take 8 rfl rfl rfl (by kernel_rfl) (by kernel_rfl) (by kernel_rfl) (ok_pick_f rfl rfl) ?_
             refine WD.take 9 rfl rfl rfl (by kernel_rfl) (by kernel_rfl) (by kernel_rfl) (ok_mv) ?_
             refine WD.takeY 10 113 rfl rfl rfl rfl rfl rfl (by kernel_rfl) (by kernel_rfl) (by kernel_rfl) (ok_loadB (i := 0) (vs := [.string _, .string _, .bool _]) ty37 rfl rfl rfl rfl (by simp)) ?_
             refine WD.takeY 11 113 rfl rfl rfl rfl rfl rfl (by kernel_rfl) (by kernel_rfl) (by kernel_rfl) (ok_fieldB fd39_1 rfl) ?_
             refine WD.takeY 12 113 rfl rfl rfl rfl rfl rfl (by kernel_rfl) (by kernel_rfl) (by kernel_rfl) (ok_loadB (i := 2) (vs := [.string _, .string _, .bool _]) ty37 rfl rfl rfl rfl (by simp)) ?_
             refine WD.takeY 13 113 rfl rfl rfl rfl rfl rfl (by kernel_rfl) (by kernel_rfl) (by kernel_rfl) (ok_neqA (L1 := [.string _, .string _, .bool _]) (L2 := [.string _, .string _, .bool _]) eq37 rfl rfl rfl rfl) ?_
             refine WD.take 14 rfl rfl rfl (by kernel_rfl) (by kernel_rfl) (by kernel_rfl) (ok_pick_f rfl rfl) ?_
             refine WD.take 15 rfl rfl rfl (by kernel_rfl) (by kernel_rfl) (by kernel_rfl) (ok_mv) ?_
             refine WD.sp 119 rfl (fun h117 => ?_) (fun h117 => ?_)
             ·have h0 : (!eqCells (Span.cells ((leafS l k).s)) (Span.cells sx.s)) = true := h117
              rw [Span.eqC, ← hlf] at h0
              simp at h0
             ·refine WD.takeY 16 119 rfl rfl rfl rfl rfl h117 (by kernel_rfl) (by kernel_rfl) (by kernel_rfl) (ok_mv) ?_
              refine WD.takeY 17 119 rfl rfl rfl rfl rfl h117 (by kernel_rfl) (by kernel_rfl) (by kernel_rfl) (ok_mv) ?_
              refine WD.takeY 19 119 rfl rfl rfl rfl rfl h117 (by kernel_rfl) (by kernel_rfl) (by kernel_rfl) (ok_fieldB fd39_2 rfl) ?_
              refine WD.takeY 20 119 rfl rfl rfl rfl rfl h117 (by kernel_rfl) (by kernel_rfl) (by kernel_rfl) (ok_loadB (i := 2) (vs := [.slice _ _ _]) ty33 rfl rfl rfl rfl (by simp)) ?_
              refine WD.anyG [18] (by kernel_rfl) rfl ⟨⟨_, rfl, .inr ⟨_, 119, _, _, rfl, rfl, rfl, h117, rfl⟩, ?_⟩, trivial⟩
              refine W.call (Mp := Ms4) (msgs_fc (StR.mono ((((hG17.trans hG26).trans hG34).trans hG45).trans hG60) hS9) t _) rfl (pmC (pmC (pmC (pmC (List.Perm.refl _))))) ?_
              intro v73 G70 Ms72 hG70 q71
              refine match q71 with | ⟨eeq71, _, e_75, hv69⟩ => ?_
              subst e_75
              have eeq71 := eeq71.symm
              subst eeq71
              refine W.perm (pmC (pmC (pmC (pmC (List.Perm.refl _))))).symm ?_
              have q77 := hv69.form
              refine match q77 with | ⟨sa_hv69, sc_hv69, e_76⟩ => ?_
              subst e_76
              refine W.nil ⟨hG70, ((((List.nil_sublist _).cons_cons _).cons_cons _).cons_cons _).cons_cons _, _, ((((List.nil_sublist _).cons_cons _).cons_cons _).cons_cons _).cons_cons _, List.Sublist.refl _, ?_⟩
              refine WD.anyG [21] (by kernel_rfl) rfl ⟨⟨_, rfl, .inr ⟨_, 119, _, _, rfl, rfl, rfl, h117, rfl⟩, ?_⟩, trivial⟩
              refine W.qcall ((samem_fc hv69 (hq_t47.mono (hG60.trans hG70))).mono (fun v _ _ _ hv => hv.trans (congrArg Value.bool (decide_eq_true (by rw [← hlf]))))) rfl ?_
              refine W.nil ⟨Le.rfl, ((((List.nil_sublist _).cons_cons _).cons_cons _).cons_cons _).cons_cons _, _, ((((List.nil_sublist _).cons_cons _).cons_cons _).cons_cons _).cons_cons _, List.Sublist.refl _, ?_⟩
              refine WD.takeY 22 119 rfl rfl rfl rfl rfl h117 (by kernel_rfl) (by kernel_rfl) (by kernel_rfl) (ok_not rfl) ?_
              refine WD.take 23 rfl rfl rfl (by kernel_rfl) (by kernel_rfl) (by kernel_rfl) (ok_pick_f rfl h117) ?_
              refine WD.done (by kernel_rfl) (thn_n ?_)
              refine WC.cond_f rfl rfl ?_
              refine WC.skip (blk_n (thn_n ?_))
              refine WC.region ?_
              refine W.ok (ok_add rfl rfl (by omega)) ?_
              refine W.mv ?_
              refine W.sub ((((List.Sublist.refl _).cons _).cons _).cons _) ?_
              refine W.nil (thn_n ?_)
              exact ⟨(hG60.trans hG70), i + 1, ⟨(congrArg (fun n : Nat => Value.int .i64 (n : Int)) (by rw [has_succ_t (by omega) (by rw [← hssx]; exact hk)]; simp)), eqv, eqv, eqv, eqv, eqv, eqv, eqv, trivial⟩, ⟨rfl, by omega⟩, by omega⟩
            ·have p96 := of_decide_eq_false h96
             try dsimp only at p96
             refine WC.skip (blk_n (thn_n ?_))
             refine WC.region ?_
             refine W.ok (ok_add rfl rfl (by omega)) ?_
             refine W.mv ?_
             refine W.sub ((List.Sublist.refl _).cons _) ?_
             refine W.nil (thn_n ?_)
             exact ⟨Le.rfl, i + 1, ⟨(congrArg (fun n : Nat => Value.int .i64 (n : Int)) (by rw [has_succ_t (by omega) (by rw [← hssx]; exact hk)]; simp)), eqv, eqv, eqv, eqv, eqv, eqv, eqv, trivial⟩, ⟨rfl, by omega⟩, by omega⟩
       ·have p54 := of_decide_eq_false h54
        try dsimp only at p54
        have hfin : (hasS k (ss.take i)).length = (wayN l k).length := by rw [List.take_of_length_le (by omega), t.way k]
        have hwn : ((wayN l k).map fun y : Seat => y.n).length = (wayN l k).length := List.length_map ..
        have hws : ((wayN l k).map fun y : Seat => y.s).length = (wayN l k).length := List.length_map ..
        refine WC.exit (thn_x (thn_x (blk_h (thn_n ?_))))
        refine WC.seq ?_
        refine WC.region ?_
        refine W.mv ?_
        refine W.call (Mp := []) (leaf_nil _) rfl (List.Perm.refl _) ?_
        intro _ G78 _ hG78 q80
        refine match q80 with | ⟨e_81, _, e_82, hv79⟩ => ?_
        subst e_81
        subst e_82
        refine match hv79 with | ⟨pa_hv79, pc_hv79, ka_hv79, kc_hv79, ma_hv79, mc_hv79, ra_hv79, rc_hv79, e_83, hp_hv79, hk_hv79, hm_hv79, hr_hv79, hok_hv79⟩ => ?_
        subst e_83
        refine W.mv ?_
        refine W.ok (ok_extract rfl rfl) ?_
        refine W.ok (ok_extract rfl rfl) ?_
        refine W.ok (ok_extract rfl rfl) ?_
        refine W.alloc zr35 (fun b84 => ?_)
        refine W.alloc zr37 (fun b85 => ?_)
        refine W.store (i := 1) (vs := [.int .i64 _, .int .i64 _, .slice _ _ _, .slice _ _ _, .string _, .bool _, .int .i64 _, .int .i64 _, .slice _ _ _, .slice _ _ _]) (L' := [.int .i64 _, .int .i64 _, .slice _ _ _, .slice _ _ _, .string _, .bool _, .int .i64 _, .int .i64 _, .slice _ _ _, .slice _ _ _]) ty35 rfl rfl rfl rfl rfl rfl rfl rfl ?_
        refine W.store (i := 0) (vs := [.string _, .string _, .bool _]) (L' := [.string _, .string _, .bool _]) ty37 rfl rfl rfl rfl rfl rfl rfl rfl ?_
        refine W.as ?_
        refine W.nil (thn_n ?_)
        refine WC.seq ?_
        refine WC.region ?_
        refine W.mv ?_
        refine W.mv ?_
        refine W.ok (ok_len sl24 (hv16.mono (((hG26.trans hG34).trans hG45).trans hG78)) rfl) ?_
        refine W.ok (ok_eql rfl rfl) ?_
        refine W.mv ?_
        refine W.sp 139 rfl (fun h138 => ?_) (fun h138 => ?_)
        ·have p138 := of_decide_eq_true h138
         try dsimp only at p138
         refine W.yes (dj := 139) rfl rfl h138 ?_
         refine W.mv ?_
         refine W.yes (dj := 139) rfl rfl h138 ?_
         refine W.mv ?_
         refine W.yes (dj := 139) rfl rfl h138 ?_
         refine W.ok (ok_len sl79 (hv25.mono ((hG34.trans hG45).trans hG78)) rfl) ?_
         refine W.yes (dj := 139) rfl rfl h138 ?_
         refine W.ok (ok_eql rfl rfl) ?_
         refine W.ok (ok_pick_t rfl h138) ?_
         refine W.mv ?_
         refine W.sp 145 rfl (fun h143 => ?_) (fun h143 => ?_)
         ·have p143 := of_decide_eq_true h143
          try dsimp only at p143
          refine W.yes (dj := 145) rfl rfl h143 ?_
          refine W.mv ?_
          refine W.yes (dj := 145) rfl rfl h143 ?_
          refine W.ok (ok_not rfl) ?_
          refine W.ok (ok_pick_t rfl h143) ?_
          refine W.mv ?_
          refine W.yes (dj := 149) rfl rfl rfl ?_
          refine W.mv ?_
          refine W.yes (dj := 149) rfl rfl rfl ?_
          refine W.call (Mp := []) (nodes_nil _) rfl (List.Perm.refl _) ?_
          intro _ G86 _ hG86 q88
          refine match q88 with | ⟨e_89, _, e_90, hv87⟩ => ?_
          subst e_89
          subst e_90
          have q92 := hv87.form
          refine match q92 with | ⟨sa_hv87, sc_hv87, e_91⟩ => ?_
          subst e_91
          refine W.yes (dj := 149) rfl rfl rfl ?_
          refine W.ok (ok_len sl24 hv87 rfl) ?_
          refine W.yes (dj := 149) rfl rfl rfl ?_
          refine W.mv ?_
          refine W.yes (dj := 149) rfl rfl rfl ?_
          refine W.call (Mp := []) (spans_nil _) rfl (List.Perm.refl _) ?_
          intro _ G93 _ hG93 q95
          refine match q95 with | ⟨e_96, _, e_97, hv94⟩ => ?_
          subst e_96
          subst e_97
          have q99 := hv94.form
          refine match q99 with | ⟨sa_hv94, sc_hv94, e_98⟩ => ?_
          subst e_98
          refine W.yes (dj := 149) rfl rfl rfl ?_
          refine W.ok (ok_len sl79 hv94 rfl) ?_
          refine W.yes (dj := 149) rfl rfl rfl ?_
          refine W.ok (ok_add rfl rfl (by simp only [List.length_nil]; omega)) ?_
          refine W.yes (dj := 149) rfl rfl rfl ?_
          refine W.mv ?_
          refine W.yes (dj := 149) rfl rfl rfl ?_
          refine W.call (Mp := []) (msgs_nil _) rfl (List.Perm.refl _) ?_
          intro _ G100 _ hG100 q102
          refine match q102 with | ⟨e_103, _, e_104, hv101⟩ => ?_
          subst e_103
          subst e_104
          have q106 := hv101.form
          refine match q106 with | ⟨sa_hv101, sc_hv101, e_105⟩ => ?_
          subst e_105
          refine W.yes (dj := 149) rfl rfl rfl ?_
          refine W.ok (ok_len sl33 hv101 rfl) ?_
          refine W.yes (dj := 149) rfl rfl rfl ?_
          refine W.ok (ok_add rfl rfl (by simp only [List.length_nil]; omega)) ?_
          refine W.yes (dj := 149) rfl rfl rfl ?_
          refine W.ok (ok_eql rfl rfl) ?_
          refine W.ok (ok_pick_t rfl rfl) ?_
          refine W.mv ?_
          refine W.sp 163 rfl (fun h161 => ?_) (fun h161 => ?_)
          ·have p161 := of_decide_eq_true h161
           try dsimp only at p161
           refine W.yes (dj := 163) rfl rfl h161 ?_
           refine W.qcall (awake27_fc) rfl ?_
           refine W.ok (ok_pick_t rfl h161) ?_
           refine W.as ?_
           refine W.nil (thn_n ?_)
           refine WC.ret ?_
           refine ⟨.inr rfl, [_], ⟨rfl, trivial⟩, [], List.nil_sublist _, ?_⟩
           rfl
          ·have p161 := of_decide_eq_false h161
           try dsimp only at p161
           exact absurd rfl p161
         ·have p143 := of_decide_eq_false h143
          try dsimp only at p143
          exfalso; omega
        ·have p138 := of_decide_eq_false h138
         try dsimp only at p138
         exfalso; omega
     ·exact absurd (t.sts.symm.trans (by obtain ⟨_, _, h0, _⟩ := q40; exact h0)) (by simp)

end Go.Proofs.Ytebkfinhhpelbaa
