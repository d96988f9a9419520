/- The law AnswerDoes is walked. -/
import Derived.Test.YthmkpaoolhcibaaDoorWr
namespace Go.Proofs.YthmkpaoolhcibaaDoor
open Go Go.Fw Go.RowKit
set_option maxRecDepth 100000
set_option maxHeartbeats 1600000
set_option linter.unusedVariables false
set_option linter.unusedSimpArgs false
set_option linter.unnecessarySimpa false
theorem answerDoes_of {G : GH} {v_l : Value} {l : List Pair} (h_l : SlR ePair G v_l l) {v_ops : Value} {ops : List Opr} (h_ops : SlR eOp G v_ops ops) (haw : ∀ {G : GH}, Fc Tryd.prog 6 [] G [] (fun v _ _ => v = .bool true)) :
    Fc Tryd.prog 4 [v_l, v_ops] G [] (fun v _ _ => v = .bool (true)) := by
 obtain ⟨sa_l, sc_l, rfl⟩ := h_l.form
 obtain ⟨sa_ops, sc_ops, rfl⟩ := h_ops.form
 have hl := h_l.len47
 have hlo := h_ops.len47
 refine Fc.intro (rs := [.tmp 4]) cl4 Tryd.func4 rfl Tryd.ntmps4 rfl rfl (fun w0 => ?_)
 refine WC.seq ?_
 refine WC.region ?_
 refine W.as ?_
 refine W.nil (thn_n ?_)
 refine WC.seq ?_
 refine WC.seq ?_
 refine WC.region ?_
 refine W.mv ?_
 refine W.qcall (longp_fc h_l _ (by omega)) rfl ?_
 refine W.ok (ok_not rfl) ?_
 refine W.mv ?_
 refine W.sp 17 rfl (fun h16 => ?_) (fun h16 => ?_)
 ·refine W.no (dj := 17) rfl rfl h16 ?_
  refine W.no (dj := 17) rfl rfl h16 ?_
  refine W.no (dj := 17) rfl rfl h16 ?_
  refine W.ok (ok_pick_t rfl h16) ?_
  refine W.mv ?_
  refine W.no (dj := 22) rfl rfl rfl ?_
  refine W.no (dj := 22) rfl rfl rfl ?_
  refine W.no (dj := 22) rfl rfl rfl ?_
  refine W.ok (ok_pick_t rfl rfl) ?_
  refine W.mv ?_
  refine W.no (dj := 27) rfl rfl rfl ?_
  refine W.no (dj := 27) rfl rfl rfl ?_
  refine W.no (dj := 27) rfl rfl rfl ?_
  refine W.ok (ok_pick_t rfl rfl) ?_
  refine W.nil (thn_n ?_)
  refine WC.cond_t rfl rfl ?_
  refine WC.seq ?_
  refine WC.region ?_
  refine W.qcall (haw) rfl ?_
  refine W.as ?_
  refine W.nil (thn_n ?_)
  refine WC.ret (thn_r ?_)
  refine ⟨.inr rfl, [_], ⟨rfl, trivial⟩, [], List.nil_sublist _, ?_⟩
  rfl
 ·refine W.yes (dj := 17) rfl rfl h16 ?_
  refine W.mv ?_
  refine W.yes (dj := 17) rfl rfl h16 ?_
  refine W.qcall (rightp_fc h_l) rfl ?_
  refine W.yes (dj := 17) rfl rfl h16 ?_
  refine W.ok (ok_not rfl) ?_
  refine W.ok (ok_pick_f rfl h16) ?_
  refine W.mv ?_
  refine W.sp 22 rfl (fun h20 => ?_) (fun h20 => ?_)
  ·refine W.no (dj := 22) rfl rfl h20 ?_
   refine W.no (dj := 22) rfl rfl h20 ?_
   refine W.no (dj := 22) rfl rfl h20 ?_
   refine W.ok (ok_pick_t rfl h20) ?_
   refine W.mv ?_
   refine W.no (dj := 27) rfl rfl rfl ?_
   refine W.no (dj := 27) rfl rfl rfl ?_
   refine W.no (dj := 27) rfl rfl rfl ?_
   refine W.ok (ok_pick_t rfl rfl) ?_
   refine W.nil (thn_n ?_)
   refine WC.cond_t rfl rfl ?_
   refine WC.seq ?_
   refine WC.region ?_
   refine W.qcall (haw) rfl ?_
   refine W.as ?_
   refine W.nil (thn_n ?_)
   refine WC.ret (thn_r ?_)
   refine ⟨.inr rfl, [_], ⟨rfl, trivial⟩, [], List.nil_sublist _, ?_⟩
   rfl
  ·refine W.yes (dj := 22) rfl rfl h20 ?_
   refine W.mv ?_
   refine W.yes (dj := 22) rfl rfl h20 ?_
   refine W.ok (ok_len sl33 h_ops rfl) ?_
   refine W.yes (dj := 22) rfl rfl h20 ?_
   refine W.ok (ok_gtr rfl rfl) ?_
   refine W.ok (ok_pick_f rfl h20) ?_
   refine W.mv ?_
   refine W.sp 27 rfl (fun h25 => ?_) (fun h25 => ?_)
   ·have p25 := of_decide_eq_true h25
    refine W.no (dj := 27) rfl rfl h25 ?_
    refine W.no (dj := 27) rfl rfl h25 ?_
    refine W.no (dj := 27) rfl rfl h25 ?_
    refine W.ok (ok_pick_t rfl h25) ?_
    refine W.nil (thn_n ?_)
    refine WC.cond_t rfl rfl ?_
    refine WC.seq ?_
    refine WC.region ?_
    refine W.qcall (haw) rfl ?_
    refine W.as ?_
    refine W.nil (thn_n ?_)
    refine WC.ret (thn_r ?_)
    refine ⟨.inr rfl, [_], ⟨rfl, trivial⟩, [], List.nil_sublist _, ?_⟩
    rfl
   ·have p25 := of_decide_eq_false h25
    refine W.yes (dj := 27) rfl rfl h25 ?_
    refine W.mv ?_
    refine W.yes (dj := 27) rfl rfl h25 ?_
    refine W.qcall (r7all_fc h_ops _) rfl ?_
    refine W.yes (dj := 27) rfl rfl h25 ?_
    refine W.ok (ok_not rfl) ?_
    refine W.ok (ok_pick_f rfl h25) ?_
    refine W.nil (thn_n ?_)
    refine WC.cond (b := _) rfl (fun h30 => ?_) (fun h30 => ?_)
    ·refine WC.seq ?_
     refine WC.region ?_
     refine W.qcall (haw) rfl ?_
     refine W.as ?_
     refine W.nil (thn_n ?_)
     refine WC.ret (thn_r ?_)
     refine ⟨.inr rfl, [_], ⟨rfl, trivial⟩, [], List.nil_sublist _, ?_⟩
     rfl
    ·have hP : PairsR l := by simpa using h20
     have n1 : longG Pair.w l 0 2000 ≤ 2000 := by simpa using h16
     have q1 := longG_len Pair.w_pos (l := l) (n := 0) (m := 2000) (by simpa using h16)
     have hn : l.length + ops.length ≤ 1000000 := by omega
     refine WC.skip (thn_n ?_)
     refine WC.seq ?_
     refine WC.region ?_
     refine W.mv ?_
     refine W.as ?_
     refine W.nil (thn_n ?_)
     refine WC.seq ?_
     refine WC.region ?_
     refine W.mv ?_
     refine W.as ?_
     refine W.nil (thn_n ?_)
     refine WC.seq ?_
     refine WC.region ?_
     refine W.as ?_
     refine W.nil (thn_n ?_)
     refine WC.seq ?_
     refine WC.seq ?_
     refine WC.region ?_
     refine W.mv ?_
     refine W.ok (ok_len sl33 h_ops rfl) ?_
     refine W.mv ?_
     refine W.nil (thn_n ?_)
     refine WC.block ?_
     refine WC.loop (X := (Nat) × Value × MH × Value × Value) (fun k => [(37, .int .i64 ((k.1 : Nat) : Int)), (0, .slice sa_l l.length sc_l), (1, .slice sa_ops ops.length sc_ops), (35, .slice sa_ops ops.length sc_ops), (36, .int .i64 (((ops).length : Nat) : Int)), (7, k.2.1), (5, k.2.2.2.1), (6, k.2.2.2.2)]) (fun k G Ml => Ml = (k.2.2.1 ++ []) ∧ OwnR eAns 27 G k.2.1 ((opsN l (ops.take k.1)).2) k.2.2.1 ∧ SlR ePair G k.2.2.2.1 ((opsN l (ops.take k.1)).1) ∧ SlR ePair G k.2.2.2.2 ((opsN l (ops.take k.1)).1) ∧ k.1 ≤ ops.length) (fun k => ops.length - k.1) (0, .slice none 0 0, ([] : MH), .slice sa_l l.length sc_l, .slice sa_l l.length sc_l) ⟨(by first | rfl | exact iv (by dsimp only; omega) | exact iv (by omega)), (by first | rfl | exact iv (by dsimp only; omega) | exact iv (by omega)), (by first | rfl | exact iv (by dsimp only; omega) | exact iv (by omega)), (by first | rfl | exact iv (by dsimp only; omega) | exact iv (by omega)), (by first | rfl | exact iv (by dsimp only; omega) | exact iv (by omega)), (by first | rfl | exact iv (by dsimp only; omega) | exact iv (by omega)), (by first | rfl | exact iv (by dsimp only; omega) | exact iv (by omega)), (by first | rfl | exact iv (by dsimp only; omega) | exact iv (by omega)), trivial⟩ ?_ ?_
     ·exact ⟨rfl, (by simpa [opsN] using OwnR.nil), (by simpa [opsN] using h_l), (by simpa [opsN] using h_l), by omega⟩
     ·rintro ⟨k, v_7, M_7, v_5, v_6⟩ gG1 G1 _ hG1 ⟨rfl, ho_7, ho_5, ho_6, hk9⟩
      try dsimp only at ho_7 ho_5 ho_6 hk9
      obtain ⟨hPk, hnk, hak⟩ := opsN_R (l := l) (ops := ops) hP k hk9
      refine WC.fr (f := setL gG1 [(37, .int .i64 ((k : Nat) : Int)), (0, .slice sa_l l.length sc_l), (1, .slice sa_ops ops.length sc_ops), (35, .slice sa_ops ops.length sc_ops), (36, .int .i64 (((ops).length : Nat) : Int)), (7, v_7), (5, v_5), (6, v_6)]) rfl ?_
      refine WC.seq ?_
      refine WC.region ?_
      refine W.ok (ok_lss rfl rfl) ?_
      refine W.nil (thn_n ?_)
      refine WC.seq ?_
      refine WC.cond (b := _) rfl (fun h38 => ?_) (fun h38 => ?_)
      ·have p38 := of_decide_eq_true h38
       refine WC.skip (thn_n ?_)
       refine WC.seq ?_
       refine WC.block ?_
       refine WC.seq ?_
       refine WC.region ?_
       have q6 := (h_ops.mono hG1).at (i := k) (by omega)
       refine match q6 with | ⟨_, he2, ⟨e_5, hm3⟩⟩ => ?_
       subst e_5
       refine W.ok (ok_indexAddr (i := k) sl33 ty23 (h_ops.mono hG1) rfl rfl ⟨by omega, by omega⟩) ?_
       refine W.ok (ok_loadE (vs := [.int .i64 _, .string _, .string _, .bool _, .string _, .int .i64 _]) ty23 he2 rfl rfl rfl (by simp)) ?_
       refine W.alloc zr23 (fun b7 => ?_)
       refine W.store (i := 0) (vs := [.int .i64 _, .string _, .string _, .bool _, .string _, .int .i64 _]) (L' := [.int .i64 _, .string _, .string _, .bool _, .string _, .int .i64 _]) ty23 rfl rfl rfl rfl rfl rfl rfl rfl ?_
       refine W.nil (thn_n ?_)
       refine WC.seq ?_
       refine WC.region ?_
       refine W.alloc zr27 (fun b8 => ?_)
       refine W.alloc zr27 (fun b9 => ?_)
       refine W.nil (thn_n ?_)
       refine WC.seq ?_
       refine WC.region ?_
       refine W.mv ?_
       refine W.ok (ok_loadB (i := 2) (vs := [.int .i64 _, .string _, .string _, .bool _, .string _, .int .i64 _]) ty23 rfl rfl rfl rfl (by simp)) ?_
       refine W.call (Mp := []) (ado_fc ho_5 ops[k].kind ops[k].key ops[k].hi ops[k].opn ops[k].val ops[k].lim hPk (by omega)) rfl (List.Perm.refl _) ?_
       intro _ G10 _ hG10 q13
       refine match q13 with | ⟨e_14, _, e_15, _, _, e_16, hv11, hv12⟩ => ?_
       subst e_14
       subst e_15
       subst e_16
       have q18 := hv11.form
       refine match q18 with | ⟨sa_hv11, sc_hv11, e_17⟩ => ?_
       subst e_17
       refine match hv12 with | ⟨pa_hv12, pc_hv12, e_19, hw_hv12, hok_hv12⟩ => ?_
       subst e_19
       refine W.mv ?_
       refine W.ok (ok_extract rfl rfl) ?_
       refine W.ok (ok_extract rfl rfl) ?_
       refine W.as ?_
       refine W.store (i := 1) (vs := [.int .i64 _, .bool _, .string _, .slice _ _ _]) (L' := [.int .i64 _, .bool _, .string _, .slice _ _ _]) ty27 rfl rfl rfl rfl rfl rfl rfl rfl ?_
       refine W.nil (thn_n ?_)
       refine WC.seq ?_
       refine WC.region ?_
       refine W.mv ?_
       refine W.ok (ok_loadB (i := 2) (vs := [.int .i64 _, .string _, .string _, .bool _, .string _, .int .i64 _]) ty23 rfl rfl rfl rfl (by simp)) ?_
       refine W.call (Mp := []) (rdo_fc (ho_6.mono hG10) ops[k].kind ops[k].key ops[k].hi ops[k].opn ops[k].val ops[k].lim hPk (by omega)) rfl (List.Perm.refl _) ?_
       intro _ G20 _ hG20 q23
       refine match q23 with | ⟨e_24, _, e_25, _, _, e_26, hv21, hv22⟩ => ?_
       subst e_24
       subst e_25
       subst e_26
       have q28 := hv21.form
       refine match q28 with | ⟨sa_hv21, sc_hv21, e_27⟩ => ?_
       subst e_27
       refine match hv22 with | ⟨pa_hv22, pc_hv22, e_29, hw_hv22, hok_hv22⟩ => ?_
       subst e_29
       refine W.mv ?_
       refine W.ok (ok_extract rfl rfl) ?_
       refine W.ok (ok_extract rfl rfl) ?_
       refine W.as ?_
       refine W.store (i := 0) (vs := [.int .i64 _, .bool _, .string _, .slice _ _ _]) (L' := [.int .i64 _, .bool _, .string _, .slice _ _ _]) ty27 rfl rfl rfl rfl rfl rfl rfl rfl ?_
       refine W.nil (thn_n ?_)
       refine WC.seq ?_
       refine WC.seq ?_
       refine WC.region ?_
       refine W.mv ?_
       refine W.mv ?_
       refine W.qcall ((samep_fc (hv11.mono hG20) hv21).mono (fun v _ _ _ hv => hv.trans (congrArg Value.bool (decide_eq_true rfl)))) rfl ?_
       refine W.ok (ok_not rfl) ?_
       refine W.mv ?_
       refine W.yes (dj := 57) rfl rfl rfl ?_
       refine W.ok (ok_loadB (i := 1) (vs := [.int .i64 _, .bool _, .string _, .slice _ _ _]) ty27 rfl rfl rfl rfl (by simp)) ?_
       refine W.yes (dj := 57) rfl rfl rfl ?_
       refine W.ok (ok_loadB (i := 0) (vs := [.int .i64 _, .bool _, .string _, .slice _ _ _]) ty27 rfl rfl rfl rfl (by simp)) ?_
       refine W.yes (dj := 57) rfl rfl rfl ?_
       refine W.qcall ((ranssame_fc (show AnsC _ _ ((doN (opsN l (ops.take k)).1 (ops[k]'(by omega))).2) from ⟨_, _, rfl, (hw_hv12.mono hG20), hok_hv12⟩) (show AnsC _ _ ((doN (opsN l (ops.take k)).1 (ops[k]'(by omega))).2) from ⟨_, _, rfl, hw_hv22, hok_hv22⟩)).mono (fun v _ _ _ hv => hv.trans (congrArg Value.bool (decide_eq_true rfl)))) rfl ?_
       refine W.yes (dj := 57) rfl rfl rfl ?_
       refine W.ok (ok_not rfl) ?_
       refine W.ok (ok_pick_f rfl rfl) ?_
       refine W.nil (thn_n ?_)
       refine WC.cond_f rfl rfl ?_
       refine WC.skip (thn_n ?_)
       refine WC.region ?_
       refine W.mv ?_
       refine W.ok (ok_loadB (i := 0) (vs := [.int .i64 _, .bool _, .string _, .slice _ _ _]) ty27 rfl rfl rfl rfl (by simp)) ?_
       refine W.lit (e := eAns) (l := [(doN (opsN l (ops.take k)).1 ops[k]).2]) (css := [[.int .i64 _, .bool _, .string _, .slice _ _ _]]) sl36 ty27 zr27 rfl rfl rfl rfl rfl rfl ⟨⟨_, _, rfl, hw_hv22, hok_hv22⟩, trivial⟩ (fun bl30 G30 hG30 hv30 => ?_)
       refine W.app (e := eAns) sl36 ty27 zr27 rfl by27 rfl rfl ((ho_7.mono ((hG10.trans hG20).trans hG30))) (hv30) (pmC (pmC (pmC (List.Perm.refl _)))) (by show (_ + 1) * 56 ≤ _; omega) (fun v31 Ms32 ho33 => ?_)
       refine W.perm (pmC (pmC (pmC (List.Perm.refl _)))).symm ?_
       refine W.as ?_
       refine W.nil (blk_n (thn_n ?_))
       refine WC.region ?_
       refine W.ok (ok_add rfl rfl (by omega)) ?_
       refine W.mv ?_
       refine W.sub ((((List.Sublist.refl _).cons _).cons _).cons _) ?_
       refine W.nil (thn_n ?_)
       exact ⟨((hG10.trans hG20).trans hG30), (k + 1, v31, Ms32, .slice sa_hv11 ((doN (opsN l (ops.take k)).1 ops[k]).1).length sc_hv11, .slice sa_hv21 ((doN (opsN l (ops.take k)).1 ops[k]).1).length sc_hv21), ⟨(by first | rfl | exact iv (by dsimp only; omega) | exact iv (by omega)), (by first | rfl | exact iv (by dsimp only; omega) | exact iv (by omega)), (by first | rfl | exact iv (by dsimp only; omega) | exact iv (by omega)), (by first | rfl | exact iv (by dsimp only; omega) | exact iv (by omega)), (by first | rfl | exact iv (by dsimp only; omega) | exact iv (by omega)), (by first | rfl | exact iv (by dsimp only; omega) | exact iv (by omega)), (by first | rfl | exact iv (by dsimp only; omega) | exact iv (by omega)), (by first | rfl | exact iv (by dsimp only; omega) | exact iv (by omega)), trivial⟩, ⟨rfl, (by have h := ho33; rw [opsN_succ (by omega)]; exact h), (by have h := (hv11.mono (hG20.trans hG30)); rw [opsN_succ (by omega)]; exact h), (by have h := (hv21.mono hG30); rw [opsN_succ (by omega)]; exact h), by omega⟩, by omega⟩
      ·have p38 := of_decide_eq_false h38
       have hwk : ops.take k = ops := List.take_of_length_le (by omega)
       refine WC.exit (thn_x (thn_x (blk_h (thn_n ?_))))
       refine WC.seq ?_
       refine WC.region ?_
       refine W.mv ?_
       refine W.mv ?_
       refine W.call (Mp := []) (run_fc (h_l.mono hG1) (h_ops.mono hG1) (by first | assumption | omega | (simp; omega) | (exact PairsR.fold (by assumption) (by assumption))) (by first | assumption | omega | (simp; omega) | (exact PairsR.fold (by assumption) (by assumption)))) rfl (List.Perm.refl _) ?_
       intro _ G34 _ hG34 q37
       refine match q37 with | ⟨e_38, _, _, e_39, hv35, hv36⟩ => ?_
       subst e_38
       subst e_39
       have q41 := hv35.form
       refine match q41 with | ⟨sa_hv35, sc_hv35, e_40⟩ => ?_
       subst e_40
       have q43 := hv36.form
       refine match q43 with | ⟨sa_hv36, sc_hv36, e_42⟩ => ?_
       subst e_42
       refine W.mv ?_
       refine W.ok (ok_extract rfl rfl) ?_
       refine W.ok (ok_extract rfl rfl) ?_
       refine W.as ?_
       refine W.as ?_
       refine W.nil (thn_n ?_)
       refine WC.seq ?_
       refine WC.region ?_
       refine W.mv ?_
       refine W.mv ?_
       refine W.qcall ((samep_fc hv35 (ho_6.mono hG34)).mono (fun v _ _ _ hv => hv.trans (congrArg Value.bool (decide_eq_true (by rw [hwk]))))) rfl ?_
       refine W.mv ?_
       refine W.yes (dj := 77) rfl rfl rfl ?_
       refine W.mv ?_
       refine W.yes (dj := 77) rfl rfl rfl ?_
       refine W.mv ?_
       refine W.yes (dj := 77) rfl rfl rfl ?_
       refine W.giveO (ho_7.mono hG34) (List.Perm.refl _) (fun G44 hG44 hv44 => ?_)
       have q46 := hv44.form
       refine match q46 with | ⟨_, _, e_45⟩ => ?_
       subst e_45
       refine W.qcall ((ransall_fc (hv36.mono hG44) hv44).mono (fun v _ _ _ hv => hv.trans (congrArg Value.bool (decide_eq_true (by rw [hwk]))))) rfl ?_
       refine W.ok (ok_pick_t rfl rfl) ?_
       refine W.mv ?_
       refine W.yes (dj := 82) rfl rfl rfl ?_
       refine W.qcall (haw) rfl ?_
       refine W.ok (ok_pick_t rfl rfl) ?_
       refine W.as ?_
       refine W.nil (thn_n ?_)
       refine WC.ret ?_
       refine ⟨.inr rfl, [_], ⟨rfl, trivial⟩, [], List.nil_sublist _, ?_⟩
       rfl

end Go.Proofs.YthmkpaoolhcibaaDoor
