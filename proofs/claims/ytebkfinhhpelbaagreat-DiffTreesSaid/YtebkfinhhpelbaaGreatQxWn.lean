/- Walks of operations on a map. -/
import Derived.Test.YtebkfinhhpelbaaGreatQxWm
namespace Go.Proofs.YtebkfinhhpelbaaGreat
open Go Go.Fw Go.RowKit
set_option maxRecDepth 100000
set_option maxHeartbeats 1600000
set_option linter.unusedVariables false
set_option linter.unusedSimpArgs false
set_option linter.unnecessarySimpa false
theorem run_fc {G : GH} {v_l : Value} {l : List Pair} (h_l : SlR ePair G v_l l) {v_ops : Value} {ops : List Opr} (h_ops : SlR eOp G v_ops ops) (hP : PairsR l) (hn : l.length + ops.length ≤ 1000000) :
    Fc Tryz.prog 103 [v_l, v_ops] G [] (fun v G' M' => M' = [] ∧ ∃ u0 u1, v = .tuple #[u0, u1] ∧ SlR ePair G' u0 ((opsN l ops).1) ∧ SlR eAns G' u1 ((opsN l ops).2)) := by
 obtain ⟨sa_l, sc_l, rfl⟩ := h_l.form
 obtain ⟨sa_ops, sc_ops, rfl⟩ := h_ops.form
 have hl := h_l.len47
 have hlo := h_ops.len47
 refine Fc.intro (rs := [.tmp 4, .tmp 5]) cl103 Tryz.func103 rfl Tryz.ntmps103 rfl rfl (fun w0 => ?_)
 refine WC.seq (WC.region (W.as (W.as (W.nil (thn_n (WC.seq (WC.region (W.mv ?_))))))))
 refine W.call (Mp := []) (clonep_fc h_l) rfl (List.Perm.refl _) ?_
 intro _ G1 _ hG1 q3
 refine match q3 with | ⟨e_4, _, e_5, hv2⟩ => ?_
 subst e_4
 subst e_5
 have q7 := hv2.form
 refine match q7 with | ⟨sa_hv2, sc_hv2, e_6⟩ => ?_
 subst e_6
 refine W.as (W.nil (thn_n (WC.seq (WC.region (W.as (W.nil (thn_n (WC.seq (WC.seq ?_)))))))))
 refine WC.region (W.mv (W.ok (ok_len sl77 (h_ops.mono hG1) rfl) (W.mv (W.nil (thn_n (WC.block ?_))))))
 refine WC.loop (X := (Nat) × Value × MH × Value) (fun k => [(15, .int .i64 ((k.1 : Nat) : Int)), (13, .slice sa_ops ops.length sc_ops), (14, .int .i64 (((ops).length : Nat) : Int)), (7, k.2.1), (6, k.2.2.2)]) (fun k G Ml => Ml = (k.2.2.1 ++ []) ∧ OwnR eAns 231 G k.2.1 ((opsN l (ops.take k.1)).2) k.2.2.1 ∧ SlR ePair G k.2.2.2 ((opsN l (ops.take k.1)).1) ∧ k.1 ≤ ops.length) (fun k => ops.length - k.1) (0, .slice none 0 0, ([] : MH), .slice sa_hv2 ((l)).length sc_hv2) ⟨eqv, eqv, eqv, eqv, eqv, trivial⟩ ?_ ?_
 ·exact ⟨rfl, (by simpa [opsN] using OwnR.nil), (by simpa [opsN] using hv2), by omega⟩
 ·rintro ⟨k, v_7, M_7, v_6⟩ gG8 G8 _ hG8 ⟨rfl, ho_7, ho_6, hk9⟩
  try dsimp only at ho_7 ho_6 hk9
  obtain ⟨hPk, hnk, hak⟩ := opsN_R (l := l) (ops := ops) hP k hk9
  refine WC.fr (f := setL gG8 [(15, .int .i64 ((k : Nat) : Int)), (13, .slice sa_ops ops.length sc_ops), (14, .int .i64 (((ops).length : Nat) : Int)), (7, v_7), (6, v_6)]) rfl (WC.seq (WC.region (W.ok (ok_lss rfl rfl) (W.nil (thn_n (WC.seq ?_))))))
  refine WC.cond (b := _) rfl (fun h16 => ?_) (fun h16 => ?_)
  ·have p16 := of_decide_eq_true h16
   refine WC.skip (thn_n (WC.seq (WC.block (WC.seq (WC.region ?_)))))
   have q13 := (h_ops.mono (hG1.trans hG8)).at (i := k) (by omega)
   refine match q13 with | ⟨_, he9, ⟨e_12, hm10⟩⟩ => ?_
   subst e_12
   refine W.ok (ok_indexAddr (i := k) sl77 ty155 (h_ops.mono (hG1.trans hG8)) rfl rfl ⟨by omega, by omega⟩) (W.ok (ok_loadE (vs := [.int .i64 _, .string _, .string _, .bool _, .string _, .int .i64 _]) ty155 he9 rfl rfl rfl (by simp)) (W.alloc zr155 (fun b14 => (W.store (i := 0) (vs := [.int .i64 _, .string _, .string _, .bool _, .string _, .int .i64 _]) (L' := [.int .i64 _, .string _, .string _, .bool _, .string _, .int .i64 _]) ty155 rfl rfl rfl rfl rfl rfl rfl rfl (W.nil (thn_n (WC.seq (WC.region (W.alloc zr231 (fun b15 => ?_))))))))))
   refine W.nil (thn_n (WC.seq (WC.region (W.mv (W.ok (ok_loadB (i := 1) (vs := [.int .i64 _, .string _, .string _, .bool _, .string _, .int .i64 _]) ty155 rfl rfl rfl rfl (by simp)) (W.call (Mp := []) (ado_fc ho_6 ops[k].kind ops[k].key ops[k].hi ops[k].opn ops[k].val ops[k].lim hPk (by omega)) rfl (List.Perm.refl _) ?_))))))
   intro _ G16 _ hG16 q19
   refine match q19 with | ⟨e_20, _, e_21, _, _, e_22, hv17, hv18⟩ => ?_
   subst e_20
   subst e_21
   subst e_22
   have q24 := hv17.form
   refine match q24 with | ⟨sa_hv17, sc_hv17, e_23⟩ => ?_
   subst e_23
   refine match hv18 with | ⟨pa_hv18, pc_hv18, e_25, hw_hv18, hok_hv18⟩ => ?_
   subst e_25
   refine W.mv (W.ok (ok_extract rfl rfl) (W.ok (ok_extract rfl rfl) (W.as (W.store (i := 0) (vs := [.int .i64 _, .bool _, .string _, .slice _ _ _]) (L' := [.int .i64 _, .bool _, .string _, .slice _ _ _]) ty231 rfl rfl rfl rfl rfl rfl rfl rfl (W.nil (thn_n (WC.region (W.mv ?_))))))))
   refine W.ok (ok_loadB (i := 0) (vs := [.int .i64 _, .bool _, .string _, .slice _ _ _]) ty231 rfl rfl rfl rfl (by simp)) (W.lit (e := eAns) (l := [(doN (opsN l (ops.take k)).1 ops[k]).2]) (css := [[.int .i64 _, .bool _, .string _, .slice _ _ _]]) sl158 ty231 zr231 rfl rfl rfl rfl rfl rfl ⟨⟨_, _, rfl, hw_hv18, hok_hv18⟩, trivial⟩ (fun bl26 G26 hG26 hv26 => (W.app (e := eAns) sl158 ty231 zr231 rfl by231 rfl rfl ((ho_7.mono (hG16.trans hG26))) (hv26) (pmC (pmC (List.Perm.refl _))) (by show (_ + 1) * 56 ≤ _; omega) (fun v27 Ms28 ho29 => (W.perm (pmC (pmC (List.Perm.refl _))).symm (W.as (W.nil (blk_n (thn_n (WC.region (W.ok (ok_add rfl rfl (by omega)) ?_)))))))))))
   refine W.mv (W.sub (((List.Sublist.refl _).cons _).cons _) (W.nil (thn_n ?_)))
   exact ⟨(hG16.trans hG26), (k + 1, v27, Ms28, .slice sa_hv17 ((doN (opsN l (ops.take k)).1 ops[k]).1).length sc_hv17), ⟨eqv, eqv, eqv, eqv, eqv, trivial⟩, ⟨rfl, (by have h := ho29; rw [opsN_succ (by omega)]; exact h), (by have h := (hv17.mono hG26); rw [opsN_succ (by omega)]; exact h), by omega⟩, by omega⟩
  ·have p16 := of_decide_eq_false h16
   refine WC.exit (thn_x (thn_x (blk_h (thn_n (WC.seq (WC.region (W.mv (W.mv (W.as (W.as (W.nil (thn_n ?_))))))))))))
   refine WC.giveO ho_7 (List.Perm.refl _) (fun G30 hG30 hv30 => (WC.ret ?_))
   refine ⟨.inr rfl, [_, _], ⟨rfl, rfl, trivial⟩, [], List.nil_sublist _, ?_⟩
   refine ⟨rfl, _, _, rfl, ?_, ?_⟩
   · have h := (ho_6.mono hG30); rw [List.take_of_length_le (by omega)] at h; exact h
   · have h := hv30; rw [List.take_of_length_le (by omega)] at h; exact h

theorem dapply_fc {G : GH} {v_l : Value} {l : List Pair} (h_l : SlR ePair G v_l l) {v_ops : Value} {ops : List Opr} (h_ops : SlR eOp G v_ops ops) (hP : PairsR l) (hn : l.length + ops.length ≤ 1000000) :
    Fc Tryz.prog 44 [v_l, v_ops] G [] (fun v G' M' => M' = [] ∧ ∃ r : List Pair × Bool, r = applyN l ops ∧ ∃ u0, v = .tuple #[u0, .bool (r.2)] ∧ SlR ePair G' u0 (r.1)) := by
 obtain ⟨sa_l, sc_l, rfl⟩ := h_l.form
 obtain ⟨sa_ops, sc_ops, rfl⟩ := h_ops.form
 have hl := h_l.len47
 have hlo := h_ops.len47
 refine Fc.intro (rs := [.tmp 4, .tmp 5]) cl44 Tryz.func44 rfl Tryz.ntmps44 rfl rfl (fun w0 => ?_)
 refine WC.seq (WC.region (W.as (W.as (W.nil (thn_n (WC.seq (WC.seq (WC.region ?_))))))))
 refine W.mv (W.ok (ok_len sl77 h_ops rfl) (W.mv (W.nil (thn_n (WC.block ?_)))))
 refine WC.loop (X := Nat) (fun k => [(12, .int .i64 ((k : Nat) : Int)), (0, .slice sa_l l.length sc_l), (1, .slice sa_ops ops.length sc_ops), (10, .slice sa_ops ops.length sc_ops), (11, .int .i64 (((ops).length : Nat) : Int))]) (fun k _ Ml => Ml = [] ∧ k ≤ ops.length ∧ allW (ops.take k) = true) (fun k => ops.length - k) 0 ⟨eqv, eqv, eqv, eqv, eqv, trivial⟩ ?_ ?_
 ·exact ⟨rfl, by omega, rfl⟩
 ·rintro k gG31 G31 _ hG31 ⟨rfl, hk9, hw⟩
  refine WC.seq (WC.region (W.ok (ok_lss rfl rfl) (W.nil (thn_n (WC.seq ?_)))))
  refine WC.cond (b := _) rfl (fun h13 => ?_) (fun h13 => ?_)
  ·have p13 := of_decide_eq_true h13
   refine WC.skip (thn_n (WC.seq (WC.block (WC.seq (WC.region ?_)))))
   have q36 := (h_ops.mono hG31).at (i := k) (by omega)
   refine match q36 with | ⟨_, he32, ⟨e_35, hm33⟩⟩ => ?_
   subst e_35
   refine W.ok (ok_indexAddr (i := k) sl77 ty155 (h_ops.mono hG31) rfl rfl ⟨by omega, by omega⟩) (W.ok (ok_loadE (vs := [.int .i64 _, .string _, .string _, .bool _, .string _, .int .i64 _]) ty155 he32 rfl rfl rfl (by simp)) (W.alloc zr155 (fun b37 => (W.store (i := 0) (vs := [.int .i64 _, .string _, .string _, .bool _, .string _, .int .i64 _]) (L' := [.int .i64 _, .string _, .string _, .bool _, .string _, .int .i64 _]) ty155 rfl rfl rfl rfl rfl rfl rfl rfl (W.nil (thn_n (WC.seq (WC.region (W.ok (ok_loadB (i := 0) (vs := [.int .i64 _, .string _, .string _, .bool _, .string _, .int .i64 _]) ty155 rfl rfl rfl rfl (by simp)) ?_)))))))))
   refine W.qcall (opright_fc _ _ _ _ _ _) rfl (W.ok (ok_neq rfl rfl) (W.mv ?_))
   refine W.sp 19 rfl (fun h18 => ?_) (fun h18 => ?_)
   ·have p18 := nd_t h18
    have hR1 : ¬ ops[k].R := fun hq => p18 (if_pos hq)
    refine W.no (dj := 19) rfl rfl h18 (W.no (dj := 19) rfl rfl h18 (W.no (dj := 19) rfl rfl h18 (W.ok (ok_pick_t rfl h18) (W.nil (thn_n (WC.cond_t rfl rfl (WC.seq (WC.region ?_))))))))
    refine W.as (W.as (W.nil (thn_n (WC.ret (blk_r (thn_r (thn_r (blk_r (thn_r ?_)))))))))
    refine ⟨.inr rfl, [_, _], ⟨rfl, rfl, trivial⟩, [], List.nil_sublist _, ?_⟩
    refine ⟨rfl, _, (applyN_f (allW_false (k := k) (by omega) (by simp [hR1]))).symm, _, rfl, ?_⟩
    · exact SlR.nil
   ·have p18 := nd_f h18
    have hR0 : ops[k].R := by
      by_cases hq : ops[k].R
      · exact hq
      · exfalso
        have : (if Opr.R ⟨ops[k].kind, ops[k].key, ops[k].hi, ops[k].opn, ops[k].val, ops[k].lim⟩ then (0 : Int) else 3) = 3 := if_neg hq
        rw [this] at p18; omega
    have hR1 : decide ops[k].R = true := decide_eq_true hR0
    have hq1 := hR0.1.1
    refine W.yes (dj := 19) rfl rfl h18 (W.ok (ok_loadB (i := 0) (vs := [.int .i64 _, .string _, .string _, .bool _, .string _, .int .i64 _]) ty155 rfl rfl rfl rfl (by simp)) (W.yes (dj := 19) rfl rfl h18 (W.qcall (writes_fc _ _ _ _ _ _) rfl (W.yes (dj := 19) rfl rfl h18 (W.ok (ok_not rfl) (W.ok (ok_pick_f rfl h18) (W.nil (thn_n ?_))))))))
    refine WC.cond (b := _) rfl (fun h22 => ?_) (fun h22 => ?_)
    ·have hk1 : ¬ ops[k].kind ≤ 4 := by simp at h22; omega
     refine WC.seq (WC.region (W.as (W.as (W.nil (thn_n (WC.ret (blk_r (thn_r (thn_r (blk_r (thn_r ?_)))))))))))
     refine ⟨.inr rfl, [_, _], ⟨rfl, rfl, trivial⟩, [], List.nil_sublist _, ?_⟩
     refine ⟨rfl, _, (applyN_f (allW_false (k := k) (by omega) (by simp [hk1]))).symm, _, rfl, ?_⟩
     · exact SlR.nil
    ·have hk1 : decide (ops[k].kind ≤ 4) = true := by simp at h22; simp; omega
     refine WC.skip (blk_n (thn_n (WC.region (W.ok (ok_add rfl rfl (by omega)) (W.mv (W.sub ((List.Sublist.refl _).cons _) (W.nil (thn_n ?_))))))))
     exact ⟨Le.rfl, k + 1, ⟨eqv, eqv, eqv, eqv, eqv, trivial⟩, ⟨rfl, by omega, by rw [allW_succ (by omega), hw, hR1, hk1]; rfl⟩, by omega⟩
  ·have p13 := of_decide_eq_false h13
   have hall : allW ops = true := by rw [← hw, List.take_of_length_le (by omega)]
   refine WC.exit (thn_x (thn_x (blk_h (thn_n (WC.seq (WC.region (W.mv (W.mv (W.call (Mp := []) (run_fc (h_l.mono hG31) (h_ops.mono hG31) (by first | assumption | omega | (simp; omega) | (exact PairsR.fold (by assumption) (by assumption))) (by first | assumption | omega | (simp; omega) | (exact PairsR.fold (by assumption) (by assumption)))) rfl (List.Perm.refl _) ?_)))))))))
   intro _ G38 _ hG38 q41
   refine match q41 with | ⟨e_42, _, _, e_43, hv39, hv40⟩ => ?_
   subst e_42
   subst e_43
   have q45 := hv39.form
   refine match q45 with | ⟨sa_hv39, sc_hv39, e_44⟩ => ?_
   subst e_44
   have q47 := hv40.form
   refine match q47 with | ⟨sa_hv40, sc_hv40, e_46⟩ => ?_
   subst e_46
   refine W.mv (W.ok (ok_extract rfl rfl) (W.ok (ok_extract rfl rfl) (W.as (W.as (W.nil (thn_n (WC.seq (WC.region ?_))))))))
   refine W.mv (W.as (W.as (W.nil (thn_n (WC.ret ?_)))))
   refine ⟨.inr rfl, [_, _], ⟨rfl, rfl, trivial⟩, [], List.nil_sublist _, ?_⟩
   refine ⟨rfl, _, (applyN_t hall).symm, _, rfl, ?_⟩
   · exact hv39

end Go.Proofs.YtebkfinhhpelbaaGreat
