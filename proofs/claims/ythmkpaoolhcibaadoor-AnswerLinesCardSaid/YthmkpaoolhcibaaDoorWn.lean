/- Walks of operations on a map. -/
import Derived.Test.YthmkpaoolhcibaaDoorWm
namespace Go.Proofs.YthmkpaoolhcibaaDoor
open Go Go.Fw Go.RowKit
set_option maxRecDepth 100000
set_option maxHeartbeats 1600000
set_option linter.unusedVariables false
set_option linter.unusedSimpArgs false
set_option linter.unnecessarySimpa false
theorem run_fc {G : GH} {v_l : Value} {l : List Pair} (h_l : SlR ePair G v_l l) {v_ops : Value} {ops : List Opr} (h_ops : SlR eOp G v_ops ops) (hP : PairsR l) (hn : l.length + ops.length ≤ 1000000) :
    Fc Tryd.prog 16 [v_l, v_ops] G [] (fun v G' M' => M' = [] ∧ ∃ u0 u1, v = .tuple #[u0, u1] ∧ SlR ePair G' u0 ((opsN l ops).1) ∧ SlR eAns G' u1 ((opsN l ops).2)) := by
 obtain ⟨sa_l, sc_l, rfl⟩ := h_l.form
 obtain ⟨sa_ops, sc_ops, rfl⟩ := h_ops.form
 have hl := h_l.len47
 have hlo := h_ops.len47
 refine Fc.intro (rs := [.tmp 4, .tmp 5]) cl16 Tryd.func16 rfl Tryd.ntmps16 rfl rfl (fun w0 => ?_)
 refine WC.seq ?_
 refine WC.region ?_
 refine W.as ?_
 refine W.as ?_
 refine W.nil (thn_n ?_)
 refine WC.seq ?_
 refine WC.region ?_
 refine W.mv ?_
 refine W.call (Mp := []) (clonep_fc h_l) rfl (List.Perm.refl _) ?_
 intro _ G1 _ hG1 q3
 refine match q3 with | ⟨e_4, _, e_5, hv2⟩ => ?_
 subst e_4
 subst e_5
 have q7 := hv2.form
 refine match q7 with | ⟨sa_hv2, sc_hv2, e_6⟩ => ?_
 subst e_6
 refine W.as ?_
 refine W.nil (thn_n ?_)
 refine WC.seq ?_
 refine WC.region ?_
 refine W.as ?_
 refine W.nil (thn_n ?_)
 refine WC.seq ?_
 refine WC.seq ?_
 refine WC.region ?_
 refine W.mv ?_
 refine W.ok (ok_len sl33 (h_ops.mono hG1) rfl) ?_
 refine W.mv ?_
 refine W.nil (thn_n ?_)
 refine WC.block ?_
 refine WC.loop (X := (Nat) × Value × MH × Value) (fun k => [(15, .int .i64 ((k.1 : Nat) : Int)), (13, .slice sa_ops ops.length sc_ops), (14, .int .i64 (((ops).length : Nat) : Int)), (7, k.2.1), (6, k.2.2.2)]) (fun k G Ml => Ml = (k.2.2.1 ++ []) ∧ OwnR eAns 27 G k.2.1 ((opsN l (ops.take k.1)).2) k.2.2.1 ∧ SlR ePair G k.2.2.2 ((opsN l (ops.take k.1)).1) ∧ k.1 ≤ ops.length) (fun k => ops.length - k.1) (0, .slice none 0 0, ([] : MH), .slice sa_hv2 ((l)).length sc_hv2) ⟨(by first | rfl | exact iv (by dsimp only; omega) | exact iv (by omega)), (by first | rfl | exact iv (by dsimp only; omega) | exact iv (by omega)), (by first | rfl | exact iv (by dsimp only; omega) | exact iv (by omega)), (by first | rfl | exact iv (by dsimp only; omega) | exact iv (by omega)), (by first | rfl | exact iv (by dsimp only; omega) | exact iv (by omega)), trivial⟩ ?_ ?_
 ·exact ⟨rfl, (by simpa [opsN] using OwnR.nil), (by simpa [opsN] using hv2), by omega⟩
 ·rintro ⟨k, v_7, M_7, v_6⟩ gG8 G8 _ hG8 ⟨rfl, ho_7, ho_6, hk9⟩
  try dsimp only at ho_7 ho_6 hk9
  obtain ⟨hPk, hnk, hak⟩ := opsN_R (l := l) (ops := ops) hP k hk9
  refine WC.fr (f := setL gG8 [(15, .int .i64 ((k : Nat) : Int)), (13, .slice sa_ops ops.length sc_ops), (14, .int .i64 (((ops).length : Nat) : Int)), (7, v_7), (6, v_6)]) rfl ?_
  refine WC.seq ?_
  refine WC.region ?_
  refine W.ok (ok_lss rfl rfl) ?_
  refine W.nil (thn_n ?_)
  refine WC.seq ?_
  refine WC.cond (b := _) rfl (fun h16 => ?_) (fun h16 => ?_)
  ·have p16 := of_decide_eq_true h16
   refine WC.skip (thn_n ?_)
   refine WC.seq ?_
   refine WC.block ?_
   refine WC.seq ?_
   refine WC.region ?_
   have q13 := (h_ops.mono (hG1.trans hG8)).at (i := k) (by omega)
   refine match q13 with | ⟨_, he9, ⟨e_12, hm10⟩⟩ => ?_
   subst e_12
   refine W.ok (ok_indexAddr (i := k) sl33 ty23 (h_ops.mono (hG1.trans hG8)) rfl rfl ⟨by omega, by omega⟩) ?_
   refine W.ok (ok_loadE (vs := [.int .i64 _, .string _, .string _, .bool _, .string _, .int .i64 _]) ty23 he9 rfl rfl rfl (by simp)) ?_
   refine W.alloc zr23 (fun b14 => ?_)
   refine W.store (i := 0) (vs := [.int .i64 _, .string _, .string _, .bool _, .string _, .int .i64 _]) (L' := [.int .i64 _, .string _, .string _, .bool _, .string _, .int .i64 _]) ty23 rfl rfl rfl rfl rfl rfl rfl rfl ?_
   refine W.nil (thn_n ?_)
   refine WC.seq ?_
   refine WC.region ?_
   refine W.alloc zr27 (fun b15 => ?_)
   refine W.nil (thn_n ?_)
   refine WC.seq ?_
   refine WC.region ?_
   refine W.mv ?_
   refine W.ok (ok_loadB (i := 1) (vs := [.int .i64 _, .string _, .string _, .bool _, .string _, .int .i64 _]) ty23 rfl rfl rfl rfl (by simp)) ?_
   refine W.call (Mp := []) (ado_fc ho_6 ops[k].kind ops[k].key ops[k].hi ops[k].opn ops[k].val ops[k].lim hPk (by omega)) rfl (List.Perm.refl _) ?_
   intro _ G16 _ hG16 q19
   refine match q19 with | ⟨e_20, _, e_21, _, _, e_22, hv17, hv18⟩ => ?_
   subst e_20
   subst e_21
   subst e_22
   have q24 := hv17.form
   refine match q24 with | ⟨sa_hv17, sc_hv17, e_23⟩ => ?_
   subst e_23
   refine match hv18 with | ⟨pa_hv18, pc_hv18, e_25, hw_hv18, hok_hv18⟩ => ?_
   subst e_25
   refine W.mv ?_
   refine W.ok (ok_extract rfl rfl) ?_
   refine W.ok (ok_extract rfl rfl) ?_
   refine W.as ?_
   refine W.store (i := 0) (vs := [.int .i64 _, .bool _, .string _, .slice _ _ _]) (L' := [.int .i64 _, .bool _, .string _, .slice _ _ _]) ty27 rfl rfl rfl rfl rfl rfl rfl rfl ?_
   refine W.nil (thn_n ?_)
   refine WC.region ?_
   refine W.mv ?_
   refine W.ok (ok_loadB (i := 0) (vs := [.int .i64 _, .bool _, .string _, .slice _ _ _]) ty27 rfl rfl rfl rfl (by simp)) ?_
   refine W.lit (e := eAns) (l := [(doN (opsN l (ops.take k)).1 ops[k]).2]) (css := [[.int .i64 _, .bool _, .string _, .slice _ _ _]]) sl36 ty27 zr27 rfl rfl rfl rfl rfl rfl ⟨⟨_, _, rfl, hw_hv18, hok_hv18⟩, trivial⟩ (fun bl26 G26 hG26 hv26 => ?_)
   refine W.app (e := eAns) sl36 ty27 zr27 rfl by27 rfl rfl ((ho_7.mono (hG16.trans hG26))) (hv26) (pmC (pmC (List.Perm.refl _))) (by show (_ + 1) * 56 ≤ _; omega) (fun v27 Ms28 ho29 => ?_)
   refine W.perm (pmC (pmC (List.Perm.refl _))).symm ?_
   refine W.as ?_
   refine W.nil (blk_n (thn_n ?_))
   refine WC.region ?_
   refine W.ok (ok_add rfl rfl (by omega)) ?_
   refine W.mv ?_
   refine W.sub (((List.Sublist.refl _).cons _).cons _) ?_
   refine W.nil (thn_n ?_)
   exact ⟨(hG16.trans hG26), (k + 1, v27, Ms28, .slice sa_hv17 ((doN (opsN l (ops.take k)).1 ops[k]).1).length sc_hv17), ⟨(by first | rfl | exact iv (by dsimp only; omega) | exact iv (by omega)), (by first | rfl | exact iv (by dsimp only; omega) | exact iv (by omega)), (by first | rfl | exact iv (by dsimp only; omega) | exact iv (by omega)), (by first | rfl | exact iv (by dsimp only; omega) | exact iv (by omega)), (by first | rfl | exact iv (by dsimp only; omega) | exact iv (by omega)), trivial⟩, ⟨rfl, (by have h := ho29; rw [opsN_succ (by omega)]; exact h), (by have h := (hv17.mono hG26); rw [opsN_succ (by omega)]; exact h), by omega⟩, by omega⟩
  ·have p16 := of_decide_eq_false h16
   refine WC.exit (thn_x (thn_x (blk_h (thn_n ?_))))
   refine WC.seq ?_
   refine WC.region ?_
   refine W.mv ?_
   refine W.mv ?_
   refine W.as ?_
   refine W.as ?_
   refine W.nil (thn_n ?_)
   refine WC.giveO ho_7 (List.Perm.refl _) (fun G30 hG30 hv30 => ?_)
   refine WC.ret ?_
   refine ⟨.inr rfl, [_, _], ⟨rfl, rfl, trivial⟩, [], List.nil_sublist _, ?_⟩
   refine ⟨rfl, _, _, rfl, ?_, ?_⟩
   · have h := (ho_6.mono hG30); rw [List.take_of_length_le (by omega)] at h; exact h
   · have h := hv30; rw [List.take_of_length_le (by omega)] at h; exact h

theorem r7all_fc {G : GH} {v_l : Value} {l : List Opr} (h_l : SlR eOp G v_l l) (n : Int) :
    Fc Tryd.prog 12 [v_l, .int .i64 n] G [] (fun v _ _ => v = .bool (decide (∀ i (h : i < l.length), (l[i].key.b.size : Int) ≤ n ∧ (l[i].hi.b.size : Int) ≤ n ∧ (l[i].val.b.size : Int) ≤ n))) := by
 obtain ⟨sa_l, sc_l, rfl⟩ := h_l.form
 have hl := h_l.len47
 refine Fc.intro (rs := [.tmp 4]) cl12 Tryd.func12 rfl Tryd.ntmps12 rfl rfl (fun w0 => ?_)
 refine WC.seq ?_
 refine WC.region ?_
 refine W.as ?_
 refine W.nil (thn_n ?_)
 refine WC.seq ?_
 refine WC.seq ?_
 refine WC.region ?_
 refine W.as ?_
 refine W.nil (thn_n ?_)
 refine WC.block ?_
 refine WC.loop (X := Nat) (fun k => [(5, .int .i64 ((k : Nat) : Int)), (0, .slice sa_l l.length sc_l), (1, .int .i64 n)]) (fun k _ Ml => Ml = [] ∧ ∀ i (h : i < l.length), i < k → ((l[i].key.b.size : Int) ≤ n ∧ (l[i].hi.b.size : Int) ≤ n ∧ (l[i].val.b.size : Int) ≤ n)) (fun k => l.length - k) 0 ⟨(by first | rfl | exact iv (by dsimp only; omega) | exact iv (by omega)), (by first | rfl | exact iv (by dsimp only; omega) | exact iv (by omega)), (by first | rfl | exact iv (by dsimp only; omega) | exact iv (by omega)), trivial⟩ ?_ ?_
 ·exact ⟨rfl, fun i _ h => by omega⟩
 ·rintro k gG31 G31 _ hG31 ⟨rfl, hk⟩
  refine WC.seq ?_
  refine WC.seq ?_
  refine WC.region ?_
  refine W.mv ?_
  refine W.mv ?_
  refine W.ok (ok_len sl33 (h_l.mono hG31) rfl) ?_
  refine W.ok (ok_lss rfl rfl) ?_
  refine W.nil (thn_n ?_)
  refine WC.cond (b := _) rfl (fun h9 => ?_) (fun h9 => ?_)
  ·have p9 := of_decide_eq_true h9
   refine WC.skip (thn_n ?_)
   refine WC.seq ?_
   refine WC.block ?_
   refine WC.seq ?_
   refine WC.region ?_
   refine W.mv ?_
   refine W.mv ?_
   have q36 := (h_l.mono hG31).at (i := k) (by omega)
   refine match q36 with | ⟨_, he32, ⟨e_35, hm33⟩⟩ => ?_
   subst e_35
   refine W.ok (ok_indexAddr (i := k) sl33 ty23 (h_l.mono hG31) rfl rfl ⟨by omega, by omega⟩) ?_
   refine W.ok (ok_loadE (vs := [.int .i64 _, .string _, .string _, .bool _, .string _, .int .i64 _]) ty23 he32 rfl rfl rfl (by simp)) ?_
   refine W.mv ?_
   refine W.qcall (r7long_fc _ _ _ _ _ _ _) rfl ?_
   refine W.ok (ok_not rfl) ?_
   refine W.nil (thn_n ?_)
   refine WC.cond (b := _) rfl (fun h18 => ?_) (fun h18 => ?_)
   ·refine WC.seq ?_
    refine WC.region ?_
    refine W.as ?_
    refine W.nil (thn_n ?_)
    refine WC.ret (blk_r (thn_r (thn_r (blk_r (thn_r ?_)))))
    refine ⟨.inr rfl, [_], ⟨rfl, trivial⟩, [], List.nil_sublist _, ?_⟩
    refine congrArg Value.bool ?_
    exact (decide_eq_false fun h => by have h2 := h k (by omega); simp [h2] at h18).symm
   ·refine WC.skip (blk_n (thn_n ?_))
    refine WC.region ?_
    refine W.mv ?_
    refine W.ok (ok_add rfl rfl (by omega)) ?_
    refine W.as ?_
    refine W.nil (thn_n ?_)
    exact ⟨Le.rfl, k + 1, ⟨(by first | rfl | exact iv (by dsimp only; omega) | exact iv (by omega)), (by first | rfl | exact iv (by dsimp only; omega) | exact iv (by omega)), (by first | rfl | exact iv (by dsimp only; omega) | exact iv (by omega)), trivial⟩, ⟨rfl, fun i h hi => by
      by_cases e : i = k
      · subst e; simpa using h18
      · exact hk i h (by omega)⟩, by omega⟩
  ·have p9 := of_decide_eq_false h9
   refine WC.exit (thn_x (thn_x (blk_h (thn_n ?_))))
   refine WC.seq ?_
   refine WC.region ?_
   refine W.as ?_
   refine W.nil (thn_n ?_)
   refine WC.ret ?_
   refine ⟨.inr rfl, [_], ⟨rfl, trivial⟩, [], List.nil_sublist _, ?_⟩
   refine congrArg Value.bool ?_
   exact (decide_eq_true fun i h => hk i h (by omega)).symm

end Go.Proofs.YthmkpaoolhcibaaDoor
