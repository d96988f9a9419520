/- Walks of nodes in maps. -/
import Derived.Test.YtebkfinhhpelbaaGreatQxWh
import Derived.Test.YtebkfinhhpelbaaGreatQxNr
namespace Go.Proofs.YtebkfinhhpelbaaGreat
open Go Go.Fw Go.RowKit
set_option maxRecDepth 100000
set_option maxHeartbeats 1600000
set_option linter.unusedVariables false
set_option linter.unusedSimpArgs false
set_option linter.unnecessarySimpa false
theorem mk125 : mapIK Tryz.prog 125 = some 47 := by kernel_rfl
theorem mz47 : zvK Tryz.prog 47 = some (.agg #[.int .i64 0, .int .i64 0, .slice none 0 0, .slice none 0 0, .string ⟨#[]⟩, .bool false, .int .i64 0, .int .i64 0, .slice none 0 0, .slice none 0 0]) := by kernel_rfl
theorem bysl_fc {G : GH} {v_l : Value} {l : List Nd} (h_l : SlR eNode G v_l l) :
    Fc Tryz.prog 84 [v_l] G [] (fun v G' M' => M' = [] ∧ MpG vNode G' v (bySl l)) := by
 obtain ⟨sa_l, sc_l, rfl⟩ := h_l.form
 have hl := h_l.len47
 refine Fc.intro (rs := [.tmp 2]) cl84 Tryz.func84 rfl Tryz.ntmps84 rfl rfl (fun w0 => ?_)
 refine WC.seq (WC.region (W.as (W.nil (thn_n (WC.seq (WC.region (W.makeMap (V := vNode) (fun bm1 hm2 => (W.as ?_)))))))))
 refine W.nil (thn_n (WC.seq (WC.seq (WC.region (W.mv (W.ok (ok_len sl24 h_l rfl) (W.mv (W.nil (thn_n ?_)))))))))
 refine WC.block ?_
 refine WC.loop (X := (Nat) × MH) (fun i => [(9, .int .i64 ((i.1 : Nat) : Int)), (7, .slice sa_l l.length sc_l), (8, .int .i64 (((l).length : Nat) : Int)), (3, .map (some bm1))]) (fun i G Ml => Ml = (i.2 ++ []) ∧ MpR vNode bm1 G (bySl (l.take i.1)) i.2 ∧ i.1 ≤ l.length) (fun i => l.length - i.1) (0, [(bm1, Obj.map #[] 0)]) ⟨eqv, eqv, eqv, eqv, trivial⟩ ?_ ?_
 ·exact ⟨rfl, (by exact hm2), by omega⟩
 ·rintro ⟨i, M_3⟩ gG3 G3 _ hG3 ⟨rfl, ho_3, hi⟩
  try dsimp only at ho_3 hi
  refine WC.fr (f := setL gG3 [(9, .int .i64 ((i : Nat) : Int)), (7, .slice sa_l l.length sc_l), (8, .int .i64 (((l).length : Nat) : Int)), (3, .map (some bm1))]) rfl (WC.seq (WC.region (W.ok (ok_lss rfl rfl) (W.nil (thn_n (WC.seq ?_))))))
  refine WC.cond (b := _) rfl (fun h10 => ?_) (fun h10 => ?_)
  ·have p10 := of_decide_eq_true h10
   refine WC.skip (thn_n (WC.seq (WC.block (WC.seq (WC.region ?_)))))
   have q7 := (h_l.mono hG3).at (i := i) (by omega)
   refine match q7 with | ⟨_, he4, ⟨pa_n5, pc_n5, ka_n5, kc_n5, ma_n5, mc_n5, ra_n5, rc_n5, e_6, hp_n5, hk_n5, hm_n5, hr_n5, hok_n5⟩⟩ => ?_
   subst e_6
   refine W.ok (ok_indexAddr (i := i) sl24 ty47 (h_l.mono hG3) rfl rfl ⟨by omega, by omega⟩) (W.ok (ok_loadE (vs := [.int .i64 _, .int .i64 _, .slice _ _ _, .slice _ _ _, .string _, .bool _, .int .i64 _, .int .i64 _, .slice _ _ _, .slice _ _ _]) ty47 he4 rfl rfl rfl (by simp)) (W.alloc zr47 (fun b8 => (W.store (i := 0) (vs := [.int .i64 _, .int .i64 _, .slice _ _ _, .slice _ _ _, .string _, .bool _, .int .i64 _, .int .i64 _, .slice _ _ _, .slice _ _ _]) (L' := [.int .i64 _, .int .i64 _, .slice _ _ _, .slice _ _ _, .string _, .bool _, .int .i64 _, .int .i64 _, .slice _ _ _, .slice _ _ _]) ty47 rfl rfl rfl rfl rfl rfl rfl rfl (W.nil (thn_n (WC.region (W.mv (W.ok (ok_fieldB fd47_0 rfl) ?_)))))))))
   refine W.ok (ok_loadB (i := 0) (vs := [.int .i64 _]) ty3 rfl rfl rfl rfl (by simp)) (W.ok (ok_loadB (i := 0) (vs := [.int .i64 _, .int .i64 _, .slice _ _ _, .slice _ _ _, .string _, .bool _, .int .i64 _, .int .i64 _, .slice _ _ _, .slice _ _ _]) ty47 rfl rfl rfl rfl (by simp)) (W.mapUp (V := vNode) (k := ((l)[i]).slot) mk125 rfl rfl rfl ho_3 (pmC (List.Perm.refl _)) ⟨_, rfl, ⟨_, _, _, _, _, _, _, _, rfl, hp_n5, hk_n5, hm_n5, hr_n5, hok_n5⟩⟩ (fun Ms9 hm10 => (W.perm (pmC (List.Perm.refl _)).symm (W.nil (blk_n (thn_n (WC.region (W.ok (ok_add rfl rfl (by omega)) (W.mv ?_))))))))))
   refine W.sub ((List.Sublist.refl _).cons _) (W.nil (thn_n ?_))
   exact ⟨Le.rfl, (i + 1, Ms9), ⟨eqv, eqv, eqv, eqv, trivial⟩, ⟨rfl, (by have h := hm10; rw [← bySl_succ (by omega)] at h; exact h), by omega⟩, by omega⟩
  ·have p10 := of_decide_eq_false h10
   refine WC.exit (thn_x (thn_x (blk_h (thn_n (WC.seq ?_)))))
   have hob := ho_3
   rw [List.take_of_length_le (by omega)] at hob
   refine WC.giveMap hob (List.Perm.refl _) (fun G11 hG11 hvG11 => (WC.region (W.mv (W.as (W.nil (thn_n (WC.ret ?_)))))))
   refine ⟨.inr rfl, [_], ⟨rfl, trivial⟩, [], List.nil_sublist _, ?_⟩
   exact ⟨rfl, hvG11⟩

end Go.Proofs.YtebkfinhhpelbaaGreat
