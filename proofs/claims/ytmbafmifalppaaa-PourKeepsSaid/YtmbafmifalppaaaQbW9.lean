/- Walks of functions that tell whether messages may be. -/
import Derived.Test.YtmbafmifalppaaaQbMi
set_option maxRecDepth 100000
set_option maxHeartbeats 1600000
set_option linter.unusedVariables false
set_option linter.unusedSimpArgs false
set_option linter.unnecessarySimpa false
namespace Go.Proofs.Ytmbafmifalppaaa
open Go Go.Fw Go.RowKit
theorem mright_fc {G : GH} (ms : Int) (mk : Int) (mkey : Str) (mhi : Str) (mo : Bool) (mv : Str) :
    Fc Try.prog 164 [.agg #[.int .i64 ms, .int .i64 mk, .string mkey.b, .string mhi.b, .bool mo, .string mv.b]] G [] (fun v _ _ => v = .bool (decide (Msg.R (⟨ms, mk, mkey, mhi, mo, mv⟩ : Msg)))) := by
 have h1 := mkey.le
 have h2 := mv.le
 have h3 := mhi.le
 refine Fc.intro (rs := [.tmp 2]) cl164 Try.func164 rfl Try.ntmps164 rfl rfl (fun w0 => ?_)
 refine WC.seq (WC.region (W.box (L := [.int .i64 _, .int .i64 _, .string _, .string _, .bool _, .string _]) rfl rfl (fun b1 => (W.as (W.nil (thn_n (WC.seq (WC.seq (WC.region (W.ok (ok_fieldB fd141_0 rfl) (W.ok (ok_loadB (i := 0) (vs := [.int .i64 _]) ty3 rfl rfl rfl rfl (by simp)) (W.ok (ok_lss rfl rfl) (W.mv ?_)))))))))))))
 refine W.sp 6 rfl (fun h5 => ?_) (fun h5 => ?_)
 ·have p5 := of_decide_eq_true h5
  refine W.no (dj := 6) rfl rfl h5 (W.no (dj := 6) rfl rfl h5 (W.no (dj := 6) rfl rfl h5 (W.no (dj := 6) rfl rfl h5 (W.ok (ok_pick_t rfl h5) (W.mv (W.no (dj := 12) rfl rfl rfl (W.no (dj := 12) rfl rfl rfl (W.no (dj := 12) rfl rfl rfl (W.no (dj := 12) rfl rfl rfl (W.ok (ok_pick_t rfl rfl) (W.mv (W.no (dj := 18) rfl rfl rfl (W.no (dj := 18) rfl rfl rfl ?_)))))))))))))
  refine W.no (dj := 18) rfl rfl rfl (W.no (dj := 18) rfl rfl rfl (W.ok (ok_pick_t rfl rfl) (W.nil (thn_n (WC.cond_t rfl rfl (WC.seq (WC.region (W.as (W.nil (thn_n (WC.ret (thn_r ?_))))))))))))
  refine ⟨.inr rfl, [_], ⟨rfl, trivial⟩, [], sn9, ?_⟩
  refine congrArg Value.bool ?_
  rw [Bool.eq_iff_iff, decide_eq_true_iff]
  simp only [Msg.R]
  first | (simp_all [← Str.b_inj, Str.nil]; done) | (simp_all [← Str.b_inj, Str.nil]; omega)
 have p5 := of_decide_eq_false h5
 refine W.yes (dj := 6) rfl rfl h5 (W.ok (ok_fieldB fd141_2 rfl) (W.yes (dj := 6) rfl rfl h5 (W.ok (ok_loadB (i := 0) (vs := [.string _]) ty9 rfl rfl rfl rfl (by simp)) (W.yes (dj := 6) rfl rfl h5 (W.ok (ok_lenS st9 rfl) (W.yes (dj := 6) rfl rfl h5 (W.ok (ok_gtr rfl rfl) (W.ok (ok_pick_f rfl h5) (W.mv ?_)))))))))
 refine W.sp 12 rfl (fun h10 => ?_) (fun h10 => ?_)
 ·have p10 := of_decide_eq_true h10
  refine W.no (dj := 12) rfl rfl h10 (W.no (dj := 12) rfl rfl h10 (W.no (dj := 12) rfl rfl h10 (W.no (dj := 12) rfl rfl h10 (W.ok (ok_pick_t rfl h10) (W.mv (W.no (dj := 18) rfl rfl rfl (W.no (dj := 18) rfl rfl rfl (W.no (dj := 18) rfl rfl rfl (W.no (dj := 18) rfl rfl rfl (W.ok (ok_pick_t rfl rfl) (W.nil (thn_n (WC.cond_t rfl rfl (WC.seq ?_))))))))))))))
  refine WC.region (W.as (W.nil (thn_n (WC.ret (thn_r ?_)))))
  refine ⟨.inr rfl, [_], ⟨rfl, trivial⟩, [], sn9, ?_⟩
  refine congrArg Value.bool ?_
  rw [Bool.eq_iff_iff, decide_eq_true_iff]
  simp only [Msg.R]
  first | (simp_all [← Str.b_inj, Str.nil]; done) | (simp_all [← Str.b_inj, Str.nil]; omega)
 have p10 := of_decide_eq_false h10
 refine W.yes (dj := 12) rfl rfl h10 (W.ok (ok_fieldB fd141_5 rfl) (W.yes (dj := 12) rfl rfl h10 (W.ok (ok_loadB (i := 0) (vs := [.string _]) ty9 rfl rfl rfl rfl (by simp)) (W.yes (dj := 12) rfl rfl h10 (W.ok (ok_lenS st9 rfl) (W.yes (dj := 12) rfl rfl h10 (W.ok (ok_gtr rfl rfl) (W.ok (ok_pick_f rfl h10) (W.mv ?_)))))))))
 refine W.sp 18 rfl (fun h16 => ?_) (fun h16 => ?_)
 ·have p16 := of_decide_eq_true h16
  refine W.no (dj := 18) rfl rfl h16 (W.no (dj := 18) rfl rfl h16 (W.no (dj := 18) rfl rfl h16 (W.no (dj := 18) rfl rfl h16 (W.ok (ok_pick_t rfl h16) (W.nil (thn_n (WC.cond_t rfl rfl (WC.seq (WC.region (W.as (W.nil (thn_n (WC.ret (thn_r ?_))))))))))))))
  refine ⟨.inr rfl, [_], ⟨rfl, trivial⟩, [], sn9, ?_⟩
  refine congrArg Value.bool ?_
  rw [Bool.eq_iff_iff, decide_eq_true_iff]
  simp only [Msg.R]
  first | (simp_all [← Str.b_inj, Str.nil]; done) | (simp_all [← Str.b_inj, Str.nil]; omega)
 have p16 := of_decide_eq_false h16
 refine W.yes (dj := 18) rfl rfl h16 (W.ok (ok_fieldB fd141_3 rfl) (W.yes (dj := 18) rfl rfl h16 (W.ok (ok_loadB (i := 0) (vs := [.string _]) ty9 rfl rfl rfl rfl (by simp)) (W.yes (dj := 18) rfl rfl h16 (W.ok (ok_lenS st9 rfl) (W.yes (dj := 18) rfl rfl h16 (W.ok (ok_gtr rfl rfl) (W.ok (ok_pick_f rfl h16) (W.nil (thn_n ?_))))))))))
 refine WC.cond (b := _) rfl (fun h22 => ?_) (fun h22 => ?_)
 ·have p22 := of_decide_eq_true h22
  refine WC.seq (WC.region (W.as (W.nil (thn_n (WC.ret (thn_r ?_))))))
  refine ⟨.inr rfl, [_], ⟨rfl, trivial⟩, [], sn9, ?_⟩
  refine congrArg Value.bool ?_
  rw [Bool.eq_iff_iff, decide_eq_true_iff]
  simp only [Msg.R]
  first | (simp_all [← Str.b_inj, Str.nil]; done) | (simp_all [← Str.b_inj, Str.nil]; omega)
 have p22 := of_decide_eq_false h22
 refine WC.skip (thn_n (WC.seq (WC.seq (WC.region (W.ok (ok_fieldB fd141_1 rfl) (W.ok (ok_loadB (i := 0) (vs := [.int .i64 _]) ty3 rfl rfl rfl rfl (by simp)) (W.ok (ok_eql rfl rfl) (W.nil (thn_n ?_)))))))))
 refine WC.cond (b := _) rfl (fun h26 => ?_) (fun h26 => ?_)
 ·have p26 := of_decide_eq_true h26
  refine WC.seq (WC.region (W.ok (ok_fieldB fd141_5 rfl) (W.ok (ok_loadB (i := 0) (vs := [.string _]) ty9 rfl rfl rfl rfl (by simp)) (W.ok (ok_eqlS rfl rfl) (W.mv ?_)))))
  refine W.sp 30 rfl (fun h29 => ?_) (fun h29 => ?_)
  ·have p29 := of_decide_eq_true h29
   refine W.yes (dj := 30) rfl rfl h29 (W.ok (ok_fieldB fd141_4 rfl) (W.yes (dj := 30) rfl rfl h29 (W.ok (ok_loadB (i := 0) (vs := [.bool _]) ty4 rfl rfl rfl rfl (by simp)) (W.yes (dj := 30) rfl rfl h29 (W.ok (ok_not rfl) (W.yes (dj := 30) rfl rfl h29 (W.mv ?_)))))))
   refine W.sp 34 rfl (fun h33 => ?_) (fun h33 => ?_)
   ·refine W.no (dj := 34) rfl rfl h33 (W.no (dj := 34) rfl rfl h33 (W.no (dj := 34) rfl rfl h33 (W.yes (dj := 30) rfl rfl h29 (W.ok (ok_pick_t rfl h33) (W.ok (ok_pick_t rfl h29) (W.mv (W.yes (dj := 40) rfl rfl rfl (W.ok (ok_loadB (i := 0) (vs := [.int .i64 _, .int .i64 _, .string _, .string _, .bool _, .string _]) ty141 rfl rfl rfl rfl (by simp)) (W.yes (dj := 40) rfl rfl rfl (W.qcall (rspan_fc _ _ _ _ _ _ (by first | assumption | omega | (dsimp only; omega))) rfl (W.yes (dj := 40) rfl rfl rfl (W.qcall (empty_fc _ _ _) rfl (W.yes (dj := 40) rfl rfl rfl ?_)))))))))))))
    refine W.ok (ok_not rfl) (W.ok (ok_pick_t rfl rfl) (W.as (W.nil (thn_n (WC.ret (thn_r ?_))))))
    refine ⟨.inr rfl, [_], ⟨rfl, trivial⟩, [], sn9, ?_⟩
    refine congrArg Value.bool ?_
    rw [Bool.eq_iff_iff, decide_eq_true_iff]
    simp only [Msg.R]
    first | (simp_all [← Str.b_inj, Str.nil]; done) | (simp_all [← Str.b_inj, Str.nil]; omega)
   refine W.yes (dj := 34) rfl rfl h33 (W.ok (ok_fieldB fd141_3 rfl) (W.yes (dj := 34) rfl rfl h33 (W.ok (ok_loadB (i := 0) (vs := [.string _]) ty9 rfl rfl rfl rfl (by simp)) (W.yes (dj := 34) rfl rfl h33 (W.ok (ok_eqlS rfl rfl) (W.yes (dj := 30) rfl rfl h29 (W.ok (ok_pick_f rfl h33) (W.ok (ok_pick_t rfl h29) (W.mv ?_)))))))))
   refine W.sp 40 rfl (fun h37 => ?_) (fun h37 => ?_)
   ·have p37 := of_decide_eq_true h37
    refine W.yes (dj := 40) rfl rfl h37 (W.ok (ok_loadB (i := 0) (vs := [.int .i64 _, .int .i64 _, .string _, .string _, .bool _, .string _]) ty141 rfl rfl rfl rfl (by simp)) (W.yes (dj := 40) rfl rfl h37 (W.qcall (rspan_fc _ _ _ _ _ _ (by first | assumption | omega | (dsimp only; omega))) rfl (W.yes (dj := 40) rfl rfl h37 (W.qcall (empty_fc _ _ _) rfl (W.yes (dj := 40) rfl rfl h37 (W.ok (ok_not rfl) (W.ok (ok_pick_t rfl h37) (W.as (W.nil (thn_n (WC.ret (thn_r ?_)))))))))))))
    refine ⟨.inr rfl, [_], ⟨rfl, trivial⟩, [], sn9, ?_⟩
    refine congrArg Value.bool ?_
    rw [Bool.eq_iff_iff, decide_eq_true_iff]
    simp only [Msg.R]
    first | (simp_all [← Str.b_inj, Str.nil]; done) | (simp_all [← Str.b_inj, Str.nil]; omega)
   have p37 := of_decide_eq_false h37
   refine W.no (dj := 40) rfl rfl h37 (W.no (dj := 40) rfl rfl h37 (W.no (dj := 40) rfl rfl h37 (W.no (dj := 40) rfl rfl h37 (W.ok (ok_pick_f rfl h37) (W.as (W.nil (thn_n (WC.ret (thn_r ?_)))))))))
   refine ⟨.inr rfl, [_], ⟨rfl, trivial⟩, [], sn9, ?_⟩
   refine congrArg Value.bool ?_
   rw [Bool.eq_iff_iff, decide_eq_true_iff]
   simp only [Msg.R]
   first | (simp_all [← Str.b_inj, Str.nil]; done) | (simp_all [← Str.b_inj, Str.nil]; omega)
  have p29 := of_decide_eq_false h29
  refine W.no (dj := 30) rfl rfl h29 (W.no (dj := 30) rfl rfl h29 (W.no (dj := 30) rfl rfl h29 (W.no (dj := 30) rfl rfl h29 (W.nou (dj := 34) rfl rfl (W.nou (dj := 34) rfl rfl (W.nou (dj := 34) rfl rfl (W.no (dj := 30) rfl rfl h29 (W.ok (ok_pick_f rfl h29) (W.mv (W.no (dj := 40) rfl rfl rfl (W.no (dj := 40) rfl rfl rfl (W.no (dj := 40) rfl rfl rfl (W.no (dj := 40) rfl rfl rfl ?_)))))))))))))
  refine W.ok (ok_pick_f rfl rfl) (W.as (W.nil (thn_n (WC.ret (thn_r ?_)))))
  refine ⟨.inr rfl, [_], ⟨rfl, trivial⟩, [], sn9, ?_⟩
  refine congrArg Value.bool ?_
  rw [Bool.eq_iff_iff, decide_eq_true_iff]
  simp only [Msg.R]
  first | (simp_all [← Str.b_inj, Str.nil]; done) | (simp_all [← Str.b_inj, Str.nil]; omega)
 have p26 := of_decide_eq_false h26
 refine WC.skip (thn_n (WC.seq (WC.region (W.ok (ok_fieldB fd141_3 rfl) (W.ok (ok_loadB (i := 0) (vs := [.string _]) ty9 rfl rfl rfl rfl (by simp)) (W.ok (ok_eqlS rfl rfl) (W.mv ?_)))))))
 refine W.sp 49 rfl (fun h48 => ?_) (fun h48 => ?_)
 ·have p48 := of_decide_eq_true h48
  refine W.yes (dj := 49) rfl rfl h48 (W.ok (ok_fieldB fd141_4 rfl) (W.yes (dj := 49) rfl rfl h48 (W.ok (ok_loadB (i := 0) (vs := [.bool _]) ty4 rfl rfl rfl rfl (by simp)) (W.yes (dj := 49) rfl rfl h48 (W.ok (ok_not rfl) (W.ok (ok_pick_t rfl h48) (W.mv ?_)))))))
  refine W.sp 54 rfl (fun h52 => ?_) (fun h52 => ?_)
  ·refine W.yes (dj := 54) rfl rfl h52 (W.ok (ok_fieldB fd141_1 rfl) (W.yes (dj := 54) rfl rfl h52 (W.ok (ok_loadB (i := 0) (vs := [.int .i64 _]) ty3 rfl rfl rfl rfl (by simp)) (W.yes (dj := 54) rfl rfl h52 (W.ok (ok_eql rfl rfl) (W.yes (dj := 54) rfl rfl h52 (W.mv ?_)))))))
   refine W.sp 58 rfl (fun h57 => ?_) (fun h57 => ?_)
   ·have p57 := of_decide_eq_true h57
    refine W.no (dj := 58) rfl rfl h57 (W.no (dj := 58) rfl rfl h57 (W.no (dj := 58) rfl rfl h57 (W.yes (dj := 54) rfl rfl h52 (W.ok (ok_pick_t rfl h57) (W.yes (dj := 54) rfl rfl h52 (W.mv (W.no (dj := 63) rfl rfl rfl (W.no (dj := 63) rfl rfl rfl (W.no (dj := 63) rfl rfl rfl (W.no (dj := 63) rfl rfl rfl (W.nou (dj := 67) rfl rfl (W.nou (dj := 67) rfl rfl (W.nou (dj := 67) rfl rfl ?_)))))))))))))
    refine W.no (dj := 63) rfl rfl rfl (W.yes (dj := 54) rfl rfl h52 (W.ok (ok_pick_t rfl rfl) (W.ok (ok_pick_t rfl h52) (W.as (W.nil (thn_n (WC.ret ?_)))))))
    refine ⟨.inr rfl, [_], ⟨rfl, trivial⟩, [], sn9, ?_⟩
    refine congrArg Value.bool ?_
    rw [Bool.eq_iff_iff, decide_eq_true_iff]
    simp only [Msg.R]
    first | (simp_all [← Str.b_inj, Str.nil]; done) | (simp_all [← Str.b_inj, Str.nil]; omega)
   have p57 := of_decide_eq_false h57
   refine W.yes (dj := 58) rfl rfl h57 (W.ok (ok_fieldB fd141_1 rfl) (W.yes (dj := 58) rfl rfl h57 (W.ok (ok_loadB (i := 0) (vs := [.int .i64 _]) ty3 rfl rfl rfl rfl (by simp)) (W.yes (dj := 58) rfl rfl h57 (W.ok (ok_eql rfl rfl) (W.yes (dj := 54) rfl rfl h52 (W.ok (ok_pick_f rfl h57) (W.yes (dj := 54) rfl rfl h52 (W.mv ?_)))))))))
   refine W.sp 63 rfl (fun h61 => ?_) (fun h61 => ?_)
   ·have p61 := of_decide_eq_true h61
    refine W.no (dj := 63) rfl rfl h61 (W.no (dj := 63) rfl rfl h61 (W.no (dj := 63) rfl rfl h61 (W.no (dj := 63) rfl rfl h61 (W.nou (dj := 67) rfl rfl (W.nou (dj := 67) rfl rfl (W.nou (dj := 67) rfl rfl (W.no (dj := 63) rfl rfl h61 (W.yes (dj := 54) rfl rfl h52 (W.ok (ok_pick_t rfl h61) (W.ok (ok_pick_t rfl h52) (W.as (W.nil (thn_n (WC.ret ?_))))))))))))))
    refine ⟨.inr rfl, [_], ⟨rfl, trivial⟩, [], sn9, ?_⟩
    refine congrArg Value.bool ?_
    rw [Bool.eq_iff_iff, decide_eq_true_iff]
    simp only [Msg.R]
    first | (simp_all [← Str.b_inj, Str.nil]; done) | (simp_all [← Str.b_inj, Str.nil]; omega)
   have p61 := of_decide_eq_false h61
   refine W.yes (dj := 63) rfl rfl h61 (W.ok (ok_fieldB fd141_1 rfl) (W.yes (dj := 63) rfl rfl h61 (W.ok (ok_loadB (i := 0) (vs := [.int .i64 _]) ty3 rfl rfl rfl rfl (by simp)) (W.yes (dj := 63) rfl rfl h61 (W.ok (ok_eql rfl rfl) (W.yes (dj := 63) rfl rfl h61 (W.mv ?_)))))))
   refine W.sp 67 rfl (fun h66 => ?_) (fun h66 => ?_)
   ·have p66 := of_decide_eq_true h66
    refine W.yes (dj := 67) rfl rfl h66 (W.ok (ok_fieldB fd141_5 rfl) (W.yes (dj := 67) rfl rfl h66 (W.ok (ok_loadB (i := 0) (vs := [.string _]) ty9 rfl rfl rfl rfl (by simp)) (W.yes (dj := 67) rfl rfl h66 (W.ok (ok_eqlS rfl rfl) (W.yes (dj := 63) rfl rfl h61 (W.ok (ok_pick_t rfl h66) (W.yes (dj := 54) rfl rfl h52 (W.ok (ok_pick_f rfl h61) (W.ok (ok_pick_t rfl h52) (W.as (W.nil (thn_n (WC.ret ?_))))))))))))))
    refine ⟨.inr rfl, [_], ⟨rfl, trivial⟩, [], sn9, ?_⟩
    refine congrArg Value.bool ?_
    rw [Bool.eq_iff_iff, decide_eq_true_iff]
    simp only [Msg.R]
    first | (simp_all [← Str.b_inj, Str.nil]; done) | (simp_all [← Str.b_inj, Str.nil]; omega)
   have p66 := of_decide_eq_false h66
   refine W.no (dj := 67) rfl rfl h66 (W.no (dj := 67) rfl rfl h66 (W.no (dj := 67) rfl rfl h66 (W.yes (dj := 63) rfl rfl h61 (W.ok (ok_pick_f rfl h66) (W.yes (dj := 54) rfl rfl h52 (W.ok (ok_pick_f rfl h61) (W.ok (ok_pick_t rfl h52) (W.as (W.nil (thn_n (WC.ret ?_)))))))))))
   refine ⟨.inr rfl, [_], ⟨rfl, trivial⟩, [], sn9, ?_⟩
   refine congrArg Value.bool ?_
   rw [Bool.eq_iff_iff, decide_eq_true_iff]
   simp only [Msg.R]
   first | (simp_all [← Str.b_inj, Str.nil]; done) | (simp_all [← Str.b_inj, Str.nil]; omega)
  refine W.no (dj := 54) rfl rfl h52 (W.no (dj := 54) rfl rfl h52 (W.no (dj := 54) rfl rfl h52 (W.no (dj := 54) rfl rfl h52 (W.nou (dj := 58) rfl rfl (W.nou (dj := 58) rfl rfl (W.nou (dj := 58) rfl rfl (W.no (dj := 54) rfl rfl h52 (W.no (dj := 54) rfl rfl h52 (W.nou (dj := 63) rfl rfl (W.nou (dj := 63) rfl rfl (W.nou (dj := 63) rfl rfl (W.nou (dj := 63) rfl rfl (W.nou (dj := 67) rfl rfl ?_)))))))))))))
  refine W.nou (dj := 67) rfl rfl (W.nou (dj := 67) rfl rfl (W.nou (dj := 63) rfl rfl (W.no (dj := 54) rfl rfl h52 (W.ok (ok_pick_f rfl h52) (W.as (W.nil (thn_n (WC.ret ?_))))))))
  refine ⟨.inr rfl, [_], ⟨rfl, trivial⟩, [], sn9, ?_⟩
  refine congrArg Value.bool ?_
  rw [Bool.eq_iff_iff, decide_eq_true_iff]
  simp only [Msg.R]
  first | (simp_all [← Str.b_inj, Str.nil]; done) | (simp_all [← Str.b_inj, Str.nil]; omega)
 have p48 := of_decide_eq_false h48
 refine W.no (dj := 49) rfl rfl h48 (W.no (dj := 49) rfl rfl h48 (W.no (dj := 49) rfl rfl h48 (W.ok (ok_pick_f rfl h48) (W.mv (W.no (dj := 54) rfl rfl rfl (W.no (dj := 54) rfl rfl rfl (W.no (dj := 54) rfl rfl rfl (W.no (dj := 54) rfl rfl rfl (W.nou (dj := 58) rfl rfl (W.nou (dj := 58) rfl rfl (W.nou (dj := 58) rfl rfl (W.no (dj := 54) rfl rfl rfl (W.no (dj := 54) rfl rfl rfl ?_)))))))))))))
 refine W.nou (dj := 63) rfl rfl (W.nou (dj := 63) rfl rfl (W.nou (dj := 63) rfl rfl (W.nou (dj := 63) rfl rfl (W.nou (dj := 67) rfl rfl (W.nou (dj := 67) rfl rfl (W.nou (dj := 67) rfl rfl (W.nou (dj := 63) rfl rfl (W.no (dj := 54) rfl rfl rfl (W.ok (ok_pick_f rfl rfl) (W.as (W.nil (thn_n (WC.ret ?_)))))))))))))
 refine ⟨.inr rfl, [_], ⟨rfl, trivial⟩, [], sn9, ?_⟩
 refine congrArg Value.bool ?_
 rw [Bool.eq_iff_iff, decide_eq_true_iff]
 simp only [Msg.R]
 first | (simp_all [← Str.b_inj, Str.nil]; done) | (simp_all [← Str.b_inj, Str.nil]; omega)

theorem mall_fc {G : GH} {v_l : Value} {l : List Msg} (h_l : SlR eMsg G v_l l) :
    Fc Try.prog 141 [v_l] G [] (fun v _ _ => v = .bool (decide (MsgsR l))) := by
 obtain ⟨sa_l, sc_l, rfl⟩ := h_l.form
 have hl := h_l.len47
 refine Fc.intro (rs := [.tmp 2]) cl141 Try.func141 rfl Try.ntmps141 rfl rfl (fun w0 => ?_)
 refine WC.seq (WC.region (W.as (W.nil (thn_n (WC.seq (WC.seq (WC.region (W.as (W.nil (thn_n (WC.block ?_)))))))))))
 refine WC.loop (X := Nat) (fun k => [(3, .int .i64 ((k : Nat) : Int)), (0, .slice sa_l l.length sc_l)]) (fun k _ Ml => Ml = [] ∧ ∀ i (h : i < l.length), i < k → l[i].R ∧ (0 < i → (l[i - 1]'(by omega)).stamp < l[i].stamp)) (fun k => l.length - k) 0 ⟨eqv, eqv, trivial⟩ ?_ ?_
 ·exact ⟨rfl, fun i _ h => by omega⟩
 rintro k gG2 G2 _ hG2 ⟨rfl, hk⟩
 refine WC.seq (WC.seq (WC.region (W.mv (W.mv (W.ok (ok_len sl33 (h_l.mono hG2) rfl) (W.ok (ok_lss rfl rfl) (W.nil (thn_n ?_))))))))
 refine WC.cond (b := _) rfl (fun h7 => ?_) (fun h7 => ?_)
 ·have p7 := of_decide_eq_true h7
  refine WC.skip (thn_n (WC.seq (WC.block (WC.seq (WC.draw mix (by kernel_rfl) (W.mv (W.mv ?_)))))))
  have q7 := (h_l.mono hG2).at (i := k) (by omega)
  refine match q7 with | ⟨_, he3, ⟨e_6, hm4⟩⟩ => ?_
  subst e_6
  refine W.ok (ok_indexAddr (i := k) sl33 ty141 (h_l.mono hG2) rfl rfl ⟨by omega, by omega⟩) (W.ok (ok_loadE (vs := [.int .i64 _, .int .i64 _, .string _, .string _, .bool _, .string _]) ty141 he3 rfl rfl rfl (by simp)) (W.qcall (mright_fc _ _ _ _ _ _) rfl (W.ok (ok_not rfl) (W.mv ?_))))
  refine W.sp 16 rfl (fun h15 => ?_) (fun h15 => ?_)
  ·refine W.no (dj := 16) rfl rfl h15 (W.no (dj := 16) rfl rfl h15 (W.no (dj := 16) rfl rfl h15 (W.nou (dj := 19) rfl rfl (W.nou (dj := 19) rfl rfl (W.nou (dj := 19) rfl rfl (W.nou (dj := 19) rfl rfl (W.nou (dj := 19) rfl rfl (W.nou (dj := 19) rfl rfl (W.nou (dj := 19) rfl rfl (W.nou (dj := 19) rfl rfl (W.nou (dj := 19) rfl rfl (W.nou (dj := 19) rfl rfl (W.nou (dj := 19) rfl rfl ?_)))))))))))))
   refine W.nou (dj := 19) rfl rfl (W.no (dj := 16) rfl rfl h15 (W.ok (ok_pick_t rfl h15) (W.nil (thn_n (WC.cond_t rfl rfl (WC.seq (WC.region (W.as (W.nil (thn_n (WC.ret (blk_r (thn_r (thn_r (blk_r (thn_r ?_))))))))))))))))
   refine ⟨.inr rfl, [_], ⟨rfl, trivial⟩, [], sn9, ?_⟩
   refine congrArg Value.bool ?_
   exact (decide_eq_false fun h => by obtain ⟨q1, q2⟩ := h k (by omega); first | (have := q2 (by omega); omega) | (simp [q1] at h15)).symm
  refine W.yes (dj := 16) rfl rfl h15 (W.mv (W.yes (dj := 16) rfl rfl h15 (W.ok (ok_gtr rfl rfl) (W.yes (dj := 16) rfl rfl h15 (W.mv ?_)))))
  refine W.sp 19 rfl (fun h18 => ?_) (fun h18 => ?_)
  ·have p18 := of_decide_eq_true h18
   refine W.yes (dj := 19) rfl rfl h18 (W.mv (W.yes (dj := 19) rfl rfl h18 (W.mv (W.yes (dj := 19) rfl rfl h18 ?_))))
   have q12 := (h_l.mono hG2).at (i := k) (by omega)
   refine match q12 with | ⟨_, he8, ⟨e_11, hm9⟩⟩ => ?_
   subst e_11
   refine W.ok (ok_indexAddr (i := k) sl33 ty141 (h_l.mono hG2) rfl rfl ⟨by omega, by omega⟩) (W.yes (dj := 19) rfl rfl h18 (W.ok (ok_fieldE fd141_0 rfl he8.form) (W.yes (dj := 19) rfl rfl h18 (W.ok (ok_loadE (vs := [.int .i64 _]) ty3 he8 rfl rfl rfl (by simp)) (W.yes (dj := 19) rfl rfl h18 (W.mv (W.yes (dj := 19) rfl rfl h18 (W.mv (W.yes (dj := 19) rfl rfl h18 (W.ok (ok_sub rfl rfl (by omega)) (W.yes (dj := 19) rfl rfl h18 ?_)))))))))))
   have q17 := (h_l.mono hG2).at (i := k - 1) (by omega)
   refine match q17 with | ⟨_, he13, ⟨e_16, hm14⟩⟩ => ?_
   subst e_16
   refine W.ok (ok_indexAddr (i := k - 1) sl33 ty141 (h_l.mono hG2) rfl rfl ⟨by omega, by omega⟩) (W.yes (dj := 19) rfl rfl h18 (W.ok (ok_fieldE fd141_0 rfl he13.form) (W.yes (dj := 19) rfl rfl h18 (W.ok (ok_loadE (vs := [.int .i64 _]) ty3 he13 rfl rfl rfl (by simp)) (W.yes (dj := 19) rfl rfl h18 (W.ok (ok_leq rfl rfl) (W.yes (dj := 16) rfl rfl h15 (W.ok (ok_pick_t rfl h18) (W.ok (ok_pick_f rfl h15) (W.nil (thn_n ?_)))))))))))
   refine WC.cond (b := _) rfl (fun h31 => ?_) (fun h31 => ?_)
   ·have p31 := of_decide_eq_true h31
    refine WC.seq (WC.region (W.as (W.nil (thn_n (WC.ret (blk_r (thn_r (thn_r (blk_r (thn_r ?_))))))))))
    refine ⟨.inr rfl, [_], ⟨rfl, trivial⟩, [], sn9, ?_⟩
    refine congrArg Value.bool ?_
    exact (decide_eq_false fun h => by obtain ⟨q1, q2⟩ := h k (by omega); first | (have := q2 (by omega); omega) | (simp [q1] at h15)).symm
   have p31 := of_decide_eq_false h31
   refine WC.skip (blk_n (thn_n (WC.region (W.mv (W.ok (ok_add rfl rfl (by omega)) (W.as (W.nil (thn_n ?_))))))))
   exact ⟨Le.rfl, k + 1, ⟨eqv, eqv, trivial⟩, ⟨rfl, fun i h hi => by
      by_cases e : i = k
      · subst e; exact ⟨by simpa using h15, fun h0 => by omega⟩
      · exact hk i h (by omega)⟩, by omega⟩
  have p18 := of_decide_eq_false h18
  refine W.no (dj := 19) rfl rfl h18 (W.no (dj := 19) rfl rfl h18 (W.no (dj := 19) rfl rfl h18 (W.no (dj := 19) rfl rfl h18 (W.no (dj := 19) rfl rfl h18 (W.no (dj := 19) rfl rfl h18 (W.no (dj := 19) rfl rfl h18 (W.no (dj := 19) rfl rfl h18 (W.no (dj := 19) rfl rfl h18 (W.no (dj := 19) rfl rfl h18 (W.no (dj := 19) rfl rfl h18 (W.no (dj := 19) rfl rfl h18 (W.yes (dj := 16) rfl rfl h15 (W.ok (ok_pick_f rfl h18) ?_)))))))))))))
  refine W.ok (ok_pick_f rfl h15) (W.nil (thn_n (WC.cond_f rfl rfl (WC.skip (blk_n (thn_n (WC.region (W.mv (W.ok (ok_add rfl rfl (by omega)) (W.as (W.nil (thn_n ?_))))))))))))
  exact ⟨Le.rfl, k + 1, ⟨eqv, eqv, trivial⟩, ⟨rfl, fun i h hi => by
      by_cases e : i = k
      · subst e; exact ⟨by simpa using h15, fun h0 => by omega⟩
      · exact hk i h (by omega)⟩, by omega⟩
 have p7 := of_decide_eq_false h7
 refine WC.exit (thn_x (thn_x (blk_h (thn_n (WC.seq (WC.region (W.as (W.nil (thn_n (WC.ret ?_))))))))))
 refine ⟨.inr rfl, [_], ⟨rfl, trivial⟩, [], sn9, ?_⟩
 refine congrArg Value.bool ?_
 exact (decide_eq_true fun i h => hk i h (by omega)).symm

theorem msizes_fc {G : GH} {v_l : Value} {l : List Msg} (h_l : SlR eMsg G v_l l) (hs : ∀ m ∈ l, m.key.b.size ≤ 16 ∧ m.val.b.size ≤ 16) :
    Fc Try.prog 142 [v_l] G [] (fun v _ _ => v = .int .i64 (sizesN l)) := by
 obtain ⟨sa_l, sc_l, rfl⟩ := h_l.form
 have hl := h_l.len47
 refine Fc.intro (rs := [.tmp 2]) cl142 Try.func142 rfl Try.ntmps142 rfl rfl (fun w0 => ?_)
 refine WC.seq (WC.region (W.as (W.nil (thn_n (WC.seq (WC.region (W.as (W.nil (thn_n (WC.seq (WC.seq (WC.region (W.as (W.nil (thn_n (WC.block ?_))))))))))))))))
 refine WC.loop (X := Nat) (fun k => [(3, .int .i64 (sizesN (l.take k))), (4, .int .i64 ((k : Nat) : Int)), (0, .slice sa_l l.length sc_l)]) (fun k _ Ml => Ml = [] ∧ k ≤ l.length ∧ 0 ≤ sizesN (l.take k) ∧ sizesN (l.take k) ≤ 36 * k) (fun k => l.length - k) 0 ⟨eqv, eqv, eqv, trivial⟩ ?_ ?_
 ·exact ⟨rfl, by omega, by simp [sizesN], by simp [sizesN]⟩
 rintro k gG18 G18 _ hG18 ⟨rfl, hk, h0, h36⟩
 refine WC.seq (WC.seq (WC.region (W.mv (W.mv (W.ok (ok_len sl33 (h_l.mono hG18) rfl) (W.ok (ok_lss rfl rfl) (W.nil (thn_n ?_))))))))
 refine WC.cond (b := _) rfl (fun h8 => ?_) (fun h8 => ?_)
 ·have p8 := of_decide_eq_true h8
  have hz := sizes_succ (l := l) (k := k) (by omega)
  have hz2 := size_36 (hs l[k] (List.getElem_mem _))
  have he : Msg.size ⟨l[k].stamp, l[k].kind, l[k].key, l[k].hi, l[k].opn, l[k].val⟩ = l[k].size := rfl
  refine WC.skip (thn_n (WC.seq (WC.block (WC.region (W.mv (W.mv (W.mv ?_)))))))
  have q23 := (h_l.mono hG18).at (i := k) (by omega)
  refine match q23 with | ⟨_, he19, ⟨e_22, hm20⟩⟩ => ?_
  subst e_22
  refine W.ok (ok_indexAddr (i := k) sl33 ty141 (h_l.mono hG18) rfl rfl ⟨by omega, by omega⟩) (W.ok (ok_loadE (vs := [.int .i64 _, .int .i64 _, .string _, .string _, .bool _, .string _]) ty141 he19 rfl rfl rfl (by simp)) (W.qcall (msize_fc _ _ _ _ _ _) rfl (W.ok (ok_add rfl rfl (by omega)) (W.as (W.nil (blk_n (thn_n (WC.region (W.mv (W.ok (ok_add rfl rfl (by omega)) (W.as (W.nil (thn_n ?_)))))))))))))
  exact ⟨Le.rfl, k + 1, ⟨(iv (by omega)), eqv, eqv, trivial⟩, ⟨rfl, by omega, by omega, by omega⟩, by omega⟩
 have p8 := of_decide_eq_false h8
 refine WC.exit (thn_x (thn_x (blk_h (thn_n (WC.seq (WC.region (W.mv (W.as (W.nil (thn_n (WC.ret ?_)))))))))))
 refine ⟨.inr rfl, [_], ⟨rfl, trivial⟩, [], sn9, ?_⟩
 refine congrArg (Value.int .i64) ?_
 rw [List.take_of_length_le (by omega)]

end Go.Proofs.Ytmbafmifalppaaa
namespace Go.Proofs.Ytmbafmifalppaaa
open Go Go.Fw Go.RowKit
theorem mwithout_fc {G : GH} {v_l : Value} {l : List Pair} (h_l : SlR ePair G v_l l) (slo : Str) (shi : Str) (so : Bool) :
    Fc Try.prog 185 [v_l, .agg #[.string slo.b, .string shi.b, .bool so]] G [] (fun v G' M' => M' = [] ∧ ∃ u0, v = u0 ∧ SlR ePair G' u0 (l.filter (fun p : Pair => !Span.has ⟨slo, shi, so⟩ p.key))) := by
 obtain ⟨sa_l, sc_l, rfl⟩ := h_l.form
 refine Fc.intro (rs := [.tmp 4]) cl185 Try.func185 rfl Try.ntmps185 rfl rfl (fun w0 => ?_)
 refine WC.seq (WC.region (W.box (L := [.string _, .string _, .bool _]) rfl rfl (fun b1 => (W.as (W.nil (thn_n (WC.seq (WC.region (W.mv (W.call (Mp := []) (clonepo_fc h_l) rfl pr9 ?_))))))))))
 rintro v3 G2 Ms4 hG2 ho5
 refine W.perm (pmC pr9).symm (W.giveB (b := b1) (L := [.string _, .string _, .bool _]) pr9 (fun G6 hG6 hc6 => (W.ok (ok_makeFn (fst := []) (caps := [.tmp 3]) (vs := []) (ws := [.pointer (some ⟨b1, 0, none⟩)]) rfl rfl) (W.call (Mp := Ms4) (dfp_fc (ho5.mono hG6) _ _ _ hc6) rfl pr9 ?_))))
 rintro v8 G7 Ms9 hG7 ho10
 refine W.as (W.nil (thn_n (WC.giveO ho10 pr9 (fun G11 hG11 hv11 => (WC.ret ?_)))))
 refine ⟨.inr rfl, [_], ⟨rfl, trivial⟩, [], sn9, ?_⟩
 refine ⟨rfl, _, rfl, ?_⟩
 · exact hv11

theorem mtake_fc {G : GH} {v_l : Value} {l : List Pair} (h_l : SlR ePair G v_l l) (ms : Int) (mk : Int) (mkey : Str) (mhi : Str) (mo : Bool) (mv : Str) (hP : PairsR l) (hn : l.length ≤ 1000000) (hk : Msg.fit (⟨ms, mk, mkey, mhi, mo, mv⟩ : Msg)) :
    Fc Try.prog 166 [v_l, .agg #[.int .i64 ms, .int .i64 mk, .string mkey.b, .string mhi.b, .bool mo, .string mv.b]] G [] (fun v G' M' => M' = [] ∧ ∃ u0, v = u0 ∧ SlR ePair G' u0 (takeN l (⟨ms, mk, mkey, mhi, mo, mv⟩ : Msg))) := by
 obtain ⟨sa_l, sc_l, rfl⟩ := h_l.form
 obtain ⟨hk1, hk2, hk3⟩ := hk
 dsimp only at hk1 hk2 hk3
 have hl := h_l.len47
 have hov := on_val (m := (⟨ms, mk, mkey, mhi, mo, mv⟩ : Msg)) mkey hk3
 refine Fc.intro (rs := [.tmp 4]) cl166 Try.func166 rfl Try.ntmps166 rfl rfl (fun w0 => ?_)
 refine WC.seq (WC.region (W.box (L := [.int .i64 _, .int .i64 _, .string _, .string _, .bool _, .string _]) rfl rfl (fun b12 => (W.as (W.nil (thn_n (WC.seq (WC.seq (WC.region (W.ok (ok_fieldB fd141_1 rfl) (W.ok (ok_loadB (i := 0) (vs := [.int .i64 _]) ty3 rfl rfl rfl rfl (by simp)) (W.ok (ok_eql rfl rfl) (W.nil (thn_n ?_))))))))))))))
 refine WC.cond (b := _) rfl (fun h7 => ?_) (fun h7 => ?_)
 ·have p7 := of_decide_eq_true h7
  refine WC.seq (WC.region (W.mv (W.ok (ok_loadB (i := 0) (vs := [.int .i64 _, .int .i64 _, .string _, .string _, .bool _, .string _]) ty141 rfl rfl rfl rfl (by simp)) (W.qcall (mspan_fc _ _ _ _ _ _ (by first | assumption | omega | (dsimp only; omega))) rfl (W.call (Mp := []) (mwithout_fc h_l (Msg.span (⟨ms, mk, mkey, mhi, mo, mv⟩ : Msg)).lo (Msg.span (⟨ms, mk, mkey, mhi, mo, mv⟩ : Msg)).hi (Msg.span (⟨ms, mk, mkey, mhi, mo, mv⟩ : Msg)).opn) rfl pr9 ?_)))))
  intro _ G13 _ hG13 q15
  refine match q15 with | ⟨e_16, _, e_17, hv14⟩ => ?_
  subst e_16
  subst e_17
  have q19 := hv14.form
  refine match q19 with | ⟨sa_hv14, sc_hv14, e_18⟩ => ?_
  subst e_18
  refine W.as (W.nil (thn_n (WC.ret (thn_r ?_))))
  refine ⟨.inr rfl, [_], ⟨rfl, trivial⟩, [], sn9, ?_⟩
  refine ⟨rfl, _, rfl, ?_⟩
  · have h := hv14; rw [takeN, if_pos p7]; exact h
 have p7 := of_decide_eq_false h7
 refine WC.skip (thn_n (WC.seq (WC.drawW _ sr9.k9 mix (by rintro _ _ _ _ ⟨h | h, _⟩ <;> cases h) (WD.tk 0 rfl (ok_mv) (WD.tk 1 rfl (ok_fieldB fd141_2 rfl) (WD.tk 2 rfl (ok_loadB (i := 0) (vs := [.string _]) ty9 rfl rfl rfl rfl (by simp)) (WD.tk 3 rfl (ok_loadB (i := 0) (vs := [.int .i64 _, .int .i64 _, .string _, .string _, .bool _, .string _]) ty141 rfl rfl rfl rfl (by simp)) (WD.tk 4 rfl (ok_fieldB fd141_2 rfl) (WD.tk 5 rfl (ok_loadB (i := 0) (vs := [.string _]) ty9 rfl rfl rfl rfl (by simp)) (WD.a1 6 rfl (W.qcall (mon_fc ms mk mkey mhi mo mv mkey (by omega)) rfl (W.nil (WD.n9 Le.rfl sr9.k9 (WD.a1 7 rfl (W.call (Mp := []) (mwith_fc h_l mkey (Msg.on (⟨ms, mk, mkey, mhi, mo, mv⟩ : Msg) mkey).kind (Msg.on (⟨ms, mk, mkey, mhi, mo, mv⟩ : Msg) mkey).val hP hn (by omega)) rfl pr9 ?_)))))))))))))))
 intro _ G20 _ hG20 q22
 refine match q22 with | ⟨e_23, _, e_24, hv21⟩ => ?_
 subst e_23
 subst e_24
 have q26 := hv21.form
 refine match q26 with | ⟨sa_hv21, sc_hv21, e_25⟩ => ?_
 subst e_25
 refine W.nil (WD.n9 hG20 sr9.k9 (WD.tk 8 rfl (ok_as) (WD.done (by kernel_rfl) (thn_n (WC.ret ?_)))))
 refine ⟨.inr rfl, [_], ⟨rfl, trivial⟩, [], sn9, ?_⟩
 refine ⟨rfl, _, rfl, ?_⟩
 · have h := hv21; rw [takeN, if_neg p7]; exact h

end Go.Proofs.Ytmbafmifalppaaa
namespace Go.Proofs.Ytmbafmifalppaaa
open Go Go.Fw Go.RowKit

abbrev LeastR (b : Nat) (Tb : TypeId) (c0 c1 : Value) (G : GH) (l : List Int) (M : MH) : Prop := ∃ v Ms, M = (b, .cells (List.toArray [c0, c1, v]) Tb (0, 0)) :: Ms ∧ OwnR eInt 3 G v l Ms
abbrev HeadsR (b : Nat) (Tb : TypeId) (G : GH) (l : List Hd) (M : MH) : Prop := (∀ h ∈ l, 0 < h.1.length) ∧ ∃ v Ms, M = (b, .cells (List.toArray [v]) Tb (0, 0)) :: Ms ∧ OwnR eHead 202 G v l Ms
abbrev HeadV (G : GH) (u : Value) (a : Hd) : Prop := (∃ p c, u = .iface 202 (.agg (List.toArray [.slice p a.1.length c, .int .i64 a.2])) ∧ SlR eMsg G (.slice p a.1.length c) a.1 ∧ i64 a.2) ∧ 0 < a.1.length
end Go.Proofs.Ytmbafmifalppaaa
