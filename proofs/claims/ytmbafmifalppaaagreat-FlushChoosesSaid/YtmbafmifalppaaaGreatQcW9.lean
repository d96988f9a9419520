/- Walks of functions that tell whether messages may be. -/
import Derived.Test.YtmbafmifalppaaaGreatQcW2
set_option maxRecDepth 100000
set_option maxHeartbeats 1600000
set_option linter.unusedVariables false
set_option linter.unusedSimpArgs false
set_option linter.unnecessarySimpa false
namespace Go.Proofs.YtmbafmifalppaaaGreat
open Go Go.Fw Go.RowKit
theorem mright_fc {G : GH} (ms : Int) (mk : Int) (mkey : Str) (mhi : Str) (mo : Bool) (mv : Str) :
    Fc Tryz.prog 158 [.agg #[.int .i64 ms, .int .i64 mk, .string mkey.b, .string mhi.b, .bool mo, .string mv.b]] G [] (fun v _ _ => v = .bool (decide (Msg.R (⟨ms, mk, mkey, mhi, mo, mv⟩ : Msg)))) := by
 have h1 := mkey.le
 have h2 := mv.le
 have h3 := mhi.le
 refine Fc.intro (rs := [.tmp 2]) cl158 Tryz.func158 rfl Tryz.ntmps158 rfl rfl (fun w0 => ?_)
 refine WC.seq (WC.region (W.box (L := [.int .i64 _, .int .i64 _, .string _, .string _, .bool _, .string _]) rfl rfl (fun b1 => (W.as (W.nil (thn_n (WC.seq (WC.seq (WC.region (W.ok (ok_fieldB fd150_0 rfl) (W.ok (ok_loadB (i := 0) (vs := [.int .i64 _]) ty3 rfl rfl rfl rfl (by simp)) (W.ok (ok_lss rfl rfl) (W.mv ?_)))))))))))))
 refine W.sp 6 rfl (fun h5 => ?_) (fun h5 => ?_)
 ·have p5 := of_decide_eq_true h5
  refine W.no (dj := 6) rfl rfl h5 (W.no (dj := 6) rfl rfl h5 (W.no (dj := 6) rfl rfl h5 (W.no (dj := 6) rfl rfl h5 (W.ok (ok_pick_t rfl h5) (W.mv (W.no (dj := 12) rfl rfl rfl (W.no (dj := 12) rfl rfl rfl (W.no (dj := 12) rfl rfl rfl (W.no (dj := 12) rfl rfl rfl (W.ok (ok_pick_t rfl rfl) (W.mv (W.no (dj := 18) rfl rfl rfl (W.no (dj := 18) rfl rfl rfl ?_)))))))))))))
  refine W.no (dj := 18) rfl rfl rfl (W.no (dj := 18) rfl rfl rfl (W.ok (ok_pick_t rfl rfl) (W.nil (thn_n (WC.cond_t rfl rfl (WC.seq (WC.region (W.as (W.nil (thn_n (WC.ret (thn_r ?_))))))))))))
  refine ⟨.inr rfl, [_], ⟨rfl, trivial⟩, [], sn9, ?_⟩
  refine congrArg Value.bool ?_
  rw [Bool.eq_iff_iff, decide_eq_true_iff]
  simp only [Msg.R]
  first | (simp_all [← Str.b_inj, Str.nil]; done) | (simp_all [← Str.b_inj, Str.nil]; omega)
 have p5 := of_decide_eq_false h5
 refine W.yes (dj := 6) rfl rfl h5 (W.ok (ok_fieldB fd150_2 rfl) (W.yes (dj := 6) rfl rfl h5 (W.ok (ok_loadB (i := 0) (vs := [.string _]) ty9 rfl rfl rfl rfl (by simp)) (W.yes (dj := 6) rfl rfl h5 (W.ok (ok_lenS st9 rfl) (W.yes (dj := 6) rfl rfl h5 (W.ok (ok_gtr rfl rfl) (W.ok (ok_pick_f rfl h5) (W.mv ?_)))))))))
 refine W.sp 12 rfl (fun h10 => ?_) (fun h10 => ?_)
 ·have p10 := of_decide_eq_true h10
  refine W.no (dj := 12) rfl rfl h10 (W.no (dj := 12) rfl rfl h10 (W.no (dj := 12) rfl rfl h10 (W.no (dj := 12) rfl rfl h10 (W.ok (ok_pick_t rfl h10) (W.mv (W.no (dj := 18) rfl rfl rfl (W.no (dj := 18) rfl rfl rfl (W.no (dj := 18) rfl rfl rfl (W.no (dj := 18) rfl rfl rfl (W.ok (ok_pick_t rfl rfl) (W.nil (thn_n (WC.cond_t rfl rfl (WC.seq ?_))))))))))))))
  refine WC.region (W.as (W.nil (thn_n (WC.ret (thn_r ?_)))))
  refine ⟨.inr rfl, [_], ⟨rfl, trivial⟩, [], sn9, ?_⟩
  refine congrArg Value.bool ?_
  rw [Bool.eq_iff_iff, decide_eq_true_iff]
  simp only [Msg.R]
  first | (simp_all [← Str.b_inj, Str.nil]; done) | (simp_all [← Str.b_inj, Str.nil]; omega)
 have p10 := of_decide_eq_false h10
 refine W.yes (dj := 12) rfl rfl h10 (W.ok (ok_fieldB fd150_5 rfl) (W.yes (dj := 12) rfl rfl h10 (W.ok (ok_loadB (i := 0) (vs := [.string _]) ty9 rfl rfl rfl rfl (by simp)) (W.yes (dj := 12) rfl rfl h10 (W.ok (ok_lenS st9 rfl) (W.yes (dj := 12) rfl rfl h10 (W.ok (ok_gtr rfl rfl) (W.ok (ok_pick_f rfl h10) (W.mv ?_)))))))))
 refine W.sp 18 rfl (fun h16 => ?_) (fun h16 => ?_)
 ·have p16 := of_decide_eq_true h16
  refine W.no (dj := 18) rfl rfl h16 (W.no (dj := 18) rfl rfl h16 (W.no (dj := 18) rfl rfl h16 (W.no (dj := 18) rfl rfl h16 (W.ok (ok_pick_t rfl h16) (W.nil (thn_n (WC.cond_t rfl rfl (WC.seq (WC.region (W.as (W.nil (thn_n (WC.ret (thn_r ?_))))))))))))))
  refine ⟨.inr rfl, [_], ⟨rfl, trivial⟩, [], sn9, ?_⟩
  refine congrArg Value.bool ?_
  rw [Bool.eq_iff_iff, decide_eq_true_iff]
  simp only [Msg.R]
  first | (simp_all [← Str.b_inj, Str.nil]; done) | (simp_all [← Str.b_inj, Str.nil]; omega)
 have p16 := of_decide_eq_false h16
 refine W.yes (dj := 18) rfl rfl h16 (W.ok (ok_fieldB fd150_3 rfl) (W.yes (dj := 18) rfl rfl h16 (W.ok (ok_loadB (i := 0) (vs := [.string _]) ty9 rfl rfl rfl rfl (by simp)) (W.yes (dj := 18) rfl rfl h16 (W.ok (ok_lenS st9 rfl) (W.yes (dj := 18) rfl rfl h16 (W.ok (ok_gtr rfl rfl) (W.ok (ok_pick_f rfl h16) (W.nil (thn_n ?_))))))))))
 refine WC.cond (b := _) rfl (fun h22 => ?_) (fun h22 => ?_)
 ·have p22 := of_decide_eq_true h22
  refine WC.seq (WC.region (W.as (W.nil (thn_n (WC.ret (thn_r ?_))))))
  refine ⟨.inr rfl, [_], ⟨rfl, trivial⟩, [], sn9, ?_⟩
  refine congrArg Value.bool ?_
  rw [Bool.eq_iff_iff, decide_eq_true_iff]
  simp only [Msg.R]
  first | (simp_all [← Str.b_inj, Str.nil]; done) | (simp_all [← Str.b_inj, Str.nil]; omega)
 have p22 := of_decide_eq_false h22
 refine WC.skip (thn_n (WC.seq (WC.seq (WC.region (W.ok (ok_fieldB fd150_1 rfl) (W.ok (ok_loadB (i := 0) (vs := [.int .i64 _]) ty3 rfl rfl rfl rfl (by simp)) (W.ok (ok_eql rfl rfl) (W.nil (thn_n ?_)))))))))
 refine WC.cond (b := _) rfl (fun h26 => ?_) (fun h26 => ?_)
 ·have p26 := of_decide_eq_true h26
  refine WC.seq (WC.region (W.ok (ok_fieldB fd150_5 rfl) (W.ok (ok_loadB (i := 0) (vs := [.string _]) ty9 rfl rfl rfl rfl (by simp)) (W.ok (ok_eqlS rfl rfl) (W.mv ?_)))))
  refine W.sp 30 rfl (fun h29 => ?_) (fun h29 => ?_)
  ·have p29 := of_decide_eq_true h29
   refine W.yes (dj := 30) rfl rfl h29 (W.ok (ok_fieldB fd150_4 rfl) (W.yes (dj := 30) rfl rfl h29 (W.ok (ok_loadB (i := 0) (vs := [.bool _]) ty4 rfl rfl rfl rfl (by simp)) (W.yes (dj := 30) rfl rfl h29 (W.ok (ok_not rfl) (W.yes (dj := 30) rfl rfl h29 (W.mv ?_)))))))
   refine W.sp 34 rfl (fun h33 => ?_) (fun h33 => ?_)
   ·refine W.no (dj := 34) rfl rfl h33 (W.no (dj := 34) rfl rfl h33 (W.no (dj := 34) rfl rfl h33 (W.yes (dj := 30) rfl rfl h29 (W.ok (ok_pick_t rfl h33) (W.ok (ok_pick_t rfl h29) (W.mv (W.yes (dj := 40) rfl rfl rfl (W.ok (ok_loadB (i := 0) (vs := [.int .i64 _, .int .i64 _, .string _, .string _, .bool _, .string _]) ty150 rfl rfl rfl rfl (by simp)) (W.yes (dj := 40) rfl rfl rfl (W.qcall (rspan_fc _ _ _ _ _ _ (by first | assumption | omega | (dsimp only; omega))) rfl (W.yes (dj := 40) rfl rfl rfl (W.qcall (empty_fc _ _ _) rfl (W.yes (dj := 40) rfl rfl rfl ?_)))))))))))))
    refine W.ok (ok_not rfl) (W.ok (ok_pick_t rfl rfl) (W.as (W.nil (thn_n (WC.ret (thn_r ?_))))))
    refine ⟨.inr rfl, [_], ⟨rfl, trivial⟩, [], sn9, ?_⟩
    refine congrArg Value.bool ?_
    rw [Bool.eq_iff_iff, decide_eq_true_iff]
    simp only [Msg.R]
    first | (simp_all [← Str.b_inj, Str.nil]; done) | (simp_all [← Str.b_inj, Str.nil]; omega)
   refine W.yes (dj := 34) rfl rfl h33 (W.ok (ok_fieldB fd150_3 rfl) (W.yes (dj := 34) rfl rfl h33 (W.ok (ok_loadB (i := 0) (vs := [.string _]) ty9 rfl rfl rfl rfl (by simp)) (W.yes (dj := 34) rfl rfl h33 (W.ok (ok_eqlS rfl rfl) (W.yes (dj := 30) rfl rfl h29 (W.ok (ok_pick_f rfl h33) (W.ok (ok_pick_t rfl h29) (W.mv ?_)))))))))
   refine W.sp 40 rfl (fun h37 => ?_) (fun h37 => ?_)
   ·have p37 := of_decide_eq_true h37
    refine W.yes (dj := 40) rfl rfl h37 (W.ok (ok_loadB (i := 0) (vs := [.int .i64 _, .int .i64 _, .string _, .string _, .bool _, .string _]) ty150 rfl rfl rfl rfl (by simp)) (W.yes (dj := 40) rfl rfl h37 (W.qcall (rspan_fc _ _ _ _ _ _ (by first | assumption | omega | (dsimp only; omega))) rfl (W.yes (dj := 40) rfl rfl h37 (W.qcall (empty_fc _ _ _) rfl (W.yes (dj := 40) rfl rfl h37 (W.ok (ok_not rfl) (W.ok (ok_pick_t rfl h37) (W.as (W.nil (thn_n (WC.ret (thn_r ?_)))))))))))))
    refine ⟨.inr rfl, [_], ⟨rfl, trivial⟩, [], sn9, ?_⟩
    refine congrArg Value.bool ?_
    rw [Bool.eq_iff_iff, decide_eq_true_iff]
    simp only [Msg.R]
    first | (simp_all [← Str.b_inj, Str.nil]; done) | (simp_all [← Str.b_inj, Str.nil]; omega)
   have p37 := of_decide_eq_false h37
   refine W.no (dj := 40) rfl rfl h37 (W.no (dj := 40) rfl rfl h37 (W.no (dj := 40) rfl rfl h37 (W.no (dj := 40) rfl rfl h37 (W.ok (ok_pick_f rfl h37) (W.as (W.nil (thn_n (WC.ret (thn_r ?_)))))))))
   refine ⟨.inr rfl, [_], ⟨rfl, trivial⟩, [], sn9, ?_⟩
   refine congrArg Value.bool ?_
   rw [Bool.eq_iff_iff, decide_eq_true_iff]
   simp only [Msg.R]
   first | (simp_all [← Str.b_inj, Str.nil]; done) | (simp_all [← Str.b_inj, Str.nil]; omega)
  have p29 := of_decide_eq_false h29
  refine W.no (dj := 30) rfl rfl h29 (W.no (dj := 30) rfl rfl h29 (W.no (dj := 30) rfl rfl h29 (W.no (dj := 30) rfl rfl h29 (W.nou (dj := 34) rfl rfl (W.nou (dj := 34) rfl rfl (W.nou (dj := 34) rfl rfl (W.no (dj := 30) rfl rfl h29 (W.ok (ok_pick_f rfl h29) (W.mv (W.no (dj := 40) rfl rfl rfl (W.no (dj := 40) rfl rfl rfl (W.no (dj := 40) rfl rfl rfl (W.no (dj := 40) rfl rfl rfl ?_)))))))))))))
  refine W.ok (ok_pick_f rfl rfl) (W.as (W.nil (thn_n (WC.ret (thn_r ?_)))))
  refine ⟨.inr rfl, [_], ⟨rfl, trivial⟩, [], sn9, ?_⟩
  refine congrArg Value.bool ?_
  rw [Bool.eq_iff_iff, decide_eq_true_iff]
  simp only [Msg.R]
  first | (simp_all [← Str.b_inj, Str.nil]; done) | (simp_all [← Str.b_inj, Str.nil]; omega)
 have p26 := of_decide_eq_false h26
 refine WC.skip (thn_n (WC.seq (WC.region (W.ok (ok_fieldB fd150_3 rfl) (W.ok (ok_loadB (i := 0) (vs := [.string _]) ty9 rfl rfl rfl rfl (by simp)) (W.ok (ok_eqlS rfl rfl) (W.mv ?_)))))))
 refine W.sp 49 rfl (fun h48 => ?_) (fun h48 => ?_)
 ·have p48 := of_decide_eq_true h48
  refine W.yes (dj := 49) rfl rfl h48 (W.ok (ok_fieldB fd150_4 rfl) (W.yes (dj := 49) rfl rfl h48 (W.ok (ok_loadB (i := 0) (vs := [.bool _]) ty4 rfl rfl rfl rfl (by simp)) (W.yes (dj := 49) rfl rfl h48 (W.ok (ok_not rfl) (W.ok (ok_pick_t rfl h48) (W.mv ?_)))))))
  refine W.sp 54 rfl (fun h52 => ?_) (fun h52 => ?_)
  ·refine W.yes (dj := 54) rfl rfl h52 (W.ok (ok_fieldB fd150_1 rfl) (W.yes (dj := 54) rfl rfl h52 (W.ok (ok_loadB (i := 0) (vs := [.int .i64 _]) ty3 rfl rfl rfl rfl (by simp)) (W.yes (dj := 54) rfl rfl h52 (W.ok (ok_eql rfl rfl) (W.yes (dj := 54) rfl rfl h52 (W.mv ?_)))))))
   refine W.sp 58 rfl (fun h57 => ?_) (fun h57 => ?_)
   ·have p57 := of_decide_eq_true h57
    refine W.no (dj := 58) rfl rfl h57 (W.no (dj := 58) rfl rfl h57 (W.no (dj := 58) rfl rfl h57 (W.yes (dj := 54) rfl rfl h52 (W.ok (ok_pick_t rfl h57) (W.yes (dj := 54) rfl rfl h52 (W.mv (W.no (dj := 63) rfl rfl rfl (W.no (dj := 63) rfl rfl rfl (W.no (dj := 63) rfl rfl rfl (W.no (dj := 63) rfl rfl rfl (W.nou (dj := 67) rfl rfl (W.nou (dj := 67) rfl rfl (W.nou (dj := 67) rfl rfl ?_)))))))))))))
    refine W.no (dj := 63) rfl rfl rfl (W.yes (dj := 54) rfl rfl h52 (W.ok (ok_pick_t rfl rfl) (W.ok (ok_pick_t rfl h52) (W.as (W.nil (thn_n (WC.ret ?_)))))))
    refine ⟨.inr rfl, [_], ⟨rfl, trivial⟩, [], sn9, ?_⟩
    refine congrArg Value.bool ?_
    rw [Bool.eq_iff_iff, decide_eq_true_iff]
    simp only [Msg.R]
    first | (simp_all [← Str.b_inj, Str.nil]; done) | (simp_all [← Str.b_inj, Str.nil]; omega)
   have p57 := of_decide_eq_false h57
   refine W.yes (dj := 58) rfl rfl h57 (W.ok (ok_fieldB fd150_1 rfl) (W.yes (dj := 58) rfl rfl h57 (W.ok (ok_loadB (i := 0) (vs := [.int .i64 _]) ty3 rfl rfl rfl rfl (by simp)) (W.yes (dj := 58) rfl rfl h57 (W.ok (ok_eql rfl rfl) (W.yes (dj := 54) rfl rfl h52 (W.ok (ok_pick_f rfl h57) (W.yes (dj := 54) rfl rfl h52 (W.mv ?_)))))))))
   refine W.sp 63 rfl (fun h61 => ?_) (fun h61 => ?_)
   ·have p61 := of_decide_eq_true h61
    refine W.no (dj := 63) rfl rfl h61 (W.no (dj := 63) rfl rfl h61 (W.no (dj := 63) rfl rfl h61 (W.no (dj := 63) rfl rfl h61 (W.nou (dj := 67) rfl rfl (W.nou (dj := 67) rfl rfl (W.nou (dj := 67) rfl rfl (W.no (dj := 63) rfl rfl h61 (W.yes (dj := 54) rfl rfl h52 (W.ok (ok_pick_t rfl h61) (W.ok (ok_pick_t rfl h52) (W.as (W.nil (thn_n (WC.ret ?_))))))))))))))
    refine ⟨.inr rfl, [_], ⟨rfl, trivial⟩, [], sn9, ?_⟩
    refine congrArg Value.bool ?_
    rw [Bool.eq_iff_iff, decide_eq_true_iff]
    simp only [Msg.R]
    first | (simp_all [← Str.b_inj, Str.nil]; done) | (simp_all [← Str.b_inj, Str.nil]; omega)
   have p61 := of_decide_eq_false h61
   refine W.yes (dj := 63) rfl rfl h61 (W.ok (ok_fieldB fd150_1 rfl) (W.yes (dj := 63) rfl rfl h61 (W.ok (ok_loadB (i := 0) (vs := [.int .i64 _]) ty3 rfl rfl rfl rfl (by simp)) (W.yes (dj := 63) rfl rfl h61 (W.ok (ok_eql rfl rfl) (W.yes (dj := 63) rfl rfl h61 (W.mv ?_)))))))
   refine W.sp 67 rfl (fun h66 => ?_) (fun h66 => ?_)
   ·have p66 := of_decide_eq_true h66
    refine W.yes (dj := 67) rfl rfl h66 (W.ok (ok_fieldB fd150_5 rfl) (W.yes (dj := 67) rfl rfl h66 (W.ok (ok_loadB (i := 0) (vs := [.string _]) ty9 rfl rfl rfl rfl (by simp)) (W.yes (dj := 67) rfl rfl h66 (W.ok (ok_eqlS rfl rfl) (W.yes (dj := 63) rfl rfl h61 (W.ok (ok_pick_t rfl h66) (W.yes (dj := 54) rfl rfl h52 (W.ok (ok_pick_f rfl h61) (W.ok (ok_pick_t rfl h52) (W.as (W.nil (thn_n (WC.ret ?_))))))))))))))
    refine ⟨.inr rfl, [_], ⟨rfl, trivial⟩, [], sn9, ?_⟩
    refine congrArg Value.bool ?_
    rw [Bool.eq_iff_iff, decide_eq_true_iff]
    simp only [Msg.R]
    first | (simp_all [← Str.b_inj, Str.nil]; done) | (simp_all [← Str.b_inj, Str.nil]; omega)
   have p66 := of_decide_eq_false h66
   refine W.no (dj := 67) rfl rfl h66 (W.no (dj := 67) rfl rfl h66 (W.no (dj := 67) rfl rfl h66 (W.yes (dj := 63) rfl rfl h61 (W.ok (ok_pick_f rfl h66) (W.yes (dj := 54) rfl rfl h52 (W.ok (ok_pick_f rfl h61) (W.ok (ok_pick_t rfl h52) (W.as (W.nil (thn_n (WC.ret ?_)))))))))))
   refine ⟨.inr rfl, [_], ⟨rfl, trivial⟩, [], sn9, ?_⟩
   refine congrArg Value.bool ?_
   rw [Bool.eq_iff_iff, decide_eq_true_iff]
   simp only [Msg.R]
   first | (simp_all [← Str.b_inj, Str.nil]; done) | (simp_all [← Str.b_inj, Str.nil]; omega)
  refine W.no (dj := 54) rfl rfl h52 (W.no (dj := 54) rfl rfl h52 (W.no (dj := 54) rfl rfl h52 (W.no (dj := 54) rfl rfl h52 (W.nou (dj := 58) rfl rfl (W.nou (dj := 58) rfl rfl (W.nou (dj := 58) rfl rfl (W.no (dj := 54) rfl rfl h52 (W.no (dj := 54) rfl rfl h52 (W.nou (dj := 63) rfl rfl (W.nou (dj := 63) rfl rfl (W.nou (dj := 63) rfl rfl (W.nou (dj := 63) rfl rfl (W.nou (dj := 67) rfl rfl ?_)))))))))))))
  refine W.nou (dj := 67) rfl rfl (W.nou (dj := 67) rfl rfl (W.nou (dj := 63) rfl rfl (W.no (dj := 54) rfl rfl h52 (W.ok (ok_pick_f rfl h52) (W.as (W.nil (thn_n (WC.ret ?_))))))))
  refine ⟨.inr rfl, [_], ⟨rfl, trivial⟩, [], sn9, ?_⟩
  refine congrArg Value.bool ?_
  rw [Bool.eq_iff_iff, decide_eq_true_iff]
  simp only [Msg.R]
  first | (simp_all [← Str.b_inj, Str.nil]; done) | (simp_all [← Str.b_inj, Str.nil]; omega)
 have p48 := of_decide_eq_false h48
 refine W.no (dj := 49) rfl rfl h48 (W.no (dj := 49) rfl rfl h48 (W.no (dj := 49) rfl rfl h48 (W.ok (ok_pick_f rfl h48) (W.mv (W.no (dj := 54) rfl rfl rfl (W.no (dj := 54) rfl rfl rfl (W.no (dj := 54) rfl rfl rfl (W.no (dj := 54) rfl rfl rfl (W.nou (dj := 58) rfl rfl (W.nou (dj := 58) rfl rfl (W.nou (dj := 58) rfl rfl (W.no (dj := 54) rfl rfl rfl (W.no (dj := 54) rfl rfl rfl ?_)))))))))))))
 refine W.nou (dj := 63) rfl rfl (W.nou (dj := 63) rfl rfl (W.nou (dj := 63) rfl rfl (W.nou (dj := 63) rfl rfl (W.nou (dj := 67) rfl rfl (W.nou (dj := 67) rfl rfl (W.nou (dj := 67) rfl rfl (W.nou (dj := 63) rfl rfl (W.no (dj := 54) rfl rfl rfl (W.ok (ok_pick_f rfl rfl) (W.as (W.nil (thn_n (WC.ret ?_)))))))))))))
 refine ⟨.inr rfl, [_], ⟨rfl, trivial⟩, [], sn9, ?_⟩
 refine congrArg Value.bool ?_
 rw [Bool.eq_iff_iff, decide_eq_true_iff]
 simp only [Msg.R]
 first | (simp_all [← Str.b_inj, Str.nil]; done) | (simp_all [← Str.b_inj, Str.nil]; omega)

theorem mall_fc {G : GH} {v_l : Value} {l : List Msg} (h_l : SlR eMsg G v_l l) :
    Fc Tryz.prog 115 [v_l] G [] (fun v _ _ => v = .bool (decide (MsgsR l))) := by
 obtain ⟨sa_l, sc_l, rfl⟩ := h_l.form
 have hl := h_l.len47
 refine Fc.intro (rs := [.tmp 2]) cl115 Tryz.func115 rfl Tryz.ntmps115 rfl rfl (fun w0 => ?_)
 refine WC.seq (WC.region (W.as (W.nil (thn_n (WC.seq (WC.seq (WC.region (W.as (W.nil (thn_n (WC.block ?_)))))))))))
 refine WC.loop (X := Nat) (fun k => [(3, .int .i64 ((k : Nat) : Int)), (0, .slice sa_l l.length sc_l)]) (fun k _ Ml => Ml = [] ∧ ∀ i (h : i < l.length), i < k → l[i].R ∧ (0 < i → (l[i - 1]'(by omega)).stamp < l[i].stamp)) (fun k => l.length - k) 0 ⟨eqv, eqv, trivial⟩ ?_ ?_
 ·exact ⟨rfl, fun i _ h => by omega⟩
 rintro k gG2 G2 _ hG2 ⟨rfl, hk⟩
 refine WC.seq (WC.seq (WC.region (W.mv (W.mv (W.ok (ok_len sl40 (h_l.mono hG2) rfl) (W.ok (ok_lss rfl rfl) (W.nil (thn_n ?_))))))))
 refine WC.cond (b := _) rfl (fun h7 => ?_) (fun h7 => ?_)
 ·have p7 := of_decide_eq_true h7
  refine WC.skip (thn_n (WC.seq (WC.block (WC.seq (WC.draw mix (by kernel_rfl) (W.mv (W.mv ?_)))))))
  have q7 := (h_l.mono hG2).at (i := k) (by omega)
  refine match q7 with | ⟨_, he3, ⟨e_6, hm4⟩⟩ => ?_
  subst e_6
  refine W.ok (ok_indexAddr (i := k) sl40 ty150 (h_l.mono hG2) rfl rfl ⟨by omega, by omega⟩) (W.ok (ok_loadE (vs := [.int .i64 _, .int .i64 _, .string _, .string _, .bool _, .string _]) ty150 he3 rfl rfl rfl (by simp)) (W.qcall (mright_fc _ _ _ _ _ _) rfl (W.ok (ok_not rfl) (W.mv ?_))))
  refine W.sp 16 rfl (fun h15 => ?_) (fun h15 => ?_)
  ·refine W.no (dj := 16) rfl rfl h15 (W.no (dj := 16) rfl rfl h15 (W.no (dj := 16) rfl rfl h15 (W.nou (dj := 19) rfl rfl (W.nou (dj := 19) rfl rfl (W.nou (dj := 19) rfl rfl (W.nou (dj := 19) rfl rfl (W.nou (dj := 19) rfl rfl (W.nou (dj := 19) rfl rfl (W.nou (dj := 19) rfl rfl (W.nou (dj := 19) rfl rfl (W.nou (dj := 19) rfl rfl (W.nou (dj := 19) rfl rfl (W.nou (dj := 19) rfl rfl ?_)))))))))))))
   refine W.nou (dj := 19) rfl rfl (W.no (dj := 16) rfl rfl h15 (W.ok (ok_pick_t rfl h15) (W.nil (thn_n (WC.cond_t rfl rfl (WC.seq (WC.region (W.as (W.nil (thn_n (WC.ret (blk_r (thn_r (thn_r (blk_r (thn_r ?_))))))))))))))))
   refine ⟨.inr rfl, [_], ⟨rfl, trivial⟩, [], sn9, ?_⟩
   refine congrArg Value.bool ?_
   exact (decide_eq_false fun h => by obtain ⟨q1, q2⟩ := h k (by omega); first | (have := q2 (by omega); omega) | (simp [q1] at h15)).symm
  refine W.yes (dj := 16) rfl rfl h15 (W.mv (W.yes (dj := 16) rfl rfl h15 (W.ok (ok_gtr rfl rfl) (W.yes (dj := 16) rfl rfl h15 (W.mv ?_)))))
  refine W.sp 19 rfl (fun h18 => ?_) (fun h18 => ?_)
  ·have p18 := of_decide_eq_true h18
   refine W.yes (dj := 19) rfl rfl h18 (W.mv (W.yes (dj := 19) rfl rfl h18 (W.mv (W.yes (dj := 19) rfl rfl h18 ?_))))
   have q12 := (h_l.mono hG2).at (i := k) (by omega)
   refine match q12 with | ⟨_, he8, ⟨e_11, hm9⟩⟩ => ?_
   subst e_11
   refine W.ok (ok_indexAddr (i := k) sl40 ty150 (h_l.mono hG2) rfl rfl ⟨by omega, by omega⟩) (W.yes (dj := 19) rfl rfl h18 (W.ok (ok_fieldE fd150_0 rfl he8.form) (W.yes (dj := 19) rfl rfl h18 (W.ok (ok_loadE (vs := [.int .i64 _]) ty3 he8 rfl rfl rfl (by simp)) (W.yes (dj := 19) rfl rfl h18 (W.mv (W.yes (dj := 19) rfl rfl h18 (W.mv (W.yes (dj := 19) rfl rfl h18 (W.ok (ok_sub rfl rfl (by omega)) (W.yes (dj := 19) rfl rfl h18 ?_)))))))))))
   have q17 := (h_l.mono hG2).at (i := k - 1) (by omega)
   refine match q17 with | ⟨_, he13, ⟨e_16, hm14⟩⟩ => ?_
   subst e_16
   refine W.ok (ok_indexAddr (i := k - 1) sl40 ty150 (h_l.mono hG2) rfl rfl ⟨by omega, by omega⟩) (W.yes (dj := 19) rfl rfl h18 (W.ok (ok_fieldE fd150_0 rfl he13.form) (W.yes (dj := 19) rfl rfl h18 (W.ok (ok_loadE (vs := [.int .i64 _]) ty3 he13 rfl rfl rfl (by simp)) (W.yes (dj := 19) rfl rfl h18 (W.ok (ok_leq rfl rfl) (W.yes (dj := 16) rfl rfl h15 (W.ok (ok_pick_t rfl h18) (W.ok (ok_pick_f rfl h15) (W.nil (thn_n ?_)))))))))))
   refine WC.cond (b := _) rfl (fun h31 => ?_) (fun h31 => ?_)
   ·have p31 := of_decide_eq_true h31
    refine WC.seq (WC.region (W.as (W.nil (thn_n (WC.ret (blk_r (thn_r (thn_r (blk_r (thn_r ?_))))))))))
    refine ⟨.inr rfl, [_], ⟨rfl, trivial⟩, [], sn9, ?_⟩
    refine congrArg Value.bool ?_
    exact (decide_eq_false fun h => by obtain ⟨q1, q2⟩ := h k (by omega); first | (have := q2 (by omega); omega) | (simp [q1] at h15)).symm
   have p31 := of_decide_eq_false h31
   refine WC.skip (blk_n (thn_n (WC.region (W.mv (W.ok (ok_add rfl rfl (by omega)) (W.as (W.nil (thn_n ?_))))))))
   exact ⟨Le.rfl, k + 1, ⟨eqv, eqv, trivial⟩, ⟨rfl, fun i h hi => by
      by_cases e : i = k
      · subst e; exact ⟨by simpa using h15, fun h0 => by omega⟩
      · exact hk i h (by omega)⟩, by omega⟩
  have p18 := of_decide_eq_false h18
  refine W.no (dj := 19) rfl rfl h18 (W.no (dj := 19) rfl rfl h18 (W.no (dj := 19) rfl rfl h18 (W.no (dj := 19) rfl rfl h18 (W.no (dj := 19) rfl rfl h18 (W.no (dj := 19) rfl rfl h18 (W.no (dj := 19) rfl rfl h18 (W.no (dj := 19) rfl rfl h18 (W.no (dj := 19) rfl rfl h18 (W.no (dj := 19) rfl rfl h18 (W.no (dj := 19) rfl rfl h18 (W.no (dj := 19) rfl rfl h18 (W.yes (dj := 16) rfl rfl h15 (W.ok (ok_pick_f rfl h18) ?_)))))))))))))
  refine W.ok (ok_pick_f rfl h15) (W.nil (thn_n (WC.cond_f rfl rfl (WC.skip (blk_n (thn_n (WC.region (W.mv (W.ok (ok_add rfl rfl (by omega)) (W.as (W.nil (thn_n ?_))))))))))))
  exact ⟨Le.rfl, k + 1, ⟨eqv, eqv, trivial⟩, ⟨rfl, fun i h hi => by
      by_cases e : i = k
      · subst e; exact ⟨by simpa using h15, fun h0 => by omega⟩
      · exact hk i h (by omega)⟩, by omega⟩
 have p7 := of_decide_eq_false h7
 refine WC.exit (thn_x (thn_x (blk_h (thn_n (WC.seq (WC.region (W.as (W.nil (thn_n (WC.ret ?_))))))))))
 refine ⟨.inr rfl, [_], ⟨rfl, trivial⟩, [], sn9, ?_⟩
 refine congrArg Value.bool ?_
 exact (decide_eq_true fun i h => hk i h (by omega)).symm

theorem msizes_fc {G : GH} {v_l : Value} {l : List Msg} (h_l : SlR eMsg G v_l l) (hs : ∀ m ∈ l, m.key.b.size ≤ 16 ∧ m.val.b.size ≤ 16) :
    Fc Tryz.prog 116 [v_l] G [] (fun v _ _ => v = .int .i64 (sizesN l)) := by
 obtain ⟨sa_l, sc_l, rfl⟩ := h_l.form
 have hl := h_l.len47
 refine Fc.intro (rs := [.tmp 2]) cl116 Tryz.func116 rfl Tryz.ntmps116 rfl rfl (fun w0 => ?_)
 refine WC.seq (WC.region (W.as (W.nil (thn_n (WC.seq (WC.region (W.as (W.nil (thn_n (WC.seq (WC.seq (WC.region (W.as (W.nil (thn_n (WC.block ?_))))))))))))))))
 refine WC.loop (X := Nat) (fun k => [(3, .int .i64 (sizesN (l.take k))), (4, .int .i64 ((k : Nat) : Int)), (0, .slice sa_l l.length sc_l)]) (fun k _ Ml => Ml = [] ∧ k ≤ l.length ∧ 0 ≤ sizesN (l.take k) ∧ sizesN (l.take k) ≤ 36 * k) (fun k => l.length - k) 0 ⟨eqv, eqv, eqv, trivial⟩ ?_ ?_
 ·exact ⟨rfl, by omega, by simp [sizesN], by simp [sizesN]⟩
 rintro k gG18 G18 _ hG18 ⟨rfl, hk, h0, h36⟩
 refine WC.seq (WC.seq (WC.region (W.mv (W.mv (W.ok (ok_len sl40 (h_l.mono hG18) rfl) (W.ok (ok_lss rfl rfl) (W.nil (thn_n ?_))))))))
 refine WC.cond (b := _) rfl (fun h8 => ?_) (fun h8 => ?_)
 ·have p8 := of_decide_eq_true h8
  have hz := sizes_succ (l := l) (k := k) (by omega)
  have hz2 := size_36 (hs l[k] (List.getElem_mem _))
  have he : Msg.size ⟨l[k].stamp, l[k].kind, l[k].key, l[k].hi, l[k].opn, l[k].val⟩ = l[k].size := rfl
  refine WC.skip (thn_n (WC.seq (WC.block (WC.region (W.mv (W.mv (W.mv ?_)))))))
  have q23 := (h_l.mono hG18).at (i := k) (by omega)
  refine match q23 with | ⟨_, he19, ⟨e_22, hm20⟩⟩ => ?_
  subst e_22
  refine W.ok (ok_indexAddr (i := k) sl40 ty150 (h_l.mono hG18) rfl rfl ⟨by omega, by omega⟩) (W.ok (ok_loadE (vs := [.int .i64 _, .int .i64 _, .string _, .string _, .bool _, .string _]) ty150 he19 rfl rfl rfl (by simp)) (W.qcall (msize_fc _ _ _ _ _ _) rfl (W.ok (ok_add rfl rfl (by omega)) (W.as (W.nil (blk_n (thn_n (WC.region (W.mv (W.ok (ok_add rfl rfl (by omega)) (W.as (W.nil (thn_n ?_)))))))))))))
  exact ⟨Le.rfl, k + 1, ⟨(iv (by omega)), eqv, eqv, trivial⟩, ⟨rfl, by omega, by omega, by omega⟩, by omega⟩
 have p8 := of_decide_eq_false h8
 refine WC.exit (thn_x (thn_x (blk_h (thn_n (WC.seq (WC.region (W.mv (W.as (W.nil (thn_n (WC.ret ?_)))))))))))
 refine ⟨.inr rfl, [_], ⟨rfl, trivial⟩, [], sn9, ?_⟩
 refine congrArg (Value.int .i64) ?_
 rw [List.take_of_length_le (by omega)]

end Go.Proofs.YtmbafmifalppaaaGreat
