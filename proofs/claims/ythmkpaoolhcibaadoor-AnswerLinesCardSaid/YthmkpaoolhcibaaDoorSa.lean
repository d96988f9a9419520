/- Walks of strings.Builder. -/
import Derived.Test.YthmkpaoolhcibaaDoorWn
import Derived.Test.YthmkpaoolhcibaaDoorOz
namespace Go.Proofs.YthmkpaoolhcibaaDoor
open Go Go.Fw Go.RowKit
set_option maxRecDepth 100000
set_option maxHeartbeats 1600000
set_option linter.unusedVariables false
set_option linter.unusedSimpArgs false
set_option linter.unnecessarySimpa false
theorem plain_fc {G : GH} (c : UInt8) :
    Fc Tryd.prog 38 [.int .u8 ((c.toNat : Nat) : Int)] G [] (fun v _ _ => v = .bool (plainB c)) := by
 refine Fc.intro (rs := [.tmp 2]) cl38 Tryd.func38 rfl Tryd.ntmps38 rfl rfl (fun w0 => ?_)
 refine WC.seq ?_
 refine WC.region ?_
 refine W.as ?_
 refine W.nil (thn_n ?_)
 refine WC.seq ?_
 refine WC.region ?_
 refine W.mv ?_
 refine W.ok (ok_geq rfl rfl) ?_
 refine W.mv ?_
 refine W.sp 5 rfl (fun h4 => ?_) (fun h4 => ?_)
 ·have p4 := of_decide_eq_true h4
  refine W.yes (dj := 5) rfl rfl h4 ?_
  refine W.mv ?_
  refine W.yes (dj := 5) rfl rfl h4 ?_
  refine W.ok (ok_leq rfl rfl) ?_
  refine W.ok (ok_pick_t rfl h4) ?_
  refine W.mv ?_
  refine W.sp 9 rfl (fun h7 => ?_) (fun h7 => ?_)
  ·have p7 := of_decide_eq_true h7
   refine W.no (dj := 9) rfl rfl h7 ?_
   refine W.no (dj := 9) rfl rfl h7 ?_
   refine W.no (dj := 9) rfl rfl h7 ?_
   refine W.nou (dj := 12) rfl rfl ?_
   refine W.nou (dj := 12) rfl rfl ?_
   refine W.no (dj := 9) rfl rfl h7 ?_
   refine W.ok (ok_pick_t rfl h7) ?_
   refine W.mv ?_
   refine W.no (dj := 17) rfl rfl rfl ?_
   refine W.no (dj := 17) rfl rfl rfl ?_
   refine W.no (dj := 17) rfl rfl rfl ?_
   refine W.nou (dj := 20) rfl rfl ?_
   refine W.nou (dj := 20) rfl rfl ?_
   refine W.no (dj := 17) rfl rfl rfl ?_
   refine W.ok (ok_pick_t rfl rfl) ?_
   refine W.mv ?_
   refine W.no (dj := 25) rfl rfl rfl ?_
   refine W.no (dj := 25) rfl rfl rfl ?_
   refine W.ok (ok_pick_t rfl rfl) ?_
   refine W.as ?_
   refine W.nil (thn_n ?_)
   refine WC.ret ?_
   refine ⟨.inr rfl, [_], ⟨rfl, trivial⟩, [], List.nil_sublist _, ?_⟩
   refine congrArg Value.bool ?_
   first | rfl | (rw [Bool.eq_iff_iff]; simp [plainB]; omega)
  ·have p7 := of_decide_eq_false h7
   refine W.yes (dj := 9) rfl rfl h7 ?_
   refine W.mv ?_
   refine W.yes (dj := 9) rfl rfl h7 ?_
   refine W.ok (ok_geq rfl rfl) ?_
   refine W.yes (dj := 9) rfl rfl h7 ?_
   refine W.mv ?_
   refine W.sp 12 rfl (fun h11 => ?_) (fun h11 => ?_)
   ·have p11 := of_decide_eq_true h11
    refine W.yes (dj := 12) rfl rfl h11 ?_
    refine W.mv ?_
    refine W.yes (dj := 12) rfl rfl h11 ?_
    refine W.ok (ok_leq rfl rfl) ?_
    refine W.yes (dj := 9) rfl rfl h7 ?_
    refine W.ok (ok_pick_t rfl h11) ?_
    refine W.ok (ok_pick_f rfl h7) ?_
    refine W.mv ?_
    refine W.sp 17 rfl (fun h14 => ?_) (fun h14 => ?_)
    ·have p14 := of_decide_eq_true h14
     refine W.no (dj := 17) rfl rfl h14 ?_
     refine W.no (dj := 17) rfl rfl h14 ?_
     refine W.no (dj := 17) rfl rfl h14 ?_
     refine W.nou (dj := 20) rfl rfl ?_
     refine W.nou (dj := 20) rfl rfl ?_
     refine W.no (dj := 17) rfl rfl h14 ?_
     refine W.ok (ok_pick_t rfl h14) ?_
     refine W.mv ?_
     refine W.no (dj := 25) rfl rfl rfl ?_
     refine W.no (dj := 25) rfl rfl rfl ?_
     refine W.ok (ok_pick_t rfl rfl) ?_
     refine W.as ?_
     refine W.nil (thn_n ?_)
     refine WC.ret ?_
     refine ⟨.inr rfl, [_], ⟨rfl, trivial⟩, [], List.nil_sublist _, ?_⟩
     refine congrArg Value.bool ?_
     first | rfl | (rw [Bool.eq_iff_iff]; simp [plainB]; omega)
    ·have p14 := of_decide_eq_false h14
     refine W.yes (dj := 17) rfl rfl h14 ?_
     refine W.mv ?_
     refine W.yes (dj := 17) rfl rfl h14 ?_
     refine W.ok (ok_geq rfl rfl) ?_
     refine W.yes (dj := 17) rfl rfl h14 ?_
     refine W.mv ?_
     refine W.sp 20 rfl (fun h19 => ?_) (fun h19 => ?_)
     ·have p19 := of_decide_eq_true h19
      refine W.yes (dj := 20) rfl rfl h19 ?_
      refine W.mv ?_
      refine W.yes (dj := 20) rfl rfl h19 ?_
      refine W.ok (ok_leq rfl rfl) ?_
      refine W.yes (dj := 17) rfl rfl h14 ?_
      refine W.ok (ok_pick_t rfl h19) ?_
      refine W.ok (ok_pick_f rfl h14) ?_
      refine W.mv ?_
      refine W.sp 25 rfl (fun h22 => ?_) (fun h22 => ?_)
      ·have p22 := of_decide_eq_true h22
       refine W.no (dj := 25) rfl rfl h22 ?_
       refine W.no (dj := 25) rfl rfl h22 ?_
       refine W.ok (ok_pick_t rfl h22) ?_
       refine W.as ?_
       refine W.nil (thn_n ?_)
       refine WC.ret ?_
       refine ⟨.inr rfl, [_], ⟨rfl, trivial⟩, [], List.nil_sublist _, ?_⟩
       refine congrArg Value.bool ?_
       first | rfl | (rw [Bool.eq_iff_iff]; simp [plainB]; omega)
      ·have p22 := of_decide_eq_false h22
       refine W.yes (dj := 25) rfl rfl h22 ?_
       refine W.mv ?_
       refine W.yes (dj := 25) rfl rfl h22 ?_
       refine W.ok (ok_eql rfl rfl) ?_
       refine W.ok (ok_pick_f rfl h22) ?_
       refine W.as ?_
       refine W.nil (thn_n ?_)
       refine WC.ret ?_
       refine ⟨.inr rfl, [_], ⟨rfl, trivial⟩, [], List.nil_sublist _, ?_⟩
       refine congrArg Value.bool ?_
       first | rfl | (rw [Bool.eq_iff_iff]; simp [plainB]; omega)
     ·have p19 := of_decide_eq_false h19
      refine W.no (dj := 20) rfl rfl h19 ?_
      refine W.no (dj := 20) rfl rfl h19 ?_
      refine W.yes (dj := 17) rfl rfl h14 ?_
      refine W.ok (ok_pick_f rfl h19) ?_
      refine W.ok (ok_pick_f rfl h14) ?_
      refine W.mv ?_
      refine W.yes (dj := 25) rfl rfl rfl ?_
      refine W.mv ?_
      refine W.yes (dj := 25) rfl rfl rfl ?_
      refine W.ok (ok_eql rfl rfl) ?_
      refine W.ok (ok_pick_f rfl rfl) ?_
      refine W.as ?_
      refine W.nil (thn_n ?_)
      refine WC.ret ?_
      refine ⟨.inr rfl, [_], ⟨rfl, trivial⟩, [], List.nil_sublist _, ?_⟩
      refine congrArg Value.bool ?_
      first | rfl | (rw [Bool.eq_iff_iff]; simp [plainB]; omega)
   ·have p11 := of_decide_eq_false h11
    refine W.no (dj := 12) rfl rfl h11 ?_
    refine W.no (dj := 12) rfl rfl h11 ?_
    refine W.yes (dj := 9) rfl rfl h7 ?_
    refine W.ok (ok_pick_f rfl h11) ?_
    refine W.ok (ok_pick_f rfl h7) ?_
    refine W.mv ?_
    refine W.yes (dj := 17) rfl rfl rfl ?_
    refine W.mv ?_
    refine W.yes (dj := 17) rfl rfl rfl ?_
    refine W.ok (ok_geq rfl rfl) ?_
    refine W.yes (dj := 17) rfl rfl rfl ?_
    refine W.mv ?_
    refine W.sp 20 rfl (fun h19 => ?_) (fun h19 => ?_)
    ·have p19 := of_decide_eq_true h19
     refine W.yes (dj := 20) rfl rfl h19 ?_
     refine W.mv ?_
     refine W.yes (dj := 20) rfl rfl h19 ?_
     refine W.ok (ok_leq rfl rfl) ?_
     refine W.yes (dj := 17) rfl rfl rfl ?_
     refine W.ok (ok_pick_t rfl h19) ?_
     refine W.ok (ok_pick_f rfl rfl) ?_
     refine W.mv ?_
     refine W.sp 25 rfl (fun h22 => ?_) (fun h22 => ?_)
     ·have p22 := of_decide_eq_true h22
      refine W.no (dj := 25) rfl rfl h22 ?_
      refine W.no (dj := 25) rfl rfl h22 ?_
      refine W.ok (ok_pick_t rfl h22) ?_
      refine W.as ?_
      refine W.nil (thn_n ?_)
      refine WC.ret ?_
      refine ⟨.inr rfl, [_], ⟨rfl, trivial⟩, [], List.nil_sublist _, ?_⟩
      refine congrArg Value.bool ?_
      first | rfl | (rw [Bool.eq_iff_iff]; simp [plainB]; omega)
     ·have p22 := of_decide_eq_false h22
      refine W.yes (dj := 25) rfl rfl h22 ?_
      refine W.mv ?_
      refine W.yes (dj := 25) rfl rfl h22 ?_
      refine W.ok (ok_eql rfl rfl) ?_
      refine W.ok (ok_pick_f rfl h22) ?_
      refine W.as ?_
      refine W.nil (thn_n ?_)
      refine WC.ret ?_
      refine ⟨.inr rfl, [_], ⟨rfl, trivial⟩, [], List.nil_sublist _, ?_⟩
      refine congrArg Value.bool ?_
      first | rfl | (rw [Bool.eq_iff_iff]; simp [plainB]; omega)
    ·have p19 := of_decide_eq_false h19
     refine W.no (dj := 20) rfl rfl h19 ?_
     refine W.no (dj := 20) rfl rfl h19 ?_
     refine W.yes (dj := 17) rfl rfl rfl ?_
     refine W.ok (ok_pick_f rfl h19) ?_
     refine W.ok (ok_pick_f rfl rfl) ?_
     refine W.mv ?_
     refine W.yes (dj := 25) rfl rfl rfl ?_
     refine W.mv ?_
     refine W.yes (dj := 25) rfl rfl rfl ?_
     refine W.ok (ok_eql rfl rfl) ?_
     refine W.ok (ok_pick_f rfl rfl) ?_
     refine W.as ?_
     refine W.nil (thn_n ?_)
     refine WC.ret ?_
     refine ⟨.inr rfl, [_], ⟨rfl, trivial⟩, [], List.nil_sublist _, ?_⟩
     refine congrArg Value.bool ?_
     first | rfl | (rw [Bool.eq_iff_iff]; simp [plainB]; omega)
 ·have p4 := of_decide_eq_false h4
  refine W.no (dj := 5) rfl rfl h4 ?_
  refine W.no (dj := 5) rfl rfl h4 ?_
  refine W.ok (ok_pick_f rfl h4) ?_
  refine W.mv ?_
  refine W.yes (dj := 9) rfl rfl rfl ?_
  refine W.mv ?_
  refine W.yes (dj := 9) rfl rfl rfl ?_
  refine W.ok (ok_geq rfl rfl) ?_
  refine W.yes (dj := 9) rfl rfl rfl ?_
  refine W.mv ?_
  refine W.sp 12 rfl (fun h11 => ?_) (fun h11 => ?_)
  ·have p11 := of_decide_eq_true h11
   refine W.yes (dj := 12) rfl rfl h11 ?_
   refine W.mv ?_
   refine W.yes (dj := 12) rfl rfl h11 ?_
   refine W.ok (ok_leq rfl rfl) ?_
   refine W.yes (dj := 9) rfl rfl rfl ?_
   refine W.ok (ok_pick_t rfl h11) ?_
   refine W.ok (ok_pick_f rfl rfl) ?_
   refine W.mv ?_
   refine W.sp 17 rfl (fun h14 => ?_) (fun h14 => ?_)
   ·have p14 := of_decide_eq_true h14
    refine W.no (dj := 17) rfl rfl h14 ?_
    refine W.no (dj := 17) rfl rfl h14 ?_
    refine W.no (dj := 17) rfl rfl h14 ?_
    refine W.nou (dj := 20) rfl rfl ?_
    refine W.nou (dj := 20) rfl rfl ?_
    refine W.no (dj := 17) rfl rfl h14 ?_
    refine W.ok (ok_pick_t rfl h14) ?_
    refine W.mv ?_
    refine W.no (dj := 25) rfl rfl rfl ?_
    refine W.no (dj := 25) rfl rfl rfl ?_
    refine W.ok (ok_pick_t rfl rfl) ?_
    refine W.as ?_
    refine W.nil (thn_n ?_)
    refine WC.ret ?_
    refine ⟨.inr rfl, [_], ⟨rfl, trivial⟩, [], List.nil_sublist _, ?_⟩
    refine congrArg Value.bool ?_
    first | rfl | (rw [Bool.eq_iff_iff]; simp [plainB]; omega)
   ·have p14 := of_decide_eq_false h14
    refine W.yes (dj := 17) rfl rfl h14 ?_
    refine W.mv ?_
    refine W.yes (dj := 17) rfl rfl h14 ?_
    refine W.ok (ok_geq rfl rfl) ?_
    refine W.yes (dj := 17) rfl rfl h14 ?_
    refine W.mv ?_
    refine W.sp 20 rfl (fun h19 => ?_) (fun h19 => ?_)
    ·have p19 := of_decide_eq_true h19
     refine W.yes (dj := 20) rfl rfl h19 ?_
     refine W.mv ?_
     refine W.yes (dj := 20) rfl rfl h19 ?_
     refine W.ok (ok_leq rfl rfl) ?_
     refine W.yes (dj := 17) rfl rfl h14 ?_
     refine W.ok (ok_pick_t rfl h19) ?_
     refine W.ok (ok_pick_f rfl h14) ?_
     refine W.mv ?_
     refine W.sp 25 rfl (fun h22 => ?_) (fun h22 => ?_)
     ·have p22 := of_decide_eq_true h22
      refine W.no (dj := 25) rfl rfl h22 ?_
      refine W.no (dj := 25) rfl rfl h22 ?_
      refine W.ok (ok_pick_t rfl h22) ?_
      refine W.as ?_
      refine W.nil (thn_n ?_)
      refine WC.ret ?_
      refine ⟨.inr rfl, [_], ⟨rfl, trivial⟩, [], List.nil_sublist _, ?_⟩
      refine congrArg Value.bool ?_
      first | rfl | (rw [Bool.eq_iff_iff]; simp [plainB]; omega)
     ·have p22 := of_decide_eq_false h22
      refine W.yes (dj := 25) rfl rfl h22 ?_
      refine W.mv ?_
      refine W.yes (dj := 25) rfl rfl h22 ?_
      refine W.ok (ok_eql rfl rfl) ?_
      refine W.ok (ok_pick_f rfl h22) ?_
      refine W.as ?_
      refine W.nil (thn_n ?_)
      refine WC.ret ?_
      refine ⟨.inr rfl, [_], ⟨rfl, trivial⟩, [], List.nil_sublist _, ?_⟩
      refine congrArg Value.bool ?_
      first | rfl | (rw [Bool.eq_iff_iff]; simp [plainB]; omega)
    ·have p19 := of_decide_eq_false h19
     refine W.no (dj := 20) rfl rfl h19 ?_
     refine W.no (dj := 20) rfl rfl h19 ?_
     refine W.yes (dj := 17) rfl rfl h14 ?_
     refine W.ok (ok_pick_f rfl h19) ?_
     refine W.ok (ok_pick_f rfl h14) ?_
     refine W.mv ?_
     refine W.yes (dj := 25) rfl rfl rfl ?_
     refine W.mv ?_
     refine W.yes (dj := 25) rfl rfl rfl ?_
     refine W.ok (ok_eql rfl rfl) ?_
     refine W.ok (ok_pick_f rfl rfl) ?_
     refine W.as ?_
     refine W.nil (thn_n ?_)
     refine WC.ret ?_
     refine ⟨.inr rfl, [_], ⟨rfl, trivial⟩, [], List.nil_sublist _, ?_⟩
     refine congrArg Value.bool ?_
     first | rfl | (rw [Bool.eq_iff_iff]; simp [plainB]; omega)
  ·have p11 := of_decide_eq_false h11
   refine W.no (dj := 12) rfl rfl h11 ?_
   refine W.no (dj := 12) rfl rfl h11 ?_
   refine W.yes (dj := 9) rfl rfl rfl ?_
   refine W.ok (ok_pick_f rfl h11) ?_
   refine W.ok (ok_pick_f rfl rfl) ?_
   refine W.mv ?_
   refine W.yes (dj := 17) rfl rfl rfl ?_
   refine W.mv ?_
   refine W.yes (dj := 17) rfl rfl rfl ?_
   refine W.ok (ok_geq rfl rfl) ?_
   refine W.yes (dj := 17) rfl rfl rfl ?_
   refine W.mv ?_
   refine W.sp 20 rfl (fun h19 => ?_) (fun h19 => ?_)
   ·have p19 := of_decide_eq_true h19
    refine W.yes (dj := 20) rfl rfl h19 ?_
    refine W.mv ?_
    refine W.yes (dj := 20) rfl rfl h19 ?_
    refine W.ok (ok_leq rfl rfl) ?_
    refine W.yes (dj := 17) rfl rfl rfl ?_
    refine W.ok (ok_pick_t rfl h19) ?_
    refine W.ok (ok_pick_f rfl rfl) ?_
    refine W.mv ?_
    refine W.sp 25 rfl (fun h22 => ?_) (fun h22 => ?_)
    ·have p22 := of_decide_eq_true h22
     refine W.no (dj := 25) rfl rfl h22 ?_
     refine W.no (dj := 25) rfl rfl h22 ?_
     refine W.ok (ok_pick_t rfl h22) ?_
     refine W.as ?_
     refine W.nil (thn_n ?_)
     refine WC.ret ?_
     refine ⟨.inr rfl, [_], ⟨rfl, trivial⟩, [], List.nil_sublist _, ?_⟩
     refine congrArg Value.bool ?_
     first | rfl | (rw [Bool.eq_iff_iff]; simp [plainB]; omega)
    ·have p22 := of_decide_eq_false h22
     refine W.yes (dj := 25) rfl rfl h22 ?_
     refine W.mv ?_
     refine W.yes (dj := 25) rfl rfl h22 ?_
     refine W.ok (ok_eql rfl rfl) ?_
     refine W.ok (ok_pick_f rfl h22) ?_
     refine W.as ?_
     refine W.nil (thn_n ?_)
     refine WC.ret ?_
     refine ⟨.inr rfl, [_], ⟨rfl, trivial⟩, [], List.nil_sublist _, ?_⟩
     refine congrArg Value.bool ?_
     first | rfl | (rw [Bool.eq_iff_iff]; simp [plainB]; omega)
   ·have p19 := of_decide_eq_false h19
    refine W.no (dj := 20) rfl rfl h19 ?_
    refine W.no (dj := 20) rfl rfl h19 ?_
    refine W.yes (dj := 17) rfl rfl rfl ?_
    refine W.ok (ok_pick_f rfl h19) ?_
    refine W.ok (ok_pick_f rfl rfl) ?_
    refine W.mv ?_
    refine W.yes (dj := 25) rfl rfl rfl ?_
    refine W.mv ?_
    refine W.yes (dj := 25) rfl rfl rfl ?_
    refine W.ok (ok_eql rfl rfl) ?_
    refine W.ok (ok_pick_f rfl rfl) ?_
    refine W.as ?_
    refine W.nil (thn_n ?_)
    refine WC.ret ?_
    refine ⟨.inr rfl, [_], ⟨rfl, trivial⟩, [], List.nil_sublist _, ?_⟩
    refine congrArg Value.bool ?_
    first | rfl | (rw [Bool.eq_iff_iff]; simp [plainB]; omega)

theorem own6_fc {G : GH} (c : UInt8) :
    Fc Tryd.prog 42 [.int .u8 ((c.toNat : Nat) : Int)] G [] (fun v _ _ => v = .bool (plainB c)) := by
 refine Fc.intro (rs := [.tmp 2]) cl42 Tryd.func42 rfl Tryd.ntmps42 rfl rfl (fun w0 => ?_)
 refine WC.seq ?_
 refine WC.region ?_
 refine W.as ?_
 refine W.nil (thn_n ?_)
 refine WC.seq ?_
 refine WC.region ?_
 refine W.mv ?_
 refine W.ok (ok_leq rfl rfl) ?_
 refine W.mv ?_
 refine W.sp 5 rfl (fun h4 => ?_) (fun h4 => ?_)
 ·have p4 := of_decide_eq_true h4
  refine W.yes (dj := 5) rfl rfl h4 ?_
  refine W.mv ?_
  refine W.yes (dj := 5) rfl rfl h4 ?_
  refine W.ok (ok_leq rfl rfl) ?_
  refine W.ok (ok_pick_t rfl h4) ?_
  refine W.mv ?_
  refine W.sp 9 rfl (fun h7 => ?_) (fun h7 => ?_)
  ·have p7 := of_decide_eq_true h7
   refine W.no (dj := 9) rfl rfl h7 ?_
   refine W.no (dj := 9) rfl rfl h7 ?_
   refine W.no (dj := 9) rfl rfl h7 ?_
   refine W.nou (dj := 12) rfl rfl ?_
   refine W.nou (dj := 12) rfl rfl ?_
   refine W.no (dj := 9) rfl rfl h7 ?_
   refine W.ok (ok_pick_t rfl h7) ?_
   refine W.mv ?_
   refine W.no (dj := 17) rfl rfl rfl ?_
   refine W.no (dj := 17) rfl rfl rfl ?_
   refine W.no (dj := 17) rfl rfl rfl ?_
   refine W.nou (dj := 20) rfl rfl ?_
   refine W.nou (dj := 20) rfl rfl ?_
   refine W.no (dj := 17) rfl rfl rfl ?_
   refine W.ok (ok_pick_t rfl rfl) ?_
   refine W.mv ?_
   refine W.no (dj := 25) rfl rfl rfl ?_
   refine W.no (dj := 25) rfl rfl rfl ?_
   refine W.ok (ok_pick_t rfl rfl) ?_
   refine W.as ?_
   refine W.nil (thn_n ?_)
   refine WC.ret ?_
   refine ⟨.inr rfl, [_], ⟨rfl, trivial⟩, [], List.nil_sublist _, ?_⟩
   refine congrArg Value.bool ?_
   first | rfl | (rw [Bool.eq_iff_iff]; simp [plainB]; omega)
  ·have p7 := of_decide_eq_false h7
   refine W.yes (dj := 9) rfl rfl h7 ?_
   refine W.mv ?_
   refine W.yes (dj := 9) rfl rfl h7 ?_
   refine W.ok (ok_leq rfl rfl) ?_
   refine W.yes (dj := 9) rfl rfl h7 ?_
   refine W.mv ?_
   refine W.sp 12 rfl (fun h11 => ?_) (fun h11 => ?_)
   ·have p11 := of_decide_eq_true h11
    refine W.yes (dj := 12) rfl rfl h11 ?_
    refine W.mv ?_
    refine W.yes (dj := 12) rfl rfl h11 ?_
    refine W.ok (ok_leq rfl rfl) ?_
    refine W.yes (dj := 9) rfl rfl h7 ?_
    refine W.ok (ok_pick_t rfl h11) ?_
    refine W.ok (ok_pick_f rfl h7) ?_
    refine W.mv ?_
    refine W.sp 17 rfl (fun h14 => ?_) (fun h14 => ?_)
    ·have p14 := of_decide_eq_true h14
     refine W.no (dj := 17) rfl rfl h14 ?_
     refine W.no (dj := 17) rfl rfl h14 ?_
     refine W.no (dj := 17) rfl rfl h14 ?_
     refine W.nou (dj := 20) rfl rfl ?_
     refine W.nou (dj := 20) rfl rfl ?_
     refine W.no (dj := 17) rfl rfl h14 ?_
     refine W.ok (ok_pick_t rfl h14) ?_
     refine W.mv ?_
     refine W.no (dj := 25) rfl rfl rfl ?_
     refine W.no (dj := 25) rfl rfl rfl ?_
     refine W.ok (ok_pick_t rfl rfl) ?_
     refine W.as ?_
     refine W.nil (thn_n ?_)
     refine WC.ret ?_
     refine ⟨.inr rfl, [_], ⟨rfl, trivial⟩, [], List.nil_sublist _, ?_⟩
     refine congrArg Value.bool ?_
     first | rfl | (rw [Bool.eq_iff_iff]; simp [plainB]; omega)
    ·have p14 := of_decide_eq_false h14
     refine W.yes (dj := 17) rfl rfl h14 ?_
     refine W.mv ?_
     refine W.yes (dj := 17) rfl rfl h14 ?_
     refine W.ok (ok_leq rfl rfl) ?_
     refine W.yes (dj := 17) rfl rfl h14 ?_
     refine W.mv ?_
     refine W.sp 20 rfl (fun h19 => ?_) (fun h19 => ?_)
     ·have p19 := of_decide_eq_true h19
      refine W.yes (dj := 20) rfl rfl h19 ?_
      refine W.mv ?_
      refine W.yes (dj := 20) rfl rfl h19 ?_
      refine W.ok (ok_leq rfl rfl) ?_
      refine W.yes (dj := 17) rfl rfl h14 ?_
      refine W.ok (ok_pick_t rfl h19) ?_
      refine W.ok (ok_pick_f rfl h14) ?_
      refine W.mv ?_
      refine W.sp 25 rfl (fun h22 => ?_) (fun h22 => ?_)
      ·have p22 := of_decide_eq_true h22
       refine W.no (dj := 25) rfl rfl h22 ?_
       refine W.no (dj := 25) rfl rfl h22 ?_
       refine W.ok (ok_pick_t rfl h22) ?_
       refine W.as ?_
       refine W.nil (thn_n ?_)
       refine WC.ret ?_
       refine ⟨.inr rfl, [_], ⟨rfl, trivial⟩, [], List.nil_sublist _, ?_⟩
       refine congrArg Value.bool ?_
       first | rfl | (rw [Bool.eq_iff_iff]; simp [plainB]; omega)
      ·have p22 := of_decide_eq_false h22
       refine W.yes (dj := 25) rfl rfl h22 ?_
       refine W.mv ?_
       refine W.yes (dj := 25) rfl rfl h22 ?_
       refine W.ok (ok_eql rfl rfl) ?_
       refine W.ok (ok_pick_f rfl h22) ?_
       refine W.as ?_
       refine W.nil (thn_n ?_)
       refine WC.ret ?_
       refine ⟨.inr rfl, [_], ⟨rfl, trivial⟩, [], List.nil_sublist _, ?_⟩
       refine congrArg Value.bool ?_
       first | rfl | (rw [Bool.eq_iff_iff]; simp [plainB]; omega)
     ·have p19 := of_decide_eq_false h19
      refine W.no (dj := 20) rfl rfl h19 ?_
      refine W.no (dj := 20) rfl rfl h19 ?_
      refine W.yes (dj := 17) rfl rfl h14 ?_
      refine W.ok (ok_pick_f rfl h19) ?_
      refine W.ok (ok_pick_f rfl h14) ?_
      refine W.mv ?_
      refine W.yes (dj := 25) rfl rfl rfl ?_
      refine W.mv ?_
      refine W.yes (dj := 25) rfl rfl rfl ?_
      refine W.ok (ok_eql rfl rfl) ?_
      refine W.ok (ok_pick_f rfl rfl) ?_
      refine W.as ?_
      refine W.nil (thn_n ?_)
      refine WC.ret ?_
      refine ⟨.inr rfl, [_], ⟨rfl, trivial⟩, [], List.nil_sublist _, ?_⟩
      refine congrArg Value.bool ?_
      first | rfl | (rw [Bool.eq_iff_iff]; simp [plainB]; omega)
   ·have p11 := of_decide_eq_false h11
    refine W.no (dj := 12) rfl rfl h11 ?_
    refine W.no (dj := 12) rfl rfl h11 ?_
    refine W.yes (dj := 9) rfl rfl h7 ?_
    refine W.ok (ok_pick_f rfl h11) ?_
    refine W.ok (ok_pick_f rfl h7) ?_
    refine W.mv ?_
    refine W.yes (dj := 17) rfl rfl rfl ?_
    refine W.mv ?_
    refine W.yes (dj := 17) rfl rfl rfl ?_
    refine W.ok (ok_leq rfl rfl) ?_
    refine W.yes (dj := 17) rfl rfl rfl ?_
    refine W.mv ?_
    refine W.sp 20 rfl (fun h19 => ?_) (fun h19 => ?_)
    ·have p19 := of_decide_eq_true h19
     refine W.yes (dj := 20) rfl rfl h19 ?_
     refine W.mv ?_
     refine W.yes (dj := 20) rfl rfl h19 ?_
     refine W.ok (ok_leq rfl rfl) ?_
     refine W.yes (dj := 17) rfl rfl rfl ?_
     refine W.ok (ok_pick_t rfl h19) ?_
     refine W.ok (ok_pick_f rfl rfl) ?_
     refine W.mv ?_
     refine W.sp 25 rfl (fun h22 => ?_) (fun h22 => ?_)
     ·have p22 := of_decide_eq_true h22
      refine W.no (dj := 25) rfl rfl h22 ?_
      refine W.no (dj := 25) rfl rfl h22 ?_
      refine W.ok (ok_pick_t rfl h22) ?_
      refine W.as ?_
      refine W.nil (thn_n ?_)
      refine WC.ret ?_
      refine ⟨.inr rfl, [_], ⟨rfl, trivial⟩, [], List.nil_sublist _, ?_⟩
      refine congrArg Value.bool ?_
      first | rfl | (rw [Bool.eq_iff_iff]; simp [plainB]; omega)
     ·have p22 := of_decide_eq_false h22
      refine W.yes (dj := 25) rfl rfl h22 ?_
      refine W.mv ?_
      refine W.yes (dj := 25) rfl rfl h22 ?_
      refine W.ok (ok_eql rfl rfl) ?_
      refine W.ok (ok_pick_f rfl h22) ?_
      refine W.as ?_
      refine W.nil (thn_n ?_)
      refine WC.ret ?_
      refine ⟨.inr rfl, [_], ⟨rfl, trivial⟩, [], List.nil_sublist _, ?_⟩
      refine congrArg Value.bool ?_
      first | rfl | (rw [Bool.eq_iff_iff]; simp [plainB]; omega)
    ·have p19 := of_decide_eq_false h19
     refine W.no (dj := 20) rfl rfl h19 ?_
     refine W.no (dj := 20) rfl rfl h19 ?_
     refine W.yes (dj := 17) rfl rfl rfl ?_
     refine W.ok (ok_pick_f rfl h19) ?_
     refine W.ok (ok_pick_f rfl rfl) ?_
     refine W.mv ?_
     refine W.yes (dj := 25) rfl rfl rfl ?_
     refine W.mv ?_
     refine W.yes (dj := 25) rfl rfl rfl ?_
     refine W.ok (ok_eql rfl rfl) ?_
     refine W.ok (ok_pick_f rfl rfl) ?_
     refine W.as ?_
     refine W.nil (thn_n ?_)
     refine WC.ret ?_
     refine ⟨.inr rfl, [_], ⟨rfl, trivial⟩, [], List.nil_sublist _, ?_⟩
     refine congrArg Value.bool ?_
     first | rfl | (rw [Bool.eq_iff_iff]; simp [plainB]; omega)
 ·have p4 := of_decide_eq_false h4
  refine W.no (dj := 5) rfl rfl h4 ?_
  refine W.no (dj := 5) rfl rfl h4 ?_
  refine W.ok (ok_pick_f rfl h4) ?_
  refine W.mv ?_
  refine W.yes (dj := 9) rfl rfl rfl ?_
  refine W.mv ?_
  refine W.yes (dj := 9) rfl rfl rfl ?_
  refine W.ok (ok_leq rfl rfl) ?_
  refine W.yes (dj := 9) rfl rfl rfl ?_
  refine W.mv ?_
  refine W.sp 12 rfl (fun h11 => ?_) (fun h11 => ?_)
  ·have p11 := of_decide_eq_true h11
   refine W.yes (dj := 12) rfl rfl h11 ?_
   refine W.mv ?_
   refine W.yes (dj := 12) rfl rfl h11 ?_
   refine W.ok (ok_leq rfl rfl) ?_
   refine W.yes (dj := 9) rfl rfl rfl ?_
   refine W.ok (ok_pick_t rfl h11) ?_
   refine W.ok (ok_pick_f rfl rfl) ?_
   refine W.mv ?_
   refine W.sp 17 rfl (fun h14 => ?_) (fun h14 => ?_)
   ·have p14 := of_decide_eq_true h14
    refine W.no (dj := 17) rfl rfl h14 ?_
    refine W.no (dj := 17) rfl rfl h14 ?_
    refine W.no (dj := 17) rfl rfl h14 ?_
    refine W.nou (dj := 20) rfl rfl ?_
    refine W.nou (dj := 20) rfl rfl ?_
    refine W.no (dj := 17) rfl rfl h14 ?_
    refine W.ok (ok_pick_t rfl h14) ?_
    refine W.mv ?_
    refine W.no (dj := 25) rfl rfl rfl ?_
    refine W.no (dj := 25) rfl rfl rfl ?_
    refine W.ok (ok_pick_t rfl rfl) ?_
    refine W.as ?_
    refine W.nil (thn_n ?_)
    refine WC.ret ?_
    refine ⟨.inr rfl, [_], ⟨rfl, trivial⟩, [], List.nil_sublist _, ?_⟩
    refine congrArg Value.bool ?_
    first | rfl | (rw [Bool.eq_iff_iff]; simp [plainB]; omega)
   ·have p14 := of_decide_eq_false h14
    refine W.yes (dj := 17) rfl rfl h14 ?_
    refine W.mv ?_
    refine W.yes (dj := 17) rfl rfl h14 ?_
    refine W.ok (ok_leq rfl rfl) ?_
    refine W.yes (dj := 17) rfl rfl h14 ?_
    refine W.mv ?_
    refine W.sp 20 rfl (fun h19 => ?_) (fun h19 => ?_)
    ·have p19 := of_decide_eq_true h19
     refine W.yes (dj := 20) rfl rfl h19 ?_
     refine W.mv ?_
     refine W.yes (dj := 20) rfl rfl h19 ?_
     refine W.ok (ok_leq rfl rfl) ?_
     refine W.yes (dj := 17) rfl rfl h14 ?_
     refine W.ok (ok_pick_t rfl h19) ?_
     refine W.ok (ok_pick_f rfl h14) ?_
     refine W.mv ?_
     refine W.sp 25 rfl (fun h22 => ?_) (fun h22 => ?_)
     ·have p22 := of_decide_eq_true h22
      refine W.no (dj := 25) rfl rfl h22 ?_
      refine W.no (dj := 25) rfl rfl h22 ?_
      refine W.ok (ok_pick_t rfl h22) ?_
      refine W.as ?_
      refine W.nil (thn_n ?_)
      refine WC.ret ?_
      refine ⟨.inr rfl, [_], ⟨rfl, trivial⟩, [], List.nil_sublist _, ?_⟩
      refine congrArg Value.bool ?_
      first | rfl | (rw [Bool.eq_iff_iff]; simp [plainB]; omega)
     ·have p22 := of_decide_eq_false h22
      refine W.yes (dj := 25) rfl rfl h22 ?_
      refine W.mv ?_
      refine W.yes (dj := 25) rfl rfl h22 ?_
      refine W.ok (ok_eql rfl rfl) ?_
      refine W.ok (ok_pick_f rfl h22) ?_
      refine W.as ?_
      refine W.nil (thn_n ?_)
      refine WC.ret ?_
      refine ⟨.inr rfl, [_], ⟨rfl, trivial⟩, [], List.nil_sublist _, ?_⟩
      refine congrArg Value.bool ?_
      first | rfl | (rw [Bool.eq_iff_iff]; simp [plainB]; omega)
    ·have p19 := of_decide_eq_false h19
     refine W.no (dj := 20) rfl rfl h19 ?_
     refine W.no (dj := 20) rfl rfl h19 ?_
     refine W.yes (dj := 17) rfl rfl h14 ?_
     refine W.ok (ok_pick_f rfl h19) ?_
     refine W.ok (ok_pick_f rfl h14) ?_
     refine W.mv ?_
     refine W.yes (dj := 25) rfl rfl rfl ?_
     refine W.mv ?_
     refine W.yes (dj := 25) rfl rfl rfl ?_
     refine W.ok (ok_eql rfl rfl) ?_
     refine W.ok (ok_pick_f rfl rfl) ?_
     refine W.as ?_
     refine W.nil (thn_n ?_)
     refine WC.ret ?_
     refine ⟨.inr rfl, [_], ⟨rfl, trivial⟩, [], List.nil_sublist _, ?_⟩
     refine congrArg Value.bool ?_
     first | rfl | (rw [Bool.eq_iff_iff]; simp [plainB]; omega)
  ·have p11 := of_decide_eq_false h11
   refine W.no (dj := 12) rfl rfl h11 ?_
   refine W.no (dj := 12) rfl rfl h11 ?_
   refine W.yes (dj := 9) rfl rfl rfl ?_
   refine W.ok (ok_pick_f rfl h11) ?_
   refine W.ok (ok_pick_f rfl rfl) ?_
   refine W.mv ?_
   refine W.yes (dj := 17) rfl rfl rfl ?_
   refine W.mv ?_
   refine W.yes (dj := 17) rfl rfl rfl ?_
   refine W.ok (ok_leq rfl rfl) ?_
   refine W.yes (dj := 17) rfl rfl rfl ?_
   refine W.mv ?_
   refine W.sp 20 rfl (fun h19 => ?_) (fun h19 => ?_)
   ·have p19 := of_decide_eq_true h19
    refine W.yes (dj := 20) rfl rfl h19 ?_
    refine W.mv ?_
    refine W.yes (dj := 20) rfl rfl h19 ?_
    refine W.ok (ok_leq rfl rfl) ?_
    refine W.yes (dj := 17) rfl rfl rfl ?_
    refine W.ok (ok_pick_t rfl h19) ?_
    refine W.ok (ok_pick_f rfl rfl) ?_
    refine W.mv ?_
    refine W.sp 25 rfl (fun h22 => ?_) (fun h22 => ?_)
    ·have p22 := of_decide_eq_true h22
     refine W.no (dj := 25) rfl rfl h22 ?_
     refine W.no (dj := 25) rfl rfl h22 ?_
     refine W.ok (ok_pick_t rfl h22) ?_
     refine W.as ?_
     refine W.nil (thn_n ?_)
     refine WC.ret ?_
     refine ⟨.inr rfl, [_], ⟨rfl, trivial⟩, [], List.nil_sublist _, ?_⟩
     refine congrArg Value.bool ?_
     first | rfl | (rw [Bool.eq_iff_iff]; simp [plainB]; omega)
    ·have p22 := of_decide_eq_false h22
     refine W.yes (dj := 25) rfl rfl h22 ?_
     refine W.mv ?_
     refine W.yes (dj := 25) rfl rfl h22 ?_
     refine W.ok (ok_eql rfl rfl) ?_
     refine W.ok (ok_pick_f rfl h22) ?_
     refine W.as ?_
     refine W.nil (thn_n ?_)
     refine WC.ret ?_
     refine ⟨.inr rfl, [_], ⟨rfl, trivial⟩, [], List.nil_sublist _, ?_⟩
     refine congrArg Value.bool ?_
     first | rfl | (rw [Bool.eq_iff_iff]; simp [plainB]; omega)
   ·have p19 := of_decide_eq_false h19
    refine W.no (dj := 20) rfl rfl h19 ?_
    refine W.no (dj := 20) rfl rfl h19 ?_
    refine W.yes (dj := 17) rfl rfl rfl ?_
    refine W.ok (ok_pick_f rfl h19) ?_
    refine W.ok (ok_pick_f rfl rfl) ?_
    refine W.mv ?_
    refine W.yes (dj := 25) rfl rfl rfl ?_
    refine W.mv ?_
    refine W.yes (dj := 25) rfl rfl rfl ?_
    refine W.ok (ok_eql rfl rfl) ?_
    refine W.ok (ok_pick_f rfl rfl) ?_
    refine W.as ?_
    refine W.nil (thn_n ?_)
    refine WC.ret ?_
    refine ⟨.inr rfl, [_], ⟨rfl, trivial⟩, [], List.nil_sublist _, ?_⟩
    refine congrArg Value.bool ?_
    first | rfl | (rw [Bool.eq_iff_iff]; simp [plainB]; omega)

theorem ccheckN_fc {G : GH} {b_s : Nat} {v_l : Value} {l : List UInt8} {Ms_l : MH} (h_l : OwnR eU8 5 G v_l l Ms_l) :
    Fc Tryd.prog 63 [.pointer (some ⟨b_s, 0, none⟩)] G ((b_s, .cells (List.toArray [.pointer none, v_l]) 67 (0, 0)) :: (Ms_l)) (fun v G' M' => v = .tuple #[] ∧ M' = (b_s, .cells (List.toArray [.pointer (some ⟨b_s, 0, none⟩), v_l]) 67 (0, 0)) :: Ms_l) := by
 obtain ⟨sa_l, sc_l, rfl⟩ := h_l.form
 refine Fc.intro (rs := []) cl63 Tryd.func63 rfl Tryd.ntmps63 rfl rfl (fun w0 => ?_)
 refine WC.perm (M' := ((b_s, .cells (List.toArray [.pointer none, .slice sa_l l.length sc_l]) 67 (0, 0)) :: (Ms_l ++ []))) (by simp) ?_
 refine WC.seq ?_
 refine WC.region ?_
 refine W.mv ?_
 refine W.ok (ok_nilP rfl) ?_
 refine W.ok (ok_fieldB fd67_0 rfl) ?_
 refine W.ok (ok_loadB (i := 0) (vs := [.pointer _]) ty64 rfl rfl rfl rfl (by simp)) ?_
 refine W.ok (ok_eqlPN pp64 rfl rfl) ?_
 refine W.nil (thn_n ?_)
 refine WC.cond_t rfl rfl ?_
 refine WC.region ?_
 refine W.mv ?_
 refine W.mv ?_
 refine W.ok (ok_toU (te := 67) (i := 0) (j := 1) (by kernel_rfl) (by kernel_rfl) (by kernel_rfl) rfl rfl) ?_
 refine W.ok (ok_noEsc (fn := Tryd.f75) Tryd.func75 (by kernel_rfl) (by kernel_rfl) (by kernel_rfl) (by kernel_rfl) rfl) ?_
 refine W.ok (ok_fromU (te := 67) (i := 0) (j := 2) (L := [.pointer none, .slice sa_l l.length sc_l]) (by kernel_rfl) (by kernel_rfl) (by kernel_rfl) rfl (by kernel_rfl) rfl) ?_
 refine W.ok (ok_nilP rfl) ?_
 refine W.ok (ok_fieldB fd67_0 rfl) ?_
 refine W.store (i := 0) (vs := [.pointer _]) (L' := [_, .slice _ _ _]) ty64 rfl rfl rfl rfl rfl rfl rfl rfl ?_
 refine W.nil ?_
 refine ⟨.inl rfl, [], trivial, ((b_s, .cells (List.toArray [.pointer (some ⟨b_s, 0, none⟩), .slice sa_l l.length sc_l]) 67 (0, 0)) :: (Ms_l ++ [])), (List.Sublist.refl _).cons_cons _, ?_⟩
 exact ⟨rfl, by simp⟩

theorem ccheckU_fc {G : GH} {b_s : Nat} {v_l : Value} {l : List UInt8} {Ms_l : MH} (h_l : OwnR eU8 5 G v_l l Ms_l) :
    Fc Tryd.prog 63 [.pointer (some ⟨b_s, 0, none⟩)] G ((b_s, .cells (List.toArray [.pointer (some ⟨b_s, 0, none⟩), v_l]) 67 (0, 0)) :: (Ms_l)) (fun v G' M' => v = .tuple #[] ∧ M' = (b_s, .cells (List.toArray [.pointer (some ⟨b_s, 0, none⟩), v_l]) 67 (0, 0)) :: Ms_l) := by
 obtain ⟨sa_l, sc_l, rfl⟩ := h_l.form
 refine Fc.intro (rs := []) cl63 Tryd.func63 rfl Tryd.ntmps63 rfl rfl (fun w0 => ?_)
 refine WC.perm (M' := ((b_s, .cells (List.toArray [.pointer (some ⟨b_s, 0, none⟩), .slice sa_l l.length sc_l]) 67 (0, 0)) :: (Ms_l ++ []))) (by simp) ?_
 refine WC.seq ?_
 refine WC.region ?_
 refine W.mv ?_
 refine W.ok (ok_nilP rfl) ?_
 refine W.ok (ok_fieldB fd67_0 rfl) ?_
 refine W.ok (ok_loadB (i := 0) (vs := [.pointer _]) ty64 rfl rfl rfl rfl (by simp)) ?_
 refine W.ok (ok_eqlPN pp64 rfl rfl) ?_
 refine W.nil (thn_n ?_)
 refine WC.cond_f rfl rfl ?_
 refine WC.seq ?_
 refine WC.region ?_
 refine W.mv ?_
 refine W.ok (ok_nilP rfl) ?_
 refine W.ok (ok_fieldB fd67_0 rfl) ?_
 refine W.ok (ok_loadB (i := 0) (vs := [.pointer _]) ty64 rfl rfl rfl rfl (by simp)) ?_
 refine W.mv ?_
 refine W.ok (ok_neqPS (te := 67) (by kernel_rfl) (j := 2) (by kernel_rfl) rfl rfl) ?_
 refine W.nil (thn_n ?_)
 refine WC.cond_f rfl rfl ?_
 refine WC.skip ?_
 refine ⟨.inl rfl, [], trivial, ((b_s, .cells (List.toArray [.pointer (some ⟨b_s, 0, none⟩), .slice sa_l l.length sc_l]) 67 (0, 0)) :: (Ms_l ++ [])), (List.Sublist.refl _).cons_cons _, ?_⟩
 exact ⟨rfl, by simp⟩

theorem ccheck_fc {G : GH} {b_s : Nat} {p v_l : Value} {l : List UInt8} {Ms_l : MH} (hp : p = .pointer none ∨ p = .pointer (some ⟨b_s, 0, none⟩)) (h_l : OwnR eU8 5 G v_l l Ms_l) :
    Fc Tryd.prog 63 [.pointer (some ⟨b_s, 0, none⟩)] G ((b_s, .cells (List.toArray [p, v_l]) 67 (0, 0)) :: Ms_l) (fun v G' M' => v = .tuple #[] ∧ M' = (b_s, .cells (List.toArray [.pointer (some ⟨b_s, 0, none⟩), v_l]) 67 (0, 0)) :: Ms_l) := by
  have h1 := @ccheckN_fc G b_s v_l l Ms_l h_l
  have h2 := @ccheckU_fc G b_s v_l l Ms_l h_l
  rcases hp with rfl | rfl
  · exact h1
  · exact h2
theorem bwbyte_fc {G : GH} {b_s : Nat} {p : Value} (hp : p = .pointer none ∨ p = .pointer (some ⟨b_s, 0, none⟩)) {v_l : Value} {l : List UInt8} {Ms_l : MH} (h_l : OwnR eU8 5 G v_l l Ms_l) (c : UInt8) (hn : l.length ≤ 1000000) :
    Fc Tryd.prog 39 [.pointer (some ⟨b_s, 0, none⟩), .int .u8 ((c.toNat : Nat) : Int)] G ((b_s, .cells (List.toArray [p, v_l]) 67 (0, 0)) :: (Ms_l)) (fun v G' M' => v = .nilIface ∧ BuR 67 5 b_s G' (l ++ [c]) M') := by
 obtain ⟨sa_l, sc_l, rfl⟩ := h_l.form
 refine Fc.intro (rs := [.tmp 4]) cl39 Tryd.func39 rfl Tryd.ntmps39 rfl rfl (fun w0 => ?_)
 refine WC.perm (M' := ((b_s, .cells (List.toArray [p, .slice sa_l l.length sc_l]) 67 (0, 0)) :: (Ms_l ++ []))) (by simp) ?_
 refine WC.seq ?_
 refine WC.region ?_
 refine W.as ?_
 refine W.nil (thn_n ?_)
 refine WC.seq ?_
 refine WC.region ?_
 refine W.mv ?_
 refine W.call (Mp := ((b_s, .cells (List.toArray [p, .slice sa_l l.length sc_l]) 67 (0, 0)) :: Ms_l)) (Mr := []) (ccheck_fc hp h_l) rfl (((List.Perm.refl _).cons _).trans (List.Perm.refl _)) ?_
 intro v4 G1 Ms3 hG1 q2
 refine match q2 with | ⟨e_5, e_6⟩ => ?_
 subst e_5
 subst e_6
 refine W.perm (M' := ((b_s, .cells (List.toArray [.pointer (some ⟨b_s, 0, none⟩), .slice sa_l l.length sc_l]) 67 (0, 0)) :: (Ms_l ++ []))) (((List.Perm.refl _).cons _).trans (List.Perm.refl _)).symm ?_
 refine W.nil (thn_n ?_)
 refine WC.seq ?_
 refine WC.region ?_
 refine W.mv ?_
 refine W.mv ?_
 refine W.ok (ok_nilP rfl) ?_
 refine W.ok (ok_fieldB fd67_1 rfl) ?_
 refine W.ok (ok_loadB (i := 0) (vs := [.slice _ _ _]) ty65 rfl rfl rfl rfl (by simp)) ?_
 refine W.mv ?_
 refine W.lit (e := eU8) (l := [c]) (css := [[.int .u8 _]]) sl65 ty5 zr5 rfl rfl rfl rfl rfl rfl ⟨rfl, trivial⟩ (fun bl7 G7 hG7 hv7 => ?_)
 refine W.app (e := eU8) sl65 ty5 zr5 rfl by5 rfl rfl ((h_l.mono (hG1.trans hG7))) (hv7) (pmC (List.Perm.refl _)) (by show (_ + 1) * 1 ≤ _; omega) (fun v8 Ms9 ho10 => ?_)
 refine W.perm (pmC (List.Perm.refl _)).symm ?_
 have q14 := ho10.form
 refine match q14 with | ⟨sa11, sc12, e_13⟩ => ?_
 subst e_13
 refine W.ok (ok_nilP rfl) ?_
 refine W.ok (ok_fieldB fd67_1 rfl) ?_
 refine W.store (i := 0) (vs := [.slice _ _ _]) (L' := [_, .slice _ _ _]) ty65 rfl rfl rfl rfl rfl rfl rfl rfl ?_
 refine W.nil (thn_n ?_)
 refine WC.seq ?_
 refine WC.region ?_
 refine W.as ?_
 refine W.nil (thn_n ?_)
 refine WC.ret ?_
 refine ⟨.inr rfl, [_], ⟨rfl, trivial⟩, ((b_s, .cells (List.toArray [.pointer (some ⟨b_s, 0, none⟩), .slice sa11 ((l ++ [c])).length sc12]) 67 (0, 0)) :: (Ms9 ++ [])), (List.Sublist.refl _).cons_cons _, ?_⟩
 exact ⟨rfl, by simpa using BuR.used (ho10)⟩

theorem bwrite_fc {G : GH} {b_s : Nat} {p : Value} (hp : p = .pointer none ∨ p = .pointer (some ⟨b_s, 0, none⟩)) {v_l : Value} {l : List UInt8} {Ms_l : MH} (h_l : OwnR eU8 5 G v_l l Ms_l) {v_a : Value} {a : List UInt8} (h_a : SlR eU8 G v_a a) (hn : l.length + a.length ≤ 1000000) :
    Fc Tryd.prog 40 [.pointer (some ⟨b_s, 0, none⟩), v_a] G ((b_s, .cells (List.toArray [p, v_l]) 67 (0, 0)) :: (Ms_l)) (fun v G' M' => v = .tuple #[.int .i64 ((a.length : Nat) : Int), .nilIface] ∧ BuR 67 5 b_s G' (l ++ a) M') := by
 obtain ⟨sa_a, sc_a, rfl⟩ := h_a.form
 obtain ⟨sa_l, sc_l, rfl⟩ := h_l.form
 refine Fc.intro (rs := [.tmp 4, .tmp 5]) cl40 Tryd.func40 rfl Tryd.ntmps40 rfl rfl (fun w0 => ?_)
 refine WC.perm (M' := ((b_s, .cells (List.toArray [p, .slice sa_l l.length sc_l]) 67 (0, 0)) :: (Ms_l ++ []))) (by simp) ?_
 refine WC.seq ?_
 refine WC.region ?_
 refine W.as ?_
 refine W.as ?_
 refine W.nil (thn_n ?_)
 refine WC.seq ?_
 refine WC.region ?_
 refine W.mv ?_
 refine W.call (Mp := ((b_s, .cells (List.toArray [p, .slice sa_l l.length sc_l]) 67 (0, 0)) :: Ms_l)) (Mr := []) (ccheck_fc hp h_l) rfl (((List.Perm.refl _).cons _).trans (List.Perm.refl _)) ?_
 intro v18 G15 Ms17 hG15 q16
 refine match q16 with | ⟨e_19, e_20⟩ => ?_
 subst e_19
 subst e_20
 refine W.perm (M' := ((b_s, .cells (List.toArray [.pointer (some ⟨b_s, 0, none⟩), .slice sa_l l.length sc_l]) 67 (0, 0)) :: (Ms_l ++ []))) (((List.Perm.refl _).cons _).trans (List.Perm.refl _)).symm ?_
 refine W.nil (thn_n ?_)
 refine WC.seq ?_
 refine WC.region ?_
 refine W.mv ?_
 refine W.mv ?_
 refine W.ok (ok_nilP rfl) ?_
 refine W.ok (ok_fieldB fd67_1 rfl) ?_
 refine W.ok (ok_loadB (i := 0) (vs := [.slice _ _ _]) ty65 rfl rfl rfl rfl (by simp)) ?_
 refine W.mv ?_
 refine W.app (e := eU8) sl65 ty5 zr5 rfl by5 rfl rfl ((h_l.mono hG15)) ((h_a.mono hG15)) (pmC (List.Perm.refl _)) (by show (_ + _) * 1 ≤ _; omega) (fun v21 Ms22 ho23 => ?_)
 refine W.perm (pmC (List.Perm.refl _)).symm ?_
 have q27 := ho23.form
 refine match q27 with | ⟨sa24, sc25, e_26⟩ => ?_
 subst e_26
 refine W.ok (ok_nilP rfl) ?_
 refine W.ok (ok_fieldB fd67_1 rfl) ?_
 refine W.store (i := 0) (vs := [.slice _ _ _]) (L' := [_, .slice _ _ _]) ty65 rfl rfl rfl rfl rfl rfl rfl rfl ?_
 refine W.nil (thn_n ?_)
 refine WC.seq ?_
 refine WC.region ?_
 refine W.mv ?_
 refine W.ok (ok_len sl65 (h_a.mono hG15) rfl) ?_
 refine W.as ?_
 refine W.as ?_
 refine W.nil (thn_n ?_)
 refine WC.ret ?_
 refine ⟨.inr rfl, [_, _], ⟨rfl, rfl, trivial⟩, ((b_s, .cells (List.toArray [.pointer (some ⟨b_s, 0, none⟩), .slice sa24 ((l ++ a)).length sc25]) 67 (0, 0)) :: (Ms22 ++ [])), (List.Sublist.refl _).cons_cons _, ?_⟩
 exact ⟨rfl, by simpa using BuR.used (ho23)⟩

theorem wbyte_fc {G : GH} {b : Nat} {l : List UInt8} {Ms : MH} (h : BuR 67 5 b G l Ms) (c : UInt8) (hn : l.length ≤ 1000000) : Fc Tryd.prog 39 [.pointer (some ⟨b, 0, none⟩), .int .u8 ((c.toNat : Nat) : Int)] G Ms (fun v G' M' => v = .nilIface ∧ BuR 67 5 b G' (l ++ [c]) M') := by
  obtain ⟨p, v, Ms1, hp, ho, rfl⟩ := h
  simpa using bwbyte_fc hp ho c hn
theorem bwr_fc {G : GH} {b : Nat} {l : List UInt8} {Ms : MH} (h : BuR 67 5 b G l Ms) {va : Value} {a : List UInt8} (ha : SlR eU8 G va a) (hn : l.length + a.length ≤ 1000000) : Fc Tryd.prog 40 [.pointer (some ⟨b, 0, none⟩), va] G Ms (fun v G' M' => v = .tuple #[.int .i64 ((a.length : Nat) : Int), .nilIface] ∧ BuR 67 5 b G' (l ++ a) M') := by
  obtain ⟨p, v, Ms1, hp, ho, rfl⟩ := h
  simpa using bwrite_fc hp ho ha hn
theorem bstr0_fc {G : GH} {b_s : Nat} {p : Value} {v_l : Value} {l : List UInt8} {Ms_l : MH} (h_l : OwnR eU8 5 G v_l l Ms_l) (hl : l ≠ []) :
    Fc Tryd.prog 41 [.pointer (some ⟨b_s, 0, none⟩)] G ((b_s, .cells (List.toArray [p, v_l]) 67 (0, 0)) :: (Ms_l)) (fun v G' M' => v = .string ⟨l.toArray⟩ ∧ M' = []) := by
 obtain ⟨sa_l, sc_l, rfl⟩ := h_l.form
 refine Fc.intro (rs := [.tmp 2]) cl41 Tryd.func41 rfl Tryd.ntmps41 rfl rfl (fun w0 => ?_)
 refine WC.perm (M' := ((b_s, .cells (List.toArray [p, .slice sa_l l.length sc_l]) 67 (0, 0)) :: (Ms_l ++ []))) (by simp) ?_
 refine WC.seq ?_
 refine WC.region ?_
 refine W.as ?_
 refine W.nil (thn_n ?_)
 refine WC.seq ?_
 refine WC.drawW _ ((List.nil_sublist _).cons_cons _) mix (by rintro _ _ _ _ ⟨h | h, _⟩ <;> cases h) ?_
 refine WD.take 0 rfl rfl rfl (by kernel_rfl) (by kernel_rfl) (by kernel_rfl) (ok_mv) ?_
 refine WD.take 1 rfl rfl rfl (by kernel_rfl) (by kernel_rfl) (by kernel_rfl) (ok_nilP rfl) ?_
 refine WD.take 2 rfl rfl rfl (by kernel_rfl) (by kernel_rfl) (by kernel_rfl) (ok_fieldB fd67_1 rfl) ?_
 refine WD.take 3 rfl rfl rfl (by kernel_rfl) (by kernel_rfl) (by kernel_rfl) (ok_loadB (i := 0) (vs := [.slice _ _ _]) ty65 rfl rfl rfl rfl (by simp)) ?_
 refine WD.take 4 rfl rfl rfl (by kernel_rfl) (by kernel_rfl) (by kernel_rfl) (ok_sdataO h_l hl rfl) ?_
 refine WD.take 5 rfl rfl rfl (by kernel_rfl) (by kernel_rfl) (by kernel_rfl) (ok_mv) ?_
 refine WD.take 6 rfl rfl rfl (by kernel_rfl) (by kernel_rfl) (by kernel_rfl) (ok_nilP rfl) ?_
 refine WD.take 7 rfl rfl rfl (by kernel_rfl) (by kernel_rfl) (by kernel_rfl) (ok_fieldB fd67_1 rfl) ?_
 refine WD.take 8 rfl rfl rfl (by kernel_rfl) (by kernel_rfl) (by kernel_rfl) (ok_loadB (i := 0) (vs := [.slice _ _ _]) ty65 rfl rfl rfl rfl (by simp)) ?_
 refine WD.take 9 rfl rfl rfl (by kernel_rfl) (by kernel_rfl) (by kernel_rfl) (ok_lenO sl65 h_l rfl) ?_
 refine WD.any [10] (by kernel_rfl) rfl ⟨⟨_, rfl, rfl, ?_⟩, trivial⟩
 refine W.ustrO (te := 5) (by kernel_rfl) (by kernel_rfl) h_l hl rfl rfl (pmC (List.Perm.refl _)) ?_
 refine W.nil ⟨Le.rfl, (List.Sublist.refl _).cons_cons _, _, (List.Sublist.refl _).cons_cons _, List.Sublist.refl _, ?_⟩
 refine WD.take 11 rfl rfl rfl (by kernel_rfl) (by kernel_rfl) (by kernel_rfl) (ok_as) ?_
 refine WD.done (by kernel_rfl) (thn_n ?_)
 refine WC.ret ?_
 refine ⟨.inr rfl, [_], ⟨rfl, trivial⟩, [], List.nil_sublist _, ?_⟩
 exact ⟨rfl, rfl⟩

theorem bstr_fc {G : GH} {b : Nat} {l : List UInt8} {Ms : MH} (h : BuR 67 5 b G l Ms) (hl : l ≠ []) : Fc Tryd.prog 41 [.pointer (some ⟨b, 0, none⟩)] G Ms (fun v G' M' => v = .string ⟨l.toArray⟩ ∧ M' = []) := by
  obtain ⟨p, v, Ms1, hp, ho, rfl⟩ := h
  simpa using bstr0_fc ho hl
end Go.Proofs.YthmkpaoolhcibaaDoor
