/- Nodes that are laid into a store one behind the other. Plain Lean; nothing of the program is named here. No condition. -/
import Derived.Test.YtebkfinhhpelbaaGreatQxNc
import Derived.Test.YtebkfinhhpelbaaGreatQxV4
import Derived.Test.YtebkfinhhpelbaaGreatQxW2
set_option linter.unusedVariables false
set_option linter.unusedSimpArgs false
set_option linter.unnecessarySimpa false
namespace Go.Fw
open Go Go.RowKit
def placedF (i : Int) : List Nd → Bool
  | [] => true
  | n :: l => decide (n.slot = i) && placedF (i + 1) l
def ldN (l : List Nd) (k : Nat) : List Nd := if k = 0 then [leafN 0] else l.take k
end Go.Fw
/- Walks of stores. -/
namespace Go.Proofs.YtebkfinhhpelbaaGreat
open Go Go.Fw Go.RowKit
set_option maxRecDepth 100000
set_option maxHeartbeats 1600000
set_option linter.unusedVariables false
set_option linter.unusedSimpArgs false
set_option linter.unnecessarySimpa false
theorem rright25_fc {G : GH} (cfan : Int) (cleaf : Int) (cbud : Int) (cslots : Int) (crest : Int) :
    Fc Tryz.prog 52 [.agg #[.int .i64 cfan, .int .i64 cleaf, .int .i64 cbud, .int .i64 cslots, .int .i64 crest]] G [] (fun v _ _ => v = .bool (decide (CfgR (⟨cfan, cleaf, cbud, cslots, crest⟩ : Cfg)))) := by
 refine Fc.intro (rs := [.tmp 2]) cl52 Tryz.func52 rfl Tryz.ntmps52 rfl rfl (fun w0 => ?_)
 refine WC.seq (WC.region (W.box (L := [.int .i64 _, .int .i64 _, .int .i64 _, .int .i64 _, .int .i64 _]) rfl rfl (fun b2 => (W.as (W.nil (thn_n (WC.seq (WC.region (W.ok (ok_fieldB fd23_0 rfl) ?_)))))))))
 refine W.ok (ok_loadB (i := 0) (vs := [.int .i64 _]) ty3 rfl rfl rfl rfl (by simp)) (W.ok (ok_geq rfl rfl) (W.mv ?_))
 refine W.sp 6 rfl (fun h5 => ?_) (fun h5 => ?_)
 ·have p5 := of_decide_eq_true h5
  refine W.yes (dj := 6) rfl rfl h5 (W.ok (ok_fieldB fd23_0 rfl) (W.yes (dj := 6) rfl rfl h5 (W.ok (ok_loadB (i := 0) (vs := [.int .i64 _]) ty3 rfl rfl rfl rfl (by simp)) (W.yes (dj := 6) rfl rfl h5 (W.ok (ok_leq rfl rfl) (W.ok (ok_pick_t rfl h5) (W.mv ?_)))))))
  refine W.sp 11 rfl (fun h9 => ?_) (fun h9 => ?_)
  ·have p9 := of_decide_eq_true h9
   refine W.yes (dj := 11) rfl rfl h9 (W.ok (ok_fieldB fd23_1 rfl) (W.yes (dj := 11) rfl rfl h9 (W.ok (ok_loadB (i := 0) (vs := [.int .i64 _]) ty3 rfl rfl rfl rfl (by simp)) (W.yes (dj := 11) rfl rfl h9 (W.ok (ok_geq rfl rfl) (W.ok (ok_pick_t rfl h9) (W.mv ?_)))))))
   refine W.sp 16 rfl (fun h14 => ?_) (fun h14 => ?_)
   ·have p14 := of_decide_eq_true h14
    refine W.yes (dj := 16) rfl rfl h14 (W.ok (ok_fieldB fd23_1 rfl) (W.yes (dj := 16) rfl rfl h14 (W.ok (ok_loadB (i := 0) (vs := [.int .i64 _]) ty3 rfl rfl rfl rfl (by simp)) (W.yes (dj := 16) rfl rfl h14 (W.ok (ok_leq rfl rfl) (W.ok (ok_pick_t rfl h14) (W.mv ?_)))))))
    refine W.sp 21 rfl (fun h19 => ?_) (fun h19 => ?_)
    ·have p19 := of_decide_eq_true h19
     refine W.yes (dj := 21) rfl rfl h19 (W.ok (ok_fieldB fd23_2 rfl) (W.yes (dj := 21) rfl rfl h19 (W.ok (ok_loadB (i := 0) (vs := [.int .i64 _]) ty3 rfl rfl rfl rfl (by simp)) (W.yes (dj := 21) rfl rfl h19 (W.ok (ok_geq rfl rfl) (W.ok (ok_pick_t rfl h19) (W.mv ?_)))))))
     refine W.sp 26 rfl (fun h24 => ?_) (fun h24 => ?_)
     ·have p24 := of_decide_eq_true h24
      refine W.yes (dj := 26) rfl rfl h24 (W.ok (ok_fieldB fd23_2 rfl) (W.yes (dj := 26) rfl rfl h24 (W.ok (ok_loadB (i := 0) (vs := [.int .i64 _]) ty3 rfl rfl rfl rfl (by simp)) (W.yes (dj := 26) rfl rfl h24 (W.ok (ok_leq rfl rfl) (W.ok (ok_pick_t rfl h24) (W.mv ?_)))))))
      refine W.sp 31 rfl (fun h29 => ?_) (fun h29 => ?_)
      ·have p29 := of_decide_eq_true h29
       refine W.yes (dj := 31) rfl rfl h29 (W.ok (ok_fieldB fd23_3 rfl) (W.yes (dj := 31) rfl rfl h29 (W.ok (ok_loadB (i := 0) (vs := [.int .i64 _]) ty3 rfl rfl rfl rfl (by simp)) (W.yes (dj := 31) rfl rfl h29 (W.ok (ok_geq rfl rfl) (W.ok (ok_pick_t rfl h29) (W.mv ?_)))))))
       refine W.sp 36 rfl (fun h34 => ?_) (fun h34 => ?_)
       ·have p34 := of_decide_eq_true h34
        refine W.yes (dj := 36) rfl rfl h34 (W.ok (ok_fieldB fd23_3 rfl) (W.yes (dj := 36) rfl rfl h34 (W.ok (ok_loadB (i := 0) (vs := [.int .i64 _]) ty3 rfl rfl rfl rfl (by simp)) (W.yes (dj := 36) rfl rfl h34 (W.ok (ok_leq rfl rfl) (W.ok (ok_pick_t rfl h34) (W.mv ?_)))))))
        refine W.sp 41 rfl (fun h39 => ?_) (fun h39 => ?_)
        ·have p39 := of_decide_eq_true h39
         refine W.yes (dj := 41) rfl rfl h39 (W.ok (ok_fieldB fd23_4 rfl) (W.yes (dj := 41) rfl rfl h39 (W.ok (ok_loadB (i := 0) (vs := [.int .i64 _]) ty3 rfl rfl rfl rfl (by simp)) (W.yes (dj := 41) rfl rfl h39 (W.ok (ok_geq rfl rfl) (W.ok (ok_pick_t rfl h39) (W.mv ?_)))))))
         refine W.sp 46 rfl (fun h44 => ?_) (fun h44 => ?_)
         ·have p44 := of_decide_eq_true h44
          refine W.yes (dj := 46) rfl rfl h44 (W.ok (ok_fieldB fd23_4 rfl) (W.yes (dj := 46) rfl rfl h44 (W.ok (ok_loadB (i := 0) (vs := [.int .i64 _]) ty3 rfl rfl rfl rfl (by simp)) (W.yes (dj := 46) rfl rfl h44 (W.ok (ok_leq rfl rfl) (W.ok (ok_pick_t rfl h44) (W.as ?_)))))))
          refine W.nil (thn_n (WC.ret ?_))
          refine ⟨.inr rfl, [_], ⟨rfl, trivial⟩, [], List.nil_sublist _, ?_⟩
          refine congrArg Value.bool ?_
          rw [Bool.eq_iff_iff, decide_eq_true_iff]
          simp only [CfgR]
          first | (simp_all; done) | (simp_all; omega)
         ·have p44 := of_decide_eq_false h44
          refine W.no (dj := 46) rfl rfl h44 (W.no (dj := 46) rfl rfl h44 (W.no (dj := 46) rfl rfl h44 (W.ok (ok_pick_f rfl h44) (W.as (W.nil (thn_n (WC.ret ?_)))))))
          refine ⟨.inr rfl, [_], ⟨rfl, trivial⟩, [], List.nil_sublist _, ?_⟩
          refine congrArg Value.bool ?_
          rw [Bool.eq_iff_iff, decide_eq_true_iff]
          simp only [CfgR]
          first | (simp_all; done) | (simp_all; omega)
        ·have p39 := of_decide_eq_false h39
         refine W.no (dj := 41) rfl rfl h39 (W.no (dj := 41) rfl rfl h39 (W.no (dj := 41) rfl rfl h39 (W.ok (ok_pick_f rfl h39) (W.mv (W.no (dj := 46) rfl rfl rfl (W.no (dj := 46) rfl rfl rfl (W.no (dj := 46) rfl rfl rfl ?_)))))))
         refine W.ok (ok_pick_f rfl rfl) (W.as (W.nil (thn_n (WC.ret ?_))))
         refine ⟨.inr rfl, [_], ⟨rfl, trivial⟩, [], List.nil_sublist _, ?_⟩
         refine congrArg Value.bool ?_
         rw [Bool.eq_iff_iff, decide_eq_true_iff]
         simp only [CfgR]
         first | (simp_all; done) | (simp_all; omega)
       ·have p34 := of_decide_eq_false h34
        refine W.no (dj := 36) rfl rfl h34 (W.no (dj := 36) rfl rfl h34 (W.no (dj := 36) rfl rfl h34 (W.ok (ok_pick_f rfl h34) (W.mv (W.no (dj := 41) rfl rfl rfl (W.no (dj := 41) rfl rfl rfl (W.no (dj := 41) rfl rfl rfl ?_)))))))
        refine W.ok (ok_pick_f rfl rfl) (W.mv (W.no (dj := 46) rfl rfl rfl (W.no (dj := 46) rfl rfl rfl (W.no (dj := 46) rfl rfl rfl (W.ok (ok_pick_f rfl rfl) (W.as (W.nil (thn_n ?_))))))))
        refine WC.ret ?_
        refine ⟨.inr rfl, [_], ⟨rfl, trivial⟩, [], List.nil_sublist _, ?_⟩
        refine congrArg Value.bool ?_
        rw [Bool.eq_iff_iff, decide_eq_true_iff]
        simp only [CfgR]
        first | (simp_all; done) | (simp_all; omega)
      ·have p29 := of_decide_eq_false h29
       refine W.no (dj := 31) rfl rfl h29 (W.no (dj := 31) rfl rfl h29 (W.no (dj := 31) rfl rfl h29 (W.ok (ok_pick_f rfl h29) (W.mv (W.no (dj := 36) rfl rfl rfl (W.no (dj := 36) rfl rfl rfl (W.no (dj := 36) rfl rfl rfl ?_)))))))
       refine W.ok (ok_pick_f rfl rfl) (W.mv (W.no (dj := 41) rfl rfl rfl (W.no (dj := 41) rfl rfl rfl (W.no (dj := 41) rfl rfl rfl (W.ok (ok_pick_f rfl rfl) (W.mv (W.no (dj := 46) rfl rfl rfl ?_)))))))
       refine W.no (dj := 46) rfl rfl rfl (W.no (dj := 46) rfl rfl rfl (W.ok (ok_pick_f rfl rfl) (W.as (W.nil (thn_n (WC.ret ?_))))))
       refine ⟨.inr rfl, [_], ⟨rfl, trivial⟩, [], List.nil_sublist _, ?_⟩
       refine congrArg Value.bool ?_
       rw [Bool.eq_iff_iff, decide_eq_true_iff]
       simp only [CfgR]
       first | (simp_all; done) | (simp_all; omega)
     ·have p24 := of_decide_eq_false h24
      refine W.no (dj := 26) rfl rfl h24 (W.no (dj := 26) rfl rfl h24 (W.no (dj := 26) rfl rfl h24 (W.ok (ok_pick_f rfl h24) (W.mv (W.no (dj := 31) rfl rfl rfl (W.no (dj := 31) rfl rfl rfl (W.no (dj := 31) rfl rfl rfl ?_)))))))
      refine W.ok (ok_pick_f rfl rfl) (W.mv (W.no (dj := 36) rfl rfl rfl (W.no (dj := 36) rfl rfl rfl (W.no (dj := 36) rfl rfl rfl (W.ok (ok_pick_f rfl rfl) (W.mv (W.no (dj := 41) rfl rfl rfl ?_)))))))
      refine W.no (dj := 41) rfl rfl rfl (W.no (dj := 41) rfl rfl rfl (W.ok (ok_pick_f rfl rfl) (W.mv (W.no (dj := 46) rfl rfl rfl (W.no (dj := 46) rfl rfl rfl (W.no (dj := 46) rfl rfl rfl (W.ok (ok_pick_f rfl rfl) ?_)))))))
      refine W.as (W.nil (thn_n (WC.ret ?_)))
      refine ⟨.inr rfl, [_], ⟨rfl, trivial⟩, [], List.nil_sublist _, ?_⟩
      refine congrArg Value.bool ?_
      rw [Bool.eq_iff_iff, decide_eq_true_iff]
      simp only [CfgR]
      first | (simp_all; done) | (simp_all; omega)
    ·have p19 := of_decide_eq_false h19
     refine W.no (dj := 21) rfl rfl h19 (W.no (dj := 21) rfl rfl h19 (W.no (dj := 21) rfl rfl h19 (W.ok (ok_pick_f rfl h19) (W.mv (W.no (dj := 26) rfl rfl rfl (W.no (dj := 26) rfl rfl rfl (W.no (dj := 26) rfl rfl rfl ?_)))))))
     refine W.ok (ok_pick_f rfl rfl) (W.mv (W.no (dj := 31) rfl rfl rfl (W.no (dj := 31) rfl rfl rfl (W.no (dj := 31) rfl rfl rfl (W.ok (ok_pick_f rfl rfl) (W.mv (W.no (dj := 36) rfl rfl rfl ?_)))))))
     refine W.no (dj := 36) rfl rfl rfl (W.no (dj := 36) rfl rfl rfl (W.ok (ok_pick_f rfl rfl) (W.mv (W.no (dj := 41) rfl rfl rfl (W.no (dj := 41) rfl rfl rfl (W.no (dj := 41) rfl rfl rfl (W.ok (ok_pick_f rfl rfl) ?_)))))))
     refine W.mv (W.no (dj := 46) rfl rfl rfl (W.no (dj := 46) rfl rfl rfl (W.no (dj := 46) rfl rfl rfl (W.ok (ok_pick_f rfl rfl) (W.as (W.nil (thn_n (WC.ret ?_))))))))
     refine ⟨.inr rfl, [_], ⟨rfl, trivial⟩, [], List.nil_sublist _, ?_⟩
     refine congrArg Value.bool ?_
     rw [Bool.eq_iff_iff, decide_eq_true_iff]
     simp only [CfgR]
     first | (simp_all; done) | (simp_all; omega)
   ·have p14 := of_decide_eq_false h14
    refine W.no (dj := 16) rfl rfl h14 (W.no (dj := 16) rfl rfl h14 (W.no (dj := 16) rfl rfl h14 (W.ok (ok_pick_f rfl h14) (W.mv (W.no (dj := 21) rfl rfl rfl (W.no (dj := 21) rfl rfl rfl (W.no (dj := 21) rfl rfl rfl ?_)))))))
    refine W.ok (ok_pick_f rfl rfl) (W.mv (W.no (dj := 26) rfl rfl rfl (W.no (dj := 26) rfl rfl rfl (W.no (dj := 26) rfl rfl rfl (W.ok (ok_pick_f rfl rfl) (W.mv (W.no (dj := 31) rfl rfl rfl ?_)))))))
    refine W.no (dj := 31) rfl rfl rfl (W.no (dj := 31) rfl rfl rfl (W.ok (ok_pick_f rfl rfl) (W.mv (W.no (dj := 36) rfl rfl rfl (W.no (dj := 36) rfl rfl rfl (W.no (dj := 36) rfl rfl rfl (W.ok (ok_pick_f rfl rfl) ?_)))))))
    refine W.mv (W.no (dj := 41) rfl rfl rfl (W.no (dj := 41) rfl rfl rfl (W.no (dj := 41) rfl rfl rfl (W.ok (ok_pick_f rfl rfl) (W.mv (W.no (dj := 46) rfl rfl rfl (W.no (dj := 46) rfl rfl rfl ?_)))))))
    refine W.no (dj := 46) rfl rfl rfl (W.ok (ok_pick_f rfl rfl) (W.as (W.nil (thn_n (WC.ret ?_)))))
    refine ⟨.inr rfl, [_], ⟨rfl, trivial⟩, [], List.nil_sublist _, ?_⟩
    refine congrArg Value.bool ?_
    rw [Bool.eq_iff_iff, decide_eq_true_iff]
    simp only [CfgR]
    first | (simp_all; done) | (simp_all; omega)
  ·have p9 := of_decide_eq_false h9
   refine W.no (dj := 11) rfl rfl h9 (W.no (dj := 11) rfl rfl h9 (W.no (dj := 11) rfl rfl h9 (W.ok (ok_pick_f rfl h9) (W.mv (W.no (dj := 16) rfl rfl rfl (W.no (dj := 16) rfl rfl rfl (W.no (dj := 16) rfl rfl rfl ?_)))))))
   refine W.ok (ok_pick_f rfl rfl) (W.mv (W.no (dj := 21) rfl rfl rfl (W.no (dj := 21) rfl rfl rfl (W.no (dj := 21) rfl rfl rfl (W.ok (ok_pick_f rfl rfl) (W.mv (W.no (dj := 26) rfl rfl rfl ?_)))))))
   refine W.no (dj := 26) rfl rfl rfl (W.no (dj := 26) rfl rfl rfl (W.ok (ok_pick_f rfl rfl) (W.mv (W.no (dj := 31) rfl rfl rfl (W.no (dj := 31) rfl rfl rfl (W.no (dj := 31) rfl rfl rfl (W.ok (ok_pick_f rfl rfl) ?_)))))))
   refine W.mv (W.no (dj := 36) rfl rfl rfl (W.no (dj := 36) rfl rfl rfl (W.no (dj := 36) rfl rfl rfl (W.ok (ok_pick_f rfl rfl) (W.mv (W.no (dj := 41) rfl rfl rfl (W.no (dj := 41) rfl rfl rfl ?_)))))))
   refine W.no (dj := 41) rfl rfl rfl (W.ok (ok_pick_f rfl rfl) (W.mv (W.no (dj := 46) rfl rfl rfl (W.no (dj := 46) rfl rfl rfl (W.no (dj := 46) rfl rfl rfl (W.ok (ok_pick_f rfl rfl) (W.as ?_)))))))
   refine W.nil (thn_n (WC.ret ?_))
   refine ⟨.inr rfl, [_], ⟨rfl, trivial⟩, [], List.nil_sublist _, ?_⟩
   refine congrArg Value.bool ?_
   rw [Bool.eq_iff_iff, decide_eq_true_iff]
   simp only [CfgR]
   first | (simp_all; done) | (simp_all; omega)
 ·have p5 := of_decide_eq_false h5
  refine W.no (dj := 6) rfl rfl h5 (W.no (dj := 6) rfl rfl h5 (W.no (dj := 6) rfl rfl h5 (W.ok (ok_pick_f rfl h5) (W.mv (W.no (dj := 11) rfl rfl rfl (W.no (dj := 11) rfl rfl rfl (W.no (dj := 11) rfl rfl rfl ?_)))))))
  refine W.ok (ok_pick_f rfl rfl) (W.mv (W.no (dj := 16) rfl rfl rfl (W.no (dj := 16) rfl rfl rfl (W.no (dj := 16) rfl rfl rfl (W.ok (ok_pick_f rfl rfl) (W.mv (W.no (dj := 21) rfl rfl rfl ?_)))))))
  refine W.no (dj := 21) rfl rfl rfl (W.no (dj := 21) rfl rfl rfl (W.ok (ok_pick_f rfl rfl) (W.mv (W.no (dj := 26) rfl rfl rfl (W.no (dj := 26) rfl rfl rfl (W.no (dj := 26) rfl rfl rfl (W.ok (ok_pick_f rfl rfl) ?_)))))))
  refine W.mv (W.no (dj := 31) rfl rfl rfl (W.no (dj := 31) rfl rfl rfl (W.no (dj := 31) rfl rfl rfl (W.ok (ok_pick_f rfl rfl) (W.mv (W.no (dj := 36) rfl rfl rfl (W.no (dj := 36) rfl rfl rfl ?_)))))))
  refine W.no (dj := 36) rfl rfl rfl (W.ok (ok_pick_f rfl rfl) (W.mv (W.no (dj := 41) rfl rfl rfl (W.no (dj := 41) rfl rfl rfl (W.no (dj := 41) rfl rfl rfl (W.ok (ok_pick_f rfl rfl) (W.mv ?_)))))))
  refine W.no (dj := 46) rfl rfl rfl (W.no (dj := 46) rfl rfl rfl (W.no (dj := 46) rfl rfl rfl (W.ok (ok_pick_f rfl rfl) (W.as (W.nil (thn_n (WC.ret ?_)))))))
  refine ⟨.inr rfl, [_], ⟨rfl, trivial⟩, [], List.nil_sublist _, ?_⟩
  refine congrArg Value.bool ?_
  rw [Bool.eq_iff_iff, decide_eq_true_iff]
  simp only [CfgR]
  first | (simp_all; done) | (simp_all; omega)

end Go.Proofs.YtebkfinhhpelbaaGreat
