/- Nodes that are laid into a store one behind the other. Plain Lean; nothing of the program is named here. No condition. -/
import Derived.Test.YtebkfinhhpelbaaGreatQbV3
import Derived.Test.YtebkfinhhpelbaaGreatQbWk
set_option linter.unusedVariables false
set_option linter.unusedSimpArgs false
set_option linter.unnecessarySimpa false
set_option maxRecDepth 100000
set_option maxHeartbeats 1600000

namespace Go.Fw
open Go Go.RowKit
def placedF (i : Int) : List Nd → Bool
 | [] => true
 | n :: l => decide (n.slot = i) && placedF (i + 1) l
def ldN (l : List Nd) (k : Nat) : List Nd := if k = 0 then [leafN 0] else l.take k
end Go.Fw
namespace Go.Proofs.YtebkfinhhpelbaaGreat
open Go Go.Fw Go.RowKit
theorem rright25_fc {G : GH} (cfan : Int) (cleaf : Int) (cbud : Int) (cslots : Int) (crest : Int) :
    Fc Tryz.prog 52 [.agg #[.int .i64 cfan, .int .i64 cleaf, .int .i64 cbud, .int .i64 cslots, .int .i64 crest]] G [] (fun v _ _ => v = .bool (decide (CfgR (⟨cfan, cleaf, cbud, cslots, crest⟩ : Cfg)))) := by
 refine Fc.intro (rs := [.tmp 2]) cl52 Tryz.func52 rfl Tryz.ntmps52 rfl rfl (fun w0 => ?_)
 refine WC.seq (WC.region (W.box (L := [.int .i64 _, .int .i64 _, .int .i64 _, .int .i64 _, .int .i64 _]) rfl rfl (fun b2 => (W.as (W.nil (thn_n (WC.seq (WC.region (W.ok (ok_fieldB fd23_0 rfl) (W.ok (ok_loadB (i := 0) (vs := [.int .i64 _]) ty3 rfl rfl rfl rfl (by simp)) (W.ok (ok_geq rfl rfl) (W.mv ?_))))))))))))
 refine W.sp 6 rfl (fun h5 => ?_) (fun h5 => ?_)
 ·have p5 := of_decide_eq_true h5
  refine W.yes (dj := 6) rfl rfl h5 (W.ok (ok_fieldB fd23_0 rfl) (W.yes (dj := 6) rfl rfl h5 (W.ok (ok_loadB (i := 0) (vs := [.int .i64 _]) ty3 rfl rfl rfl rfl (by simp)) (W.yes (dj := 6) rfl rfl h5 (W.ok (ok_leq rfl rfl) (W.ok (ok_pick_t rfl h5) (W.mv ?_)))))))
  refine W.sp 11 rfl (fun h9 => ?_) (fun h9 => ?_)
  ·have p9 := of_decide_eq_true h9
   refine W.yes (dj := 11) rfl rfl h9 (W.ok (ok_fieldB fd23_1 rfl) (W.yes (dj := 11) rfl rfl h9 (W.ok (ok_loadB (i := 0) (vs := [.int .i64 _]) ty3 rfl rfl rfl rfl (by simp)) (W.yes (dj := 11) rfl rfl h9 (W.ok (ok_geq rfl rfl) (W.ok (ok_pick_t rfl h9) (W.mv ?_)))))))
   refine W.sp 16 rfl (fun h14 => ?_) (fun h14 => ?_)
   ·have p14 := of_decide_eq_true h14
    refine W.yes (dj := 16) rfl rfl h14 (W.ok (ok_fieldB fd23_1 rfl) (W.yes (dj := 16) rfl rfl h14 (W.ok (ok_loadB (i := 0) (vs := [.int .i64 _]) ty3 rfl rfl rfl rfl (by simp)) (W.yes (dj := 16) rfl rfl h14 (W.ok (ok_leq rfl rfl) (W.ok (ok_pick_t rfl h14) (W.mv ?_)))))))
    refine W.sp 21 rfl (fun h19 => ?_) (fun h19 => ?_)
    ·have p19 := of_decide_eq_true h19
     refine W.yes (dj := 21) rfl rfl h19 (W.ok (ok_fieldB fd23_2 rfl) (W.yes (dj := 21) rfl rfl h19 (W.ok (ok_loadB (i := 0) (vs := [.int .i64 _]) ty3 rfl rfl rfl rfl (by simp)) (W.yes (dj := 21) rfl rfl h19 (W.ok (ok_geq rfl rfl) (W.ok (ok_pick_t rfl h19) (W.mv ?_)))))))
     refine W.sp 26 rfl (fun h24 => ?_) (fun h24 => ?_)
     ·have p24 := of_decide_eq_true h24
      refine W.yes (dj := 26) rfl rfl h24 (W.ok (ok_fieldB fd23_2 rfl) (W.yes (dj := 26) rfl rfl h24 (W.ok (ok_loadB (i := 0) (vs := [.int .i64 _]) ty3 rfl rfl rfl rfl (by simp)) (W.yes (dj := 26) rfl rfl h24 (W.ok (ok_leq rfl rfl) (W.ok (ok_pick_t rfl h24) (W.mv ?_)))))))
      refine W.sp 31 rfl (fun h29 => ?_) (fun h29 => ?_)
      ·have p29 := of_decide_eq_true h29
       refine W.yes (dj := 31) rfl rfl h29 (W.ok (ok_fieldB fd23_3 rfl) (W.yes (dj := 31) rfl rfl h29 (W.ok (ok_loadB (i := 0) (vs := [.int .i64 _]) ty3 rfl rfl rfl rfl (by simp)) (W.yes (dj := 31) rfl rfl h29 (W.ok (ok_geq rfl rfl) (W.ok (ok_pick_t rfl h29) (W.mv ?_)))))))
       refine W.sp 36 rfl (fun h34 => ?_) (fun h34 => ?_)
       ·have p34 := of_decide_eq_true h34
        refine W.yes (dj := 36) rfl rfl h34 (W.ok (ok_fieldB fd23_3 rfl) (W.yes (dj := 36) rfl rfl h34 (W.ok (ok_loadB (i := 0) (vs := [.int .i64 _]) ty3 rfl rfl rfl rfl (by simp)) (W.yes (dj := 36) rfl rfl h34 (W.ok (ok_leq rfl rfl) (W.ok (ok_pick_t rfl h34) (W.mv ?_)))))))
        refine W.sp 41 rfl (fun h39 => ?_) (fun h39 => ?_)
        ·have p39 := of_decide_eq_true h39
         refine W.yes (dj := 41) rfl rfl h39 (W.ok (ok_fieldB fd23_4 rfl) (W.yes (dj := 41) rfl rfl h39 (W.ok (ok_loadB (i := 0) (vs := [.int .i64 _]) ty3 rfl rfl rfl rfl (by simp)) (W.yes (dj := 41) rfl rfl h39 (W.ok (ok_geq rfl rfl) (W.ok (ok_pick_t rfl h39) (W.mv ?_)))))))
         refine W.sp 46 rfl (fun h44 => ?_) (fun h44 => ?_)
         ·have p44 := of_decide_eq_true h44
          refine W.yes (dj := 46) rfl rfl h44 (W.ok (ok_fieldB fd23_4 rfl) (W.yes (dj := 46) rfl rfl h44 (W.ok (ok_loadB (i := 0) (vs := [.int .i64 _]) ty3 rfl rfl rfl rfl (by simp)) (W.yes (dj := 46) rfl rfl h44 (W.ok (ok_leq rfl rfl) (W.ok (ok_pick_t rfl h44) (W.as (W.nil (thn_n (WC.ret ?_))))))))))
          refine ⟨.inr rfl, [_], ⟨rfl, trivial⟩, [], sn9, ?_⟩
          refine congrArg Value.bool ?_
          rw [Bool.eq_iff_iff, decide_eq_true_iff]
          simp only [CfgR]
          first | (simp_all; done) | (simp_all; omega)
         have p44 := of_decide_eq_false h44
         refine W.no (dj := 46) rfl rfl h44 (W.no (dj := 46) rfl rfl h44 (W.no (dj := 46) rfl rfl h44 (W.ok (ok_pick_f rfl h44) (W.as (W.nil (thn_n (WC.ret ?_)))))))
         refine ⟨.inr rfl, [_], ⟨rfl, trivial⟩, [], sn9, ?_⟩
         refine congrArg Value.bool ?_
         rw [Bool.eq_iff_iff, decide_eq_true_iff]
         simp only [CfgR]
         first | (simp_all; done) | (simp_all; omega)
        have p39 := of_decide_eq_false h39
        refine W.no (dj := 41) rfl rfl h39 (W.no (dj := 41) rfl rfl h39 (W.no (dj := 41) rfl rfl h39 (W.ok (ok_pick_f rfl h39) (W.mv (W.no (dj := 46) rfl rfl rfl (W.no (dj := 46) rfl rfl rfl (W.no (dj := 46) rfl rfl rfl (W.ok (ok_pick_f rfl rfl) (W.as (W.nil (thn_n (WC.ret ?_))))))))))))
        refine ⟨.inr rfl, [_], ⟨rfl, trivial⟩, [], sn9, ?_⟩
        refine congrArg Value.bool ?_
        rw [Bool.eq_iff_iff, decide_eq_true_iff]
        simp only [CfgR]
        first | (simp_all; done) | (simp_all; omega)
       have p34 := of_decide_eq_false h34
       refine W.no (dj := 36) rfl rfl h34 (W.no (dj := 36) rfl rfl h34 (W.no (dj := 36) rfl rfl h34 (W.ok (ok_pick_f rfl h34) (W.mv (W.no (dj := 41) rfl rfl rfl (W.no (dj := 41) rfl rfl rfl (W.no (dj := 41) rfl rfl rfl (W.ok (ok_pick_f rfl rfl) (W.mv (W.no (dj := 46) rfl rfl rfl (W.no (dj := 46) rfl rfl rfl (W.no (dj := 46) rfl rfl rfl (W.ok (ok_pick_f rfl rfl) ?_)))))))))))))
       refine W.as (W.nil (thn_n (WC.ret ?_)))
       refine ⟨.inr rfl, [_], ⟨rfl, trivial⟩, [], sn9, ?_⟩
       refine congrArg Value.bool ?_
       rw [Bool.eq_iff_iff, decide_eq_true_iff]
       simp only [CfgR]
       first | (simp_all; done) | (simp_all; omega)
      have p29 := of_decide_eq_false h29
      refine W.no (dj := 31) rfl rfl h29 (W.no (dj := 31) rfl rfl h29 (W.no (dj := 31) rfl rfl h29 (W.ok (ok_pick_f rfl h29) (W.mv (W.no (dj := 36) rfl rfl rfl (W.no (dj := 36) rfl rfl rfl (W.no (dj := 36) rfl rfl rfl (W.ok (ok_pick_f rfl rfl) (W.mv (W.no (dj := 41) rfl rfl rfl (W.no (dj := 41) rfl rfl rfl (W.no (dj := 41) rfl rfl rfl (W.ok (ok_pick_f rfl rfl) ?_)))))))))))))
      refine W.mv (W.no (dj := 46) rfl rfl rfl (W.no (dj := 46) rfl rfl rfl (W.no (dj := 46) rfl rfl rfl (W.ok (ok_pick_f rfl rfl) (W.as (W.nil (thn_n (WC.ret ?_))))))))
      refine ⟨.inr rfl, [_], ⟨rfl, trivial⟩, [], sn9, ?_⟩
      refine congrArg Value.bool ?_
      rw [Bool.eq_iff_iff, decide_eq_true_iff]
      simp only [CfgR]
      first | (simp_all; done) | (simp_all; omega)
     have p24 := of_decide_eq_false h24
     refine W.no (dj := 26) rfl rfl h24 (W.no (dj := 26) rfl rfl h24 (W.no (dj := 26) rfl rfl h24 (W.ok (ok_pick_f rfl h24) (W.mv (W.no (dj := 31) rfl rfl rfl (W.no (dj := 31) rfl rfl rfl (W.no (dj := 31) rfl rfl rfl (W.ok (ok_pick_f rfl rfl) (W.mv (W.no (dj := 36) rfl rfl rfl (W.no (dj := 36) rfl rfl rfl (W.no (dj := 36) rfl rfl rfl (W.ok (ok_pick_f rfl rfl) ?_)))))))))))))
     refine W.mv (W.no (dj := 41) rfl rfl rfl (W.no (dj := 41) rfl rfl rfl (W.no (dj := 41) rfl rfl rfl (W.ok (ok_pick_f rfl rfl) (W.mv (W.no (dj := 46) rfl rfl rfl (W.no (dj := 46) rfl rfl rfl (W.no (dj := 46) rfl rfl rfl (W.ok (ok_pick_f rfl rfl) (W.as (W.nil (thn_n (WC.ret ?_)))))))))))))
     refine ⟨.inr rfl, [_], ⟨rfl, trivial⟩, [], sn9, ?_⟩
     refine congrArg Value.bool ?_
     rw [Bool.eq_iff_iff, decide_eq_true_iff]
     simp only [CfgR]
     first | (simp_all; done) | (simp_all; omega)
    have p19 := of_decide_eq_false h19
    refine W.no (dj := 21) rfl rfl h19 (W.no (dj := 21) rfl rfl h19 (W.no (dj := 21) rfl rfl h19 (W.ok (ok_pick_f rfl h19) (W.mv (W.no (dj := 26) rfl rfl rfl (W.no (dj := 26) rfl rfl rfl (W.no (dj := 26) rfl rfl rfl (W.ok (ok_pick_f rfl rfl) (W.mv (W.no (dj := 31) rfl rfl rfl (W.no (dj := 31) rfl rfl rfl (W.no (dj := 31) rfl rfl rfl (W.ok (ok_pick_f rfl rfl) ?_)))))))))))))
    refine W.mv (W.no (dj := 36) rfl rfl rfl (W.no (dj := 36) rfl rfl rfl (W.no (dj := 36) rfl rfl rfl (W.ok (ok_pick_f rfl rfl) (W.mv (W.no (dj := 41) rfl rfl rfl (W.no (dj := 41) rfl rfl rfl (W.no (dj := 41) rfl rfl rfl (W.ok (ok_pick_f rfl rfl) (W.mv (W.no (dj := 46) rfl rfl rfl (W.no (dj := 46) rfl rfl rfl (W.no (dj := 46) rfl rfl rfl ?_)))))))))))))
    refine W.ok (ok_pick_f rfl rfl) (W.as (W.nil (thn_n (WC.ret ?_))))
    refine ⟨.inr rfl, [_], ⟨rfl, trivial⟩, [], sn9, ?_⟩
    refine congrArg Value.bool ?_
    rw [Bool.eq_iff_iff, decide_eq_true_iff]
    simp only [CfgR]
    first | (simp_all; done) | (simp_all; omega)
   have p14 := of_decide_eq_false h14
   refine W.no (dj := 16) rfl rfl h14 (W.no (dj := 16) rfl rfl h14 (W.no (dj := 16) rfl rfl h14 (W.ok (ok_pick_f rfl h14) (W.mv (W.no (dj := 21) rfl rfl rfl (W.no (dj := 21) rfl rfl rfl (W.no (dj := 21) rfl rfl rfl (W.ok (ok_pick_f rfl rfl) (W.mv (W.no (dj := 26) rfl rfl rfl (W.no (dj := 26) rfl rfl rfl (W.no (dj := 26) rfl rfl rfl (W.ok (ok_pick_f rfl rfl) ?_)))))))))))))
   refine W.mv (W.no (dj := 31) rfl rfl rfl (W.no (dj := 31) rfl rfl rfl (W.no (dj := 31) rfl rfl rfl (W.ok (ok_pick_f rfl rfl) (W.mv (W.no (dj := 36) rfl rfl rfl (W.no (dj := 36) rfl rfl rfl (W.no (dj := 36) rfl rfl rfl (W.ok (ok_pick_f rfl rfl) (W.mv (W.no (dj := 41) rfl rfl rfl (W.no (dj := 41) rfl rfl rfl (W.no (dj := 41) rfl rfl rfl ?_)))))))))))))
   refine W.ok (ok_pick_f rfl rfl) (W.mv (W.no (dj := 46) rfl rfl rfl (W.no (dj := 46) rfl rfl rfl (W.no (dj := 46) rfl rfl rfl (W.ok (ok_pick_f rfl rfl) (W.as (W.nil (thn_n (WC.ret ?_)))))))))
   refine ⟨.inr rfl, [_], ⟨rfl, trivial⟩, [], sn9, ?_⟩
   refine congrArg Value.bool ?_
   rw [Bool.eq_iff_iff, decide_eq_true_iff]
   simp only [CfgR]
   first | (simp_all; done) | (simp_all; omega)
  have p9 := of_decide_eq_false h9
  refine W.no (dj := 11) rfl rfl h9 (W.no (dj := 11) rfl rfl h9 (W.no (dj := 11) rfl rfl h9 (W.ok (ok_pick_f rfl h9) (W.mv (W.no (dj := 16) rfl rfl rfl (W.no (dj := 16) rfl rfl rfl (W.no (dj := 16) rfl rfl rfl (W.ok (ok_pick_f rfl rfl) (W.mv (W.no (dj := 21) rfl rfl rfl (W.no (dj := 21) rfl rfl rfl (W.no (dj := 21) rfl rfl rfl (W.ok (ok_pick_f rfl rfl) ?_)))))))))))))
  refine W.mv (W.no (dj := 26) rfl rfl rfl (W.no (dj := 26) rfl rfl rfl (W.no (dj := 26) rfl rfl rfl (W.ok (ok_pick_f rfl rfl) (W.mv (W.no (dj := 31) rfl rfl rfl (W.no (dj := 31) rfl rfl rfl (W.no (dj := 31) rfl rfl rfl (W.ok (ok_pick_f rfl rfl) (W.mv (W.no (dj := 36) rfl rfl rfl (W.no (dj := 36) rfl rfl rfl (W.no (dj := 36) rfl rfl rfl ?_)))))))))))))
  refine W.ok (ok_pick_f rfl rfl) (W.mv (W.no (dj := 41) rfl rfl rfl (W.no (dj := 41) rfl rfl rfl (W.no (dj := 41) rfl rfl rfl (W.ok (ok_pick_f rfl rfl) (W.mv (W.no (dj := 46) rfl rfl rfl (W.no (dj := 46) rfl rfl rfl (W.no (dj := 46) rfl rfl rfl (W.ok (ok_pick_f rfl rfl) (W.as (W.nil (thn_n (WC.ret ?_))))))))))))))
  refine ⟨.inr rfl, [_], ⟨rfl, trivial⟩, [], sn9, ?_⟩
  refine congrArg Value.bool ?_
  rw [Bool.eq_iff_iff, decide_eq_true_iff]
  simp only [CfgR]
  first | (simp_all; done) | (simp_all; omega)
 have p5 := of_decide_eq_false h5
 refine W.no (dj := 6) rfl rfl h5 (W.no (dj := 6) rfl rfl h5 (W.no (dj := 6) rfl rfl h5 (W.ok (ok_pick_f rfl h5) (W.mv (W.no (dj := 11) rfl rfl rfl (W.no (dj := 11) rfl rfl rfl (W.no (dj := 11) rfl rfl rfl (W.ok (ok_pick_f rfl rfl) (W.mv (W.no (dj := 16) rfl rfl rfl (W.no (dj := 16) rfl rfl rfl (W.no (dj := 16) rfl rfl rfl (W.ok (ok_pick_f rfl rfl) ?_)))))))))))))
 refine W.mv (W.no (dj := 21) rfl rfl rfl (W.no (dj := 21) rfl rfl rfl (W.no (dj := 21) rfl rfl rfl (W.ok (ok_pick_f rfl rfl) (W.mv (W.no (dj := 26) rfl rfl rfl (W.no (dj := 26) rfl rfl rfl (W.no (dj := 26) rfl rfl rfl (W.ok (ok_pick_f rfl rfl) (W.mv (W.no (dj := 31) rfl rfl rfl (W.no (dj := 31) rfl rfl rfl (W.no (dj := 31) rfl rfl rfl ?_)))))))))))))
 refine W.ok (ok_pick_f rfl rfl) (W.mv (W.no (dj := 36) rfl rfl rfl (W.no (dj := 36) rfl rfl rfl (W.no (dj := 36) rfl rfl rfl (W.ok (ok_pick_f rfl rfl) (W.mv (W.no (dj := 41) rfl rfl rfl (W.no (dj := 41) rfl rfl rfl (W.no (dj := 41) rfl rfl rfl (W.ok (ok_pick_f rfl rfl) (W.mv (W.no (dj := 46) rfl rfl rfl (W.no (dj := 46) rfl rfl rfl ?_)))))))))))))
 refine W.no (dj := 46) rfl rfl rfl (W.ok (ok_pick_f rfl rfl) (W.as (W.nil (thn_n (WC.ret ?_)))))
 refine ⟨.inr rfl, [_], ⟨rfl, trivial⟩, [], sn9, ?_⟩
 refine congrArg Value.bool ?_
 rw [Bool.eq_iff_iff, decide_eq_true_iff]
 simp only [CfgR]
 first | (simp_all; done) | (simp_all; omega)

end Go.Proofs.YtebkfinhhpelbaaGreat
namespace Go.Proofs.YtebkfinhhpelbaaGreat
open Go Go.Fw Go.RowKit
theorem light_fc {G : GH} {v_l : Value} {l : List Nd} (h_l : SlR eNode G v_l l) (n : Int) (m : Int) (hm : 0 ≤ m ∧ m ≤ 1073741824) :
    Fc Tryz.prog 53 [v_l, .int .i64 n, .int .i64 m] G [] (fun v _ _ => v = .bool (decide (Light l n m))) := by
 obtain ⟨sa_l, sc_l, rfl⟩ := h_l.form
 have hl := h_l.len47
 refine Fc.intro (rs := [.tmp 6]) cl53 Tryz.func53 rfl Tryz.ntmps53 rfl rfl (fun w0 => ?_)
 refine WC.seq (WC.region (W.as (W.nil (thn_n (WC.seq (WC.seq (WC.region (W.mv (W.ok (ok_len sl24 h_l rfl) (W.mv (W.ok (ok_gtr rfl rfl) (W.nil (thn_n ?_)))))))))))))
 refine WC.cond (b := _) rfl (fun h11 => ?_) (fun h11 => ?_)
 ·have p11 := of_decide_eq_true h11
  refine WC.seq (WC.region (W.as (W.nil (thn_n (WC.ret (thn_r ?_))))))
  refine ⟨.inr rfl, [_], ⟨rfl, trivial⟩, [], sn9, ?_⟩
  refine congrArg Value.bool ?_
  exact (decide_eq_false fun h => by have := h.1; omega).symm
 have p11 := of_decide_eq_false h11
 refine WC.skip (thn_n (WC.seq (WC.seq (WC.region (W.as (W.nil (thn_n (WC.block ?_))))))))
 refine WC.loop (X := Nat) (fun k => [(7, .int .i64 ((k : Nat) : Int)), (0, .slice sa_l l.length sc_l), (1, .int .i64 n), (2, .int .i64 m)]) (fun k _ Ml => Ml = [] ∧ ∀ i (h : i < l.length), i < k → l[i].light m) (fun k => l.length - k) 0 ⟨eqv, eqv, eqv, eqv, trivial⟩ ?_ ?_
 ·exact ⟨rfl, fun i _ h => by omega⟩
 rintro k gG12 G12 _ hG12 ⟨rfl, hk⟩
 refine WC.seq (WC.seq (WC.region (W.mv (W.mv (W.ok (ok_len sl24 (h_l.mono hG12) rfl) (W.ok (ok_lss rfl rfl) (W.nil (thn_n ?_))))))))
 refine WC.cond (b := _) rfl (fun h15 => ?_) (fun h15 => ?_)
 ·have p15 := of_decide_eq_true h15
  refine WC.skip (thn_n (WC.seq (WC.block (WC.seq (WC.region (W.mv (W.mv ?_)))))))
  have q16 := (h_l.mono hG12).at (i := k) (by omega)
  refine match q16 with | ⟨_, he13, ⟨pa_n14, pc_n14, ka_n14, kc_n14, ma_n14, mc_n14, ra_n14, rc_n14, e_15, hp_n14, hk_n14, hm_n14, hr_n14, hok_n14⟩⟩ => ?_
  subst e_15
  refine W.ok (ok_indexAddr (i := k) sl24 ty47 (h_l.mono hG12) rfl rfl ⟨by omega, by omega⟩) (W.ok (ok_fieldE fd47_9 rfl he13.form) (W.ok (ok_loadE (vs := [.slice _ _ _]) ty41 he13 rfl rfl rfl (by simp)) (W.mv (W.qcall (longp_fc hr_n14 _ (by omega)) rfl (W.ok (ok_not rfl) (W.mv ?_))))))
  refine W.sp 26 rfl (fun h25 => ?_) (fun h25 => ?_)
  ·refine W.no (dj := 26) rfl rfl h25 (W.no (dj := 26) rfl rfl h25 (W.no (dj := 26) rfl rfl h25 (W.no (dj := 26) rfl rfl h25 (W.no (dj := 26) rfl rfl h25 (W.no (dj := 26) rfl rfl h25 (W.no (dj := 26) rfl rfl h25 (W.no (dj := 26) rfl rfl h25 (W.no (dj := 26) rfl rfl h25 (W.ok (ok_pick_t rfl h25) (W.mv (W.no (dj := 37) rfl rfl rfl (W.no (dj := 37) rfl rfl rfl (W.no (dj := 37) rfl rfl rfl ?_)))))))))))))
   refine W.no (dj := 37) rfl rfl rfl (W.no (dj := 37) rfl rfl rfl (W.no (dj := 37) rfl rfl rfl (W.no (dj := 37) rfl rfl rfl (W.no (dj := 37) rfl rfl rfl (W.ok (ok_pick_t rfl rfl) (W.mv (W.no (dj := 47) rfl rfl rfl (W.no (dj := 47) rfl rfl rfl (W.no (dj := 47) rfl rfl rfl (W.no (dj := 47) rfl rfl rfl (W.no (dj := 47) rfl rfl rfl (W.no (dj := 47) rfl rfl rfl (W.no (dj := 47) rfl rfl rfl ?_)))))))))))))
   refine W.no (dj := 47) rfl rfl rfl (W.ok (ok_pick_t rfl rfl) (W.mv (W.no (dj := 57) rfl rfl rfl (W.no (dj := 57) rfl rfl rfl (W.no (dj := 57) rfl rfl rfl (W.no (dj := 57) rfl rfl rfl (W.no (dj := 57) rfl rfl rfl (W.no (dj := 57) rfl rfl rfl (W.no (dj := 57) rfl rfl rfl (W.no (dj := 57) rfl rfl rfl (W.ok (ok_pick_t rfl rfl) (W.nil (thn_n (WC.cond_t rfl rfl ?_))))))))))))))
   refine WC.seq (WC.region (W.as (W.nil (thn_n (WC.ret (blk_r (thn_r (thn_r (blk_r (thn_r ?_))))))))))
   refine ⟨.inr rfl, [_], ⟨rfl, trivial⟩, [], sn9, ?_⟩
   refine congrArg Value.bool ?_
   exact (decide_eq_false fun h => by obtain ⟨q1, q2, q3, q4, q5⟩ := h.2 k (by omega); first | omega | (simp at h25; omega) | (simp at h55; omega)).symm
  refine W.yes (dj := 26) rfl rfl h25 (W.mv (W.yes (dj := 26) rfl rfl h25 (W.mv (W.yes (dj := 26) rfl rfl h25 ?_))))
  have q20 := (h_l.mono hG12).at (i := k) (by omega)
  refine match q20 with | ⟨_, he17, ⟨pa_n18, pc_n18, ka_n18, kc_n18, ma_n18, mc_n18, ra_n18, rc_n18, e_19, hp_n18, hk_n18, hm_n18, hr_n18, hok_n18⟩⟩ => ?_
  subst e_19
  refine W.ok (ok_indexAddr (i := k) sl24 ty47 (h_l.mono hG12) rfl rfl ⟨by omega, by omega⟩) (W.yes (dj := 26) rfl rfl h25 (W.ok (ok_fieldE fd47_2 rfl he17.form) (W.yes (dj := 26) rfl rfl h25 (W.ok (ok_loadE (vs := [.slice _ _ _]) ty43 he17 rfl rfl rfl (by simp)) (W.yes (dj := 26) rfl rfl h25 (W.mv (W.yes (dj := 26) rfl rfl h25 (W.qcall (rlong_fc hp_n18 _ (by omega)) rfl (W.yes (dj := 26) rfl rfl h25 (W.mv (W.yes (dj := 26) rfl rfl h25 (W.ok (ok_gtr rfl rfl) (W.ok (ok_pick_f rfl h25) ?_)))))))))))))
  refine W.mv ?_
  refine W.sp 37 rfl (fun h35 => ?_) (fun h35 => ?_)
  ·have p35 := of_decide_eq_true h35
   refine W.no (dj := 37) rfl rfl h35 (W.no (dj := 37) rfl rfl h35 (W.no (dj := 37) rfl rfl h35 (W.no (dj := 37) rfl rfl h35 (W.no (dj := 37) rfl rfl h35 (W.no (dj := 37) rfl rfl h35 (W.no (dj := 37) rfl rfl h35 (W.no (dj := 37) rfl rfl h35 (W.ok (ok_pick_t rfl h35) (W.mv (W.no (dj := 47) rfl rfl rfl (W.no (dj := 47) rfl rfl rfl (W.no (dj := 47) rfl rfl rfl (W.no (dj := 47) rfl rfl rfl ?_)))))))))))))
   refine W.no (dj := 47) rfl rfl rfl (W.no (dj := 47) rfl rfl rfl (W.no (dj := 47) rfl rfl rfl (W.no (dj := 47) rfl rfl rfl (W.ok (ok_pick_t rfl rfl) (W.mv (W.no (dj := 57) rfl rfl rfl (W.no (dj := 57) rfl rfl rfl (W.no (dj := 57) rfl rfl rfl (W.no (dj := 57) rfl rfl rfl (W.no (dj := 57) rfl rfl rfl (W.no (dj := 57) rfl rfl rfl (W.no (dj := 57) rfl rfl rfl (W.no (dj := 57) rfl rfl rfl ?_)))))))))))))
   refine W.ok (ok_pick_t rfl rfl) (W.nil (thn_n (WC.cond_t rfl rfl (WC.seq (WC.region (W.as (W.nil (thn_n (WC.ret (blk_r (thn_r (thn_r (blk_r (thn_r ?_))))))))))))))
   refine ⟨.inr rfl, [_], ⟨rfl, trivial⟩, [], sn9, ?_⟩
   refine congrArg Value.bool ?_
   exact (decide_eq_false fun h => by obtain ⟨q1, q2, q3, q4, q5⟩ := h.2 k (by omega); first | omega | (simp at h25; omega) | (simp at h55; omega)).symm
  have p35 := of_decide_eq_false h35
  refine W.yes (dj := 37) rfl rfl h35 (W.mv (W.yes (dj := 37) rfl rfl h35 (W.mv (W.yes (dj := 37) rfl rfl h35 ?_))))
  have q24 := (h_l.mono hG12).at (i := k) (by omega)
  refine match q24 with | ⟨_, he21, ⟨pa_n22, pc_n22, ka_n22, kc_n22, ma_n22, mc_n22, ra_n22, rc_n22, e_23, hp_n22, hk_n22, hm_n22, hr_n22, hok_n22⟩⟩ => ?_
  subst e_23
  refine W.ok (ok_indexAddr (i := k) sl24 ty47 (h_l.mono hG12) rfl rfl ⟨by omega, by omega⟩) (W.yes (dj := 37) rfl rfl h35 (W.ok (ok_fieldE fd47_3 rfl he21.form) (W.yes (dj := 37) rfl rfl h35 (W.ok (ok_loadE (vs := [.slice _ _ _]) ty44 he21 rfl rfl rfl (by simp)) (W.yes (dj := 37) rfl rfl h35 (W.ok (ok_len sl44 hk_n22 rfl) (W.yes (dj := 37) rfl rfl h35 (W.mv (W.yes (dj := 37) rfl rfl h35 (W.ok (ok_gtr rfl rfl) (W.ok (ok_pick_f rfl h35) (W.mv ?_))))))))))))
  refine W.sp 47 rfl (fun h45 => ?_) (fun h45 => ?_)
  ·have p45 := of_decide_eq_true h45
   refine W.no (dj := 47) rfl rfl h45 (W.no (dj := 47) rfl rfl h45 (W.no (dj := 47) rfl rfl h45 (W.no (dj := 47) rfl rfl h45 (W.no (dj := 47) rfl rfl h45 (W.no (dj := 47) rfl rfl h45 (W.no (dj := 47) rfl rfl h45 (W.no (dj := 47) rfl rfl h45 (W.ok (ok_pick_t rfl h45) (W.mv (W.no (dj := 57) rfl rfl rfl (W.no (dj := 57) rfl rfl rfl (W.no (dj := 57) rfl rfl rfl (W.no (dj := 57) rfl rfl rfl ?_)))))))))))))
   refine W.no (dj := 57) rfl rfl rfl (W.no (dj := 57) rfl rfl rfl (W.no (dj := 57) rfl rfl rfl (W.no (dj := 57) rfl rfl rfl (W.ok (ok_pick_t rfl rfl) (W.nil (thn_n (WC.cond_t rfl rfl (WC.seq (WC.region (W.as (W.nil (thn_n (WC.ret (blk_r (thn_r (thn_r (blk_r (thn_r ?_))))))))))))))))))
   refine ⟨.inr rfl, [_], ⟨rfl, trivial⟩, [], sn9, ?_⟩
   refine congrArg Value.bool ?_
   exact (decide_eq_false fun h => by obtain ⟨q1, q2, q3, q4, q5⟩ := h.2 k (by omega); first | omega | (simp at h25; omega) | (simp at h55; omega)).symm
  have p45 := of_decide_eq_false h45
  refine W.yes (dj := 47) rfl rfl h45 (W.mv (W.yes (dj := 47) rfl rfl h45 (W.mv (W.yes (dj := 47) rfl rfl h45 ?_))))
  have q28 := (h_l.mono hG12).at (i := k) (by omega)
  refine match q28 with | ⟨_, he25, ⟨pa_n26, pc_n26, ka_n26, kc_n26, ma_n26, mc_n26, ra_n26, rc_n26, e_27, hp_n26, hk_n26, hm_n26, hr_n26, hok_n26⟩⟩ => ?_
  subst e_27
  refine W.ok (ok_indexAddr (i := k) sl24 ty47 (h_l.mono hG12) rfl rfl ⟨by omega, by omega⟩) (W.yes (dj := 47) rfl rfl h45 (W.ok (ok_fieldE fd47_8 rfl he25.form) (W.yes (dj := 47) rfl rfl h45 (W.ok (ok_loadE (vs := [.slice _ _ _]) ty45 he25 rfl rfl rfl (by simp)) (W.yes (dj := 47) rfl rfl h45 (W.mv (W.yes (dj := 47) rfl rfl h45 (W.qcall (few_fc hm_n26 _ (by omega)) rfl (W.yes (dj := 47) rfl rfl h45 (W.ok (ok_not rfl) (W.ok (ok_pick_f rfl h45) (W.mv ?_))))))))))))
  refine W.sp 57 rfl (fun h55 => ?_) (fun h55 => ?_)
  ·refine W.no (dj := 57) rfl rfl h55 (W.no (dj := 57) rfl rfl h55 (W.no (dj := 57) rfl rfl h55 (W.no (dj := 57) rfl rfl h55 (W.no (dj := 57) rfl rfl h55 (W.no (dj := 57) rfl rfl h55 (W.no (dj := 57) rfl rfl h55 (W.no (dj := 57) rfl rfl h55 (W.ok (ok_pick_t rfl h55) (W.nil (thn_n (WC.cond_t rfl rfl (WC.seq (WC.region (W.as ?_))))))))))))))
   refine W.nil (thn_n (WC.ret (blk_r (thn_r (thn_r (blk_r (thn_r ?_)))))))
   refine ⟨.inr rfl, [_], ⟨rfl, trivial⟩, [], sn9, ?_⟩
   refine congrArg Value.bool ?_
   exact (decide_eq_false fun h => by obtain ⟨q1, q2, q3, q4, q5⟩ := h.2 k (by omega); first | omega | (simp at h25; omega) | (simp at h55; omega)).symm
  refine W.yes (dj := 57) rfl rfl h55 (W.mv (W.yes (dj := 57) rfl rfl h55 (W.mv (W.yes (dj := 57) rfl rfl h55 ?_))))
  have q32 := (h_l.mono hG12).at (i := k) (by omega)
  refine match q32 with | ⟨_, he29, ⟨pa_n30, pc_n30, ka_n30, kc_n30, ma_n30, mc_n30, ra_n30, rc_n30, e_31, hp_n30, hk_n30, hm_n30, hr_n30, hok_n30⟩⟩ => ?_
  subst e_31
  refine W.ok (ok_indexAddr (i := k) sl24 ty47 (h_l.mono hG12) rfl rfl ⟨by omega, by omega⟩) (W.yes (dj := 57) rfl rfl h55 (W.ok (ok_fieldE fd47_4 rfl he29.form) (W.yes (dj := 57) rfl rfl h55 (W.ok (ok_loadE (vs := [.string _]) ty9 he29 rfl rfl rfl (by simp)) (W.yes (dj := 57) rfl rfl h55 (W.ok (ok_lenS st9 rfl) (W.yes (dj := 57) rfl rfl h55 (W.mv (W.yes (dj := 57) rfl rfl h55 (W.ok (ok_gtr rfl rfl) (W.ok (ok_pick_f rfl h55) (W.nil (thn_n ?_)))))))))))))
  refine WC.cond (b := _) rfl (fun h65 => ?_) (fun h65 => ?_)
  ·have p65 := of_decide_eq_true h65
   refine WC.seq (WC.region (W.as (W.nil (thn_n (WC.ret (blk_r (thn_r (thn_r (blk_r (thn_r ?_))))))))))
   refine ⟨.inr rfl, [_], ⟨rfl, trivial⟩, [], sn9, ?_⟩
   refine congrArg Value.bool ?_
   exact (decide_eq_false fun h => by obtain ⟨q1, q2, q3, q4, q5⟩ := h.2 k (by omega); first | omega | (simp at h25; omega) | (simp at h55; omega)).symm
  have p65 := of_decide_eq_false h65
  refine WC.skip (blk_n (thn_n (WC.region (W.mv (W.ok (ok_add rfl rfl (by omega)) (W.as (W.nil (thn_n ?_))))))))
  exact ⟨Le.rfl, k + 1, ⟨eqv, eqv, eqv, eqv, trivial⟩, ⟨rfl, fun i h hi => by
      by_cases e : i = k
      · subst e; exact ⟨by simpa using h25, by omega, by omega, by simpa using h55, by omega⟩
      · exact hk i h (by omega)⟩, by omega⟩
 have p15 := of_decide_eq_false h15
 refine WC.exit (thn_x (thn_x (blk_h (thn_n (WC.seq (WC.region (W.as (W.nil (thn_n (WC.ret ?_))))))))))
 refine ⟨.inr rfl, [_], ⟨rfl, trivial⟩, [], sn9, ?_⟩
 refine congrArg Value.bool ?_
 exact (decide_eq_true ⟨by omega, fun i h => hk i h (by omega)⟩).symm

end Go.Proofs.YtebkfinhhpelbaaGreat
