/- Walks of how far the second map lacks rows. -/
import Derived.Test.YtlkdcbmdihefpaaWu
import Derived.Test.YtlkdcbmdihefpaaMz
namespace Go.Proofs.Ytlkdcbmdihefpaa
open Go Go.Fw Go.RowKit
set_option maxRecDepth 100000
set_option maxHeartbeats 1600000
set_option linter.unusedVariables false
set_option linter.unusedSimpArgs false
set_option linter.unnecessarySimpa false
theorem str1_fc {G : GH} (rk : Str) (ra : Str) (rb : Str) (ria : Bool) (rib : Bool) :
    Fc Try.prog 24 [.agg #[.string rk.b, .string ra.b, .string rb.b, .bool ria, .bool rib]] G [] (fun v _ _ => v = .bool (rib)) := by
 refine Fc.intro (rs := [.tmp 2]) cl24 Try.func24 rfl Try.ntmps24 rfl rfl (fun w0 => ?_)
 refine WC.seq ?_
 refine WC.region ?_
 refine W.box (L := [.string _, .string _, .string _, .bool _, .bool _]) rfl rfl (fun b1 => ?_)
 refine W.as ?_
 refine W.nil (thn_n ?_)
 refine WC.seq ?_
 refine WC.region ?_
 refine W.ok (ok_fieldB fd42_4 rfl) ?_
 refine W.ok (ok_loadB (i := 0) (vs := [.bool _]) ty4 rfl rfl rfl rfl (by simp)) ?_
 refine W.as ?_
 refine W.nil (thn_n ?_)
 refine WC.ret ?_
 refine ⟨.inr rfl, [_], ⟨rfl, trivial⟩, [], List.nil_sublist _, ?_⟩
 rfl

theorem ixrow_fc {G : GH} {v_l : Value} {l : List Drow} (h_l : SlR eRow G v_l l) :
    Fc Try.prog 23 [v_l, .func (.func 24) #[] #[]] G [] (fun v _ _ => v = .int .i64 (sxN l)) := by
 obtain ⟨sa_l, sc_l, rfl⟩ := h_l.form
 have hl := h_l.len47
 refine Fc.intro (rs := [.tmp 4]) cl23 Try.func23 rfl Try.ntmps23 rfl rfl (fun w0 => ?_)
 refine WC.seq ?_
 refine WC.region ?_
 refine W.as ?_
 refine W.nil (thn_n ?_)
 refine WC.seq ?_
 refine WC.seq ?_
 refine WC.region ?_
 refine W.mv ?_
 refine W.ok (ok_len sl39 h_l rfl) ?_
 refine W.mv ?_
 refine W.nil (thn_n ?_)
 refine WC.block ?_
 refine WC.loop (X := Nat) (fun k => [(8, .int .i64 ((k : Nat) : Int)), (0, .slice sa_l l.length sc_l), (1, .func (.func 24) #[] #[]), (7, .int .i64 (((l).length : Nat) : Int))]) (fun k _ Ml => Ml = [] ∧ k ≤ l.length ∧ ∀ j (h : j < l.length), j < k → l[j].inB = false) (fun k => l.length - k) 0 ⟨(by first | rfl | exact iv (by dsimp only; omega) | exact iv (by omega)), (by first | rfl | exact iv (by dsimp only; omega) | exact iv (by omega)), (by first | rfl | exact iv (by dsimp only; omega) | exact iv (by omega)), (by first | rfl | exact iv (by dsimp only; omega) | exact iv (by omega)), trivial⟩ ?_ ?_
 ·exact ⟨rfl, by omega, fun j _ h => by omega⟩
 ·rintro k gG2 G2 _ hG2 ⟨rfl, hk, hj⟩
  refine WC.seq ?_
  refine WC.region ?_
  refine W.ok (ok_lss rfl rfl) ?_
  refine W.nil (thn_n ?_)
  refine WC.seq ?_
  refine WC.cond (b := _) rfl (fun h9 => ?_) (fun h9 => ?_)
  ·have p9 := of_decide_eq_true h9
   refine WC.skip (thn_n ?_)
   refine WC.seq ?_
   refine WC.block ?_
   refine WC.seq ?_
   refine WC.region ?_
   refine W.mv ?_
   refine W.as ?_
   refine W.nil (thn_n ?_)
   refine WC.seq ?_
   refine WC.region ?_
   refine W.mv ?_
   refine W.mv ?_
   refine W.mv ?_
   have q7 := (h_l.mono hG2).at (i := k) (by omega)
   refine match q7 with | ⟨_, he3, e_6⟩ => ?_
   subst e_6
   refine W.ok (ok_indexAddr (i := k) sl39 ty42 (h_l.mono hG2) rfl rfl ⟨by omega, by omega⟩) ?_
   refine W.ok (ok_loadE (vs := [.string _, .string _, .string _, .bool _, .bool _]) ty42 he3 rfl rfl rfl (by simp)) ?_
   refine W.qcallV (fst := []) (caps := []) rfl (str1_fc _ _ _ _ _) rfl ?_
   refine W.nil (thn_n ?_)
   refine WC.cond (b := _) rfl (fun h16 => ?_) (fun h16 => ?_)
   ·refine WC.seq ?_
    refine WC.region ?_
    refine W.mv ?_
    refine W.as ?_
    refine W.nil (thn_n ?_)
    refine WC.ret (blk_r (thn_r (thn_r (blk_r (thn_r ?_)))))
    refine ⟨.inr rfl, [_], ⟨rfl, trivial⟩, [], List.nil_sublist _, ?_⟩
    refine congrArg (Value.int .i64) ?_
    exact (sxN_at (by omega) hj h16).symm
   ·refine WC.skip (blk_n (thn_n ?_))
    refine WC.region ?_
    refine W.ok (ok_add rfl rfl (by omega)) ?_
    refine W.mv ?_
    refine W.nil (thn_n ?_)
    exact ⟨Le.rfl, k + 1, ⟨(by first | rfl | exact iv (by dsimp only; omega) | exact iv (by omega)), (by first | rfl | exact iv (by dsimp only; omega) | exact iv (by omega)), (by first | rfl | exact iv (by dsimp only; omega) | exact iv (by omega)), (by first | rfl | exact iv (by dsimp only; omega) | exact iv (by omega)), trivial⟩, ⟨rfl, by omega, fun j h hji => by
      by_cases e2 : j = k
      · subst e2; exact h16
      · exact hj j h (by omega)⟩, by omega⟩
  ·have p9 := of_decide_eq_false h9
   refine WC.exit (thn_x (thn_x (blk_h (thn_n ?_))))
   refine WC.seq ?_
   refine WC.region ?_
   refine W.as ?_
   refine W.nil (thn_n ?_)
   refine WC.ret ?_
   refine ⟨.inr rfl, [_], ⟨rfl, trivial⟩, [], List.nil_sublist _, ?_⟩
   refine congrArg (Value.int .i64) ?_
   exact (sxN_no (fun j h => hj j h (by omega))).symm

theorem stretch_fc {G : GH} {v_l : Value} {l : List Drow} (h_l : SlR eRow G v_l l) :
    Fc Try.prog 17 [v_l] G [] (fun v _ _ => v = .int .i64 ((strN l : Nat) : Int)) := by
 obtain ⟨sa_l, sc_l, rfl⟩ := h_l.form
 have hl := h_l.len47
 refine Fc.intro (rs := [.tmp 2]) cl17 Try.func17 rfl Try.ntmps17 rfl rfl (fun w0 => ?_)
 refine WC.seq ?_
 refine WC.region ?_
 refine W.as ?_
 refine W.nil (thn_n ?_)
 refine WC.seq ?_
 refine WC.region ?_
 refine W.mv ?_
 refine W.qcall (ixrow_fc h_l) rfl ?_
 refine W.as ?_
 refine W.nil (thn_n ?_)
 refine WC.seq ?_
 refine WC.seq ?_
 refine WC.region ?_
 refine W.mv ?_
 refine W.ok (ok_lss rfl rfl) ?_
 refine W.nil (thn_n ?_)
 refine WC.cond (b := _) rfl (fun h7 => ?_) (fun h7 => ?_)
 ·have p7 := of_decide_eq_true h7
  refine WC.seq ?_
  refine WC.region ?_
  refine W.mv ?_
  refine W.ok (ok_len sl39 h_l rfl) ?_
  refine W.as ?_
  refine W.nil (thn_n ?_)
  refine WC.ret (thn_r ?_)
  refine ⟨.inr rfl, [_], ⟨rfl, trivial⟩, [], List.nil_sublist _, ?_⟩
  refine congrArg (Value.int .i64) ?_
  rw [sxN_lt p7]
 ·have p7 := of_decide_eq_false h7
  refine WC.skip (thn_n ?_)
  refine WC.seq ?_
  refine WC.region ?_
  refine W.mv ?_
  refine W.as ?_
  refine W.nil (thn_n ?_)
  refine WC.ret ?_
  refine ⟨.inr rfl, [_], ⟨rfl, trivial⟩, [], List.nil_sublist _, ?_⟩
  refine congrArg (Value.int .i64) ?_
  exact sxN_nn p7

end Go.Proofs.Ytlkdcbmdihefpaa
