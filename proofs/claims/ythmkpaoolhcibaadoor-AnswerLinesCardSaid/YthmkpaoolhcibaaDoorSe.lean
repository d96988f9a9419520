/- Walks of numbers as digits. -/
import Derived.Test.YthmkpaoolhcibaaDoorSc
import Derived.Test.YthmkpaoolhcibaaDoorSd
import Derived.Test.YthmkpaoolhcibaaDoorPc
namespace Go.Proofs.YthmkpaoolhcibaaDoor
open Go Go.Fw Go.RowKit
set_option maxRecDepth 100000
set_option maxHeartbeats 1600000
set_option linter.unusedVariables false
set_option linter.unusedSimpArgs false
set_option linter.unnecessarySimpa false
theorem itoa_fc {G : GH} (hT : TabG Tryd.prog G) (n : Int) (hn : i64 n) : Fc Tryd.prog 37 [.int .i64 n] G [] (fun v _ _ => v = .string (decN n).b) := by
  have h := itoa_len hn
  rw [decN, mkStr_b (by omega)]
  exact Fc.ofGrow cl37 (fun w hw => Tryd.strconv_Itoa n hn.1 hn.2 w (hT.is hw))
theorem dec_fc {G : GH} (n : Int) (hT : TabG Tryd.prog G) (hn : i64 n) :
    Fc Tryd.prog 18 [.int .i64 n] G [] (fun v _ _ => v = .string (Str.b (decN n))) := by
 refine Fc.intro (rs := [.tmp 2]) cl18 Tryd.func18 rfl Tryd.ntmps18 rfl rfl (fun w0 => ?_)
 refine WC.seq ?_
 refine WC.region ?_
 refine W.as ?_
 refine W.nil (thn_n ?_)
 refine WC.seq ?_
 refine WC.region ?_
 refine W.mv ?_
 refine W.qcall (itoa_fc hT _ hn) rfl ?_
 refine W.as ?_
 refine W.nil (thn_n ?_)
 refine WC.ret ?_
 refine ⟨.inr rfl, [_], ⟨rfl, trivial⟩, [], List.nil_sublist _, ?_⟩
 rfl

theorem rdec_fc {G : GH} (n : Int) (hn : i64 n) :
    Fc Tryd.prog 20 [.int .i64 n] G [] (fun v _ _ => v = .string (Str.b (decN n))) := by
 refine Fc.intro (rs := [.tmp 2]) cl20 Tryd.func20 rfl Tryd.ntmps20 rfl rfl (fun w0 => ?_)
 refine WC.seq ?_
 refine WC.region ?_
 refine W.as ?_
 refine W.nil (thn_n ?_)
 refine WC.seq ?_
 refine WC.region ?_
 refine W.as ?_
 refine W.nil (thn_n ?_)
 refine WC.seq ?_
 refine WC.region ?_
 refine W.mv ?_
 refine W.as ?_
 refine W.nil (thn_n ?_)
 refine WC.seq ?_
 refine WC.block ?_
 refine WC.loop (X := Int × List UInt8) (fun x => [(3, .string (mkStr x.2).b), (4, .int .i64 x.1), (0, .int .i64 n)]) (fun x _ Ml => Ml = [] ∧ (DecI n x.1 x.2 ∨ x.1 = n ∧ x.2 = [])) (fun x => x.1.natAbs) ((n, []) : Int × List UInt8) ⟨(by first | rfl | exact iv (by dsimp only; omega) | exact iv (by omega)), (by first | rfl | exact iv (by dsimp only; omega) | exact iv (by omega)), (by first | rfl | exact iv (by dsimp only; omega) | exact iv (by omega)), trivial⟩ ?_ ?_
 ·exact ⟨rfl, .inr ⟨rfl, rfl⟩⟩
 ·rintro ⟨m, ds⟩ gG1 G1 _ hG1 ⟨rfl, hI⟩
  have hm : i64 m := by
    rcases hI with ⟨_, h, _⟩ | ⟨rfl, _⟩
    · exact h
    · exact hn
  have hta := tmod_abs m
  have hdl : ds.length ≤ 20 := by
    rcases hI with ⟨_, _, h⟩ | ⟨_, rfl⟩
    · exact h
    · simp
  have htd := tdiv_abs m
  refine WC.fr (f := setL gG1 [(3, .string (mkStr ds).b), (4, .int .i64 m), (0, .int .i64 n)]) rfl ?_
  refine WC.block ?_
  refine WC.seq ?_
  refine WC.region ?_
  refine W.mv ?_
  refine W.ok (ok_rem rfl rfl (by decide)) ?_
  refine W.as ?_
  refine W.nil (thn_n ?_)
  refine WC.seq ?_
  refine WC.seq ?_
  refine WC.region ?_
  refine W.mv ?_
  refine W.ok (ok_lss rfl rfl) ?_
  refine W.nil (thn_n ?_)
  refine WC.cond (b := _) rfl (fun h10 => ?_) (fun h10 => ?_)
  ·have p10 := of_decide_eq_true h10
   refine WC.region ?_
   refine W.mv ?_
   refine W.ok (ok_negI rfl (by omega)) ?_
   refine W.as ?_
   refine W.nil (thn_n ?_)
   refine WC.seq ?_
   refine WC.region ?_
   refine W.mv ?_
   refine W.ok (ok_add rfl rfl (by omega)) ?_
   refine W.ok (Ok.int (ok_convU8 un3 un5 rfl (by omega)) (n := (((dgB m.natAbs).toNat : Nat) : Int)) (by rw [dgB_nat]; omega)) ?_
   refine W.lit (e := eU8) (l := [dgB m.natAbs]) (css := [[.int .u8 _]]) sl65 ty5 zr5 rfl rfl rfl rfl rfl rfl ⟨rfl, trivial⟩ (fun bl2 G2 hG2 hv2 => ?_)
   refine W.ok (ok_b2s sl65 (by kernel_rfl) st9 hv2 rfl) ?_
   refine W.mv ?_
   refine W.ok (Ok.str (b := (mkStr (dgB m.natAbs :: ds)).b) (ok_addS rfl rfl (by have h9 := (mkStr ds).le; show 1 + _ ≤ _; omega)) (one_add (by omega))) ?_
   refine W.as ?_
   refine W.nil (thn_n ?_)
   refine WC.seq ?_
   refine WC.region ?_
   refine W.mv ?_
   refine W.ok (ok_quo rfl rfl (by decide) (tdiv_i64 hm)) ?_
   refine W.as ?_
   refine W.nil (thn_n ?_)
   refine WC.seq ?_
   refine WC.region ?_
   refine W.mv ?_
   refine W.ok (ok_eql rfl rfl) ?_
   refine W.nil (thn_n ?_)
   refine WC.cond (b := _) rfl (fun h23 => ?_) (fun h23 => ?_)
   ·have p23 := of_decide_eq_true h23
    refine WC.exit (blk_m (thn_x (blk_h (thn_n ?_))))
    refine WC.seq ?_
    refine WC.seq ?_
    refine WC.region ?_
    refine W.mv ?_
    refine W.ok (ok_lss rfl rfl) ?_
    refine W.nil (thn_n ?_)
    refine WC.cond (b := _) rfl (fun h25 => ?_) (fun h25 => ?_)
    ·have p25 := of_decide_eq_true h25
     refine WC.seq ?_
     refine WC.region ?_
     refine W.mv ?_
     refine W.ok (Ok.str (b := (decN n).b) (ok_addS rfl rfl (by have h9 := (mkStr (dgB m.natAbs :: ds)).le; show 1 + _ ≤ _; omega)) (by have e9 := DecI.last hI p23; rw [decN, itoa_neg (by omega), e9, ← b_add_neg (by simp; omega)])) ?_
     refine W.as ?_
     refine W.nil (thn_n ?_)
     refine WC.ret (thn_r ?_)
     refine ⟨.inr rfl, [_], ⟨rfl, trivial⟩, [], List.nil_sublist _, ?_⟩
     rfl
    ·have p25 := of_decide_eq_false h25
     refine WC.skip (thn_n ?_)
     refine WC.seq ?_
     refine WC.region ?_
     refine W.mv ?_
     refine W.as ?_
     refine W.nil (thn_n ?_)
     refine WC.ret ?_
     refine ⟨.inr rfl, [_], ⟨rfl, trivial⟩, [], List.nil_sublist _, ?_⟩
     refine congrArg (fun s : Str => Value.string s.b) ?_
     rw [decN, itoa_pos (by omega), DecI.last hI p23]
   ·have p23 := of_decide_eq_false h23
    refine WC.skip (blk_n (thn_n ?_))
    exact ⟨hG2, (m.tdiv 10, dgB m.natAbs :: ds), ⟨(by first | rfl | exact iv (by dsimp only; omega) | exact iv (by omega)), (by first | rfl | exact iv (by dsimp only; omega) | exact iv (by omega)), (by first | rfl | exact iv (by dsimp only; omega) | exact iv (by omega)), trivial⟩, ⟨rfl, .inl (DecI.step hn hI p23)⟩, by show (m.tdiv 10).natAbs < m.natAbs; omega⟩
  ·have p10 := of_decide_eq_false h10
   refine WC.skip (thn_n ?_)
   refine WC.seq ?_
   refine WC.region ?_
   refine W.mv ?_
   refine W.ok (ok_add rfl rfl (by omega)) ?_
   refine W.ok (Ok.int (ok_convU8 un3 un5 rfl (by omega)) (n := (((dgB m.natAbs).toNat : Nat) : Int)) (by rw [dgB_nat]; omega)) ?_
   refine W.lit (e := eU8) (l := [dgB m.natAbs]) (css := [[.int .u8 _]]) sl65 ty5 zr5 rfl rfl rfl rfl rfl rfl ⟨rfl, trivial⟩ (fun bl3 G3 hG3 hv3 => ?_)
   refine W.ok (ok_b2s sl65 (by kernel_rfl) st9 hv3 rfl) ?_
   refine W.mv ?_
   refine W.ok (Ok.str (b := (mkStr (dgB m.natAbs :: ds)).b) (ok_addS rfl rfl (by have h9 := (mkStr ds).le; show 1 + _ ≤ _; omega)) (one_add (by omega))) ?_
   refine W.as ?_
   refine W.nil (thn_n ?_)
   refine WC.seq ?_
   refine WC.region ?_
   refine W.mv ?_
   refine W.ok (ok_quo rfl rfl (by decide) (tdiv_i64 hm)) ?_
   refine W.as ?_
   refine W.nil (thn_n ?_)
   refine WC.seq ?_
   refine WC.region ?_
   refine W.mv ?_
   refine W.ok (ok_eql rfl rfl) ?_
   refine W.nil (thn_n ?_)
   refine WC.cond (b := _) rfl (fun h23 => ?_) (fun h23 => ?_)
   ·have p23 := of_decide_eq_true h23
    refine WC.exit (blk_m (thn_x (blk_h (thn_n ?_))))
    refine WC.seq ?_
    refine WC.seq ?_
    refine WC.region ?_
    refine W.mv ?_
    refine W.ok (ok_lss rfl rfl) ?_
    refine W.nil (thn_n ?_)
    refine WC.cond (b := _) rfl (fun h25 => ?_) (fun h25 => ?_)
    ·have p25 := of_decide_eq_true h25
     refine WC.seq ?_
     refine WC.region ?_
     refine W.mv ?_
     refine W.ok (Ok.str (b := (decN n).b) (ok_addS rfl rfl (by have h9 := (mkStr (dgB m.natAbs :: ds)).le; show 1 + _ ≤ _; omega)) (by have e9 := DecI.last hI p23; rw [decN, itoa_neg (by omega), e9, ← b_add_neg (by simp; omega)])) ?_
     refine W.as ?_
     refine W.nil (thn_n ?_)
     refine WC.ret (thn_r ?_)
     refine ⟨.inr rfl, [_], ⟨rfl, trivial⟩, [], List.nil_sublist _, ?_⟩
     rfl
    ·have p25 := of_decide_eq_false h25
     refine WC.skip (thn_n ?_)
     refine WC.seq ?_
     refine WC.region ?_
     refine W.mv ?_
     refine W.as ?_
     refine W.nil (thn_n ?_)
     refine WC.ret ?_
     refine ⟨.inr rfl, [_], ⟨rfl, trivial⟩, [], List.nil_sublist _, ?_⟩
     refine congrArg (fun s : Str => Value.string s.b) ?_
     rw [decN, itoa_pos (by omega), DecI.last hI p23]
   ·have p23 := of_decide_eq_false h23
    refine WC.skip (blk_n (thn_n ?_))
    exact ⟨hG3, (m.tdiv 10, dgB m.natAbs :: ds), ⟨(by first | rfl | exact iv (by dsimp only; omega) | exact iv (by omega)), (by first | rfl | exact iv (by dsimp only; omega) | exact iv (by omega)), (by first | rfl | exact iv (by dsimp only; omega) | exact iv (by omega)), trivial⟩, ⟨rfl, .inl (DecI.step hn hI p23)⟩, by show (m.tdiv 10).natAbs < m.natAbs; omega⟩

end Go.Proofs.YthmkpaoolhcibaaDoor
