/- Walks of quoting. -/
import Derived.Test.YthmkpaoolhcibaaDoorSa
namespace Go.Proofs.YthmkpaoolhcibaaDoor
open Go Go.Fw Go.RowKit
set_option maxRecDepth 100000
set_option maxHeartbeats 1600000
set_option linter.unusedVariables false
set_option linter.unusedSimpArgs false
set_option linter.unnecessarySimpa false
def S_45 : Str := ⟨⟨#[45]⟩, by decide⟩
theorem quote_fc {G : GH} (s : Str) (hn : s.l.length ≤ 100000) :
    Fc Tryd.prog 19 [.string s.b] G [] (fun v _ _ => v = .string (Str.b (quoN s))) := by
 refine Fc.intro (rs := [.tmp 2]) cl19 Tryd.func19 rfl Tryd.ntmps19 rfl rfl (fun w0 => ?_)
 refine WC.seq ?_
 refine WC.region ?_
 refine W.as ?_
 refine W.nil (thn_n ?_)
 refine WC.seq ?_
 refine WC.seq ?_
 refine WC.region ?_
 refine W.mv ?_
 refine W.ok (ok_eqlS rfl rfl) ?_
 refine W.nil (thn_n ?_)
 refine WC.cond (b := _) rfl (fun h7 => ?_) (fun h7 => ?_)
 ·have p7 := of_decide_eq_true h7
  refine WC.seq ?_
  refine WC.region ?_
  refine W.as ?_
  refine W.nil (thn_n ?_)
  refine WC.ret (thn_r ?_)
  refine ⟨.inr rfl, [_], ⟨rfl, trivial⟩, [], List.nil_sublist _, ?_⟩
  refine congrArg Value.string ?_
  rw [quoN, if_pos (by rw [Str.l, p7])]; rfl
 ·have p7 := of_decide_eq_false h7
  have hne : s.l ≠ [] := fun e => p7 (ByteArray.ext (Array.toList_inj.1 e))
  refine WC.skip (thn_n ?_)
  refine WC.seq ?_
  refine WC.region ?_
  refine W.alloc zr67 (fun b1 => ?_)
  refine W.nil (thn_n ?_)
  refine WC.seq ?_
  refine WC.seq ?_
  have hR2 : BuR 67 5 b1 G [] [(b1, .cells (List.toArray [.pointer none, .slice none 0 0]) 67 (0, 0))] := BuR.new
  refine WC.perm (M' := ([(b1, .cells (List.toArray [.pointer none, .slice none 0 0]) 67 (0, 0))] ++ [])) (List.Perm.refl _) ?_
  refine WC.region ?_
  refine W.mv ?_
  refine W.str2bL (s := s) st9 sl65 (by kernel_rfl) rfl (fun sa3 sc4 G5 hG5 hv6 => ?_)
  refine W.ok (ok_len sl65 hv6 rfl) ?_
  refine W.mv ?_
  refine W.nil (thn_n ?_)
  refine WC.block ?_
  refine WC.loop (X := (Nat) × MH) (fun k => [(11, .int .i64 ((k.1 : Nat) : Int)), (9, .slice sa3 (s).l.length sc4), (10, .int .i64 ((((s).l).length : Nat) : Int)), (3, .pointer (some ⟨b1, 0, none⟩))]) (fun k G Ml => Ml = (k.2 ++ []) ∧ BuR 67 5 b1 G (quoL (s.l.take k.1)) k.2 ∧ k.1 ≤ s.l.length) (fun k => s.l.length - k.1) (0, [(b1, .cells (List.toArray [.pointer none, .slice none 0 0]) 67 (0, 0))]) ⟨(by first | rfl | exact iv (by dsimp only; omega) | exact iv (by omega)), (by first | rfl | exact iv (by dsimp only; omega) | exact iv (by omega)), (by first | rfl | exact iv (by dsimp only; omega) | exact iv (by omega)), (by first | rfl | exact iv (by dsimp only; omega) | exact iv (by omega)), trivial⟩ ?_ ?_
  ·exact ⟨rfl, (by simpa [quoL] using (BuR.mono hG5 hR2)), by omega⟩
  ·rintro ⟨k, M_3⟩ gG7 G7 _ hG7 ⟨rfl, ho_3, hk⟩
   try dsimp only at ho_3 hk
   refine WC.fr (f := setL gG7 [(11, .int .i64 ((k : Nat) : Int)), (9, .slice sa3 (s).l.length sc4), (10, .int .i64 ((((s).l).length : Nat) : Int)), (3, .pointer (some ⟨b1, 0, none⟩))]) rfl ?_
   refine WC.seq ?_
   refine WC.region ?_
   refine W.ok (ok_lss rfl rfl) ?_
   refine W.nil (thn_n ?_)
   refine WC.seq ?_
   refine WC.cond (b := _) rfl (fun h12 => ?_) (fun h12 => ?_)
   ·have p12 := of_decide_eq_true h12
    have hqt := quoL_len (s.l.take k)
    have hqt2 : (s.l.take k).length ≤ k := by simp; omega
    have hc8 := (s.l[k]).toNat_lt
    refine WC.skip (thn_n ?_)
    refine WC.seq ?_
    refine WC.block ?_
    refine WC.seq ?_
    refine WC.region ?_
    have q10 := (hv6.mono hG7).at (i := k) (by omega)
    refine match q10 with | ⟨_, he8, e_9⟩ => ?_
    subst e_9
    refine W.ok (ok_indexAddr (i := k) sl65 ty5 (hv6.mono hG7) rfl rfl ⟨by omega, by omega⟩) ?_
    refine W.ok (ok_loadE (vs := [.int .u8 _]) ty5 he8 rfl rfl rfl (by simp)) ?_
    refine W.as ?_
    refine W.nil (thn_n ?_)
    refine WC.seq ?_
    refine WC.region ?_
    refine W.mv ?_
    refine W.qcall (plain_fc (((s).l)[k])) rfl ?_
    refine W.nil (thn_n ?_)
    refine WC.cond (b := _) rfl (fun h16 => ?_) (fun h16 => ?_)
    ·refine WC.region ?_
     refine W.mv ?_
     refine W.call (Mp := M_3) (wbyte_fc ho_3 (((s).l)[k]) (by omega)) rfl (List.Perm.refl _) ?_
     intro v14 G11 Ms13 hG11 q12
     refine match q12 with | ⟨e_16, hR15⟩ => ?_
     subst e_16
     refine W.nil (blk_n (thn_n ?_))
     refine WC.region ?_
     refine W.ok (ok_add rfl rfl (by omega)) ?_
     refine W.mv ?_
     refine W.nil (thn_n ?_)
     exact ⟨hG11, (k + 1, Ms13), ⟨(by first | rfl | exact iv (by dsimp only; omega) | exact iv (by omega)), (by first | rfl | exact iv (by dsimp only; omega) | exact iv (by omega)), (by first | rfl | exact iv (by dsimp only; omega) | exact iv (by omega)), (by first | rfl | exact iv (by dsimp only; omega) | exact iv (by omega)), trivial⟩, ⟨rfl, (by have h := hR15; rw [quoL_take (by omega), quoC_t h16]; exact h), by omega⟩, by omega⟩
    ·refine WC.drawW _ (List.nil_sublist _) mix (by rintro _ _ _ _ ⟨h | h, _⟩ <;> cases h) ?_
     refine WD.take 0 rfl rfl rfl (by kernel_rfl) (by kernel_rfl) (by kernel_rfl) (ok_mv) ?_
     refine WD.take 1 rfl rfl rfl (by kernel_rfl) (by kernel_rfl) (by kernel_rfl) (ok_shr4 rfl rfl) ?_
     refine WD.take 2 rfl rfl rfl (by kernel_rfl) (by kernel_rfl) (by kernel_rfl) (Ok.int (ok_indexS (a := hexS.b) (i := (((s).l)[k].toNat / 16)) st9 rfl rfl ⟨by omega, by rw [hexS_size]; omega⟩) (n := (((hexB ((((s).l)[k].toNat / 16))).toNat : Nat) : Int)) (congrArg (fun z : UInt8 => ((z.toNat : Nat) : Int)) (hexS_at _ _))) ?_
     refine WD.take 3 rfl rfl rfl (by kernel_rfl) (by kernel_rfl) (by kernel_rfl) (ok_mv) ?_
     refine WD.take 4 rfl rfl rfl (by kernel_rfl) (by kernel_rfl) (by kernel_rfl) (ok_and15 rfl rfl (by omega)) ?_
     refine WD.take 5 rfl rfl rfl (by kernel_rfl) (by kernel_rfl) (by kernel_rfl) (Ok.int (ok_indexS (a := hexS.b) (i := (((s).l)[k].toNat % 16)) st9 rfl rfl ⟨by omega, by rw [hexS_size]; omega⟩) (n := (((hexB ((((s).l)[k].toNat % 16))).toNat : Nat) : Int)) (congrArg (fun z : UInt8 => ((z.toNat : Nat) : Int)) (hexS_at _ _))) ?_
     refine WD.any [6] (by kernel_rfl) rfl ⟨⟨_, rfl, rfl, ?_⟩, trivial⟩
     refine W.lit (e := eU8) (l := [37, hexB ((((s).l)[k].toNat / 16)), hexB ((((s).l)[k].toNat % 16))]) (css := [[.int .u8 _], [.int .u8 _], [.int .u8 _]]) sl65 ty5 zr5 rfl rfl rfl rfl rfl rfl ⟨rfl, rfl, rfl, trivial⟩ (fun bl17 G17 hG17 hv17 => ?_)
     refine W.nil ⟨hG17, List.nil_sublist _, _, List.nil_sublist _, List.Sublist.refl _, ?_⟩
     refine WD.any [7] (by kernel_rfl) rfl ⟨⟨_, rfl, rfl, ?_⟩, trivial⟩
     refine W.call (Mp := M_3) (bwr_fc (BuR.mono hG17 ho_3) hv17 (by simp; omega)) rfl (List.Perm.refl _) ?_
     intro v21 G18 Ms20 hG18 q19
     refine match q19 with | ⟨e_23, hR22⟩ => ?_
     subst e_23
     refine W.nil ⟨hG18, List.nil_sublist _, _, List.nil_sublist _, List.Sublist.refl _, ?_⟩
     refine WD.done (by kernel_rfl) (blk_n (thn_n ?_))
     refine WC.region ?_
     refine W.ok (ok_add rfl rfl (by omega)) ?_
     refine W.mv ?_
     refine W.nil (thn_n ?_)
     exact ⟨(hG17.trans hG18), (k + 1, Ms20), ⟨(by first | rfl | exact iv (by dsimp only; omega) | exact iv (by omega)), (by first | rfl | exact iv (by dsimp only; omega) | exact iv (by omega)), (by first | rfl | exact iv (by dsimp only; omega) | exact iv (by omega)), (by first | rfl | exact iv (by dsimp only; omega) | exact iv (by omega)), trivial⟩, ⟨rfl, (by have h := hR22; rw [quoL_take (by omega), quoC_f h16]; exact h), by omega⟩, by omega⟩
   ·have p12 := of_decide_eq_false h12
    refine WC.exit (thn_x (thn_x (blk_h (thn_n ?_))))
    refine WC.seq ?_
    refine WC.region ?_
    refine W.call (Mp := M_3) (bstr_fc ho_3 (by rw [List.take_of_length_le (by omega)]; exact quoL_pos _ hne)) rfl (List.Perm.refl _) ?_
    intro v27 G24 Ms26 hG24 q25
    refine match q25 with | ⟨e_28, e_29⟩ => ?_
    subst e_28
    subst e_29
    refine W.as ?_
    refine W.nil (thn_n ?_)
    refine WC.ret ?_
    refine ⟨.inr rfl, [_], ⟨rfl, trivial⟩, [], List.nil_sublist _, ?_⟩
    refine congrArg Value.string ?_
    have hq3 := quoL_len s.l
    rw [quoN, if_neg hne, mkStr_b (by omega), List.take_of_length_le (by omega)]

end Go.Proofs.YthmkpaoolhcibaaDoor
