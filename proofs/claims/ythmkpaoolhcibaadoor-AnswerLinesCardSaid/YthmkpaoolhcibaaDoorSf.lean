/- Walks of lines. -/
import Derived.Test.YthmkpaoolhcibaaDoorSe
import Derived.Test.YthmkpaoolhcibaaDoorPd
namespace Go.Proofs.YthmkpaoolhcibaaDoor
open Go Go.Fw Go.RowKit
set_option maxRecDepth 100000
set_option maxHeartbeats 1600000
set_option linter.unusedVariables false
set_option linter.unusedSimpArgs false
set_option linter.unnecessarySimpa false
def S_48_49_50_51_52_53_54_55_56_57_97_98_99_100_101_102 : Str := ⟨⟨#[48, 49, 50, 51, 52, 53, 54, 55, 56, 57, 97, 98, 99, 100, 101, 102]⟩, by decide⟩
def S_37 : Str := ⟨⟨#[37]⟩, by decide⟩
def S_101_114_114_111_114_32 : Str := ⟨⟨#[101, 114, 114, 111, 114, 32]⟩, by decide⟩
def S_110_111_110_101 : Str := ⟨⟨#[110, 111, 110, 101]⟩, by decide⟩
def S_112_97_105_114_115_32 : Str := ⟨⟨#[112, 97, 105, 114, 115, 32]⟩, by decide⟩
def S_32 : Str := ⟨⟨#[32]⟩, by decide⟩
def S_61 : Str := ⟨⟨#[61]⟩, by decide⟩
def S_111_107 : Str := ⟨⟨#[111, 107]⟩, by decide⟩
theorem rquote_fc {G : GH} (s : Str) (hn : s.l.length ≤ 100000) :
    Fc Tryd.prog 21 [.string s.b] G [] (fun v _ _ => v = .string (Str.b (quoN s))) := by
 have hsz := Str.l_len s
 refine Fc.intro (rs := [.tmp 2]) cl21 Tryd.func21 rfl Tryd.ntmps21 rfl rfl (fun w0 => ?_)
 refine WC.seq ?_
 refine WC.region ?_
 refine W.as ?_
 refine W.nil (thn_n ?_)
 refine WC.seq ?_
 refine WC.region ?_
 refine W.as ?_
 refine W.nil (thn_n ?_)
 refine WC.seq ?_
 refine WC.region ?_
 refine W.as ?_
 refine W.nil (thn_n ?_)
 refine WC.seq ?_
 refine WC.seq ?_
 refine WC.region ?_
 refine W.as ?_
 refine W.nil (thn_n ?_)
 refine WC.block ?_
 refine WC.loop (X := Nat) (fun k => [(4, .string (mkStr (quoL (s.l.take k))).b), (5, .int .i64 ((k : Nat) : Int)), (0, .string s.b), (3, .string ⟨#[48, 49, 50, 51, 52, 53, 54, 55, 56, 57, 97, 98, 99, 100, 101, 102]⟩)]) (fun k _ Ml => Ml = [] ∧ k ≤ s.l.length) (fun k => s.l.length - k) 0 ⟨(by simp [quoL]; rfl), (by first | rfl | exact iv (by dsimp only; omega) | exact iv (by omega)), (by first | rfl | exact iv (by dsimp only; omega) | exact iv (by omega)), (by first | rfl | exact iv (by dsimp only; omega) | exact iv (by omega)), trivial⟩ ?_ ?_
 ·exact ⟨rfl, by omega⟩
 ·rintro k gG1 G1 _ hG1 ⟨rfl, hk⟩
  refine WC.seq ?_
  refine WC.seq ?_
  refine WC.region ?_
  refine W.mv ?_
  refine W.mv ?_
  refine W.ok (ok_lenS st9 rfl) ?_
  refine W.ok (ok_lss rfl rfl) ?_
  refine W.nil (thn_n ?_)
  refine WC.cond (b := _) rfl (fun h9 => ?_) (fun h9 => ?_)
  ·have p9 := of_decide_eq_true h9
   have hqt := quoL_len (s.l.take k)
   have hqt2 : (s.l.take k).length ≤ k := by simp; omega
   have hc8 := (s.l[k]).toNat_lt
   have hl3 := Str.l_len s
   refine WC.skip (thn_n ?_)
   refine WC.seq ?_
   refine WC.block ?_
   refine WC.seq ?_
   refine WC.region ?_
   refine W.mv ?_
   refine W.mv ?_
   refine W.ok (Ok.int (ok_indexS (i := k) st9 rfl rfl ⟨by omega, by rw [← Str.l_len]; omega⟩) (n := (((s.l[k]).toNat : Nat) : Int)) (congrArg (fun z : UInt8 => ((z.toNat : Nat) : Int)) (s.get (by rw [← Str.l_len]; omega) (by omega)))) ?_
   refine W.qcall (own6_fc (s.l[k])) rfl ?_
   refine W.nil (thn_n ?_)
   refine WC.cond (b := _) rfl (fun h15 => ?_) (fun h15 => ?_)
   ·refine WC.region ?_
    refine W.mv ?_
    refine W.mv ?_
    refine W.mv ?_
    refine W.mv ?_
    refine W.ok (ok_add rfl rfl (by omega)) ?_
    refine W.ok (ok_sliceS (k) (k + 1) st9 rfl ⟨_, _, rfl, by omega⟩ ⟨_, _, rfl, by omega⟩ ⟨by omega, by omega⟩) ?_
    refine W.ok (Ok.str (b := (mkStr (quoL (s.l.take (k + 1)))).b) (ok_addS rfl rfl (by have h8 := (mkStr (quoL (s.l.take k))).le; have h9 := (s.cut k (k + 1)).le; omega)) (by rw [quoL_take (by omega)]; exact quo_st (by omega) (by omega) h15)) ?_
    refine W.as ?_
    refine W.nil (blk_n (thn_n ?_))
    refine WC.region ?_
    refine W.mv ?_
    refine W.ok (ok_add rfl rfl (by omega)) ?_
    refine W.as ?_
    refine W.nil (thn_n ?_)
    exact ⟨Le.rfl, k + 1, ⟨rfl, (by first | rfl | exact iv (by dsimp only; omega) | exact iv (by omega)), (by first | rfl | exact iv (by dsimp only; omega) | exact iv (by omega)), (by first | rfl | exact iv (by dsimp only; omega) | exact iv (by omega)), trivial⟩, ⟨rfl, by omega⟩, by omega⟩
   ·refine WC.draw mix (by kernel_rfl) ?_
    refine W.mv ?_
    refine W.mv ?_
    refine W.mv ?_
    refine W.mv ?_
    refine W.ok (Ok.int (ok_indexS (i := k) st9 rfl rfl ⟨by omega, by rw [← Str.l_len]; omega⟩) (n := (((s.l[k]).toNat : Nat) : Int)) (congrArg (fun z : UInt8 => ((z.toNat : Nat) : Int)) (s.get (by rw [← Str.l_len]; omega) (by omega)))) ?_
    refine W.ok (Ok.int (ok_quoU8 rfl rfl (by omega) (by omega) (by omega)) (n := ((((s.l[k]).toNat / 16 : Nat)) : Int)) (by omega)) ?_
    refine W.mv ?_
    refine W.mv ?_
    refine W.ok (Ok.int (ok_indexS (i := k) st9 rfl rfl ⟨by omega, by rw [← Str.l_len]; omega⟩) (n := (((s.l[k]).toNat : Nat) : Int)) (congrArg (fun z : UInt8 => ((z.toNat : Nat) : Int)) (s.get (by rw [← Str.l_len]; omega) (by omega)))) ?_
    refine W.ok (Ok.int (ok_quoU8 rfl rfl (by omega) (by omega) (by omega)) (n := ((((s.l[k]).toNat / 16 : Nat)) : Int)) (by omega)) ?_
    refine W.ok (Ok.int (ok_addU8 rfl rfl (by omega)) (n := (((((s.l[k]).toNat / 16) + 1 : Nat)) : Int)) (by omega)) ?_
    refine W.ok (ok_sliceS (a := hexS) (((s.l[k]).toNat / 16)) (((s.l[k]).toNat / 16) + 1) st9 rfl ⟨_, _, rfl, by omega⟩ ⟨_, _, rfl, by omega⟩ ⟨by omega, by rw [hexS_size]; omega⟩) ?_
    refine W.ok (Ok.str (b := (mkStr [37, hexB ((s.l[k]).toNat / 16)]).b) (ok_addS rfl rfl (by have h9 := (hexS.cut ((s.l[k]).toNat / 16) ((s.l[k]).toNat / 16 + 1)).le; show 1 + _ ≤ _; omega)) (quo_p (by omega))) ?_
    refine W.mv ?_
    refine W.mv ?_
    refine W.mv ?_
    refine W.ok (Ok.int (ok_indexS (i := k) st9 rfl rfl ⟨by omega, by rw [← Str.l_len]; omega⟩) (n := (((s.l[k]).toNat : Nat) : Int)) (congrArg (fun z : UInt8 => ((z.toNat : Nat) : Int)) (s.get (by rw [← Str.l_len]; omega) (by omega)))) ?_
    refine W.ok (Ok.int (ok_remU8 rfl rfl (by omega) (by omega) (by omega)) (n := ((((s.l[k]).toNat % 16 : Nat)) : Int)) (by omega)) ?_
    refine W.mv ?_
    refine W.mv ?_
    refine W.ok (Ok.int (ok_indexS (i := k) st9 rfl rfl ⟨by omega, by rw [← Str.l_len]; omega⟩) (n := (((s.l[k]).toNat : Nat) : Int)) (congrArg (fun z : UInt8 => ((z.toNat : Nat) : Int)) (s.get (by rw [← Str.l_len]; omega) (by omega)))) ?_
    refine W.ok (Ok.int (ok_remU8 rfl rfl (by omega) (by omega) (by omega)) (n := ((((s.l[k]).toNat % 16 : Nat)) : Int)) (by omega)) ?_
    refine W.ok (Ok.int (ok_addU8 rfl rfl (by omega)) (n := (((((s.l[k]).toNat % 16) + 1 : Nat)) : Int)) (by omega)) ?_
    refine W.ok (ok_sliceS (a := hexS) (((s.l[k]).toNat % 16)) (((s.l[k]).toNat % 16) + 1) st9 rfl ⟨_, _, rfl, by omega⟩ ⟨_, _, rfl, by omega⟩ ⟨by omega, by rw [hexS_size]; omega⟩) ?_
    refine W.ok (Ok.str (b := (mkStr [37, hexB ((s.l[k]).toNat / 16), hexB ((s.l[k]).toNat % 16)]).b) (ok_addS rfl rfl (by have h8 := (mkStr [37, hexB ((s.l[k]).toNat / 16)]).le; have h9 := (hexS.cut ((s.l[k]).toNat % 16) ((s.l[k]).toNat % 16 + 1)).le; omega)) (quo_q (by omega))) ?_
    refine W.ok (Ok.str (b := (mkStr (quoL (s.l.take (k + 1)))).b) (ok_addS rfl rfl (by have h8 := (mkStr (quoL (s.l.take k))).le; have h9 := (mkStr [37, hexB ((s.l[k]).toNat / 16), hexB ((s.l[k]).toNat % 16)]).le; omega)) (by rw [quoL_take (by omega)]; exact quo_r (by omega) h15)) ?_
    refine W.as ?_
    refine W.nil (blk_n (thn_n ?_))
    refine WC.region ?_
    refine W.mv ?_
    refine W.ok (ok_add rfl rfl (by omega)) ?_
    refine W.as ?_
    refine W.nil (thn_n ?_)
    exact ⟨Le.rfl, k + 1, ⟨rfl, (by first | rfl | exact iv (by dsimp only; omega) | exact iv (by omega)), (by first | rfl | exact iv (by dsimp only; omega) | exact iv (by omega)), (by first | rfl | exact iv (by dsimp only; omega) | exact iv (by omega)), trivial⟩, ⟨rfl, by omega⟩, by omega⟩
  ·have p9 := of_decide_eq_false h9
   refine WC.exit (thn_x (thn_x (blk_h (thn_n ?_))))
   refine WC.seq ?_
   refine WC.seq ?_
   refine WC.region ?_
   refine W.mv ?_
   refine W.ok (ok_eqlS rfl rfl) ?_
   refine W.nil (thn_n ?_)
   refine WC.cond (b := _) rfl (fun h50 => ?_) (fun h50 => ?_)
   ·have p50 := of_decide_eq_true h50
    rw [List.take_of_length_le (by omega)] at p50
    have hnil := quo_nil p50 hn
    refine WC.seq ?_
    refine WC.region ?_
    refine W.as ?_
    refine W.nil (thn_n ?_)
    refine WC.ret (thn_r ?_)
    refine ⟨.inr rfl, [_], ⟨rfl, trivial⟩, [], List.nil_sublist _, ?_⟩
    refine congrArg Value.string ?_
    rw [quoN, if_pos hnil]; rfl
   ·have p50 := of_decide_eq_false h50
    rw [List.take_of_length_le (by omega)] at p50
    have hne : s.l ≠ [] := fun e => p50 (by rw [e]; rfl)
    refine WC.skip (thn_n ?_)
    refine WC.seq ?_
    refine WC.region ?_
    refine W.mv ?_
    refine W.as ?_
    refine W.nil (thn_n ?_)
    refine WC.ret ?_
    refine ⟨.inr rfl, [_], ⟨rfl, trivial⟩, [], List.nil_sublist _, ?_⟩
    refine congrArg Value.string ?_
    rw [quoN, if_neg hne, List.take_of_length_le (by omega)]

attribute [local irreducible] Str.app rowS quoN decN mkStr Str.l
theorem aline_fc {G : GH} (pk : Int) (pkey : Str) (phi : Str) (po : Bool) (pv : Str) (pl : Int) {cs_a : List Value} {a : Ans} (h_a : AnsC G cs_a a) (hT : TabG Tryd.prog G) (hz : SzA a) :
    Fc Tryd.prog 7 [.agg #[.int .i64 pk, .string pkey.b, .string phi.b, .bool po, .string pv.b, .int .i64 pl], .agg (List.toArray cs_a)] G [] (fun v _ _ => v = .string (Str.b (lineN pk a))) := by
 obtain ⟨pa_a, pc_a, rfl, hw_a, hok_a⟩ := h_a
 have hlr := hw_a.len47
 have hz1 := hz.2.1
 have hz0 := hz.1
 refine Fc.intro (rs := [.tmp 4]) cl7 Tryd.func7 rfl Tryd.ntmps7 rfl rfl (fun w0 => ?_)
 refine WC.seq ?_
 refine WC.region ?_
 refine W.box (L := [.int .i64 _, .string _, .string _, .bool _, .string _, .int .i64 _]) rfl rfl (fun b2 => ?_)
 refine W.box (L := [.int .i64 _, .bool _, .string _, .slice _ _ _]) rfl rfl (fun b3 => ?_)
 refine W.as ?_
 refine W.nil (thn_n ?_)
 refine WC.seq ?_
 refine WC.block ?_
 refine WC.seq ?_
 refine WC.region ?_
 refine W.ok (ok_fieldB fd27_0 rfl) ?_
 refine W.ok (ok_loadB (i := 0) (vs := [.int .i64 _]) ty24 rfl rfl rfl rfl (by simp)) ?_
 refine W.ok (ok_neq rfl rfl) ?_
 refine W.as ?_
 refine W.nil (thn_n ?_)
 refine WC.cond (b := _) rfl (fun h11 => ?_) (fun h11 => ?_)
 ·have p11 := nd_t h11
  refine WC.seq ?_
  refine WC.region ?_
  refine W.ok (ok_fieldB fd27_0 rfl) ?_
  refine W.ok (ok_loadB (i := 0) (vs := [.int .i64 _]) ty24 rfl rfl rfl rfl (by simp)) ?_
  refine W.qcall (dec_fc _ hT (by first | assumption | exact ⟨by omega, by omega⟩)) rfl ?_
  refine W.ok (Ok.str (b := (errS.app (decN a.err)).b) (ok_addS rfl rfl (by have h8 := (decN a.err).le; show 6 + _ ≤ _; omega)) (app_b (a := errS) (b := decN a.err) (by have h8 := decN_le hok_a; have h9 := lenS; omega))) ?_
  refine W.as ?_
  refine W.nil (thn_n ?_)
  refine WC.ret (blk_r (thn_r ?_))
  refine ⟨.inr rfl, [_], ⟨rfl, trivial⟩, [], List.nil_sublist _, ?_⟩
  exact (fun {s t : Str} (h : s = t) => (congrArg (fun s : Str => Value.string s.b) h : Value.string s.b = Value.string t.b)) ((lineN_err p11).symm)
 ·have p11 := nd_f h11
  refine WC.seq ?_
  refine WC.region ?_
  refine W.ok (ok_fieldB fd23_0 rfl) ?_
  refine W.ok (ok_loadB (i := 1) (vs := [.int .i64 _]) ty3 rfl rfl rfl rfl (by simp)) ?_
  refine W.ok (ok_eql rfl rfl) ?_
  refine W.mv ?_
  refine W.sp 20 rfl (fun h19 => ?_) (fun h19 => ?_)
  ·have p19 := of_decide_eq_true h19
   refine W.yes (dj := 20) rfl rfl h19 ?_
   refine W.ok (ok_fieldB fd27_1 rfl) ?_
   refine W.yes (dj := 20) rfl rfl h19 ?_
   refine W.ok (ok_loadB (i := 0) (vs := [.bool _]) ty4 rfl rfl rfl rfl (by simp)) ?_
   refine W.ok (ok_pick_t rfl h19) ?_
   refine W.as ?_
   refine W.nil (thn_n ?_)
   refine WC.cond (b := _) rfl (fun hb_a => ?_) (fun hb_a => ?_)
   ·refine WC.seq ?_
    refine WC.region ?_
    refine W.ok (ok_fieldB fd27_2 rfl) ?_
    refine W.ok (ok_loadB (i := 0) (vs := [.string _]) ty9 rfl rfl rfl rfl (by simp)) ?_
    refine W.qcall (quote_fc ((a).val) (by omega)) rfl ?_
    refine W.ok (Ok.str (b := (hasS.app (quoN a.val)).b) (ok_addS rfl rfl (by have h8 := (quoN a.val).le; show 4 + _ ≤ _; omega)) (app_b (a := hasS) (b := quoN a.val) (by have h8 := quoN_le a.val; have h9 := lenS; have h7 := hz.1; omega))) ?_
    refine W.as ?_
    refine W.nil (thn_n ?_)
    refine WC.ret (blk_r (thn_r ?_))
    refine ⟨.inr rfl, [_], ⟨rfl, trivial⟩, [], List.nil_sublist _, ?_⟩
    exact (fun {s t : Str} (h : s = t) => (congrArg (fun s : Str => Value.string s.b) h : Value.string s.b = Value.string t.b)) ((lineN_has p11 p19 hb_a).symm)
   ·refine WC.seq ?_
    refine WC.region ?_
    refine W.ok (ok_fieldB fd23_0 rfl) ?_
    refine W.ok (ok_loadB (i := 1) (vs := [.int .i64 _]) ty3 rfl rfl rfl rfl (by simp)) ?_
    refine W.ok (ok_eql rfl rfl) ?_
    refine W.as ?_
    refine W.nil (thn_n ?_)
    refine WC.cond (b := _) rfl (fun h31 => ?_) (fun h31 => ?_)
    ·have p31 := of_decide_eq_true h31
     refine WC.seq ?_
     refine WC.region ?_
     refine W.as ?_
     refine W.nil (thn_n ?_)
     refine WC.ret (blk_r (thn_r ?_))
     refine ⟨.inr rfl, [_], ⟨rfl, trivial⟩, [], List.nil_sublist _, ?_⟩
     refine congrArg Value.string ?_
     rw [lineN_none p11 p31 hb_a]; rfl
    ·have p31 := of_decide_eq_false h31
     exact absurd p19 p31
  ·have p19 := of_decide_eq_false h19
   refine W.no (dj := 20) rfl rfl h19 ?_
   refine W.no (dj := 20) rfl rfl h19 ?_
   refine W.ok (ok_pick_f rfl h19) ?_
   refine W.as ?_
   refine W.nil (thn_n ?_)
   refine WC.cond_f rfl rfl ?_
   refine WC.seq ?_
   refine WC.region ?_
   refine W.ok (ok_fieldB fd23_0 rfl) ?_
   refine W.ok (ok_loadB (i := 1) (vs := [.int .i64 _]) ty3 rfl rfl rfl rfl (by simp)) ?_
   refine W.ok (ok_eql rfl rfl) ?_
   refine W.as ?_
   refine W.nil (thn_n ?_)
   refine WC.cond (b := _) rfl (fun h31 => ?_) (fun h31 => ?_)
   ·have p31 := of_decide_eq_true h31
    refine WC.seq ?_
    refine WC.region ?_
    refine W.as ?_
    refine W.nil (thn_n ?_)
    refine WC.ret (blk_r (thn_r ?_))
    refine ⟨.inr rfl, [_], ⟨rfl, trivial⟩, [], List.nil_sublist _, ?_⟩
    exact absurd p31 p19
   ·have p31 := of_decide_eq_false h31
    refine WC.seq ?_
    refine WC.region ?_
    refine W.ok (ok_fieldB fd23_0 rfl) ?_
    refine W.ok (ok_loadB (i := 1) (vs := [.int .i64 _]) ty3 rfl rfl rfl rfl (by simp)) ?_
    refine W.ok (ok_eql rfl rfl) ?_
    refine W.as ?_
    refine W.nil (thn_n ?_)
    refine WC.cond (b := _) rfl (fun h35 => ?_) (fun h35 => ?_)
    ·have p35 := of_decide_eq_true h35
     refine WC.seq ?_
     refine WC.region ?_
     refine W.ok (ok_fieldB fd27_3 rfl) ?_
     refine W.ok (ok_loadB (i := 0) (vs := [.slice _ _ _]) ty25 rfl rfl rfl rfl (by simp)) ?_
     refine W.ok (ok_len sl25 hw_a rfl) ?_
     refine W.qcall (dec_fc _ hT (by first | assumption | exact ⟨by omega, by omega⟩)) rfl ?_
     refine W.ok (Ok.str (b := (pairsS.app (decN ((a.rows.length : Nat) : Int))).b) (ok_addS rfl rfl (by have h8 := (decN ((a.rows.length : Nat) : Int)).le; show 6 + _ ≤ _; omega)) (app_b (a := pairsS) (b := decN ((a.rows.length : Nat) : Int)) (by have h8 := decN_le (n := ((a.rows.length : Nat) : Int)) ⟨by omega, by omega⟩; have h9 := lenS; omega))) ?_
     refine W.as ?_
     refine W.nil (thn_n ?_)
     refine WC.seq ?_
     refine WC.seq ?_
     refine WC.region ?_
     refine W.ok (ok_fieldB fd27_3 rfl) ?_
     refine W.ok (ok_loadB (i := 0) (vs := [.slice _ _ _]) ty25 rfl rfl rfl rfl (by simp)) ?_
     refine W.ok (ok_len sl25 hw_a rfl) ?_
     refine W.mv ?_
     refine W.nil (thn_n ?_)
     refine WC.block ?_
     refine WC.loop (X := Nat) (fun k => [(5, .string (rowsS (pairsS.app (decN ((a.rows.length : Nat) : Int))) (a.rows.take k)).b), (44, .int .i64 ((k : Nat) : Int)), (42, .slice pa_a (a).rows.length pc_a), (43, .int .i64 ((((a).rows).length : Nat) : Int))]) (fun k _ Ml => Ml = [(b3, .cells (List.toArray [.int .i64 (a).err, .bool (a).has, .string (a).val.b, .slice pa_a (a).rows.length pc_a]) 27 (0, 0)), (b2, .cells (List.toArray [.int .i64 pk, .string pkey.b, .string phi.b, .bool po, .string pv.b, .int .i64 pl]) 23 (0, 0))] ∧ k ≤ a.rows.length) (fun k => a.rows.length - k) 0 ⟨(by rw [List.take_zero]; rfl), (by first | rfl | exact iv (by dsimp only; omega) | exact iv (by omega)), (by first | rfl | exact iv (by dsimp only; omega) | exact iv (by omega)), (by first | rfl | exact iv (by dsimp only; omega) | exact iv (by omega)), trivial⟩ ?_ ?_
     ·exact ⟨rfl, by omega⟩
     ·rintro k gG4 G4 _ hG4 ⟨rfl, hkn⟩
      refine WC.seq ?_
      refine WC.region ?_
      refine W.ok (ok_lss rfl rfl) ?_
      refine W.nil (thn_n ?_)
      refine WC.seq ?_
      refine WC.cond (b := _) rfl (fun h45 => ?_) (fun h45 => ?_)
      ·have p45 := of_decide_eq_true h45
       have hkl : k < a.rows.length := by omega
       obtain ⟨hk1, hk2⟩ := hz.2.2 k hkl
       obtain ⟨hr1, hr2, hr3, hr4, hr5⟩ := row_le hk1 hk2
       have hrs := rowsS_le (s := pairsS.app (decN ((a.rows.length : Nat) : Int))) hz.2.2 k (by omega)
       have hsz1 := app_le pairsS (decN ((a.rows.length : Nat) : Int))
       have hsz2 := decN_le (n := ((a.rows.length : Nat) : Int)) ⟨by omega, by omega⟩
       obtain ⟨hq1, hq2, hq3, hq4, hq5⟩ := lenS
       have hz1 := hz.2.1
       refine WC.skip (thn_n ?_)
       refine WC.seq ?_
       refine WC.block ?_
       refine WC.seq ?_
       refine WC.region ?_
       have q7 := (hw_a.mono hG4).at (i := k) (by omega)
       refine match q7 with | ⟨_, he5, e_6⟩ => ?_
       subst e_6
       refine W.ok (ok_indexAddr (i := k) sl25 ty45 (hw_a.mono hG4) rfl rfl ⟨by omega, by omega⟩) ?_
       refine W.ok (ok_loadE (vs := [.string _, .string _]) ty45 he5 rfl rfl rfl (by simp)) ?_
       refine W.alloc zr45 (fun b8 => ?_)
       refine W.store (i := 0) (vs := [.string _, .string _]) (L' := [.string _, .string _]) ty45 rfl rfl rfl rfl rfl rfl rfl rfl ?_
       refine W.nil (thn_n ?_)
       refine WC.draw mix (by kernel_rfl) ?_
       refine W.mv ?_
       refine W.ok (ok_fieldB fd45_0 rfl) ?_
       refine W.ok (ok_loadB (i := 0) (vs := [.string _]) ty9 rfl rfl rfl rfl (by simp)) ?_
       refine W.qcall (quote_fc ((((a).rows)[k]).key) (by omega)) rfl ?_
       refine W.ok (Ok.str (b := ((blankS).app (quoN (a.rows[k]).key)).b) (ok_addS rfl rfl (by have h8 := (quoN (a.rows[k]).key).le; show 1 + _ ≤ _; omega)) (app_b (a := blankS) (b := quoN (a.rows[k]).key) (by omega))) ?_
       refine W.ok (Ok.str (b := (((blankS).app (quoN (a.rows[k]).key)).app (eqS)).b) (ok_addS rfl rfl (by have h8 := ((blankS).app (quoN (a.rows[k]).key)).le; show _ + 1 ≤ _; omega)) (app_b (a := (blankS).app (quoN (a.rows[k]).key)) (b := eqS) (by omega))) ?_
       refine W.ok (ok_fieldB fd45_1 rfl) ?_
       refine W.ok (ok_loadB (i := 0) (vs := [.string _]) ty9 rfl rfl rfl rfl (by simp)) ?_
       refine W.qcall (quote_fc ((((a).rows)[k]).val) (by omega)) rfl ?_
       refine W.ok (Ok.str (b := (rowS (a.rows[k])).b) (ok_addS rfl rfl (by have h8 := (((blankS).app (quoN (a.rows[k]).key)).app (eqS)).le; have h9 := (quoN (a.rows[k]).val).le; show _ + _ ≤ _; omega)) (rowS_st (p := a.rows[k]) (by omega))) ?_
       refine W.ok (Ok.str (b := (rowsS (pairsS.app (decN ((a.rows.length : Nat) : Int))) (a.rows.take (k + 1))).b) (ok_addS rfl rfl (by have h8 := (rowsS (pairsS.app (decN ((a.rows.length : Nat) : Int))) (a.rows.take k)).le; have h9 := (rowS (a.rows[k])).le; show _ + _ ≤ _; omega)) (rowsS_st (l := a.rows) (s := pairsS.app (decN ((a.rows.length : Nat) : Int))) (k := k) hkl (by omega))) ?_
       refine W.as ?_
       refine W.nil (blk_n (thn_n ?_))
       refine WC.region ?_
       refine W.ok (ok_add rfl rfl (by omega)) ?_
       refine W.mv ?_
       refine W.sub ((List.Sublist.refl _).cons _) ?_
       refine W.nil (thn_n ?_)
       exact ⟨Le.rfl, k + 1, ⟨(by first | rfl | exact iv (by dsimp only; omega) | exact iv (by omega)), (by first | rfl | exact iv (by dsimp only; omega) | exact iv (by omega)), (by first | rfl | exact iv (by dsimp only; omega) | exact iv (by omega)), (by first | rfl | exact iv (by dsimp only; omega) | exact iv (by omega)), trivial⟩, ⟨rfl, by omega⟩, by omega⟩
      ·have p45 := of_decide_eq_false h45
       refine WC.exit (thn_x (thn_x (blk_h (thn_n ?_))))
       refine WC.seq ?_
       refine WC.region ?_
       refine W.mv ?_
       refine W.as ?_
       refine W.nil (thn_n ?_)
       refine WC.ret (blk_r (thn_r ?_))
       refine ⟨.inr rfl, [_], ⟨rfl, trivial⟩, [], List.nil_sublist _, ?_⟩
       exact (fun {s t : Str} (h : s = t) => (congrArg (fun s : Str => Value.string s.b) h : Value.string s.b = Value.string t.b)) (by rw [lineN_rows p11 p35, List.take_of_length_le (by omega)])
    ·have p35 := of_decide_eq_false h35
     refine WC.skip (blk_n (thn_n ?_))
     refine WC.seq ?_
     refine WC.region ?_
     refine W.as ?_
     refine W.nil (thn_n ?_)
     refine WC.ret ?_
     refine ⟨.inr rfl, [_], ⟨rfl, trivial⟩, [], List.nil_sublist _, ?_⟩
     refine congrArg Value.string ?_
     rw [lineN_ok p11 p31 p35]; rfl

theorem rline_fc {G : GH} (pk : Int) (pkey : Str) (phi : Str) (po : Bool) (pv : Str) (pl : Int) {cs_a : List Value} {a : Ans} (h_a : AnsC G cs_a a) (hT : TabG Tryd.prog G) (hz : SzA a) :
    Fc Tryd.prog 8 [.agg #[.int .i64 pk, .string pkey.b, .string phi.b, .bool po, .string pv.b, .int .i64 pl], .agg (List.toArray cs_a)] G [] (fun v _ _ => v = .string (Str.b (lineN pk a))) := by
 obtain ⟨pa_a, pc_a, rfl, hw_a, hok_a⟩ := h_a
 have hlr := hw_a.len47
 have hz1 := hz.2.1
 have hz0 := hz.1
 refine Fc.intro (rs := [.tmp 4]) cl8 Tryd.func8 rfl Tryd.ntmps8 rfl rfl (fun w0 => ?_)
 refine WC.seq ?_
 refine WC.region ?_
 refine W.box (L := [.int .i64 _, .string _, .string _, .bool _, .string _, .int .i64 _]) rfl rfl (fun b9 => ?_)
 refine W.box (L := [.int .i64 _, .bool _, .string _, .slice _ _ _]) rfl rfl (fun b10 => ?_)
 refine W.as ?_
 refine W.nil (thn_n ?_)
 refine WC.seq ?_
 refine WC.seq ?_
 refine WC.region ?_
 refine W.ok (ok_fieldB fd27_0 rfl) ?_
 refine W.ok (ok_loadB (i := 0) (vs := [.int .i64 _]) ty24 rfl rfl rfl rfl (by simp)) ?_
 refine W.ok (ok_neq rfl rfl) ?_
 refine W.nil (thn_n ?_)
 refine WC.cond (b := _) rfl (fun h9 => ?_) (fun h9 => ?_)
 ·have p9 := nd_t h9
  refine WC.seq ?_
  refine WC.region ?_
  refine W.ok (ok_fieldB fd27_0 rfl) ?_
  refine W.ok (ok_loadB (i := 0) (vs := [.int .i64 _]) ty24 rfl rfl rfl rfl (by simp)) ?_
  refine W.qcall (rdec_fc _ (by first | assumption | exact ⟨by omega, by omega⟩)) rfl ?_
  refine W.ok (Ok.str (b := (errS.app (decN a.err)).b) (ok_addS rfl rfl (by have h8 := (decN a.err).le; show 6 + _ ≤ _; omega)) (app_b (a := errS) (b := decN a.err) (by have h8 := decN_le hok_a; have h9 := lenS; omega))) ?_
  refine W.as ?_
  refine W.nil (thn_n ?_)
  refine WC.ret (thn_r ?_)
  refine ⟨.inr rfl, [_], ⟨rfl, trivial⟩, [], List.nil_sublist _, ?_⟩
  exact (fun {s t : Str} (h : s = t) => (congrArg (fun s : Str => Value.string s.b) h : Value.string s.b = Value.string t.b)) ((lineN_err p9).symm)
 ·have p9 := nd_f h9
  refine WC.skip (thn_n ?_)
  refine WC.seq ?_
  refine WC.seq ?_
  refine WC.region ?_
  refine W.ok (ok_fieldB fd23_0 rfl) ?_
  refine W.ok (ok_loadB (i := 1) (vs := [.int .i64 _]) ty3 rfl rfl rfl rfl (by simp)) ?_
  refine W.ok (ok_eql rfl rfl) ?_
  refine W.nil (thn_n ?_)
  refine WC.cond (b := _) rfl (fun h16 => ?_) (fun h16 => ?_)
  ·have p16 := of_decide_eq_true h16
   refine WC.seq ?_
   refine WC.seq ?_
   refine WC.region ?_
   refine W.ok (ok_fieldB fd27_1 rfl) ?_
   refine W.ok (ok_loadB (i := 0) (vs := [.bool _]) ty4 rfl rfl rfl rfl (by simp)) ?_
   refine W.ok (ok_not rfl) ?_
   refine W.nil (thn_n ?_)
   refine WC.cond (b := _) rfl (fun h19 => ?_) (fun h19 => ?_)
   ·refine WC.seq ?_
    refine WC.region ?_
    refine W.as ?_
    refine W.nil (thn_n ?_)
    refine WC.ret (thn_r (thn_r ?_))
    refine ⟨.inr rfl, [_], ⟨rfl, trivial⟩, [], List.nil_sublist _, ?_⟩
    refine congrArg Value.string ?_
    rw [lineN_none p9 p16 (by simpa using h19)]; rfl
   ·refine WC.skip (thn_n ?_)
    refine WC.seq ?_
    refine WC.region ?_
    refine W.ok (ok_fieldB fd27_2 rfl) ?_
    refine W.ok (ok_loadB (i := 0) (vs := [.string _]) ty9 rfl rfl rfl rfl (by simp)) ?_
    refine W.qcall (rquote_fc ((a).val) (by omega)) rfl ?_
    refine W.ok (Ok.str (b := (hasS.app (quoN a.val)).b) (ok_addS rfl rfl (by have h8 := (quoN a.val).le; show 4 + _ ≤ _; omega)) (app_b (a := hasS) (b := quoN a.val) (by have h8 := quoN_le a.val; have h9 := lenS; have h7 := hz.1; omega))) ?_
    refine W.as ?_
    refine W.nil (thn_n ?_)
    refine WC.ret (thn_r ?_)
    refine ⟨.inr rfl, [_], ⟨rfl, trivial⟩, [], List.nil_sublist _, ?_⟩
    exact (fun {s t : Str} (h : s = t) => (congrArg (fun s : Str => Value.string s.b) h : Value.string s.b = Value.string t.b)) ((lineN_has p9 p16 (by simpa using h19)).symm)
  ·have p16 := of_decide_eq_false h16
   refine WC.skip (thn_n ?_)
   refine WC.seq ?_
   refine WC.seq ?_
   refine WC.region ?_
   refine W.ok (ok_fieldB fd23_0 rfl) ?_
   refine W.ok (ok_loadB (i := 1) (vs := [.int .i64 _]) ty3 rfl rfl rfl rfl (by simp)) ?_
   refine W.ok (ok_neq rfl rfl) ?_
   refine W.nil (thn_n ?_)
   refine WC.cond (b := _) rfl (fun h26 => ?_) (fun h26 => ?_)
   ·have p26 := nd_t h26
    refine WC.seq ?_
    refine WC.region ?_
    refine W.as ?_
    refine W.nil (thn_n ?_)
    refine WC.ret (thn_r ?_)
    refine ⟨.inr rfl, [_], ⟨rfl, trivial⟩, [], List.nil_sublist _, ?_⟩
    refine congrArg Value.string ?_
    rw [lineN_ok p9 p16 p26]; rfl
   ·have p26 := nd_f h26
    refine WC.skip (thn_n ?_)
    refine WC.seq ?_
    refine WC.region ?_
    refine W.ok (ok_fieldB fd27_3 rfl) ?_
    refine W.ok (ok_loadB (i := 0) (vs := [.slice _ _ _]) ty25 rfl rfl rfl rfl (by simp)) ?_
    refine W.ok (ok_len sl25 hw_a rfl) ?_
    refine W.qcall (rdec_fc _ (by first | assumption | exact ⟨by omega, by omega⟩)) rfl ?_
    refine W.ok (Ok.str (b := (pairsS.app (decN ((a.rows.length : Nat) : Int))).b) (ok_addS rfl rfl (by have h8 := (decN ((a.rows.length : Nat) : Int)).le; show 6 + _ ≤ _; omega)) (app_b (a := pairsS) (b := decN ((a.rows.length : Nat) : Int)) (by have h8 := decN_le (n := ((a.rows.length : Nat) : Int)) ⟨by omega, by omega⟩; have h9 := lenS; omega))) ?_
    refine W.as ?_
    refine W.nil (thn_n ?_)
    refine WC.seq ?_
    refine WC.seq ?_
    refine WC.region ?_
    refine W.as ?_
    refine W.nil (thn_n ?_)
    refine WC.block ?_
    refine WC.loop (X := Nat) (fun k => [(5, .string (rowsS (pairsS.app (decN ((a.rows.length : Nat) : Int))) (a.rows.take k)).b), (6, .int .i64 ((k : Nat) : Int)), (3, .pointer (some ⟨b10, 0, none⟩))]) (fun k _ Ml => Ml = [(b10, .cells (List.toArray [.int .i64 (a).err, .bool (a).has, .string (a).val.b, .slice pa_a (a).rows.length pc_a]) 27 (0, 0)), (b9, .cells (List.toArray [.int .i64 pk, .string pkey.b, .string phi.b, .bool po, .string pv.b, .int .i64 pl]) 23 (0, 0))] ∧ k ≤ a.rows.length) (fun k => a.rows.length - k) 0 ⟨(by rw [List.take_zero]; rfl), (by first | rfl | exact iv (by dsimp only; omega) | exact iv (by omega)), (by first | rfl | exact iv (by dsimp only; omega) | exact iv (by omega)), trivial⟩ ?_ ?_
    ·exact ⟨rfl, by omega⟩
    ·rintro k gG11 G11 _ hG11 ⟨rfl, hkn⟩
     refine WC.seq ?_
     refine WC.seq ?_
     refine WC.region ?_
     refine W.mv ?_
     refine W.ok (ok_fieldB fd27_3 rfl) ?_
     refine W.ok (ok_loadB (i := 0) (vs := [.slice _ _ _]) ty25 rfl rfl rfl rfl (by simp)) ?_
     refine W.ok (ok_len sl25 (hw_a.mono hG11) rfl) ?_
     refine W.ok (ok_lss rfl rfl) ?_
     refine W.nil (thn_n ?_)
     refine WC.cond (b := _) rfl (fun h36 => ?_) (fun h36 => ?_)
     ·have p36 := of_decide_eq_true h36
      have hkl : k < a.rows.length := by omega
      obtain ⟨hk1, hk2⟩ := hz.2.2 k hkl
      obtain ⟨hr1, hr2, hr3, hr4, hr5⟩ := row_le hk1 hk2
      have hrs := rowsS_le (s := pairsS.app (decN ((a.rows.length : Nat) : Int))) hz.2.2 k (by omega)
      have hsz1 := app_le pairsS (decN ((a.rows.length : Nat) : Int))
      have hsz2 := decN_le (n := ((a.rows.length : Nat) : Int)) ⟨by omega, by omega⟩
      obtain ⟨hq1, hq2, hq3, hq4, hq5⟩ := lenS
      have hz1 := hz.2.1
      refine WC.skip (thn_n ?_)
      refine WC.seq ?_
      refine WC.block ?_
      refine WC.draw mix (by kernel_rfl) ?_
      refine W.mv ?_
      refine W.ok (ok_fieldB fd27_3 rfl) ?_
      refine W.ok (ok_loadB (i := 0) (vs := [.slice _ _ _]) ty25 rfl rfl rfl rfl (by simp)) ?_
      refine W.mv ?_
      have q14 := (hw_a.mono hG11).at (i := k) (by omega)
      refine match q14 with | ⟨_, he12, e_13⟩ => ?_
      subst e_13
      refine W.ok (ok_indexAddr (i := k) sl25 ty45 (hw_a.mono hG11) rfl rfl ⟨by omega, by omega⟩) ?_
      refine W.ok (ok_fieldE fd45_0 rfl he12.form) ?_
      refine W.ok (ok_loadE (vs := [.string _]) ty9 he12 rfl rfl rfl (by simp)) ?_
      refine W.qcall (rquote_fc ((((a).rows)[k]).key) (by omega)) rfl ?_
      refine W.ok (Ok.str (b := ((blankS).app (quoN (a.rows[k]).key)).b) (ok_addS rfl rfl (by have h8 := (quoN (a.rows[k]).key).le; show 1 + _ ≤ _; omega)) (app_b (a := blankS) (b := quoN (a.rows[k]).key) (by omega))) ?_
      refine W.ok (Ok.str (b := (((blankS).app (quoN (a.rows[k]).key)).app (eqS)).b) (ok_addS rfl rfl (by have h8 := ((blankS).app (quoN (a.rows[k]).key)).le; show _ + 1 ≤ _; omega)) (app_b (a := (blankS).app (quoN (a.rows[k]).key)) (b := eqS) (by omega))) ?_
      refine W.ok (ok_fieldB fd27_3 rfl) ?_
      refine W.ok (ok_loadB (i := 0) (vs := [.slice _ _ _]) ty25 rfl rfl rfl rfl (by simp)) ?_
      refine W.mv ?_
      have q17 := (hw_a.mono hG11).at (i := k) (by omega)
      refine match q17 with | ⟨_, he15, e_16⟩ => ?_
      subst e_16
      refine W.ok (ok_indexAddr (i := k) sl25 ty45 (hw_a.mono hG11) rfl rfl ⟨by omega, by omega⟩) ?_
      refine W.ok (ok_fieldE fd45_1 rfl he15.form) ?_
      refine W.ok (ok_loadE (vs := [.string _]) ty9 he15 rfl rfl rfl (by simp)) ?_
      refine W.qcall (rquote_fc ((((a).rows)[k]).val) (by omega)) rfl ?_
      refine W.ok (Ok.str (b := (rowS (a.rows[k])).b) (ok_addS rfl rfl (by have h8 := (((blankS).app (quoN (a.rows[k]).key)).app (eqS)).le; have h9 := (quoN (a.rows[k]).val).le; show _ + _ ≤ _; omega)) (rowS_st (p := a.rows[k]) (by omega))) ?_
      refine W.ok (Ok.str (b := (rowsS (pairsS.app (decN ((a.rows.length : Nat) : Int))) (a.rows.take (k + 1))).b) (ok_addS rfl rfl (by have h8 := (rowsS (pairsS.app (decN ((a.rows.length : Nat) : Int))) (a.rows.take k)).le; have h9 := (rowS (a.rows[k])).le; show _ + _ ≤ _; omega)) (rowsS_st (l := a.rows) (s := pairsS.app (decN ((a.rows.length : Nat) : Int))) (k := k) hkl (by omega))) ?_
      refine W.as ?_
      refine W.nil (blk_n (thn_n ?_))
      refine WC.region ?_
      refine W.mv ?_
      refine W.ok (ok_add rfl rfl (by omega)) ?_
      refine W.as ?_
      refine W.nil (thn_n ?_)
      exact ⟨Le.rfl, k + 1, ⟨(by first | rfl | exact iv (by dsimp only; omega) | exact iv (by omega)), (by first | rfl | exact iv (by dsimp only; omega) | exact iv (by omega)), (by first | rfl | exact iv (by dsimp only; omega) | exact iv (by omega)), trivial⟩, ⟨rfl, by omega⟩, by omega⟩
     ·have p36 := of_decide_eq_false h36
      refine WC.exit (thn_x (thn_x (blk_h (thn_n ?_))))
      refine WC.seq ?_
      refine WC.region ?_
      refine W.mv ?_
      refine W.as ?_
      refine W.nil (thn_n ?_)
      refine WC.ret ?_
      refine ⟨.inr rfl, [_], ⟨rfl, trivial⟩, [], List.nil_sublist _, ?_⟩
      exact (fun {s t : Str} (h : s = t) => (congrArg (fun s : Str => Value.string s.b) h : Value.string s.b = Value.string t.b)) (by rw [lineN_rows p9 p26, List.take_of_length_le (by omega)])

end Go.Proofs.YthmkpaoolhcibaaDoor
