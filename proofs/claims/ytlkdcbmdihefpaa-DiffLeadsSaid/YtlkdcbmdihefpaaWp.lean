/- Walks of the changes that lead from a map to another. -/
import Derived.Test.YtlkdcbmdihefpaaWo
import Derived.Test.YtlkdcbmdihefpaaMm
namespace Go.Proofs.Ytlkdcbmdihefpaa
open Go Go.Fw Go.RowKit
set_option maxRecDepth 100000
set_option maxHeartbeats 1600000
set_option linter.unusedVariables false
set_option linter.unusedSimpArgs false
set_option linter.unnecessarySimpa false
theorem rchange_fc {G : GH} (rk : Str) (ra : Str) (rb : Str) (ria : Bool) (rib : Bool) :
    Fc Try.prog 16 [.agg #[.string rk.b, .string ra.b, .string rb.b, .bool ria, .bool rib]] G [] (fun v _ _ => v = .tuple #[.agg (List.toArray (((chg (⟨rk, ra, rb, ria, rib⟩ : Drow)).getD Opr.zero).cells)), .bool ((chg (⟨rk, ra, rb, ria, rib⟩ : Drow)).isSome)]) := by
 refine Fc.intro (rs := [.cell 2 38, .tmp 3]) cl16 Try.func16 rfl Try.ntmps16 rfl rfl (fun w0 => ?_)
 refine WC.seq ?_
 refine WC.region ?_
 refine W.box (L := [.string _, .string _, .string _, .bool _, .bool _]) rfl rfl (fun b1 => ?_)
 refine W.alloc zr38 (fun b2 => ?_)
 refine W.as ?_
 refine W.nil (thn_n ?_)
 refine WC.seq ?_
 refine WC.block ?_
 refine WC.seq ?_
 refine WC.region ?_
 refine W.ok (ok_fieldB fd42_4 rfl) ?_
 refine W.ok (ok_loadB (i := 1) (vs := [.bool _]) ty4 rfl rfl rfl rfl (by simp)) ?_
 refine W.ok (ok_not rfl) ?_
 refine W.as ?_
 refine W.nil (thn_n ?_)
 refine WC.cond (b := _) rfl (fun h7 => ?_) (fun h7 => ?_)
 ·refine WC.seq ?_
  refine WC.region ?_
  refine W.ok (ok_fieldB fd42_0 rfl) ?_
  refine W.ok (ok_loadB (i := 1) (vs := [.string _]) ty9 rfl rfl rfl rfl (by simp)) ?_
  refine W.ok (ok_build (L := [.int .i64 _, .string _, .string _, .bool _, .string _, .int .i64 _]) pl38 zr38 rfl rfl rfl) ?_
  refine W.store (i := 0) (vs := [.int .i64 _, .string _, .string _, .bool _, .string _, .int .i64 _]) (L' := [.int .i64 _, .string _, .string _, .bool _, .string _, .int .i64 _]) ty38 rfl rfl rfl rfl rfl rfl rfl rfl ?_
  refine W.as ?_
  refine W.nil (thn_n ?_)
  refine WC.ret (blk_r (thn_r ?_))
  refine ⟨.inr rfl, [_, _], ⟨⟨_, _, _, _, _, rfl, nthM_mem (i := 0) rfl, ty38, (by simp), rfl, rfl⟩, rfl, trivial⟩, [], List.nil_sublist _, ?_⟩
  show Value.tuple #[Value.agg (List.toArray [_, _, _, _, _, _]), Value.bool _] = _
  rw [chg_3 (by simpa using h7)]; rfl
 ·refine WC.seq ?_
  refine WC.region ?_
  refine W.ok (ok_fieldB fd42_3 rfl) ?_
  refine W.ok (ok_loadB (i := 1) (vs := [.bool _]) ty4 rfl rfl rfl rfl (by simp)) ?_
  refine W.ok (ok_not rfl) ?_
  refine W.mv ?_
  refine W.sp 15 rfl (fun h14 => ?_) (fun h14 => ?_)
  ·refine W.no (dj := 15) rfl rfl h14 ?_
   refine W.no (dj := 15) rfl rfl h14 ?_
   refine W.no (dj := 15) rfl rfl h14 ?_
   refine W.no (dj := 15) rfl rfl h14 ?_
   refine W.no (dj := 15) rfl rfl h14 ?_
   refine W.ok (ok_pick_t rfl h14) ?_
   refine W.as ?_
   refine W.nil (thn_n ?_)
   refine WC.cond_t rfl rfl ?_
   refine WC.seq ?_
   refine WC.region ?_
   refine W.ok (ok_fieldB fd42_0 rfl) ?_
   refine W.ok (ok_loadB (i := 1) (vs := [.string _]) ty9 rfl rfl rfl rfl (by simp)) ?_
   refine W.ok (ok_fieldB fd42_2 rfl) ?_
   refine W.ok (ok_loadB (i := 1) (vs := [.string _]) ty9 rfl rfl rfl rfl (by simp)) ?_
   refine W.ok (ok_build (L := [.int .i64 _, .string _, .string _, .bool _, .string _, .int .i64 _]) pl38 zr38 rfl rfl rfl) ?_
   refine W.store (i := 0) (vs := [.int .i64 _, .string _, .string _, .bool _, .string _, .int .i64 _]) (L' := [.int .i64 _, .string _, .string _, .bool _, .string _, .int .i64 _]) ty38 rfl rfl rfl rfl rfl rfl rfl rfl ?_
   refine W.as ?_
   refine W.nil (thn_n ?_)
   refine WC.ret (blk_r (thn_r ?_))
   refine ⟨.inr rfl, [_, _], ⟨⟨_, _, _, _, _, rfl, nthM_mem (i := 0) rfl, ty38, (by simp), rfl, rfl⟩, rfl, trivial⟩, [], List.nil_sublist _, ?_⟩
   show Value.tuple #[Value.agg (List.toArray [_, _, _, _, _, _]), Value.bool _] = _
   rw [chg_1 (by simpa using h7) (.inl (by simpa using h14))]; rfl
  ·refine W.yes (dj := 15) rfl rfl h14 ?_
   refine W.ok (ok_fieldB fd42_1 rfl) ?_
   refine W.yes (dj := 15) rfl rfl h14 ?_
   refine W.ok (ok_loadB (i := 1) (vs := [.string _]) ty9 rfl rfl rfl rfl (by simp)) ?_
   refine W.yes (dj := 15) rfl rfl h14 ?_
   refine W.ok (ok_fieldB fd42_2 rfl) ?_
   refine W.yes (dj := 15) rfl rfl h14 ?_
   refine W.ok (ok_loadB (i := 1) (vs := [.string _]) ty9 rfl rfl rfl rfl (by simp)) ?_
   refine W.yes (dj := 15) rfl rfl h14 ?_
   refine W.ok (ok_neqS rfl rfl) ?_
   refine W.ok (ok_pick_f rfl h14) ?_
   refine W.as ?_
   refine W.nil (thn_n ?_)
   refine WC.cond (b := _) rfl (fun h20 => ?_) (fun h20 => ?_)
   ·have p20 := nd_t h20
    refine WC.seq ?_
    refine WC.region ?_
    refine W.ok (ok_fieldB fd42_0 rfl) ?_
    refine W.ok (ok_loadB (i := 1) (vs := [.string _]) ty9 rfl rfl rfl rfl (by simp)) ?_
    refine W.ok (ok_fieldB fd42_2 rfl) ?_
    refine W.ok (ok_loadB (i := 1) (vs := [.string _]) ty9 rfl rfl rfl rfl (by simp)) ?_
    refine W.ok (ok_build (L := [.int .i64 _, .string _, .string _, .bool _, .string _, .int .i64 _]) pl38 zr38 rfl rfl rfl) ?_
    refine W.store (i := 0) (vs := [.int .i64 _, .string _, .string _, .bool _, .string _, .int .i64 _]) (L' := [.int .i64 _, .string _, .string _, .bool _, .string _, .int .i64 _]) ty38 rfl rfl rfl rfl rfl rfl rfl rfl ?_
    refine W.as ?_
    refine W.nil (thn_n ?_)
    refine WC.ret (blk_r (thn_r ?_))
    refine ⟨.inr rfl, [_, _], ⟨⟨_, _, _, _, _, rfl, nthM_mem (i := 0) rfl, ty38, (by simp), rfl, rfl⟩, rfl, trivial⟩, [], List.nil_sublist _, ?_⟩
    show Value.tuple #[Value.agg (List.toArray [_, _, _, _, _, _]), Value.bool _] = _
    rw [chg_1 (by simpa using h7) (.inr (fun e => p20 (congrArg Str.b e)))]; rfl
   ·have p20 := nd_f h20
    refine WC.skip (blk_n (thn_n ?_))
    refine WC.seq ?_
    refine WC.region ?_
    refine W.ok (ok_build (L := [.int .i64 _, .string _, .string _, .bool _, .string _, .int .i64 _]) pl38 zr38 rfl rfl rfl) ?_
    refine W.store (i := 0) (vs := [.int .i64 _, .string _, .string _, .bool _, .string _, .int .i64 _]) (L' := [.int .i64 _, .string _, .string _, .bool _, .string _, .int .i64 _]) ty38 rfl rfl rfl rfl rfl rfl rfl rfl ?_
    refine W.as ?_
    refine W.nil (thn_n ?_)
    refine WC.ret ?_
    refine ⟨.inr rfl, [_, _], ⟨⟨_, _, _, _, _, rfl, nthM_mem (i := 0) rfl, ty38, (by simp), rfl, rfl⟩, rfl, trivial⟩, [], List.nil_sublist _, ?_⟩
    show Value.tuple #[Value.agg (List.toArray [_, _, _, _, _, _]), Value.bool _] = _
    rw [chg_0 (by simpa using h7) (by simpa using h14) (Str.ext' p20)]; rfl

theorem dchanges_fc {G : GH} {v_a : Value} {a : List Pair} (h_a : SlR ePair G v_a a) {v_b : Value} {b : List Pair} (h_b : SlR ePair G v_b b) (hn : a.length + b.length ≤ 1000000) :
    Fc Try.prog 7 [v_a, v_b] G [] (fun v G' M' => M' = [] ∧ ∃ u0, v = u0 ∧ SlR eOp G' u0 (chgN a b)) := by
 obtain ⟨sa_a, sc_a, rfl⟩ := h_a.form
 obtain ⟨sa_b, sc_b, rfl⟩ := h_b.form
 have hla := h_a.len47
 have hlb := h_b.len47
 have hbl := both_len a b
 refine Fc.intro (rs := [.tmp 4]) cl7 Try.func7 rfl Try.ntmps7 rfl rfl (fun w0 => ?_)
 refine WC.seq ?_
 refine WC.region ?_
 refine W.as ?_
 refine W.nil (thn_n ?_)
 refine WC.seq ?_
 refine WC.region ?_
 refine W.as ?_
 refine W.nil (thn_n ?_)
 refine WC.seq ?_
 refine WC.seq ?_
 refine WC.region ?_
 refine W.mv ?_
 refine W.mv ?_
 refine W.call (Mp := []) (both_fc h_a h_b (by first | assumption | omega | (simp; omega) | (exact PairsR.fold (by assumption) (by assumption)))) rfl (List.Perm.refl _) ?_
 intro _ G3 _ hG3 q5
 refine match q5 with | ⟨e_6, _, e_7, hv4⟩ => ?_
 subst e_6
 subst e_7
 have q9 := hv4.form
 refine match q9 with | ⟨sa_hv4, sc_hv4, e_8⟩ => ?_
 subst e_8
 refine W.ok (ok_len sl39 hv4 rfl) ?_
 refine W.mv ?_
 refine W.nil (thn_n ?_)
 refine WC.block ?_
 refine WC.loop (X := (Nat) × Value × MH) (fun k => [(14, .int .i64 ((k.1 : Nat) : Int)), (12, .slice sa_hv4 (bothN (a) (b)).length sc_hv4), (13, .int .i64 (((bothN (a) (b)).length : Nat) : Int)), (5, k.2.1)]) (fun k G Ml => Ml = (k.2.2 ++ []) ∧ OwnR eOp 38 G k.2.1 (((bothN a b).take k.1).filterMap chg) k.2.2 ∧ k.1 ≤ (bothN a b).length) (fun k => (bothN a b).length - k.1) (0, .slice none 0 0, ([] : MH)) ⟨(by first | rfl | exact iv (by dsimp only; omega) | exact iv (by omega)), (by first | rfl | exact iv (by dsimp only; omega) | exact iv (by omega)), (by first | rfl | exact iv (by dsimp only; omega) | exact iv (by omega)), (by first | rfl | exact iv (by dsimp only; omega) | exact iv (by omega)), trivial⟩ ?_ ?_
 ·exact ⟨rfl, (by simpa using OwnR.nil), by omega⟩
 ·rintro ⟨k, v_5, M_5⟩ gG10 G10 _ hG10 ⟨rfl, ho_5, hk⟩
  try dsimp only at ho_5 hk
  have hcl := List.length_filterMap_le chg ((bothN a b).take k)
  have htl : ((bothN a b).take k).length ≤ k := by simp; omega
  refine WC.seq ?_
  refine WC.region ?_
  refine W.ok (ok_lss rfl rfl) ?_
  refine W.nil (thn_n ?_)
  refine WC.seq ?_
  refine WC.cond (b := _) rfl (fun h15 => ?_) (fun h15 => ?_)
  ·have p15 := of_decide_eq_true h15
   refine WC.skip (thn_n ?_)
   refine WC.seq ?_
   refine WC.block ?_
   refine WC.seq ?_
   refine WC.region ?_
   have q15 := (hv4.mono hG10).at (i := k) (by omega)
   refine match q15 with | ⟨_, he11, e_14⟩ => ?_
   subst e_14
   refine W.ok (ok_indexAddr (i := k) sl39 ty42 (hv4.mono hG10) rfl rfl ⟨by omega, by omega⟩) ?_
   refine W.ok (ok_loadE (vs := [.string _, .string _, .string _, .bool _, .bool _]) ty42 he11 rfl rfl rfl (by simp)) ?_
   refine W.alloc zr42 (fun b16 => ?_)
   refine W.store (i := 0) (vs := [.string _, .string _, .string _, .bool _, .bool _]) (L' := [.string _, .string _, .string _, .bool _, .bool _]) ty42 rfl rfl rfl rfl rfl rfl rfl rfl ?_
   refine W.nil (thn_n ?_)
   refine WC.seq ?_
   refine WC.region ?_
   refine W.ok (ok_loadB (i := 0) (vs := [.string _, .string _, .string _, .bool _, .bool _]) ty42 rfl rfl rfl rfl (by simp)) ?_
   refine W.qcall (rchange_fc _ _ _ _ _) rfl ?_
   refine W.mv ?_
   refine W.ok (ok_extract rfl rfl) ?_
   refine W.ok (ok_extract rfl rfl) ?_
   refine W.alloc zr38 (fun b17 => ?_)
   refine W.store (i := 0) (vs := [.int .i64 _, .string _, .string _, .bool _, .string _, .int .i64 _]) (L' := [.int .i64 _, .string _, .string _, .bool _, .string _, .int .i64 _]) ty38 rfl rfl rfl rfl rfl rfl rfl rfl ?_
   refine W.as ?_
   refine W.nil (thn_n ?_)
   refine WC.seq ?_
   refine WC.region ?_
   refine W.mv ?_
   refine W.nil (thn_n ?_)
   refine WC.cond (b := _) rfl (fun h20_1 => ?_) (fun h20_1 => ?_)
   ·refine WC.region ?_
    refine W.mv ?_
    refine W.ok (ok_loadB (i := 0) (vs := [.int .i64 _, .string _, .string _, .bool _, .string _, .int .i64 _]) ty38 rfl rfl rfl rfl (by simp)) ?_
    refine W.lit (e := eOp) (l := [((chg ((bothN a b)[k]'_)).getD Opr.zero)]) (css := [[.int .i64 _, .string _, .string _, .bool _, .string _, .int .i64 _]]) sl26 ty38 zr38 rfl rfl rfl rfl rfl rfl ⟨⟨rfl, chg_ok _⟩, trivial⟩ (fun bl18 G18 hG18 hv18 => ?_)
    refine W.app (e := eOp) sl26 ty38 zr38 rfl by38 rfl rfl ((ho_5.mono hG18)) (hv18) (pmC (pmC (List.Perm.refl _))) (by show (List.length _ + 1) * 72 ≤ _; omega) (fun v19 Ms20 ho21 => ?_)
    refine W.perm (pmC (pmC (List.Perm.refl _))).symm ?_
    refine W.as ?_
    refine W.nil (blk_n (thn_n ?_))
    refine WC.region ?_
    refine W.ok (ok_add rfl rfl (by omega)) ?_
    refine W.mv ?_
    refine W.sub (((List.Sublist.refl _).cons _).cons _) ?_
    refine W.nil (thn_n ?_)
    exact ⟨hG18, (k + 1, v19, Ms20), ⟨(by first | rfl | exact iv (by dsimp only; omega) | exact iv (by omega)), (by first | rfl | exact iv (by dsimp only; omega) | exact iv (by omega)), (by first | rfl | exact iv (by dsimp only; omega) | exact iv (by omega)), (by first | rfl | exact iv (by dsimp only; omega) | exact iv (by omega)), trivial⟩, ⟨rfl, (by have h := ho21; rw [fm_t (by omega) Opr.zero (by assumption)]; exact h), by omega⟩, by omega⟩
   ·refine WC.skip (blk_n (thn_n ?_))
    refine WC.region ?_
    refine W.ok (ok_add rfl rfl (by omega)) ?_
    refine W.mv ?_
    refine W.sub (((List.Sublist.refl _).cons _).cons _) ?_
    refine W.nil (thn_n ?_)
    exact ⟨Le.rfl, (k + 1, v_5, M_5), ⟨(by first | rfl | exact iv (by dsimp only; omega) | exact iv (by omega)), (by first | rfl | exact iv (by dsimp only; omega) | exact iv (by omega)), (by first | rfl | exact iv (by dsimp only; omega) | exact iv (by omega)), (by first | rfl | exact iv (by dsimp only; omega) | exact iv (by omega)), trivial⟩, ⟨rfl, (by have h := ho_5; rw [fm_f (by omega) (by assumption)]; exact h), by omega⟩, by omega⟩
  ·have p15 := of_decide_eq_false h15
   refine WC.exit (thn_x (thn_x (blk_h (thn_n ?_))))
   refine WC.seq ?_
   refine WC.region ?_
   refine W.mv ?_
   refine W.as ?_
   refine W.nil (thn_n ?_)
   refine WC.giveO ho_5 (List.Perm.refl _) (fun G22 hG22 hv22 => ?_)
   refine WC.ret ?_
   refine ⟨.inr rfl, [_], ⟨rfl, trivial⟩, [], List.nil_sublist _, ?_⟩
   refine ⟨rfl, _, rfl, ?_⟩
   · have h := hv22; rw [List.take_of_length_le (by omega)] at h; exact h

end Go.Proofs.Ytlkdcbmdihefpaa
