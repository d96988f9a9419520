/- Walks of the changes that lead from a map to another. -/
import Derived.Test.YtebkfinhhpelbaaGreatQxWo
import Derived.Test.YtebkfinhhpelbaaGreatQxMm
namespace Go.Proofs.YtebkfinhhpelbaaGreat
open Go Go.Fw Go.RowKit
set_option maxRecDepth 100000
set_option maxHeartbeats 1600000
set_option linter.unusedVariables false
set_option linter.unusedSimpArgs false
set_option linter.unnecessarySimpa false
theorem rchange_fc {G : GH} (rk : Str) (ra : Str) (rb : Str) (ria : Bool) (rib : Bool) :
    Fc Tryz.prog 161 [.agg #[.string rk.b, .string ra.b, .string rb.b, .bool ria, .bool rib]] G [] (fun v _ _ => v = .tuple #[.agg (List.toArray (((chg (⟨rk, ra, rb, ria, rib⟩ : Drow)).getD Opr.zero).cells)), .bool ((chg (⟨rk, ra, rb, ria, rib⟩ : Drow)).isSome)]) := by
 refine Fc.intro (rs := [.cell 2 155, .tmp 3]) cl161 Tryz.func161 rfl Tryz.ntmps161 rfl rfl (fun w0 => ?_)
 refine WC.seq (WC.region (W.box (L := [.string _, .string _, .string _, .bool _, .bool _]) rfl rfl (fun b1 => (W.alloc zr155 (fun b2 => (W.as (W.nil (thn_n (WC.seq (WC.block ?_))))))))))
 refine WC.seq (WC.region (W.ok (ok_fieldB fd225_4 rfl) (W.ok (ok_loadB (i := 1) (vs := [.bool _]) ty4 rfl rfl rfl rfl (by simp)) (W.ok (ok_not rfl) (W.as (W.nil (thn_n ?_)))))))
 refine WC.cond (b := _) rfl (fun h7 => ?_) (fun h7 => ?_)
 ·refine WC.seq (WC.region (W.ok (ok_fieldB fd225_0 rfl) (W.ok (ok_loadB (i := 1) (vs := [.string _]) ty9 rfl rfl rfl rfl (by simp)) (W.ok (ok_build (L := [.int .i64 _, .string _, .string _, .bool _, .string _, .int .i64 _]) pl155 zr155 rfl rfl rfl) (W.store (i := 0) (vs := [.int .i64 _, .string _, .string _, .bool _, .string _, .int .i64 _]) (L' := [.int .i64 _, .string _, .string _, .bool _, .string _, .int .i64 _]) ty155 rfl rfl rfl rfl rfl rfl rfl rfl (W.as (W.nil (thn_n ?_))))))))
  refine WC.ret (blk_r (thn_r ?_))
  refine ⟨.inr rfl, [_, _], ⟨⟨_, _, _, _, _, rfl, nthM_mem (i := 0) rfl, ty155, (by simp), rfl, rfl⟩, rfl, trivial⟩, [], List.nil_sublist _, ?_⟩
  show Value.tuple #[Value.agg (List.toArray [_, _, _, _, _, _]), Value.bool _] = _
  rw [chg_3 (by simpa using h7)]; rfl
 ·refine WC.seq (WC.region (W.ok (ok_fieldB fd225_3 rfl) (W.ok (ok_loadB (i := 1) (vs := [.bool _]) ty4 rfl rfl rfl rfl (by simp)) (W.ok (ok_not rfl) (W.mv ?_)))))
  refine W.sp 15 rfl (fun h14 => ?_) (fun h14 => ?_)
  ·refine W.no (dj := 15) rfl rfl h14 (W.no (dj := 15) rfl rfl h14 (W.no (dj := 15) rfl rfl h14 (W.no (dj := 15) rfl rfl h14 (W.no (dj := 15) rfl rfl h14 (W.ok (ok_pick_t rfl h14) (W.as (W.nil (thn_n ?_))))))))
   refine WC.cond_t rfl rfl (WC.seq (WC.region (W.ok (ok_fieldB fd225_0 rfl) (W.ok (ok_loadB (i := 1) (vs := [.string _]) ty9 rfl rfl rfl rfl (by simp)) (W.ok (ok_fieldB fd225_2 rfl) (W.ok (ok_loadB (i := 1) (vs := [.string _]) ty9 rfl rfl rfl rfl (by simp)) (W.ok (ok_build (L := [.int .i64 _, .string _, .string _, .bool _, .string _, .int .i64 _]) pl155 zr155 rfl rfl rfl) ?_)))))))
   refine W.store (i := 0) (vs := [.int .i64 _, .string _, .string _, .bool _, .string _, .int .i64 _]) (L' := [.int .i64 _, .string _, .string _, .bool _, .string _, .int .i64 _]) ty155 rfl rfl rfl rfl rfl rfl rfl rfl (W.as (W.nil (thn_n (WC.ret (blk_r (thn_r ?_))))))
   refine ⟨.inr rfl, [_, _], ⟨⟨_, _, _, _, _, rfl, nthM_mem (i := 0) rfl, ty155, (by simp), rfl, rfl⟩, rfl, trivial⟩, [], List.nil_sublist _, ?_⟩
   show Value.tuple #[Value.agg (List.toArray [_, _, _, _, _, _]), Value.bool _] = _
   rw [chg_1 (by simpa using h7) (.inl (by simpa using h14))]; rfl
  ·refine W.yes (dj := 15) rfl rfl h14 (W.ok (ok_fieldB fd225_1 rfl) (W.yes (dj := 15) rfl rfl h14 (W.ok (ok_loadB (i := 1) (vs := [.string _]) ty9 rfl rfl rfl rfl (by simp)) (W.yes (dj := 15) rfl rfl h14 (W.ok (ok_fieldB fd225_2 rfl) (W.yes (dj := 15) rfl rfl h14 (W.ok (ok_loadB (i := 1) (vs := [.string _]) ty9 rfl rfl rfl rfl (by simp)) ?_)))))))
   refine W.yes (dj := 15) rfl rfl h14 (W.ok (ok_neqS rfl rfl) (W.ok (ok_pick_f rfl h14) (W.as (W.nil (thn_n ?_)))))
   refine WC.cond (b := _) rfl (fun h20 => ?_) (fun h20 => ?_)
   ·have p20 := nd_t h20
    refine WC.seq (WC.region (W.ok (ok_fieldB fd225_0 rfl) (W.ok (ok_loadB (i := 1) (vs := [.string _]) ty9 rfl rfl rfl rfl (by simp)) (W.ok (ok_fieldB fd225_2 rfl) (W.ok (ok_loadB (i := 1) (vs := [.string _]) ty9 rfl rfl rfl rfl (by simp)) (W.ok (ok_build (L := [.int .i64 _, .string _, .string _, .bool _, .string _, .int .i64 _]) pl155 zr155 rfl rfl rfl) (W.store (i := 0) (vs := [.int .i64 _, .string _, .string _, .bool _, .string _, .int .i64 _]) (L' := [.int .i64 _, .string _, .string _, .bool _, .string _, .int .i64 _]) ty155 rfl rfl rfl rfl rfl rfl rfl rfl ?_)))))))
    refine W.as (W.nil (thn_n (WC.ret (blk_r (thn_r ?_)))))
    refine ⟨.inr rfl, [_, _], ⟨⟨_, _, _, _, _, rfl, nthM_mem (i := 0) rfl, ty155, (by simp), rfl, rfl⟩, rfl, trivial⟩, [], List.nil_sublist _, ?_⟩
    show Value.tuple #[Value.agg (List.toArray [_, _, _, _, _, _]), Value.bool _] = _
    rw [chg_1 (by simpa using h7) (.inr (fun e => p20 (congrArg Str.b e)))]; rfl
   ·have p20 := nd_f h20
    refine WC.skip (blk_n (thn_n (WC.seq (WC.region (W.ok (ok_build (L := [.int .i64 _, .string _, .string _, .bool _, .string _, .int .i64 _]) pl155 zr155 rfl rfl rfl) (W.store (i := 0) (vs := [.int .i64 _, .string _, .string _, .bool _, .string _, .int .i64 _]) (L' := [.int .i64 _, .string _, .string _, .bool _, .string _, .int .i64 _]) ty155 rfl rfl rfl rfl rfl rfl rfl rfl (W.as (W.nil (thn_n (WC.ret ?_))))))))))
    refine ⟨.inr rfl, [_, _], ⟨⟨_, _, _, _, _, rfl, nthM_mem (i := 0) rfl, ty155, (by simp), rfl, rfl⟩, rfl, trivial⟩, [], List.nil_sublist _, ?_⟩
    show Value.tuple #[Value.agg (List.toArray [_, _, _, _, _, _]), Value.bool _] = _
    rw [chg_0 (by simpa using h7) (by simpa using h14) (Str.ext' p20)]; rfl

theorem dchanges_fc {G : GH} {v_a : Value} {a : List Pair} (h_a : SlR ePair G v_a a) {v_b : Value} {b : List Pair} (h_b : SlR ePair G v_b b) (hn : a.length + b.length ≤ 1000000) :
    Fc Tryz.prog 100 [v_a, v_b] G [] (fun v G' M' => M' = [] ∧ ∃ u0, v = u0 ∧ SlR eOp G' u0 (chgN a b)) := by
 obtain ⟨sa_a, sc_a, rfl⟩ := h_a.form
 obtain ⟨sa_b, sc_b, rfl⟩ := h_b.form
 have hla := h_a.len47
 have hlb := h_b.len47
 have hbl := both_len a b
 refine Fc.intro (rs := [.tmp 4]) cl100 Tryz.func100 rfl Tryz.ntmps100 rfl rfl (fun w0 => ?_)
 refine WC.seq (WC.region (W.as (W.nil (thn_n (WC.seq (WC.region (W.as (W.nil (thn_n ?_)))))))))
 refine WC.seq (WC.seq (WC.region (W.mv (W.mv (W.call (Mp := []) (both_fc h_a h_b (by first | assumption | omega | (simp; omega) | (exact PairsR.fold (by assumption) (by assumption)))) rfl (List.Perm.refl _) ?_)))))
 intro _ G3 _ hG3 q5
 refine match q5 with | ⟨e_6, _, e_7, hv4⟩ => ?_
 subst e_6
 subst e_7
 have q9 := hv4.form
 refine match q9 with | ⟨sa_hv4, sc_hv4, e_8⟩ => ?_
 subst e_8
 refine W.ok (ok_len sl221 hv4 rfl) (W.mv (W.nil (thn_n (WC.block ?_))))
 refine WC.loop (X := (Nat) × Value × MH) (fun k => [(14, .int .i64 ((k.1 : Nat) : Int)), (12, .slice sa_hv4 (bothN (a) (b)).length sc_hv4), (13, .int .i64 (((bothN (a) (b)).length : Nat) : Int)), (5, k.2.1)]) (fun k G Ml => Ml = (k.2.2 ++ []) ∧ OwnR eOp 155 G k.2.1 (((bothN a b).take k.1).filterMap chg) k.2.2 ∧ k.1 ≤ (bothN a b).length) (fun k => (bothN a b).length - k.1) (0, .slice none 0 0, ([] : MH)) ⟨eqv, eqv, eqv, eqv, trivial⟩ ?_ ?_
 ·exact ⟨rfl, (by simpa using OwnR.nil), by omega⟩
 ·rintro ⟨k, v_5, M_5⟩ gG10 G10 _ hG10 ⟨rfl, ho_5, hk⟩
  try dsimp only at ho_5 hk
  have hcl := List.length_filterMap_le chg ((bothN a b).take k)
  have htl : ((bothN a b).take k).length ≤ k := by simp; omega
  refine WC.fr (f := setL gG10 [(14, .int .i64 ((k : Nat) : Int)), (12, .slice sa_hv4 (bothN (a) (b)).length sc_hv4), (13, .int .i64 (((bothN (a) (b)).length : Nat) : Int)), (5, v_5)]) rfl (WC.seq (WC.region (W.ok (ok_lss rfl rfl) (W.nil (thn_n (WC.seq ?_))))))
  refine WC.cond (b := _) rfl (fun h15 => ?_) (fun h15 => ?_)
  ·have p15 := of_decide_eq_true h15
   refine WC.skip (thn_n (WC.seq (WC.block (WC.seq (WC.region ?_)))))
   have q15 := (hv4.mono hG10).at (i := k) (by omega)
   refine match q15 with | ⟨_, he11, e_14⟩ => ?_
   subst e_14
   refine W.ok (ok_indexAddr (i := k) sl221 ty225 (hv4.mono hG10) rfl rfl ⟨by omega, by omega⟩) (W.ok (ok_loadE (vs := [.string _, .string _, .string _, .bool _, .bool _]) ty225 he11 rfl rfl rfl (by simp)) (W.alloc zr225 (fun b16 => (W.store (i := 0) (vs := [.string _, .string _, .string _, .bool _, .bool _]) (L' := [.string _, .string _, .string _, .bool _, .bool _]) ty225 rfl rfl rfl rfl rfl rfl rfl rfl (W.nil (thn_n (WC.seq (WC.region (W.ok (ok_loadB (i := 0) (vs := [.string _, .string _, .string _, .bool _, .bool _]) ty225 rfl rfl rfl rfl (by simp)) ?_)))))))))
   refine W.qcall (rchange_fc _ _ _ _ _) rfl (W.mv (W.ok (ok_extract rfl rfl) (W.ok (ok_extract rfl rfl) (W.alloc zr155 (fun b17 => (W.store (i := 0) (vs := [.int .i64 _, .string _, .string _, .bool _, .string _, .int .i64 _]) (L' := [.int .i64 _, .string _, .string _, .bool _, .string _, .int .i64 _]) ty155 rfl rfl rfl rfl rfl rfl rfl rfl (W.as (W.nil (thn_n ?_)))))))))
   refine WC.seq (WC.region (W.mv (W.nil (thn_n ?_))))
   refine WC.cond (b := _) rfl (fun h20_1 => ?_) (fun h20_1 => ?_)
   ·refine WC.region (W.mv (W.ok (ok_loadB (i := 0) (vs := [.int .i64 _, .string _, .string _, .bool _, .string _, .int .i64 _]) ty155 rfl rfl rfl rfl (by simp)) (W.lit (e := eOp) (l := [((chg ((bothN a b)[k]'_)).getD Opr.zero)]) (css := [[.int .i64 _, .string _, .string _, .bool _, .string _, .int .i64 _]]) sl77 ty155 zr155 rfl rfl rfl rfl rfl rfl ⟨⟨rfl, chg_ok _⟩, trivial⟩ (fun bl18 G18 hG18 hv18 => (W.app (e := eOp) sl77 ty155 zr155 rfl by155 rfl rfl ((ho_5.mono hG18)) (hv18) (pmC (pmC (List.Perm.refl _))) (by show (List.length _ + 1) * 72 ≤ _; omega) (fun v19 Ms20 ho21 => (W.perm (pmC (pmC (List.Perm.refl _))).symm (W.as (W.nil (blk_n (thn_n ?_)))))))))))
    refine WC.region (W.ok (ok_add rfl rfl (by omega)) (W.mv (W.sub (((List.Sublist.refl _).cons _).cons _) (W.nil (thn_n ?_)))))
    exact ⟨hG18, (k + 1, v19, Ms20), ⟨eqv, eqv, eqv, eqv, trivial⟩, ⟨rfl, (by have h := ho21; rw [fm_t (by omega) Opr.zero (by assumption)]; exact h), by omega⟩, by omega⟩
   ·refine WC.skip (blk_n (thn_n (WC.region (W.ok (ok_add rfl rfl (by omega)) (W.mv (W.sub (((List.Sublist.refl _).cons _).cons _) (W.nil (thn_n ?_))))))))
    exact ⟨Le.rfl, (k + 1, v_5, M_5), ⟨eqv, eqv, eqv, eqv, trivial⟩, ⟨rfl, (by have h := ho_5; rw [fm_f (by omega) (by assumption)]; exact h), by omega⟩, by omega⟩
  ·have p15 := of_decide_eq_false h15
   refine WC.exit (thn_x (thn_x (blk_h (thn_n (WC.seq (WC.region (W.mv (W.as (W.nil (thn_n (WC.giveO ho_5 (List.Perm.refl _) (fun G22 hG22 hv22 => (WC.ret ?_)))))))))))))
   refine ⟨.inr rfl, [_], ⟨rfl, trivial⟩, [], List.nil_sublist _, ?_⟩
   refine ⟨rfl, _, rfl, ?_⟩
   · have h := hv22; rw [List.take_of_length_le (by omega)] at h; exact h

end Go.Proofs.YtebkfinhhpelbaaGreat
/- Walks of keys and operations of two maps, by definition. -/
namespace Go.Proofs.YtebkfinhhpelbaaGreat
open Go Go.Fw Go.RowKit
set_option maxRecDepth 100000
set_option maxHeartbeats 1600000
set_option linter.unusedVariables false
set_option linter.unusedSimpArgs false
set_option linter.unnecessarySimpa false
theorem has1_fc {G : GH} {v_l : Value} {l : List Str} {Ms_l : MH} (h_l : OwnR eStr 9 G v_l l Ms_l) (k : Str) :
    Fc Tryz.prog 207 [v_l, .string k.b] G Ms_l (fun v _ M' => v = .bool (decide (k ∈ l)) ∧ Ms_l = M') := by
 have hl := h_l.len47
 refine Fc.intro (rs := [.tmp 4]) cl207 Tryz.func207 rfl Tryz.ntmps207 rfl rfl (fun w0 => ?_)
 refine WC.perm (M' := (Ms_l ++ [])) (by simp) (WC.seq (WC.region (W.as (W.nil (thn_n (WC.seq (WC.seq (WC.region ?_))))))))
 refine W.as (W.nil (thn_n (WC.block ?_)))
 refine WC.loop (X := Nat) (fun j => [(5, .int .i64 ((j : Nat) : Int)), (0, v_l), (1, .string k.b)]) (fun j _ Ml => Ml = (Ms_l ++ []) ∧ ∀ i (h : i < l.length), i < j → l[i] ≠ k) (fun j => l.length - j) 0 ⟨eqv, eqv, eqv, trivial⟩ ?_ ?_
 ·exact ⟨rfl, fun i _ h => by omega⟩
 ·rintro j gG1 G1 _ hG1 ⟨rfl, hk⟩
  refine WC.seq (WC.seq (WC.region (W.mv (W.mv (W.ok (ok_lenO sl43 (h_l.mono hG1) rfl) (W.ok (ok_lss rfl rfl) (W.nil (thn_n ?_))))))))
  refine WC.cond (b := _) rfl (fun h9 => ?_) (fun h9 => ?_)
  ·have p9 := of_decide_eq_true h9
   refine WC.skip (thn_n (WC.seq (WC.block (WC.seq (WC.region (W.mv (W.mv ?_)))))))
   have q4 := (h_l.mono hG1).at (i := j) (by omega)
   refine match q4 with | ⟨_, he2, e_3⟩ => ?_
   subst e_3
   refine W.ok (ok_indexAddrO (i := j) sl43 ty9 (h_l.mono hG1) rfl rfl ⟨by omega, by omega⟩) (W.ok (ok_loadO (vs := [.string _]) ty9 he2 (List.Perm.refl _) rfl rfl rfl (by simp)) (W.mv (W.ok (ok_eqlS rfl rfl) (W.nil (thn_n ?_)))))
   refine WC.cond (b := _) rfl (fun h17 => ?_) (fun h17 => ?_)
   ·have p17 := of_decide_eq_true h17
    refine WC.seq (WC.region (W.as (W.nil (thn_n (WC.ret (blk_r (thn_r (thn_r (blk_r (thn_r ?_))))))))))
    refine ⟨.inr rfl, [_], ⟨rfl, trivial⟩, Ms_l, List.sublist_append_left _ _, ?_⟩
    refine ⟨congrArg Value.bool ?_, rfl⟩
    exact (decide_eq_true (by have e : l[j] = k := Str.ext' p17; rw [← e]; exact List.getElem_mem _)).symm
   ·have p17 := of_decide_eq_false h17
    refine WC.skip (blk_n (thn_n (WC.region (W.mv (W.ok (ok_add rfl rfl (by omega)) (W.as (W.nil (thn_n ?_))))))))
    exact ⟨Le.rfl, j + 1, ⟨eqv, eqv, eqv, trivial⟩, ⟨rfl, fun i h hi => by
      by_cases e : i = j
      · subst e; exact fun e2 => p17 (congrArg Str.b e2)
      · exact hk i h (by omega)⟩, by omega⟩
  ·have p9 := of_decide_eq_false h9
   refine WC.exit (thn_x (thn_x (blk_h (thn_n (WC.seq (WC.region (W.as (W.nil (thn_n (WC.ret ?_))))))))))
   refine ⟨.inr rfl, [_], ⟨rfl, trivial⟩, Ms_l, List.sublist_append_left _ _, ?_⟩
   refine ⟨congrArg Value.bool ?_, rfl⟩
   exact (decide_eq_false fun hm => by obtain ⟨i, hi, e⟩ := List.getElem_of_mem hm; exact hk i hi (by omega) e).symm

theorem ops53_fc {G : GH} {v_a : Value} {a : List Opr} (h_a : SlR eOp G v_a a) {v_b : Value} {b : List Opr} (h_b : SlR eOp G v_b b) :
    Fc Tryz.prog 45 [v_a, v_b] G [] (fun v _ _ => v = .bool (decide (a = b))) := by
 obtain ⟨sa_a, sc_a, rfl⟩ := h_a.form
 obtain ⟨sa_b, sc_b, rfl⟩ := h_b.form
 have ha := h_a.len47
 have hb := h_b.len47
 refine Fc.intro (rs := [.tmp 4]) cl45 Tryz.func45 rfl Tryz.ntmps45 rfl rfl (fun w0 => ?_)
 refine WC.seq (WC.region (W.as (W.nil (thn_n (WC.seq (WC.seq (WC.region (W.mv ?_))))))))
 refine W.ok (ok_len sl77 h_a rfl) (W.mv (W.ok (ok_len sl77 h_b rfl) (W.ok (ok_neq rfl rfl) (W.nil (thn_n ?_)))))
 refine WC.cond (b := _) rfl (fun h10 => ?_) (fun h10 => ?_)
 ·have p10 := nd_t h10
  refine WC.seq (WC.region (W.as (W.nil (thn_n (WC.ret (thn_r ?_))))))
  refine ⟨.inr rfl, [_], ⟨rfl, trivial⟩, [], List.nil_sublist _, ?_⟩
  refine congrArg Value.bool ?_
  exact (decide_eq_false fun e => by subst e; omega).symm
 ·have p10 := nd_f h10
  have hab : a.length = b.length := by omega
  refine WC.skip (thn_n (WC.seq (WC.seq (WC.region (W.as (W.nil (thn_n (WC.block ?_))))))))
  refine WC.loop (X := Nat) (fun k => [(5, .int .i64 ((k : Nat) : Int)), (0, .slice sa_a a.length sc_a), (1, .slice sa_b b.length sc_b)]) (fun k _ Ml => Ml = [] ∧ k ≤ a.length ∧ ∀ i (h : i < a.length) (h2 : i < b.length), i < k → a[i] = b[i]) (fun k => a.length - k) 0 ⟨eqv, eqv, eqv, trivial⟩ ?_ ?_
  ·exact ⟨rfl, by omega, fun i _ _ h => by omega⟩
  ·rintro k gG5 G5 _ hG5 ⟨rfl, hk0, hk⟩
   refine WC.seq (WC.seq (WC.region (W.mv (W.mv (W.ok (ok_len sl77 (h_a.mono hG5) rfl) (W.ok (ok_lss rfl rfl) (W.nil (thn_n ?_))))))))
   refine WC.cond (b := _) rfl (fun h14 => ?_) (fun h14 => ?_)
   ·have p14 := of_decide_eq_true h14
    refine WC.skip (thn_n (WC.seq (WC.block (WC.seq (WC.draw mix (by kernel_rfl) (W.mv (W.mv ?_)))))))
    have q10 := (h_a.mono hG5).at (i := k) (by omega)
    refine match q10 with | ⟨_, he6, ⟨e_9, hm7⟩⟩ => ?_
    subst e_9
    refine W.ok (ok_indexAddr (i := k) sl77 ty155 (h_a.mono hG5) rfl rfl ⟨by omega, by omega⟩) (W.ok (ok_loadE (vs := [.int .i64 _, .string _, .string _, .bool _, .string _, .int .i64 _]) ty155 he6 rfl rfl rfl (by simp)) (W.mv (W.mv ?_)))
    have q15 := (h_b.mono hG5).at (i := k) (by omega)
    refine match q15 with | ⟨_, he11, ⟨e_14, hm12⟩⟩ => ?_
    subst e_14
    refine W.ok (ok_indexAddr (i := k) sl77 ty155 (h_b.mono hG5) rfl rfl ⟨by omega, by omega⟩) (W.ok (ok_loadE (vs := [.int .i64 _, .string _, .string _, .bool _, .string _, .int .i64 _]) ty155 he11 rfl rfl rfl (by simp)) (W.ok (ok_neqA (L1 := [.int .i64 _, .string _, .string _, .bool _, .string _, .int .i64 _]) (L2 := [.int .i64 _, .string _, .string _, .bool _, .string _, .int .i64 _]) eq155 rfl rfl rfl rfl) (W.nil (thn_n ?_))))
    refine WC.cond (b := _) rfl (fun h25 => ?_) (fun h25 => ?_)
    ·refine WC.seq (WC.region (W.as (W.nil (thn_n (WC.ret (blk_r (thn_r (thn_r (blk_r (thn_r ?_))))))))))
     refine ⟨.inr rfl, [_], ⟨rfl, trivial⟩, [], List.nil_sublist _, ?_⟩
     refine congrArg Value.bool ?_
     exact (decide_eq_false fun e => by subst e; exact Opr.ne_of h25 rfl).symm
    ·refine WC.skip (blk_n (thn_n (WC.region (W.mv (W.ok (ok_add rfl rfl (by omega)) (W.as (W.nil (thn_n ?_))))))))
     exact ⟨Le.rfl, k + 1, ⟨eqv, eqv, eqv, trivial⟩, ⟨rfl, by omega, fun i h h2 hi => by
      by_cases e : i = k
      · subst e; exact Opr.eq_of h25
      · exact hk i h h2 (by omega)⟩, by omega⟩
   ·have p14 := of_decide_eq_false h14
    refine WC.exit (thn_x (thn_x (blk_h (thn_n (WC.seq (WC.region (W.as (W.nil (thn_n (WC.ret ?_))))))))))
    refine ⟨.inr rfl, [_], ⟨rfl, trivial⟩, [], List.nil_sublist _, ?_⟩
    refine congrArg Value.bool ?_
    exact (decide_eq_true (List.ext_getElem (by omega) fun i h h2 => hk i h h2 (by omega))).symm

end Go.Proofs.YtebkfinhhpelbaaGreat
