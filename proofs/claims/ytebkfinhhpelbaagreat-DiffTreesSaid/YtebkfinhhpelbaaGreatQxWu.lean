/- Walks of the keys and changes of two maps, by definition. -/
import Derived.Test.YtebkfinhhpelbaaGreatQxWt
namespace Go.Proofs.YtebkfinhhpelbaaGreat
open Go Go.Fw Go.RowKit
set_option maxRecDepth 100000
set_option maxHeartbeats 1600000
set_option linter.unusedVariables false
set_option linter.unusedSimpArgs false
set_option linter.unnecessarySimpa false
theorem keys53_fc {G : GH} {v_a : Value} {a : List Pair} (h_a : SlR ePair G v_a a) {v_b : Value} {b : List Pair} (h_b : SlR ePair G v_b b) (hn : a.length + b.length ≤ 1000000) :
    Fc Tryz.prog 104 [v_a, v_b] G [] (fun v G' M' => M' = [] ∧ ∃ u0, v = u0 ∧ SlR eStr G' u0 (keysN a b)) := by
 obtain ⟨sa_a, sc_a, rfl⟩ := h_a.form
 obtain ⟨sa_b, sc_b, rfl⟩ := h_b.form
 have hla := h_a.len47
 have hlb := h_b.len47
 refine Fc.intro (rs := [.tmp 4]) cl104 Tryz.func104 rfl Tryz.ntmps104 rfl rfl (fun w0 => ?_)
 refine WC.seq (WC.region (W.as (W.nil (thn_n (WC.seq (WC.region (W.as (W.nil (thn_n ?_)))))))))
 refine WC.seq (WC.seq (WC.region (W.as (W.nil (thn_n (WC.block ?_))))))
 refine WC.loop (X := (Nat) × Value × MH) (fun i => [(6, .int .i64 ((i.1 : Nat) : Int)), (0, .slice sa_a a.length sc_a), (1, .slice sa_b b.length sc_b), (5, i.2.1)]) (fun i G Ml => Ml = (i.2.2 ++ []) ∧ OwnR eStr 9 G i.2.1 ((a.take i.1).map (fun p : Pair => p.key)) i.2.2 ∧ i.1 ≤ a.length) (fun i => a.length - i.1) (0, .slice none 0 0, ([] : MH)) ⟨eqv, eqv, eqv, eqv, trivial⟩ ?_ ?_
 ·exact ⟨rfl, (by simpa using OwnR.nil), by omega⟩
 ·rintro ⟨i, v_5, M_5⟩ gG1 G1 _ hG1 ⟨rfl, ho_5, hi⟩
  try dsimp only at ho_5 hi
  refine WC.fr (f := setL gG1 [(6, .int .i64 ((i : Nat) : Int)), (0, .slice sa_a a.length sc_a), (1, .slice sa_b b.length sc_b), (5, v_5)]) rfl (WC.seq (WC.seq (WC.region (W.mv (W.mv (W.ok (ok_len sl41 (h_a.mono hG1) rfl) (W.ok (ok_lss rfl rfl) ?_)))))))
  refine W.nil (thn_n ?_)
  refine WC.cond (b := _) rfl (fun h11 => ?_) (fun h11 => ?_)
  ·have p11 := of_decide_eq_true h11
   refine WC.skip (thn_n (WC.seq (WC.block (WC.region (W.mv (W.mv (W.mv ?_)))))))
   have q4 := (h_a.mono hG1).at (i := i) (by omega)
   refine match q4 with | ⟨_, he2, e_3⟩ => ?_
   subst e_3
   refine W.ok (ok_indexAddr (i := i) sl41 ty69 (h_a.mono hG1) rfl rfl ⟨by omega, by omega⟩) (W.ok (ok_fieldE fd69_0 rfl he2.form) (W.ok (ok_loadE (vs := [.string _]) ty9 he2 rfl rfl rfl (by simp)) (W.lit (e := eStr) (l := [_]) (css := [[.string _]]) sl43 ty9 zr9 rfl rfl rfl rfl rfl rfl ⟨rfl, trivial⟩ (fun bl5 G5 hG5 hv5 => (W.app (e := eStr) sl43 ty9 zr9 rfl by9 rfl rfl ((ho_5.mono hG5)) (hv5) (List.Perm.refl _) (by show (_ + 1) * 16 ≤ _; simp only [List.length_append, List.length_map, List.length_take]; omega) (fun v6 Ms7 ho8 => (W.as (W.nil (blk_n (thn_n (WC.region ?_)))))))))))
   refine W.mv (W.ok (ok_add rfl rfl (by omega)) (W.as (W.nil (thn_n ?_))))
   exact ⟨hG5, (i + 1, v6, Ms7), ⟨eqv, eqv, eqv, eqv, trivial⟩, ⟨rfl, (by have h := ho8; rw [List.take_succ_eq_append_getElem (by omega), List.map_append]; exact h), by omega⟩, by omega⟩
  ·have p11 := of_decide_eq_false h11
   refine WC.exit (thn_x (thn_x (blk_h (thn_n (WC.seq (WC.seq (WC.region (W.as (W.nil (thn_n (WC.block ?_)))))))))))
   refine WC.loop (X := (Nat) × Value × MH) (fun j => [(7, .int .i64 ((j.1 : Nat) : Int)), (1, .slice sa_b b.length sc_b), (5, j.2.1)]) (fun j G Ml => Ml = (j.2.2 ++ []) ∧ OwnR eStr 9 G j.2.1 (a.map (fun p : Pair => p.key) ++ (b.take j.1).map (fun p : Pair => p.key)) j.2.2 ∧ j.1 ≤ b.length) (fun j => b.length - j.1) (0, v_5, M_5) ⟨eqv, eqv, eqv, trivial⟩ ?_ ?_
   ·exact ⟨rfl, (by have h := ho_5; rw [List.take_of_length_le (by omega)] at h; simpa using h), by omega⟩
   ·rintro ⟨j, v_5, M_5⟩ gG9 G9 _ hG9 ⟨rfl, ho_5, hj⟩
    try dsimp only at ho_5 hj
    refine WC.fr (f := setL gG9 [(7, .int .i64 ((j : Nat) : Int)), (1, .slice sa_b b.length sc_b), (5, v_5)]) rfl (WC.seq (WC.seq (WC.region (W.mv (W.mv (W.ok (ok_len sl41 (h_b.mono (hG1.trans hG9)) rfl) (W.ok (ok_lss rfl rfl) ?_)))))))
    refine W.nil (thn_n ?_)
    refine WC.cond (b := _) rfl (fun h25 => ?_) (fun h25 => ?_)
    ·have p25 := of_decide_eq_true h25
     refine WC.skip (thn_n (WC.seq (WC.block (WC.region (W.mv (W.mv (W.mv ?_)))))))
     have q12 := (h_b.mono (hG1.trans hG9)).at (i := j) (by omega)
     refine match q12 with | ⟨_, he10, e_11⟩ => ?_
     subst e_11
     refine W.ok (ok_indexAddr (i := j) sl41 ty69 (h_b.mono (hG1.trans hG9)) rfl rfl ⟨by omega, by omega⟩) (W.ok (ok_fieldE fd69_0 rfl he10.form) (W.ok (ok_loadE (vs := [.string _]) ty9 he10 rfl rfl rfl (by simp)) (W.lit (e := eStr) (l := [_]) (css := [[.string _]]) sl43 ty9 zr9 rfl rfl rfl rfl rfl rfl ⟨rfl, trivial⟩ (fun bl13 G13 hG13 hv13 => (W.app (e := eStr) sl43 ty9 zr9 rfl by9 rfl rfl ((ho_5.mono hG13)) (hv13) (List.Perm.refl _) (by show (_ + 1) * 16 ≤ _; simp only [List.length_append, List.length_map, List.length_take]; omega) (fun v14 Ms15 ho16 => (W.as (W.nil (blk_n (thn_n (WC.region ?_)))))))))))
     refine W.mv (W.ok (ok_add rfl rfl (by omega)) (W.as (W.nil (thn_n ?_))))
     exact ⟨hG13, (j + 1, v14, Ms15), ⟨eqv, eqv, eqv, trivial⟩, ⟨rfl, (by have h := ho16; rw [List.take_succ_eq_append_getElem (by omega), List.map_append, ← List.append_assoc]; exact h), by omega⟩, by omega⟩
    ·have p25 := of_decide_eq_false h25
     refine WC.exit (thn_x (thn_x (blk_h (thn_n (WC.seq (WC.region (W.mv (W.giveO ho_5 (List.Perm.refl _) (fun G17 hG17 hv17 => ?_)))))))))
     have q19 := hv17.form
     refine match q19 with | ⟨_, _, e_18⟩ => ?_
     subst e_18
     refine W.call (Mp := []) (sorted1_fc hv17) rfl (List.Perm.refl _) ?_
     intro _ G20 _ hG20 q22
     refine match q22 with | ⟨e_23, _, e_24, hv21⟩ => ?_
     subst e_23
     subst e_24
     have q26 := hv21.form
     refine match q26 with | ⟨sa_hv21, sc_hv21, e_25⟩ => ?_
     subst e_25
     refine W.as (W.nil (thn_n (WC.ret ?_)))
     refine ⟨.inr rfl, [_], ⟨rfl, trivial⟩, [], List.nil_sublist _, ?_⟩
     refine ⟨rfl, _, rfl, ?_⟩
     · exact SlR.cast hv21 (by rw [List.take_of_length_le (by omega)]; rfl)

theorem changes53_fc {G : GH} {v_a : Value} {a : List Pair} (h_a : SlR ePair G v_a a) {v_b : Value} {b : List Pair} (h_b : SlR ePair G v_b b) (hra : Srt a) (hrb : Srt b) (hn : a.length + b.length ≤ 1000000) :
    Fc Tryz.prog 46 [v_a, v_b] G [] (fun v G' M' => M' = [] ∧ ∃ u0, v = u0 ∧ SlR eOp G' u0 (chgN a b)) := by
 obtain ⟨sa_a, sc_a, rfl⟩ := h_a.form
 obtain ⟨sa_b, sc_b, rfl⟩ := h_b.form
 have hla := h_a.len47
 have hlb := h_b.len47
 have hkl : (keysN a b).length ≤ a.length + b.length := by have := sortU_len (a.map (fun p : Pair => p.key) ++ b.map (fun p : Pair => p.key)); unfold keysN; simpa using this
 refine Fc.intro (rs := [.tmp 4]) cl46 Tryz.func46 rfl Tryz.ntmps46 rfl rfl (fun w0 => ?_)
 refine WC.seq (WC.region (W.as (W.nil (thn_n (WC.seq (WC.region (W.as (W.nil (thn_n ?_)))))))))
 refine WC.seq (WC.seq (WC.region (W.mv (W.mv (W.call (Mp := []) (keys53_fc h_a h_b (by first | assumption | omega | (simp; omega) | (exact PairsR.fold (by assumption) (by assumption)))) rfl (List.Perm.refl _) ?_)))))
 intro _ G27 _ hG27 q29
 refine match q29 with | ⟨e_30, _, e_31, hv28⟩ => ?_
 subst e_30
 subst e_31
 have q33 := hv28.form
 refine match q33 with | ⟨sa_hv28, sc_hv28, e_32⟩ => ?_
 subst e_32
 refine W.ok (ok_len sl43 hv28 rfl) (W.mv (W.nil (thn_n (WC.block ?_))))
 refine WC.loop (X := (Nat) × Value × MH) (fun k => [(16, .int .i64 ((k.1 : Nat) : Int)), (0, .slice sa_a a.length sc_a), (1, .slice sa_b b.length sc_b), (14, .slice sa_hv28 (keysN (a) (b)).length sc_hv28), (15, .int .i64 (((keysN (a) (b)).length : Nat) : Int)), (5, k.2.1)]) (fun k G Ml => Ml = (k.2.2 ++ []) ∧ OwnR eOp 155 G k.2.1 (((keysN a b).take k.1).filterMap (fun x => chg (Drow.of a b x))) k.2.2 ∧ k.1 ≤ (keysN a b).length) (fun k => (keysN a b).length - k.1) (0, .slice none 0 0, ([] : MH)) ⟨eqv, eqv, eqv, eqv, eqv, eqv, trivial⟩ ?_ ?_
 ·exact ⟨rfl, (by simpa using OwnR.nil), by omega⟩
 ·rintro ⟨k, v_5, M_5⟩ gG34 G34 _ hG34 ⟨rfl, ho_5, hk⟩
  try dsimp only at ho_5 hk
  have hcl := List.length_filterMap_le (fun x => chg (Drow.of a b x)) ((keysN a b).take k)
  have htl : ((keysN a b).take k).length ≤ k := by simp; omega
  refine WC.fr (f := setL gG34 [(16, .int .i64 ((k : Nat) : Int)), (0, .slice sa_a a.length sc_a), (1, .slice sa_b b.length sc_b), (14, .slice sa_hv28 (keysN (a) (b)).length sc_hv28), (15, .int .i64 (((keysN (a) (b)).length : Nat) : Int)), (5, v_5)]) rfl (WC.seq (WC.region (W.ok (ok_lss rfl rfl) (W.nil (thn_n (WC.seq ?_))))))
  refine WC.cond (b := _) rfl (fun h17 => ?_) (fun h17 => ?_)
  ·have p17 := of_decide_eq_true h17
   refine WC.skip (thn_n (WC.seq (WC.block (WC.seq (WC.region ?_)))))
   have q37 := (hv28.mono hG34).at (i := k) (by omega)
   refine match q37 with | ⟨_, he35, e_36⟩ => ?_
   subst e_36
   refine W.ok (ok_indexAddr (i := k) sl43 ty9 (hv28.mono hG34) rfl rfl ⟨by omega, by omega⟩) (W.ok (ok_loadE (vs := [.string _]) ty9 he35 rfl rfl rfl (by simp)) (W.as (W.nil (thn_n (WC.seq (WC.region (W.mv (W.mv ?_))))))))
   refine W.qcall (rget_fc (h_a.mono (hG27.trans hG34)) _) rfl (W.mv (W.ok (ok_extract rfl rfl) (W.ok (ok_extract rfl rfl) (W.as (W.as (W.nil (thn_n (WC.seq ?_))))))))
   refine WC.region (W.mv (W.mv (W.qcall (rget_fc (h_b.mono (hG27.trans hG34)) _) rfl (W.mv (W.ok (ok_extract rfl rfl) (W.ok (ok_extract rfl rfl) (W.as ?_)))))))
   refine W.as (W.nil (thn_n (WC.seq (WC.region (W.mv (W.ok (ok_not rfl) (W.nil (thn_n ?_))))))))
   refine WC.cond (b := _) rfl (fun h33 => ?_) (fun h33 => ?_)
   ·refine WC.region (W.mv (W.mv (W.ok (ok_build (L := [.int .i64 _, .string _, .string _, .bool _, .string _, .int .i64 _]) pl155 zr155 rfl rfl rfl) (W.lit (e := eOp) (l := [⟨3, (keysN a b)[k]'_, Str.nil, false, Str.nil, 0⟩]) (css := [[.int .i64 _, .string _, .string _, .bool _, .string _, .int .i64 _]]) sl77 ty155 zr155 rfl rfl rfl rfl rfl rfl ⟨⟨rfl, ⟨⟨by simp, by simp⟩, ⟨by simp, by simp⟩⟩⟩, trivial⟩ (fun bl38 G38 hG38 hv38 => (W.app (e := eOp) sl77 ty155 zr155 rfl by155 rfl rfl ((ho_5.mono hG38)) (hv38) (List.Perm.refl _) (by show (List.length _ + 1) * 72 ≤ _; omega) (fun v39 Ms40 ho41 => (W.as (W.nil (blk_n (thn_n ?_)))))))))))
    refine WC.region (W.ok (ok_add rfl rfl (by omega)) (W.mv (W.nil (thn_n ?_))))
    exact ⟨hG38, (k + 1, v39, Ms40), ⟨eqv, eqv, eqv, eqv, eqv, eqv, trivial⟩, ⟨rfl, (by have h := ho41; rw [fm_some (by omega) (show (fun x => chg (Drow.of a b x)) ((keysN a b)[k]'(by omega)) = some ⟨3, ((keysN a b)[k]'(by omega)), Str.nil, false, Str.nil, 0⟩ from chg_3 (by have h := h33; simp only [Bool.not_eq_true', Bool.not_eq_false'] at h; exact h))]; exact h), by omega⟩, by omega⟩
   ·refine WC.seq (WC.region (W.mv (W.ok (ok_not rfl) (W.mv ?_))))
    refine W.sp 41 rfl (fun h40 => ?_) (fun h40 => ?_)
    ·refine W.no (dj := 41) rfl rfl h40 (W.no (dj := 41) rfl rfl h40 (W.no (dj := 41) rfl rfl h40 (W.ok (ok_pick_t rfl h40) (W.nil (thn_n (WC.cond_t rfl rfl (WC.region (W.mv ?_))))))))
     refine W.mv (W.mv (W.ok (ok_build (L := [.int .i64 _, .string _, .string _, .bool _, .string _, .int .i64 _]) pl155 zr155 rfl rfl rfl) (W.lit (e := eOp) (l := [⟨1, (keysN a b)[k]'_, Str.nil, false, (getN b ((keysN a b)[k]'_)).getD Str.nil, 0⟩]) (css := [[.int .i64 _, .string _, .string _, .bool _, .string _, .int .i64 _]]) sl77 ty155 zr155 rfl rfl rfl rfl rfl rfl ⟨⟨rfl, ⟨⟨by simp, by simp⟩, ⟨by simp, by simp⟩⟩⟩, trivial⟩ (fun bl42 G42 hG42 hv42 => (W.app (e := eOp) sl77 ty155 zr155 rfl by155 rfl rfl ((ho_5.mono hG42)) (hv42) (List.Perm.refl _) (by show (List.length _ + 1) * 72 ≤ _; omega) (fun v43 Ms44 ho45 => (W.as (W.nil (blk_n (thn_n (WC.region ?_)))))))))))
     refine W.ok (ok_add rfl rfl (by omega)) (W.mv (W.nil (thn_n ?_)))
     exact ⟨hG42, (k + 1, v43, Ms44), ⟨eqv, eqv, eqv, eqv, eqv, eqv, trivial⟩, ⟨rfl, (by have h := ho45; rw [fm_some (by omega) (show (fun x => chg (Drow.of a b x)) ((keysN a b)[k]'(by omega)) = some ⟨1, ((keysN a b)[k]'(by omega)), Str.nil, false, (getN b ((keysN a b)[k]'(by omega))).getD Str.nil, 0⟩ from chg_1 (by have h := h33; simp only [Bool.not_eq_true', Bool.not_eq_false'] at h; exact h) (.inl (by have h := h40; simp only [Bool.not_eq_true', Bool.not_eq_false'] at h; exact h)))]; exact h), by omega⟩, by omega⟩
    ·refine W.yes (dj := 41) rfl rfl h40 (W.mv (W.yes (dj := 41) rfl rfl h40 (W.mv (W.yes (dj := 41) rfl rfl h40 (W.ok (ok_neqS rfl rfl) (W.ok (ok_pick_f rfl h40) (W.nil (thn_n ?_))))))))
     refine WC.cond (b := _) rfl (fun h44 => ?_) (fun h44 => ?_)
     ·have p44 := nd_t h44
      refine WC.region (W.mv (W.mv (W.mv (W.ok (ok_build (L := [.int .i64 _, .string _, .string _, .bool _, .string _, .int .i64 _]) pl155 zr155 rfl rfl rfl) (W.lit (e := eOp) (l := [⟨1, (keysN a b)[k]'_, Str.nil, false, (getN b ((keysN a b)[k]'_)).getD Str.nil, 0⟩]) (css := [[.int .i64 _, .string _, .string _, .bool _, .string _, .int .i64 _]]) sl77 ty155 zr155 rfl rfl rfl rfl rfl rfl ⟨⟨rfl, ⟨⟨by simp, by simp⟩, ⟨by simp, by simp⟩⟩⟩, trivial⟩ (fun bl46 G46 hG46 hv46 => (W.app (e := eOp) sl77 ty155 zr155 rfl by155 rfl rfl ((ho_5.mono hG46)) (hv46) (List.Perm.refl _) (by show (List.length _ + 1) * 72 ≤ _; omega) (fun v47 Ms48 ho49 => (W.as ?_)))))))))
      refine W.nil (blk_n (thn_n (WC.region (W.ok (ok_add rfl rfl (by omega)) (W.mv (W.nil (thn_n ?_)))))))
      exact ⟨hG46, (k + 1, v47, Ms48), ⟨eqv, eqv, eqv, eqv, eqv, eqv, trivial⟩, ⟨rfl, (by have h := ho49; rw [fm_some (by omega) (show (fun x => chg (Drow.of a b x)) ((keysN a b)[k]'(by omega)) = some ⟨1, ((keysN a b)[k]'(by omega)), Str.nil, false, (getN b ((keysN a b)[k]'(by omega))).getD Str.nil, 0⟩ from chg_1 (by have h := h33; simp only [Bool.not_eq_true', Bool.not_eq_false'] at h; exact h) (.inr (fun e => p44 (congrArg Str.b e))))]; exact h), by omega⟩, by omega⟩
     ·have p44 := nd_f h44
      refine WC.skip (blk_n (thn_n (WC.region (W.ok (ok_add rfl rfl (by omega)) (W.mv (W.nil (thn_n ?_)))))))
      exact ⟨Le.rfl, (k + 1, v_5, M_5), ⟨eqv, eqv, eqv, eqv, eqv, eqv, trivial⟩, ⟨rfl, (by have h := ho_5; rw [fm_none (by omega) (show (fun x => chg (Drow.of a b x)) ((keysN a b)[k]'(by omega)) = none from chg_0 (by have h := h33; simp only [Bool.not_eq_true', Bool.not_eq_false'] at h; exact h) (by have h := h40; simp only [Bool.not_eq_true', Bool.not_eq_false'] at h; exact h) (Str.ext' p44))]; exact h), by omega⟩, by omega⟩
  ·have p17 := of_decide_eq_false h17
   refine WC.exit (thn_x (thn_x (blk_h (thn_n (WC.seq (WC.region (W.mv (W.as (W.nil (thn_n (WC.giveO ho_5 (List.Perm.refl _) (fun G50 hG50 hv50 => (WC.ret ?_)))))))))))))
   refine ⟨.inr rfl, [_], ⟨rfl, trivial⟩, [], List.nil_sublist _, ?_⟩
   refine ⟨rfl, _, rfl, ?_⟩
   · have h := hv50; rw [List.take_of_length_le (by omega), chg_keys hra hrb] at h; exact h

end Go.Proofs.YtebkfinhhpelbaaGreat
