/- Walks of the least numbers. -/
import Derived.Test.YtebkfinhhpelbaaGreatQyV1
import Derived.Test.YtebkfinhhpelbaaGreatQyNc
namespace Go.Proofs.YtebkfinhhpelbaaGreat
open Go Go.Fw Go.RowKit
set_option maxRecDepth 100000
set_option maxHeartbeats 1600000
set_option linter.unusedVariables false
set_option linter.unusedSimpArgs false
set_option linter.unnecessarySimpa false
theorem llen_fc {G : GH} {v_l : Value} {l : List Int} {Ms_l : MH} (h_l : OwnR eInt 3 G v_l l Ms_l) :
    Fc Tryz.prog 256 [v_l] G Ms_l (fun v _ M' => v = .int .i64 ((l.length : Int)) ∧ Ms_l = M') := by
 refine Fc.intro (rs := [.tmp 2]) cl256 Tryz.func256 rfl Tryz.ntmps256 rfl rfl (fun w0 => ?_)
 refine WC.perm (M' := (Ms_l ++ [])) (by simp) (WC.seq (WC.region (W.as (W.nil (thn_n (WC.seq (WC.region (W.mv ?_))))))))
 refine W.ok (ok_lenO sl180 h_l rfl) (W.as (W.nil (thn_n (WC.ret ?_))))
 refine ⟨.inr rfl, [_], ⟨rfl, trivial⟩, Ms_l, List.sublist_append_left _ _, ?_⟩
 exact ⟨rfl, rfl⟩

theorem lless_fc {G : GH} {v_l : Value} {l : List Int} {Ms_l : MH} (h_l : OwnR eInt 3 G v_l l Ms_l) (i : Nat) (j : Nat) (hi : i < l.length) (hj : j < l.length) :
    Fc Tryz.prog 257 [v_l, .int .i64 ((i : Nat) : Int), .int .i64 ((j : Nat) : Int)] G Ms_l (fun v _ M' => v = .bool (decide (nth l i < nth l j)) ∧ Ms_l = M') := by
 have hl := h_l.len47
 refine Fc.intro (rs := [.tmp 6]) cl257 Tryz.func257 rfl Tryz.ntmps257 rfl rfl (fun w0 => ?_)
 refine WC.perm (M' := (Ms_l ++ [])) (by simp) (WC.seq (WC.region (W.as (W.nil (thn_n (WC.seq (WC.draw mix (by kernel_rfl) (W.mv ?_))))))))
 refine W.mv ?_
 have q4 := h_l.at (i := i) (by omega)
 refine match q4 with | ⟨_, he1, ⟨e_3, hi2⟩⟩ => ?_
 subst e_3
 refine W.ok (ok_indexAddrO (i := i) sl180 ty3 h_l rfl rfl ⟨by omega, by omega⟩) (W.ok (ok_loadO (vs := [.int .i64 _]) ty3 he1 (List.Perm.refl _) rfl rfl rfl (by simp)) (W.mv (W.mv ?_)))
 have q8 := h_l.at (i := j) (by omega)
 refine match q8 with | ⟨_, he5, ⟨e_7, hi6⟩⟩ => ?_
 subst e_7
 refine W.ok (ok_indexAddrO (i := j) sl180 ty3 h_l rfl rfl ⟨by omega, by omega⟩) (W.ok (ok_loadO (vs := [.int .i64 _]) ty3 he5 (List.Perm.refl _) rfl rfl rfl (by simp)) (W.ok (ok_lss rfl rfl) (W.as (W.nil (thn_n (WC.ret ?_))))))
 refine ⟨.inr rfl, [_], ⟨rfl, trivial⟩, Ms_l, List.sublist_append_left _ _, ?_⟩
 exact ⟨by rw [nth_lt hi, nth_lt hj]; rfl, rfl⟩

theorem lswap_fc {G : GH} {v_l : Value} {l : List Int} {Ms_l : MH} (h_l : OwnR eInt 3 G v_l l Ms_l) (i : Nat) (j : Nat) (hi : i < l.length) (hj : j < l.length) :
    Fc Tryz.prog 258 [v_l, .int .i64 ((i : Nat) : Int), .int .i64 ((j : Nat) : Int)] G Ms_l (fun v G' M' => v = .tuple #[] ∧ OwnR eInt 3 G' v_l (swapL l i j) M') := by
 have hl := h_l.len47
 have ho_i : i64 l[i] := by obtain ⟨_, _, _, h⟩ := h_l.at hi; exact h
 have ho_j : i64 l[j] := by obtain ⟨_, _, _, h⟩ := h_l.at hj; exact h
 have hls : (l.set i l[j]).length = l.length := List.length_set ..
 refine Fc.intro (rs := []) cl258 Tryz.func258 rfl Tryz.ntmps258 rfl rfl (fun w0 => ?_)
 refine WC.perm (M' := (Ms_l ++ [])) (by simp) (WC.drawW _ (List.nil_sublist _) mix (by rintro _ _ _ _ ⟨h | h, _⟩ <;> cases h) (WD.take 0 rfl rfl rfl (by kernel_rfl) (by kernel_rfl) (by kernel_rfl) (ok_mv) (WD.take 1 rfl rfl rfl (by kernel_rfl) (by kernel_rfl) (by kernel_rfl) (ok_mv) (WD.take 2 rfl rfl rfl (by kernel_rfl) (by kernel_rfl) (by kernel_rfl) (ok_mv) (WD.take 3 rfl rfl rfl (by kernel_rfl) (by kernel_rfl) (by kernel_rfl) (ok_mv) (WD.take 4 rfl rfl rfl (by kernel_rfl) (by kernel_rfl) (by kernel_rfl) (ok_mv) (WD.take 5 rfl rfl rfl (by kernel_rfl) (by kernel_rfl) (by kernel_rfl) (ok_mv) ?_)))))))
 have q12 := h_l.at (i := j) (by omega)
 refine match q12 with | ⟨_, he9, ⟨e_11, hi10⟩⟩ => ?_
 subst e_11
 refine WD.take 6 rfl rfl rfl (by kernel_rfl) (by kernel_rfl) (by kernel_rfl) (ok_indexAddrO (i := j) sl180 ty3 h_l rfl rfl ⟨by omega, by omega⟩) (WD.take 8 rfl rfl rfl (by kernel_rfl) (by kernel_rfl) (by kernel_rfl) (ok_mv) (WD.take 9 rfl rfl rfl (by kernel_rfl) (by kernel_rfl) (by kernel_rfl) (ok_mv) ?_))
 have q16 := h_l.at (i := i) (by omega)
 refine match q16 with | ⟨_, he13, ⟨e_15, hi14⟩⟩ => ?_
 subst e_15
 refine WD.take 10 rfl rfl rfl (by kernel_rfl) (by kernel_rfl) (by kernel_rfl) (ok_indexAddrO (i := i) sl180 ty3 h_l rfl rfl ⟨by omega, by omega⟩) ?_
 refine WD.any [7, 11] (by kernel_rfl) rfl ⟨⟨_, rfl, rfl, ?_⟩, ⟨_, rfl, rfl, ?_⟩, trivial⟩
 ·refine W.ok (ok_loadO (vs := [.int .i64 _]) ty3 he9 (List.Perm.refl _) rfl rfl rfl (by simp)) (W.nil ⟨Le.rfl, List.nil_sublist _, _, List.nil_sublist _, List.Sublist.refl _, (WD.any [11] (by kernel_rfl) rfl ⟨⟨_, rfl, rfl, (W.ok (ok_loadO (vs := [.int .i64 _]) ty3 he13 (List.Perm.refl _) rfl rfl rfl (by simp)) (W.nil ⟨Le.rfl, List.nil_sublist _, _, List.nil_sublist _, List.Sublist.refl _, ?_⟩))⟩, trivial⟩)⟩)
  have q20 := h_l.at (i := i) (by omega)
  refine match q20 with | ⟨_, he17, ⟨e_19, hi18⟩⟩ => ?_
  subst e_19
  refine WD.take 12 rfl rfl rfl (by kernel_rfl) (by kernel_rfl) (by kernel_rfl) (ok_indexAddrO (i := i) sl180 ty3 h_l rfl rfl ⟨by omega, by omega⟩) (WD.any [13] (by kernel_rfl) rfl ⟨⟨_, rfl, rfl, (W.storeO (i := i) (o := 0) (vs := [.int .i64 _]) (a' := l[j]) ty3 rfl rfl rfl rfl rfl (h_l) (List.Perm.refl _) (by omega) (by decide) (fun cs h => by rw [h.1]; exact ⟨rfl, ho_j⟩) (fun Ms21 ho22 => (W.nil ⟨Le.rfl, List.nil_sublist _, _, List.nil_sublist _, List.Sublist.refl _, ?_⟩)))⟩, trivial⟩)
  have q26 := ho22.at (i := j) (by omega)
  refine match q26 with | ⟨_, he23, ⟨e_25, hi24⟩⟩ => ?_
  subst e_25
  refine WD.take 14 rfl rfl rfl (by kernel_rfl) (by kernel_rfl) (by kernel_rfl) (ok_indexAddrO (i := j) sl180 ty3 ho22 rfl rfl ⟨by omega, by omega⟩) (WD.any [15] (by kernel_rfl) rfl ⟨⟨_, rfl, rfl, (W.storeO (i := j) (o := 0) (vs := [.int .i64 _]) (a' := l[i]) ty3 rfl rfl rfl rfl rfl (ho22) (List.Perm.refl _) (by omega) (by decide) (fun cs h => by rw [h.1]; exact ⟨rfl, ho_i⟩) (fun Ms27 ho28 => (W.nil ⟨Le.rfl, List.nil_sublist _, _, List.nil_sublist _, List.Sublist.refl _, (WD.done (by kernel_rfl) ?_)⟩)))⟩, trivial⟩)
  refine ⟨.inl rfl, [], trivial, (Ms27 ++ []), List.Sublist.refl _, ?_⟩
  have h := ho28
  refine ⟨rfl, ?_⟩
  rw [swapL, nth_lt hi, nth_lt hj, List.append_nil]; exact h
 ·refine W.ok (ok_loadO (vs := [.int .i64 _]) ty3 he13 (List.Perm.refl _) rfl rfl rfl (by simp)) (W.nil ⟨Le.rfl, List.nil_sublist _, _, List.nil_sublist _, List.Sublist.refl _, (WD.any [7] (by kernel_rfl) rfl ⟨⟨_, rfl, rfl, (W.ok (ok_loadO (vs := [.int .i64 _]) ty3 he9 (List.Perm.refl _) rfl rfl rfl (by simp)) (W.nil ⟨Le.rfl, List.nil_sublist _, _, List.nil_sublist _, List.Sublist.refl _, ?_⟩))⟩, trivial⟩)⟩)
  have q32 := h_l.at (i := i) (by omega)
  refine match q32 with | ⟨_, he29, ⟨e_31, hi30⟩⟩ => ?_
  subst e_31
  refine WD.take 12 rfl rfl rfl (by kernel_rfl) (by kernel_rfl) (by kernel_rfl) (ok_indexAddrO (i := i) sl180 ty3 h_l rfl rfl ⟨by omega, by omega⟩) (WD.any [13] (by kernel_rfl) rfl ⟨⟨_, rfl, rfl, (W.storeO (i := i) (o := 0) (vs := [.int .i64 _]) (a' := l[j]) ty3 rfl rfl rfl rfl rfl (h_l) (List.Perm.refl _) (by omega) (by decide) (fun cs h => by rw [h.1]; exact ⟨rfl, ho_j⟩) (fun Ms33 ho34 => (W.nil ⟨Le.rfl, List.nil_sublist _, _, List.nil_sublist _, List.Sublist.refl _, ?_⟩)))⟩, trivial⟩)
  have q38 := ho34.at (i := j) (by omega)
  refine match q38 with | ⟨_, he35, ⟨e_37, hi36⟩⟩ => ?_
  subst e_37
  refine WD.take 14 rfl rfl rfl (by kernel_rfl) (by kernel_rfl) (by kernel_rfl) (ok_indexAddrO (i := j) sl180 ty3 ho34 rfl rfl ⟨by omega, by omega⟩) (WD.any [15] (by kernel_rfl) rfl ⟨⟨_, rfl, rfl, (W.storeO (i := j) (o := 0) (vs := [.int .i64 _]) (a' := l[i]) ty3 rfl rfl rfl rfl rfl (ho34) (List.Perm.refl _) (by omega) (by decide) (fun cs h => by rw [h.1]; exact ⟨rfl, ho_i⟩) (fun Ms39 ho40 => (W.nil ⟨Le.rfl, List.nil_sublist _, _, List.nil_sublist _, List.Sublist.refl _, (WD.done (by kernel_rfl) ?_)⟩)))⟩, trivial⟩)
  refine ⟨.inl rfl, [], trivial, (Ms39 ++ []), List.Sublist.refl _, ?_⟩
  have h := ho40
  refine ⟨rfl, ?_⟩
  rw [swapL, nth_lt hi, nth_lt hj, List.append_nil]; exact h

theorem lpush_fc {G : GH} {b_b : Nat} {Tb : TypeId} {c0 : Value} {c1 : Value} {v_l : Value} {l : List Int} {Ms_l : MH} (h_l : OwnR eInt 3 G v_l l Ms_l) (a : Int) (hi_a : i64 a) (hb : l.length < 1000000) :
    Fc Tryz.prog 264 [.pointer (some ⟨b_b, 2, none⟩), .iface 3 (.int .i64 a)] G ((b_b, .cells (List.toArray [c0, c1, v_l]) Tb (0, 0)) :: (Ms_l)) (fun v G' M' => v = .tuple #[] ∧ ∃ v' Ms', M' = (b_b, .cells (List.toArray [c0, c1, v']) Tb (0, 0)) :: Ms' ∧ OwnR eInt 3 G' v' (l ++ [a]) Ms') := by
 obtain ⟨sa_l, sc_l, rfl⟩ := h_l.form
 refine Fc.intro (rs := []) cl264 Tryz.func264 rfl Tryz.ntmps264 rfl rfl (fun w0 => ?_)
 refine WC.perm (M' := ((b_b, .cells (List.toArray [c0, c1, .slice sa_l l.length sc_l]) Tb (0, 0)) :: (Ms_l ++ []))) (by simp) (WC.drawW _ ((List.nil_sublist _).cons _) mix (by rintro _ _ _ _ ⟨h | h, _⟩ <;> cases h) (WD.take 0 rfl rfl rfl (by kernel_rfl) (by kernel_rfl) (by kernel_rfl) (ok_mv) (WD.take 1 rfl rfl rfl (by kernel_rfl) (by kernel_rfl) (by kernel_rfl) (ok_mv) (WD.take 2 rfl rfl rfl (by kernel_rfl) (by kernel_rfl) (by kernel_rfl) (ok_nilP rfl) (WD.take 4 rfl rfl rfl (by kernel_rfl) (by kernel_rfl) (by kernel_rfl) (ok_mv) (WD.take 5 rfl rfl rfl (by kernel_rfl) (by kernel_rfl) (by kernel_rfl) (ok_tyA pi3 rfl) ?_))))))
 refine WD.any [3, 6] (by kernel_rfl) rfl ⟨⟨_, rfl, rfl, ?_⟩, ⟨_, rfl, rfl, ?_⟩, trivial⟩
 ·refine W.ok (ok_loadB (i := 0) (vs := [.slice _ _ _]) ty180 rfl rfl rfl rfl (by simp)) (W.nil ⟨Le.rfl, (List.nil_sublist _).cons _, _, (List.nil_sublist _).cons _, List.Sublist.refl _, (WD.any [6] (by kernel_rfl) rfl ⟨⟨_, rfl, rfl, (W.lit (e := eInt) (l := [a]) (css := [[.int .i64 _]]) sl180 ty3 zr3 rfl rfl rfl rfl rfl rfl ⟨⟨rfl, hi_a⟩, trivial⟩ (fun bl41 G41 hG41 hv41 => (W.nil ⟨hG41, (List.nil_sublist _).cons _, _, (List.nil_sublist _).cons _, List.Sublist.refl _, (WD.any [7] (by kernel_rfl) rfl ⟨⟨_, rfl, rfl, (W.app (e := eInt) sl180 ty3 zr3 rfl by3 rfl rfl ((h_l.mono hG41)) (hv41) (pmC (List.Perm.refl _)) (by show (_ + 1) * 8 ≤ _; omega) (fun v42 Ms43 ho44 => (W.perm (pmC (List.Perm.refl _)).symm ?_)))⟩, trivial⟩)⟩)))⟩, trivial⟩)⟩)
  have q48 := ho44.form
  refine match q48 with | ⟨sa45, sc46, e_47⟩ => ?_
  subst e_47
  refine W.nil ⟨Le.rfl, (List.nil_sublist _).cons _, _, (List.nil_sublist _).cons _, List.Sublist.refl _, (WD.take 8 rfl rfl rfl (by kernel_rfl) (by kernel_rfl) (by kernel_rfl) (ok_nilP rfl) (WD.any [9] (by kernel_rfl) rfl ⟨⟨_, rfl, rfl, (W.store (i := 0) (vs := [.slice _ _ _]) (L' := [_, _, .slice _ _ _]) ty180 rfl rfl rfl rfl rfl rfl rfl rfl (W.nil ⟨Le.rfl, (List.nil_sublist _).cons _, _, (List.nil_sublist _).cons _, List.Sublist.refl _, (WD.done (by kernel_rfl) ?_)⟩))⟩, trivial⟩))⟩
  refine ⟨.inl rfl, [], trivial, ((b_b, .cells (List.toArray [c0, c1, .slice sa45 ((l ++ [a])).length sc46]) Tb (0, 0)) :: (Ms43 ++ [])), (List.Sublist.refl _).cons_cons _, ?_⟩
  exact ⟨rfl, _, _, congrArg _ (List.append_nil _), ho44⟩
 ·refine W.lit (e := eInt) (l := [a]) (css := [[.int .i64 _]]) sl180 ty3 zr3 rfl rfl rfl rfl rfl rfl ⟨⟨rfl, hi_a⟩, trivial⟩ (fun bl49 G49 hG49 hv49 => (W.nil ⟨hG49, (List.nil_sublist _).cons _, _, (List.nil_sublist _).cons _, List.Sublist.refl _, (WD.any [3] (by kernel_rfl) rfl ⟨⟨_, rfl, rfl, (W.ok (ok_loadB (i := 0) (vs := [.slice _ _ _]) ty180 rfl rfl rfl rfl (by simp)) (W.nil ⟨Le.rfl, (List.nil_sublist _).cons _, _, (List.nil_sublist _).cons _, List.Sublist.refl _, (WD.any [7] (by kernel_rfl) rfl ⟨⟨_, rfl, rfl, (W.app (e := eInt) sl180 ty3 zr3 rfl by3 rfl rfl ((h_l.mono hG49)) (hv49) (pmC (List.Perm.refl _)) (by show (_ + 1) * 8 ≤ _; omega) (fun v50 Ms51 ho52 => (W.perm (pmC (List.Perm.refl _)).symm ?_)))⟩, trivial⟩)⟩))⟩, trivial⟩)⟩))
  have q56 := ho52.form
  refine match q56 with | ⟨sa53, sc54, e_55⟩ => ?_
  subst e_55
  refine W.nil ⟨Le.rfl, (List.nil_sublist _).cons _, _, (List.nil_sublist _).cons _, List.Sublist.refl _, (WD.take 8 rfl rfl rfl (by kernel_rfl) (by kernel_rfl) (by kernel_rfl) (ok_nilP rfl) (WD.any [9] (by kernel_rfl) rfl ⟨⟨_, rfl, rfl, (W.store (i := 0) (vs := [.slice _ _ _]) (L' := [_, _, .slice _ _ _]) ty180 rfl rfl rfl rfl rfl rfl rfl rfl (W.nil ⟨Le.rfl, (List.nil_sublist _).cons _, _, (List.nil_sublist _).cons _, List.Sublist.refl _, (WD.done (by kernel_rfl) ?_)⟩))⟩, trivial⟩))⟩
  refine ⟨.inl rfl, [], trivial, ((b_b, .cells (List.toArray [c0, c1, .slice sa53 ((l ++ [a])).length sc54]) Tb (0, 0)) :: (Ms51 ++ [])), (List.Sublist.refl _).cons_cons _, ?_⟩
  exact ⟨rfl, _, _, congrArg _ (List.append_nil _), ho52⟩

theorem lpop_fc {G : GH} {b_b : Nat} {Tb : TypeId} {c0 : Value} {c1 : Value} {v_l : Value} {l : List Int} {Ms_l : MH} (h_l : OwnR eInt 3 G v_l l Ms_l) (h0 : 0 < l.length) :
    Fc Tryz.prog 263 [.pointer (some ⟨b_b, 2, none⟩)] G ((b_b, .cells (List.toArray [c0, c1, v_l]) Tb (0, 0)) :: (Ms_l)) (fun v G' M' => v = .iface 3 (.int .i64 (nth l (l.length - 1))) ∧ i64 (nth l (l.length - 1)) ∧ ∃ v' Ms', M' = (b_b, .cells (List.toArray [c0, c1, v']) Tb (0, 0)) :: Ms' ∧ OwnR eInt 3 G' v' (l.take (l.length - 1)) Ms') := by
 obtain ⟨sa_l, sc_l, rfl⟩ := h_l.form
 have hl := h_l.len47
 have hlast : nth l (l.length - 1) = l[l.length - 1] := nth_lt (by omega)
 have ho_z : i64 l[l.length - 1] := by obtain ⟨_, _, _, h⟩ := h_l.at (i := l.length - 1) (by omega); exact h
 refine Fc.intro (rs := [.tmp 2]) cl263 Tryz.func263 rfl Tryz.ntmps263 rfl rfl (fun w0 => ?_)
 refine WC.perm (M' := ((b_b, .cells (List.toArray [c0, c1, .slice sa_l l.length sc_l]) Tb (0, 0)) :: (Ms_l ++ []))) (by simp) (WC.seq (WC.region (W.as (W.nil (thn_n (WC.seq (WC.region (W.mv ?_))))))))
 refine W.ok (ok_nilP rfl) (W.ok (ok_loadB (i := 0) (vs := [.slice _ _ _]) ty180 rfl rfl rfl rfl (by simp)) (W.ok (ok_lenO sl180 h_l rfl) (W.ok (Ok.int (n := ((l.length - 1 : Nat) : Int)) (ok_sub rfl rfl (by omega)) (by omega)) (W.as (W.nil (thn_n (WC.seq (WC.region ?_))))))))
 refine W.mv (W.ok (ok_nilP rfl) (W.ok (ok_loadB (i := 0) (vs := [.slice _ _ _]) ty180 rfl rfl rfl rfl (by simp)) (W.mv ?_)))
 have q60 := h_l.at (i := l.length - 1) (by omega)
 refine match q60 with | ⟨_, he57, ⟨e_59, hi58⟩⟩ => ?_
 subst e_59
 refine W.ok (ok_indexAddrO (i := l.length - 1) sl180 ty3 h_l rfl rfl ⟨by omega, by omega⟩) (W.ok (ok_loadO (vs := [.int .i64 _]) ty3 he57 (pmC (List.Perm.refl _)) rfl rfl rfl (by simp)) (W.as (W.nil (thn_n (WC.seq (WC.region (W.mv (W.mv ?_))))))))
 refine W.ok (ok_nilP rfl) (W.ok (ok_loadB (i := 0) (vs := [.slice _ _ _]) ty180 rfl rfl rfl rfl (by simp)) (W.mv (W.shortO (l.length - 1) sl180 ty3 h_l rfl ⟨_, _, rfl, by omega⟩ (by omega) (fun v61 ho62 => ?_))))
 have q66 := ho62.form
 refine match q66 with | ⟨sa63, sc64, e_65⟩ => ?_
 subst e_65
 refine W.ok (ok_nilP rfl) (W.store (i := 0) (vs := [.slice _ _ _]) (L' := [_, _, .slice _ _ _]) ty180 rfl rfl rfl rfl rfl rfl rfl rfl (W.nil (thn_n (WC.seq (WC.region (W.mv (W.ok (ok_mkI pi3 rfl) (W.as ?_))))))))
 refine W.nil (thn_n (WC.ret ?_))
 refine ⟨.inr rfl, [_], ⟨rfl, trivial⟩, ((b_b, .cells (List.toArray [c0, c1, .slice sa63 (((l).take (l.length - 1))).length sc64]) Tb (0, 0)) :: (Ms_l ++ [])), (List.Sublist.refl _).cons_cons _, ?_⟩
 exact ⟨by rw [hlast]; rfl, by rw [hlast]; exact ho_z, _, _, congrArg _ (List.append_nil _), ho62⟩

end Go.Proofs.YtebkfinhhpelbaaGreat
/- Two things that container/heap can work with. -/
namespace Go.Proofs.YtebkfinhhpelbaaGreat
open Go Go.Fw Go.RowKit
set_option maxRecDepth 100000
set_option maxHeartbeats 1600000
set_option linter.unusedVariables false
set_option linter.unusedSimpArgs false
set_option linter.unnecessarySimpa false

abbrev LeastR (b : Nat) (Tb : TypeId) (c0 c1 : Value) (G : GH) (l : List Int) (M : MH) : Prop := ∃ v Ms, M = (b, .cells (List.toArray [c0, c1, v]) Tb (0, 0)) :: Ms ∧ OwnR eInt 3 G v l Ms
theorem least_heap {b : Nat} {Tb : TypeId} {c0 c1 : Value} : HeapK Tryz.prog (fun a b : Int => decide (a < b)) (.iface 239 (.pointer (some ⟨b, 2, none⟩))) (LeastR b Tb c0 c1) (fun _ u a => u = .iface 3 (.int .i64 a) ∧ i64 a) where
  mono := fun hl ⟨v, Ms, h1, h2⟩ => ⟨v, Ms, h1, h2.mono hl⟩
  bound := fun ⟨v, Ms, h1, h2⟩ => h2.len47
  len := fun {G l M} ⟨v, Ms, h1, h2⟩ => by
    subst h1
    exact Inv.val (e := 180) (by kernel_rfl) (by kernel_rfl) rfl (llen_fc h2) (fun v' G' M' hl ⟨e1, e2⟩ => ⟨e1, by rw [← e2]⟩)
  less := fun {G l M i j} ⟨v, Ms, h1, h2⟩ hi hj => by
    subst h1
    exact Inv.val (e := 180) (by kernel_rfl) (by kernel_rfl) rfl (lless_fc h2 i j hi hj) (fun v' G' M' hl ⟨e1, e2⟩ => ⟨e1, by rw [← e2]⟩)
  swap := fun {G l M i j} ⟨v, Ms, h1, h2⟩ hi hj => by
    subst h1
    exact Inv.val (e := 180) (by kernel_rfl) (by kernel_rfl) rfl (lswap_fc h2 i j hi hj) (fun v' G' M' hl ⟨e1, e2⟩ => ⟨e1, v, M', rfl, e2⟩)
  push := fun {G l M u a} ⟨v, Ms, h1, h2⟩ hb ⟨h3, h4⟩ => by
    subst h1 h3
    exact Inv.ptr (g := 264) (by kernel_rfl) (lpush_fc h2 a h4 hb) (fun v' G' M' hl ⟨e1, v2, M2, e2, e3⟩ => ⟨e1, v2, M2, e2, e3⟩)
  pop := fun {G l M} ⟨v, Ms, h1, h2⟩ h0 => by
    subst h1
    exact Inv.ptr (g := 263) (by kernel_rfl) (lpop_fc h2 h0) (fun v' G' M' hl ⟨e1, e4, v2, M2, e2, e3⟩ => ⟨⟨e1, e4⟩, v2, M2, e2, e3⟩)

abbrev HeadsR (b : Nat) (Tb : TypeId) (G : GH) (l : List Hd) (M : MH) : Prop := (∀ h ∈ l, 0 < h.1.length) ∧ ∃ v Ms, M = (b, .cells (List.toArray [v]) Tb (0, 0)) :: Ms ∧ OwnR eHead 205 G v l Ms
abbrev HeadV (G : GH) (u : Value) (a : Hd) : Prop := (∃ p c, u = .iface 205 (.agg (List.toArray [.slice p a.1.length c, .int .i64 a.2])) ∧ SlR eMsg G (.slice p a.1.length c) a.1 ∧ i64 a.2) ∧ 0 < a.1.length
end Go.Proofs.YtebkfinhhpelbaaGreat
