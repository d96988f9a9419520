/- Walks of the least numbers. -/
import Derived.Test.YtmbafmifalppaaaQaV1
set_option maxRecDepth 100000
set_option maxHeartbeats 1600000
set_option linter.unusedVariables false
set_option linter.unusedSimpArgs false
set_option linter.unnecessarySimpa false
namespace Go.Proofs.Ytmbafmifalppaaa
open Go Go.Fw Go.RowKit
theorem llen_fc {G : GH} {v_l : Value} {l : List Int} {Ms_l : MH} (h_l : OwnR eInt 3 G v_l l Ms_l) :
    Fc Try.prog 225 [v_l] G Ms_l (fun v _ M' => v = .int .i64 ((l.length : Int)) ∧ Ms_l = M') := by
 refine Fc.intro (rs := [.tmp 2]) cl225 Try.func225 rfl Try.ntmps225 rfl rfl (fun w0 => ?_)
 refine WC.perm (M' := (Ms_l ++ [])) (by simp) (WC.seq (WC.region (W.as (W.nil (thn_n (WC.seq (WC.region (W.mv (W.ok (ok_lenO sl177 h_l rfl) (W.as (W.nil (thn_n (WC.ret ?_)))))))))))))
 refine ⟨.inr rfl, [_], ⟨rfl, trivial⟩, Ms_l, List.sublist_append_left _ _, ?_⟩
 exact ⟨rfl, rfl⟩

theorem lless_fc {G : GH} {v_l : Value} {l : List Int} {Ms_l : MH} (h_l : OwnR eInt 3 G v_l l Ms_l) (i : Nat) (j : Nat) (hi : i < l.length) (hj : j < l.length) :
    Fc Try.prog 226 [v_l, .int .i64 ((i : Nat) : Int), .int .i64 ((j : Nat) : Int)] G Ms_l (fun v _ M' => v = .bool (decide (nth l i < nth l j)) ∧ Ms_l = M') := by
 have hl := h_l.len47
 refine Fc.intro (rs := [.tmp 6]) cl226 Try.func226 rfl Try.ntmps226 rfl rfl (fun w0 => ?_)
 refine WC.perm (M' := (Ms_l ++ [])) (by simp) (WC.seq (WC.region (W.as (W.nil (thn_n (WC.seq (WC.draw mix (by kernel_rfl) (W.mv (W.mv ?_)))))))))
 have q4 := h_l.at (i := i) (by omega)
 refine match q4 with | ⟨_, he1, ⟨e_3, hi2⟩⟩ => ?_
 subst e_3
 refine W.ok (ok_indexAddrO (i := i) sl177 ty3 h_l rfl rfl ⟨by omega, by omega⟩) (W.ok (ok_loadO (vs := [.int .i64 _]) ty3 he1 pr9 rfl rfl rfl (by simp)) (W.mv (W.mv ?_)))
 have q8 := h_l.at (i := j) (by omega)
 refine match q8 with | ⟨_, he5, ⟨e_7, hi6⟩⟩ => ?_
 subst e_7
 refine W.ok (ok_indexAddrO (i := j) sl177 ty3 h_l rfl rfl ⟨by omega, by omega⟩) (W.ok (ok_loadO (vs := [.int .i64 _]) ty3 he5 pr9 rfl rfl rfl (by simp)) (W.ok (ok_lss rfl rfl) (W.as (W.nil (thn_n (WC.ret ?_))))))
 refine ⟨.inr rfl, [_], ⟨rfl, trivial⟩, Ms_l, List.sublist_append_left _ _, ?_⟩
 exact ⟨by rw [nth_lt hi, nth_lt hj]; rfl, rfl⟩

theorem lswap_fc {G : GH} {v_l : Value} {l : List Int} {Ms_l : MH} (h_l : OwnR eInt 3 G v_l l Ms_l) (i : Nat) (j : Nat) (hi : i < l.length) (hj : j < l.length) :
    Fc Try.prog 227 [v_l, .int .i64 ((i : Nat) : Int), .int .i64 ((j : Nat) : Int)] G Ms_l (fun v G' M' => v = .tuple #[] ∧ OwnR eInt 3 G' v_l (swapL l i j) M') := by
 have hl := h_l.len47
 have ho_i : i64 l[i] := by obtain ⟨_, _, _, h⟩ := h_l.at hi; exact h
 have ho_j : i64 l[j] := by obtain ⟨_, _, _, h⟩ := h_l.at hj; exact h
 have hls : (l.set i l[j]).length = l.length := List.length_set ..
 refine Fc.intro (rs := []) cl227 Try.func227 rfl Try.ntmps227 rfl rfl (fun w0 => ?_)
 refine WC.perm (M' := (Ms_l ++ [])) (by simp) (WC.drawW _ sn9 mix (by rintro _ _ _ _ ⟨h | h, _⟩ <;> cases h) (WD.tk 0 rfl (ok_mv) (WD.tk 1 rfl (ok_mv) (WD.tk 2 rfl (ok_mv) (WD.tk 3 rfl (ok_mv) (WD.tk 4 rfl (ok_mv) (WD.tk 5 rfl (ok_mv) ?_)))))))
 have q12 := h_l.at (i := j) (by omega)
 refine match q12 with | ⟨_, he9, ⟨e_11, hi10⟩⟩ => ?_
 subst e_11
 refine WD.tk 6 rfl (ok_indexAddrO (i := j) sl177 ty3 h_l rfl rfl ⟨by omega, by omega⟩) (WD.tk 8 rfl (ok_mv) (WD.tk 9 rfl (ok_mv) ?_))
 have q16 := h_l.at (i := i) (by omega)
 refine match q16 with | ⟨_, he13, ⟨e_15, hi14⟩⟩ => ?_
 subst e_15
 refine WD.tk 10 rfl (ok_indexAddrO (i := i) sl177 ty3 h_l rfl rfl ⟨by omega, by omega⟩) ?_
 refine WD.any [7, 11] (by kernel_rfl) rfl ⟨⟨_, rfl, rfl, ?_⟩, ⟨_, rfl, rfl, ?_⟩, trivial⟩
 ·refine W.ok (ok_loadO (vs := [.int .i64 _]) ty3 he9 pr9 rfl rfl rfl (by simp)) (W.nil (WD.n9 Le.rfl sn9 (WD.a1 11 rfl (W.ok (ok_loadO (vs := [.int .i64 _]) ty3 he13 pr9 rfl rfl rfl (by simp)) (W.nil (WD.n9 Le.rfl sn9 ?_))))))
  have q20 := h_l.at (i := i) (by omega)
  refine match q20 with | ⟨_, he17, ⟨e_19, hi18⟩⟩ => ?_
  subst e_19
  refine WD.tk 12 rfl (ok_indexAddrO (i := i) sl177 ty3 h_l rfl rfl ⟨by omega, by omega⟩) (WD.a1 13 rfl (W.storeO (i := i) (o := 0) (vs := [.int .i64 _]) (a' := l[j]) ty3 rfl rfl rfl rfl rfl (h_l) pr9 (by omega) (by decide) (fun cs h => by rw [h.1]; exact ⟨rfl, ho_j⟩) (fun Ms21 ho22 => (W.nil (WD.n9 Le.rfl sn9 ?_)))))
  have q26 := ho22.at (i := j) (by omega)
  refine match q26 with | ⟨_, he23, ⟨e_25, hi24⟩⟩ => ?_
  subst e_25
  refine WD.tk 14 rfl (ok_indexAddrO (i := j) sl177 ty3 ho22 rfl rfl ⟨by omega, by omega⟩) (WD.a1 15 rfl (W.storeO (i := j) (o := 0) (vs := [.int .i64 _]) (a' := l[i]) ty3 rfl rfl rfl rfl rfl (ho22) pr9 (by omega) (by decide) (fun cs h => by rw [h.1]; exact ⟨rfl, ho_i⟩) (fun Ms27 ho28 => (W.nil (WD.n9 Le.rfl sn9 (WD.done (by kernel_rfl) ?_))))))
  refine ⟨.inl rfl, [], trivial, (Ms27 ++ []), sr9, ?_⟩
  have h := ho28
  refine ⟨rfl, ?_⟩
  rw [swapL, nth_lt hi, nth_lt hj, List.append_nil]; exact h
 refine W.ok (ok_loadO (vs := [.int .i64 _]) ty3 he13 pr9 rfl rfl rfl (by simp)) (W.nil (WD.n9 Le.rfl sn9 (WD.a1 7 rfl (W.ok (ok_loadO (vs := [.int .i64 _]) ty3 he9 pr9 rfl rfl rfl (by simp)) (W.nil (WD.n9 Le.rfl sn9 ?_))))))
 have q32 := h_l.at (i := i) (by omega)
 refine match q32 with | ⟨_, he29, ⟨e_31, hi30⟩⟩ => ?_
 subst e_31
 refine WD.tk 12 rfl (ok_indexAddrO (i := i) sl177 ty3 h_l rfl rfl ⟨by omega, by omega⟩) (WD.a1 13 rfl (W.storeO (i := i) (o := 0) (vs := [.int .i64 _]) (a' := l[j]) ty3 rfl rfl rfl rfl rfl (h_l) pr9 (by omega) (by decide) (fun cs h => by rw [h.1]; exact ⟨rfl, ho_j⟩) (fun Ms33 ho34 => (W.nil (WD.n9 Le.rfl sn9 ?_)))))
 have q38 := ho34.at (i := j) (by omega)
 refine match q38 with | ⟨_, he35, ⟨e_37, hi36⟩⟩ => ?_
 subst e_37
 refine WD.tk 14 rfl (ok_indexAddrO (i := j) sl177 ty3 ho34 rfl rfl ⟨by omega, by omega⟩) (WD.a1 15 rfl (W.storeO (i := j) (o := 0) (vs := [.int .i64 _]) (a' := l[i]) ty3 rfl rfl rfl rfl rfl (ho34) pr9 (by omega) (by decide) (fun cs h => by rw [h.1]; exact ⟨rfl, ho_i⟩) (fun Ms39 ho40 => (W.nil (WD.n9 Le.rfl sn9 (WD.done (by kernel_rfl) ?_))))))
 refine ⟨.inl rfl, [], trivial, (Ms39 ++ []), sr9, ?_⟩
 have h := ho40
 refine ⟨rfl, ?_⟩
 rw [swapL, nth_lt hi, nth_lt hj, List.append_nil]; exact h

theorem lpush_fc {G : GH} {b_b : Nat} {Tb : TypeId} {c0 : Value} {c1 : Value} {v_l : Value} {l : List Int} {Ms_l : MH} (h_l : OwnR eInt 3 G v_l l Ms_l) (a : Int) (hi_a : i64 a) (hb : l.length < 1000000) :
    Fc Try.prog 229 [.pointer (some ⟨b_b, 2, none⟩), .iface 3 (.int .i64 a)] G ((b_b, .cells (List.toArray [c0, c1, v_l]) Tb (0, 0)) :: (Ms_l)) (fun v G' M' => v = .tuple #[] ∧ ∃ v' Ms', M' = (b_b, .cells (List.toArray [c0, c1, v']) Tb (0, 0)) :: Ms' ∧ OwnR eInt 3 G' v' (l ++ [a]) Ms') := by
 obtain ⟨sa_l, sc_l, rfl⟩ := h_l.form
 refine Fc.intro (rs := []) cl229 Try.func229 rfl Try.ntmps229 rfl rfl (fun w0 => ?_)
 refine WC.perm (M' := ((b_b, .cells (List.toArray [c0, c1, .slice sa_l l.length sc_l]) Tb (0, 0)) :: (Ms_l ++ []))) (by simp) (WC.drawW _ (sn9.cons _) mix (by rintro _ _ _ _ ⟨h | h, _⟩ <;> cases h) (WD.tk 0 rfl (ok_mv) (WD.tk 1 rfl (ok_mv) (WD.tk 2 rfl (ok_nilP rfl) (WD.tk 4 rfl (ok_mv) (WD.tk 5 rfl (ok_tyA pi3 rfl) ?_))))))
 refine WD.any [3, 6] (by kernel_rfl) rfl ⟨⟨_, rfl, rfl, ?_⟩, ⟨_, rfl, rfl, ?_⟩, trivial⟩
 ·refine W.ok (ok_loadB (i := 0) (vs := [.slice _ _ _]) ty177 rfl rfl rfl rfl (by simp)) (W.nil (WD.n9 Le.rfl (sn9.cons _) (WD.a1 6 rfl (W.lit (e := eInt) (l := [a]) (css := [[.int .i64 _]]) sl177 ty3 zr3 rfl rfl rfl rfl rfl rfl ⟨⟨rfl, hi_a⟩, trivial⟩ (fun bl41 G41 hG41 hv41 => (W.nil (WD.n9 hG41 (sn9.cons _) (WD.a1 7 rfl (W.app (e := eInt) sl177 ty3 zr3 rfl by3 rfl rfl ((h_l.mono hG41)) (hv41) (pmC pr9) (by show (_ + 1) * 8 ≤ _; omega) (fun v42 Ms43 ho44 => (W.perm (pmC pr9).symm ?_)))))))))))
  have q48 := ho44.form
  refine match q48 with | ⟨sa45, sc46, e_47⟩ => ?_
  subst e_47
  refine W.nil (WD.n9 Le.rfl (sn9.cons _) (WD.tk 8 rfl (ok_nilP rfl) (WD.a1 9 rfl (W.store (i := 0) (vs := [.slice _ _ _]) (L' := [_, _, .slice _ _ _]) ty177 rfl rfl rfl rfl rfl rfl rfl rfl (W.nil (WD.n9 Le.rfl (sn9.cons _) (WD.done (by kernel_rfl) ?_)))))))
  refine ⟨.inl rfl, [], trivial, ((b_b, .cells (List.toArray [c0, c1, .slice sa45 ((l ++ [a])).length sc46]) Tb (0, 0)) :: (Ms43 ++ [])), sr9.k9, ?_⟩
  exact ⟨rfl, _, _, congrArg _ (List.append_nil _), ho44⟩
 refine W.lit (e := eInt) (l := [a]) (css := [[.int .i64 _]]) sl177 ty3 zr3 rfl rfl rfl rfl rfl rfl ⟨⟨rfl, hi_a⟩, trivial⟩ (fun bl49 G49 hG49 hv49 => (W.nil (WD.n9 hG49 (sn9.cons _) (WD.a1 3 rfl (W.ok (ok_loadB (i := 0) (vs := [.slice _ _ _]) ty177 rfl rfl rfl rfl (by simp)) (W.nil (WD.n9 Le.rfl (sn9.cons _) (WD.a1 7 rfl (W.app (e := eInt) sl177 ty3 zr3 rfl by3 rfl rfl ((h_l.mono hG49)) (hv49) (pmC pr9) (by show (_ + 1) * 8 ≤ _; omega) (fun v50 Ms51 ho52 => (W.perm (pmC pr9).symm ?_)))))))))))
 have q56 := ho52.form
 refine match q56 with | ⟨sa53, sc54, e_55⟩ => ?_
 subst e_55
 refine W.nil (WD.n9 Le.rfl (sn9.cons _) (WD.tk 8 rfl (ok_nilP rfl) (WD.a1 9 rfl (W.store (i := 0) (vs := [.slice _ _ _]) (L' := [_, _, .slice _ _ _]) ty177 rfl rfl rfl rfl rfl rfl rfl rfl (W.nil (WD.n9 Le.rfl (sn9.cons _) (WD.done (by kernel_rfl) ?_)))))))
 refine ⟨.inl rfl, [], trivial, ((b_b, .cells (List.toArray [c0, c1, .slice sa53 ((l ++ [a])).length sc54]) Tb (0, 0)) :: (Ms51 ++ [])), sr9.k9, ?_⟩
 exact ⟨rfl, _, _, congrArg _ (List.append_nil _), ho52⟩

theorem lpop_fc {G : GH} {b_b : Nat} {Tb : TypeId} {c0 : Value} {c1 : Value} {v_l : Value} {l : List Int} {Ms_l : MH} (h_l : OwnR eInt 3 G v_l l Ms_l) (h0 : 0 < l.length) :
    Fc Try.prog 228 [.pointer (some ⟨b_b, 2, none⟩)] G ((b_b, .cells (List.toArray [c0, c1, v_l]) Tb (0, 0)) :: (Ms_l)) (fun v G' M' => v = .iface 3 (.int .i64 (nth l (l.length - 1))) ∧ i64 (nth l (l.length - 1)) ∧ ∃ v' Ms', M' = (b_b, .cells (List.toArray [c0, c1, v']) Tb (0, 0)) :: Ms' ∧ OwnR eInt 3 G' v' (l.take (l.length - 1)) Ms') := by
 obtain ⟨sa_l, sc_l, rfl⟩ := h_l.form
 have hl := h_l.len47
 have hlast : nth l (l.length - 1) = l[l.length - 1] := nth_lt (by omega)
 have ho_z : i64 l[l.length - 1] := by obtain ⟨_, _, _, h⟩ := h_l.at (i := l.length - 1) (by omega); exact h
 refine Fc.intro (rs := [.tmp 2]) cl228 Try.func228 rfl Try.ntmps228 rfl rfl (fun w0 => ?_)
 refine WC.perm (M' := ((b_b, .cells (List.toArray [c0, c1, .slice sa_l l.length sc_l]) Tb (0, 0)) :: (Ms_l ++ []))) (by simp) (WC.seq (WC.region (W.as (W.nil (thn_n (WC.seq (WC.region (W.mv (W.ok (ok_nilP rfl) (W.ok (ok_loadB (i := 0) (vs := [.slice _ _ _]) ty177 rfl rfl rfl rfl (by simp)) (W.ok (ok_lenO sl177 h_l rfl) (W.ok (Ok.int (n := ((l.length - 1 : Nat) : Int)) (ok_sub rfl rfl (by omega)) (by omega)) (W.as (W.nil (thn_n ?_)))))))))))))))
 refine WC.seq (WC.region (W.mv (W.ok (ok_nilP rfl) (W.ok (ok_loadB (i := 0) (vs := [.slice _ _ _]) ty177 rfl rfl rfl rfl (by simp)) (W.mv ?_)))))
 have q60 := h_l.at (i := l.length - 1) (by omega)
 refine match q60 with | ⟨_, he57, ⟨e_59, hi58⟩⟩ => ?_
 subst e_59
 refine W.ok (ok_indexAddrO (i := l.length - 1) sl177 ty3 h_l rfl rfl ⟨by omega, by omega⟩) (W.ok (ok_loadO (vs := [.int .i64 _]) ty3 he57 (pmC pr9) rfl rfl rfl (by simp)) (W.as (W.nil (thn_n (WC.seq (WC.region (W.mv (W.mv (W.ok (ok_nilP rfl) (W.ok (ok_loadB (i := 0) (vs := [.slice _ _ _]) ty177 rfl rfl rfl rfl (by simp)) (W.mv (W.shortO (l.length - 1) sl177 ty3 h_l rfl ⟨_, _, rfl, by omega⟩ (by omega) (fun v61 ho62 => ?_)))))))))))))
 have q66 := ho62.form
 refine match q66 with | ⟨sa63, sc64, e_65⟩ => ?_
 subst e_65
 refine W.ok (ok_nilP rfl) (W.store (i := 0) (vs := [.slice _ _ _]) (L' := [_, _, .slice _ _ _]) ty177 rfl rfl rfl rfl rfl rfl rfl rfl (W.nil (thn_n (WC.seq (WC.region (W.mv (W.ok (ok_mkI pi3 rfl) (W.as (W.nil (thn_n (WC.ret ?_)))))))))))
 refine ⟨.inr rfl, [_], ⟨rfl, trivial⟩, ((b_b, .cells (List.toArray [c0, c1, .slice sa63 (((l).take (l.length - 1))).length sc64]) Tb (0, 0)) :: (Ms_l ++ [])), sr9.k9, ?_⟩
 exact ⟨by rw [hlast]; rfl, by rw [hlast]; exact ho_z, _, _, congrArg _ (List.append_nil _), ho62⟩

end Go.Proofs.Ytmbafmifalppaaa
namespace Go.Proofs.Ytmbafmifalppaaa
open Go Go.Fw Go.RowKit

abbrev LeastR (b : Nat) (Tb : TypeId) (c0 c1 : Value) (G : GH) (l : List Int) (M : MH) : Prop := ∃ v Ms, M = (b, .cells (List.toArray [c0, c1, v]) Tb (0, 0)) :: Ms ∧ OwnR eInt 3 G v l Ms
theorem least_heap {b : Nat} {Tb : TypeId} {c0 c1 : Value} : HeapK Try.prog (fun a b : Int => decide (a < b)) (.iface 181 (.pointer (some ⟨b, 2, none⟩))) (LeastR b Tb c0 c1) (fun _ u a => u = .iface 3 (.int .i64 a) ∧ i64 a) where
  mono := fun hl ⟨v, Ms, h1, h2⟩ => ⟨v, Ms, h1, h2.mono hl⟩
  bound := fun ⟨v, Ms, h1, h2⟩ => h2.len47
  len := fun {G l M} ⟨v, Ms, h1, h2⟩ => by
    subst h1
    exact Inv.val (e := 177) (by kernel_rfl) (by kernel_rfl) rfl (llen_fc h2) (fun v' G' M' hl ⟨e1, e2⟩ => ⟨e1, by rw [← e2]⟩)
  less := fun {G l M i j} ⟨v, Ms, h1, h2⟩ hi hj => by
    subst h1
    exact Inv.val (e := 177) (by kernel_rfl) (by kernel_rfl) rfl (lless_fc h2 i j hi hj) (fun v' G' M' hl ⟨e1, e2⟩ => ⟨e1, by rw [← e2]⟩)
  swap := fun {G l M i j} ⟨v, Ms, h1, h2⟩ hi hj => by
    subst h1
    exact Inv.val (e := 177) (by kernel_rfl) (by kernel_rfl) rfl (lswap_fc h2 i j hi hj) (fun v' G' M' hl ⟨e1, e2⟩ => ⟨e1, v, M', rfl, e2⟩)
  push := fun {G l M u a} ⟨v, Ms, h1, h2⟩ hb ⟨h3, h4⟩ => by
    subst h1 h3
    exact Inv.ptr (g := 229) (by kernel_rfl) (lpush_fc h2 a h4 hb) (fun v' G' M' hl ⟨e1, v2, M2, e2, e3⟩ => ⟨e1, v2, M2, e2, e3⟩)
  pop := fun {G l M} ⟨v, Ms, h1, h2⟩ h0 => by
    subst h1
    exact Inv.ptr (g := 228) (by kernel_rfl) (lpop_fc h2 h0) (fun v' G' M' hl ⟨e1, e4, v2, M2, e2, e3⟩ => ⟨⟨e1, e4⟩, v2, M2, e2, e3⟩)

abbrev HeadsR (b : Nat) (Tb : TypeId) (G : GH) (l : List Hd) (M : MH) : Prop := (∀ h ∈ l, 0 < h.1.length) ∧ ∃ v Ms, M = (b, .cells (List.toArray [v]) Tb (0, 0)) :: Ms ∧ OwnR eHead 202 G v l Ms
abbrev HeadV (G : GH) (u : Value) (a : Hd) : Prop := (∃ p c, u = .iface 202 (.agg (List.toArray [.slice p a.1.length c, .int .i64 a.2])) ∧ SlR eMsg G (.slice p a.1.length c) a.1 ∧ i64 a.2) ∧ 0 < a.1.length
end Go.Proofs.Ytmbafmifalppaaa
