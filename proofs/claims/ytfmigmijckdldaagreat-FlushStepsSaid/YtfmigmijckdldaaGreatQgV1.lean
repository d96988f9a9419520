/- Walks of heaps. -/
import Derived.Test.YtfmigmijckdldaaGreatQgNc
set_option maxRecDepth 100000
set_option maxHeartbeats 1600000
set_option linter.unusedVariables false
set_option linter.unusedSimpArgs false
set_option linter.unnecessarySimpa false
namespace Go.Proofs.YtfmigmijckdldaaGreat
open Go Go.Fw Go.RowKit
attribute [local irreducible] Ok W WC
theorem hdown_fc {G : GH} {α : Type} [Inhabited α] {lt : α → α → Bool} {x0 : Value} {Rep : GH → List α → MH → Prop} {EV : GH → Value → α → Prop} {pu : Prop} (hK : HeapK Tryz.prog lt x0 Rep EV pu) {l : List α} {Ms_l : MH} (h_l : Rep G l Ms_l) (i0 : Nat) (n : Nat) (f : Nat) (hf : n ≤ i0 + f) (hn : n ≤ l.length) (hi : i0 ≤ 1000000000000000) :
    Fc Tryz.prog 125 [x0, nt9 i0, nt9 n] G Ms_l (fun v G' M' => (∃ b, v = .bool b) ∧ Rep G' (downL lt f l i0 n) M') := by
 have hbd := hK.bound h_l
 refine Fc.go [.tmp 6] Tryz.func125 Tryz.ntmps125 rfl (fun w0 => (WC.perm (M' := (Ms_l ++ [])) (by simp) (g9 13 ?_)))
 refine WC.loop (X := (Nat × Nat × List α) × MH) (fun x => [(7, nt9 x.1.1), (1, nt9 i0), (2, nt9 n), (0, x0)]) (fun x G Ml => Ml = (x.2 ++ []) ∧ Rep G (x.1.2.2) x.2 ∧ downL lt x.1.2.1 x.1.2.2 x.1.1 n = downL lt f l i0 n ∧ n ≤ x.1.1 + x.1.2.1 ∧ x.1.2.2.length = l.length ∧ x.1.1 ≤ n + 1000000000000000) (fun x => n - x.1.1) (((i0, f, l) : Nat × Nat × List α), Ms_l) hs9 ?_ ?_
 ·exact ⟨rfl, (by simpa using h_l), rfl, hf, rfl, by dsimp only; omega⟩
 rintro ⟨⟨i, f9, L⟩, M_0⟩ gG1 G1 _ hG1 ⟨rfl, ho_0, hd, hfi, hL, hib⟩
 try dsimp only at ho_0 hd hfi hL hib
 have hbL : L.length ≤ 140737488355328 := by omega
 refine WC.fr (f := setL gG1 [(7, nt9 i), (1, nt9 i0), (2, nt9 n), (0, x0)]) rfl (g9 4 ?_)
 refine W.ok (ok_mul rfl rfl om9) (W.ok (Ok.int (n := ((2 * i + 1 : Nat) : Int)) (ok_add rfl rfl om9) om9) (g9 10 ?_))
 refine W.sd 18 (fun h17 p17 => ?_) (fun h17 p17 => ?_)
 ·try dsimp only at p17
  refine g9 21 ?_
  refine ⟨.inr rfl, [_], ⟨rfl, trivial⟩, M_0, List.sublist_append_left _ _, ?_⟩
  refine ⟨⟨_, rfl⟩, ?_⟩
  have h := ho_0
  rw [downL_stop om9] at hd
  rw [← hd]; exact h
 try dsimp only at p17
 refine g9 7 ?_
 refine WC.cd (fun h20 p20 => ?_) (fun h20 p20 => ?_)
 ·try dsimp only at p20
  exfalso; omega
 try dsimp only at p20
 have hkj := kidJ_lt (lt := lt) (l := L) (i := i) (n := n) om9
 refine g9 8 ?_
 refine WC.join (X := Unit) (fun u8 => [(9, nt9 ((kidJ lt L i n))), (0, x0), (1, nt9 i0), (2, nt9 n), (7, nt9 i)]) (fun u8 _ Ml => Ml = (M_0 ++ [])) ?_ ?_
 ·refine g9 3 ?_
  refine W.ok (Ok.int (n := ((2 * i + 2 : Nat) : Int)) (ok_add rfl rfl om9) om9) (g9 9 ?_)
  refine W.sd 28 (fun h27 p27 => ?_) (fun h27 p27 => ?_)
  ·try dsimp only at p27
   refine g9 7 ?_
   refine W.inv (hK.less (i := 2 * i + 2) (j := 2 * i + 1) ho_0 om9 om9) rfl rfl pr9 ?_
   intro _ G2 Ms4 hG2 q3
   refine match q3 with | ⟨e_6, eeq3⟩ => ?_
   subst e_6
   have eeq3 := eeq3.symm
   subst eeq3
   refine g9 3 ?_
   refine WC.cond rfl (fun h32 => ?_) (fun h32 => ?_)
   ·refine g9 5 ?_
    exact ⟨hG2, (), ⟨(by exact iv (congrArg Nat.cast (kidJ_t om9 h32).symm)), eqv, eqv, eqv, eqv, trivial⟩, rfl⟩
   refine g9 2 ?_
   exact ⟨hG2, (), ⟨(by exact iv (congrArg Nat.cast (kidJ_f (.inr h32)).symm)), eqv, eqv, eqv, eqv, trivial⟩, rfl⟩
  try dsimp only at p27
  refine g9 10 ?_
  exact ⟨Le.rfl, (), ⟨(by exact iv (congrArg Nat.cast (kidJ_f (.inl om9)).symm)), eqv, eqv, eqv, eqv, trivial⟩, rfl⟩
 rintro u8 gG7 G7 _ hG7 rfl
 refine g9 6 ?_
 refine W.inv (hK.less (i := (kidJ lt L i n)) (j := i) (hK.mono hG7 ho_0) om9 om9) rfl rfl pr9 ?_
 intro _ G8 Ms10 hG8 q9
 refine match q9 with | ⟨e_12, eeq9⟩ => ?_
 subst e_12
 have eeq9 := eeq9.symm
 subst eeq9
 refine g9 3 ?_
 refine WC.cond rfl (fun h39 => ?_) (fun h39 => ?_)
 ·refine g9 15 ?_
  refine ⟨.inr rfl, [_], ⟨rfl, trivial⟩, M_0, List.sublist_append_left _ _, ?_⟩
  refine ⟨⟨_, rfl⟩, ?_⟩
  have h := (hK.mono (hG7.trans hG8) ho_0)
  rw [downL_end om9 (by simpa using h39)] at hd
  rw [← hd]; exact h
 refine g9 7 ?_
 refine W.inv (hK.swap (i := i) (j := (kidJ lt L i n)) (hK.mono lec ho_0) om9 om9) rfl rfl pr9 ?_
 intro _ G13 Ms15 hG13 q14
 refine match q14 with | ⟨e_18, hR17⟩ => ?_
 subst e_18
 refine g9 8 ?_
 exact ⟨lec, ((((kidJ lt L i n), f9 - 1, swapL L i (kidJ lt L i n)) : Nat × Nat × List α), Ms15), hs9, ⟨rfl, (by simpa using hR17), by dsimp only; rw [← hd, downL_go hfi om9 (by simpa using h39)], by dsimp only; omega, by dsimp only; rw [swapL_length]; exact hL, by dsimp only; omega⟩, by dsimp only; omega⟩

theorem hpop_fc {G : GH} {α : Type} [Inhabited α] {lt : α → α → Bool} {x0 : Value} {Rep : GH → List α → MH → Prop} {EV : GH → Value → α → Prop} {pu : Prop} (hK : HeapK Tryz.prog lt x0 Rep EV pu) {l : List α} {Ms_l : MH} (h_l : Rep G l Ms_l) (h0 : 0 < l.length) :
    Fc Tryz.prog 95 [x0] G Ms_l (fun v G' M' => EV G' v (nth l 0) ∧ Rep G' (popL lt l) M') := by
 have hbd := hK.bound h_l
 refine Fc.go [.tmp 2] Tryz.func95 Tryz.ntmps95 rfl (fun w0 => (WC.perm (M' := (Ms_l ++ [])) (by simp) (g9 8 ?_)))
 refine W.inv (hK.len h_l) rfl rfl pr9 ?_
 intro _ G19 Ms21 hG19 q20
 refine match q20 with | ⟨e_23, eeq20⟩ => ?_
 subst e_23
 have eeq20 := eeq20.symm
 subst eeq20
 refine W.ok (Ok.int (n := ((l.length - 1 : Nat) : Int)) (ok_sub rfl rfl om9) om9) (g9 7 ?_)
 refine W.inv (hK.swap (i := 0) (j := l.length - 1) (hK.mono hG19 h_l) om9 om9) rfl rfl pr9 ?_
 intro _ G24 Ms26 hG24 q25
 refine match q25 with | ⟨e_29, hR28⟩ => ?_
 subst e_29
 refine g9 6 ?_
 refine W.call (Mp := Ms26) (hdown_fc hK hR28 0 _ l.length om9 (by first | omega | (simp only [swapL_length]; omega)) om9) rfl pr9 ?_
 intro _ G30 Ms32 hG30 q31
 refine match q31 with | ⟨⟨_, e_35⟩, hR34⟩ => ?_
 subst e_35
 refine g9 5 ?_
 refine W.inv (hK.pop hR34 (by rw [downL_length, swapL_length]; omega)) rfl rfl pr9 ?_
 intro v39 G36 Ms38 hG36 q37
 refine match q37 with | ⟨hvhR40, hR40⟩ => ?_
 refine g9 4 ?_
 refine ⟨.inr rfl, [_], ⟨rfl, trivial⟩, Ms38, List.sublist_append_left _ _, ?_⟩
 refine ⟨(by have h := hvhR40; rw [(popL_eq (lt := lt) h0).2] at h; exact h), ?_⟩
 have h := hR40
 rw [(popL_eq h0).1] at h; exact h

theorem hinit_fc {G : GH} {α : Type} [Inhabited α] {lt : α → α → Bool} {x0 : Value} {Rep : GH → List α → MH → Prop} {EV : GH → Value → α → Prop} {pu : Prop} (hK : HeapK Tryz.prog lt x0 Rep EV pu) {l : List α} {Ms_l : MH} (h_l : Rep G l Ms_l) (hh : Heap lt l) (hb : l.length < 1000000) :
    Fc Tryz.prog 91 [x0] G Ms_l (fun v G' M' => v = .tuple #[] ∧ Rep G' (l) M') := by
 have hbd := hK.bound h_l
 refine Fc.go [] Tryz.func91 Tryz.ntmps91 rfl (fun w0 => (WC.perm (M' := (Ms_l ++ [])) (by simp) (g9 3 ?_)))
 refine W.inv (hK.len h_l) rfl rfl pr9 ?_
 intro _ G41 Ms43 hG41 q42
 refine match q42 with | ⟨e_45, eeq42⟩ => ?_
 subst e_45
 have eeq42 := eeq42.symm
 subst eeq42
 refine g9 6 ?_
 refine W.ok (Ok.int (n := ((l.length / 2 : Nat) : Int)) (ok_quo' rfl rfl om9 om9 om9) om9) (g9 5 ?_)
 refine WC.loop (X := (Int) × MH) (fun z => [(3, iV z.1), (2, nt9 ((l).length)), (0, x0)]) (fun z G Ml => Ml = (z.2 ++ []) ∧ Rep G (l) z.2 ∧ -1 ≤ z.1 ∧ z.1 ≤ l.length) (fun z => (z.1 + 1).toNat) (((((l.length / 2 : Nat) : Int) - 1) : Int), Ms_l) hs9 ?_ ?_
 ·exact ⟨rfl, (by simpa using (hK.mono hG41 h_l)), om9, om9⟩
 rintro ⟨z, M_0⟩ gG46 G46 _ hG46 ⟨rfl, ho_0, hz1, hz2⟩
 try dsimp only at ho_0 hz1 hz2
 refine WC.fr (f := setL gG46 [(3, iV z), (2, nt9 ((l).length)), (0, x0)]) rfl (g9 7 ?_)
 refine WC.cd (fun h10 p10 => ?_) (fun h10 p10 => ?_)
 ·try dsimp only at p10
  obtain ⟨m, rfl⟩ : ∃ m : Nat, z = (m : Int) := ⟨z.toNat, om9⟩
  refine g9 8 ?_
  refine W.call (Mp := M_0) (hdown_fc hK ho_0 _ _ l.length om9 (by first | omega | (simp only [swapL_length]; omega)) om9) rfl pr9 ?_
  intro _ G47 Ms49 hG47 q48
  refine match q48 with | ⟨⟨_, e_52⟩, hR51⟩ => ?_
  subst e_52
  refine g9 9 ?_
  exact ⟨hG47, (((m : Int) - 1), Ms49), hs9, ⟨rfl, (by have h := hR51; rw [downL_id hh] at h; exact h), by dsimp only; omega, by dsimp only; omega⟩, by dsimp only; omega⟩
 try dsimp only at p10
 refine g9 4 ?_
 refine ⟨.inl rfl, [], trivial, M_0, List.sublist_append_left _ _, ?_⟩
 refine ⟨rfl, ?_⟩
 exact ho_0

end Go.Proofs.YtfmigmijckdldaaGreat
namespace Go.Proofs.YtfmigmijckdldaaGreat
open Go Go.Fw Go.RowKit
attribute [local irreducible] Ok W WC
theorem llen_fc {G : GH} {v_l : Value} {l : List Int} {Ms_l : MH} (h_l : OwnR eInt 3 G v_l l Ms_l) :
    Fc Tryz.prog 212 [v_l] G Ms_l (fun v _ M' => v = iV ((l.length : Int)) ∧ Ms_l = M') := by
 refine Fc.go [.tmp 2] Tryz.func212 Tryz.ntmps212 rfl (fun w0 => (WC.perm (M' := (Ms_l ++ [])) (by simp) (g9 13 ?_)))
 refine ⟨.inr rfl, [_], ⟨rfl, trivial⟩, Ms_l, List.sublist_append_left _ _, ?_⟩
 exact ⟨rfl, rfl⟩

theorem lless_fc {G : GH} {v_l : Value} {l : List Int} {Ms_l : MH} (h_l : OwnR eInt 3 G v_l l Ms_l) (i : Nat) (j : Nat) (hi : i < l.length) (hj : j < l.length) :
    Fc Tryz.prog 213 [v_l, nt9 i, nt9 j] G Ms_l (fun v _ M' => v = .bool (decide (nth l i < nth l j)) ∧ Ms_l = M') := by
 have hl := h_l.len47
 refine Fc.go [.tmp 6] Tryz.func213 Tryz.ntmps213 rfl (fun w0 => (WC.perm (M' := (Ms_l ++ [])) (by simp) (g9 9 ?_)))
 refine h_l.a2 (i := i) om9 (fun he1 hi2 => (W.ok (ok_indexAddrO (i := i) sl123 ty3 h_l rfl rfl ⟨om9, om9⟩) (W.ok (ok_loadO (vs := ic9) ty3 he1 pr9 rfl rfl rfl (by simp)) (g9 2 ?_))))
 refine h_l.a2 (i := j) om9 (fun he5 hi6 => (W.ok (ok_indexAddrO (i := j) sl123 ty3 h_l rfl rfl ⟨om9, om9⟩) (W.ok (ok_loadO (vs := ic9) ty3 he5 pr9 rfl rfl rfl (by simp)) (g9 5 ?_))))
 refine ⟨.inr rfl, [_], ⟨rfl, trivial⟩, Ms_l, List.sublist_append_left _ _, ?_⟩
 exact ⟨by rw [nth_lt hi, nth_lt hj]; rfl, rfl⟩

theorem lswap_fc {G : GH} {v_l : Value} {l : List Int} {Ms_l : MH} (h_l : OwnR eInt 3 G v_l l Ms_l) (i : Nat) (j : Nat) (hi : i < l.length) (hj : j < l.length) :
    Fc Tryz.prog 214 [v_l, nt9 i, nt9 j] G Ms_l (fun v G' M' => v = .tuple #[] ∧ OwnR eInt 3 G' v_l (swapL l i j) M') := by
 have hl := h_l.len47
 have ho_i : i64 l[i] := by obtain ⟨_, _, _, h⟩ := h_l.at hi; exact h
 have ho_j : i64 l[j] := by obtain ⟨_, _, _, h⟩ := h_l.at hj; exact h
 have hls : (l.set i l[j]).length = l.length := List.length_set ..
 refine Fc.go [] Tryz.func214 Tryz.ntmps214 rfl (fun w0 => (WC.perm (M' := (Ms_l ++ [])) (by simp) (WC.dw sn9 (d9 [0, 1, 2, 3, 4, 5] ?_))))
 refine h_l.a2 (i := j) om9 (fun he9 hi10 => (WD.tk 6 rfl (ok_indexAddrO (i := j) sl123 ty3 h_l rfl rfl ⟨om9, om9⟩) (d9 [8, 9] ?_)))
 refine h_l.a2 (i := i) om9 (fun he13 hi14 => (WD.tk 10 rfl (ok_indexAddrO (i := i) sl123 ty3 h_l rfl rfl ⟨om9, om9⟩) ?_))
 refine WD.any [7, 11] (by kernel_rfl) rfl ⟨WD.ap ?_, WD.ap ?_, trivial⟩
 ·refine W.ok (ok_loadO (vs := ic9) ty3 he9 pr9 rfl rfl rfl (by simp)) (W.nn (WD.a1 11 rfl (W.ok (ok_loadO (vs := ic9) ty3 he13 pr9 rfl rfl rfl (by simp)) (W.nn (h_l.a2 (i := i) om9 (fun he17 hi18 => (WD.tk 12 rfl (ok_indexAddrO (i := i) sl123 ty3 h_l rfl rfl ⟨om9, om9⟩) (WD.a1 13 rfl (W.storeO (i := i) (o := 0) (vs := ic9) (a' := l[j]) ty3 rfl rfl rfl rfl rfl (h_l) pr9 om9 (by decide) (fun cs h => by rw [h.1]; exact ⟨rfl, ho_j⟩) (fun Ms21 ho22 => (W.nn (ho22.a2 (i := j) om9 (fun he23 hi24 => (WD.tk 14 rfl (ok_indexAddrO (i := j) sl123 ty3 ho22 rfl rfl ⟨om9, om9⟩) (WD.a1 15 rfl (W.storeO (i := j) (o := 0) (vs := ic9) (a' := l[i]) ty3 rfl rfl rfl rfl rfl (ho22) pr9 om9 (by decide) (fun cs h => by rw [h.1]; exact ⟨rfl, ho_i⟩) (fun Ms27 ho28 => ?_)))))))))))))))))
  refine W.nn (WD.done (by kernel_rfl) ?_)
  refine ⟨.inl rfl, [], trivial, (Ms27 ++ []), sr9, ?_⟩
  have h := ho28
  refine ⟨rfl, ?_⟩
  rw [swapL, nth_lt hi, nth_lt hj, List.append_nil]; exact h
 refine W.ok (ok_loadO (vs := ic9) ty3 he13 pr9 rfl rfl rfl (by simp)) (W.nn (WD.a1 7 rfl (W.ok (ok_loadO (vs := ic9) ty3 he9 pr9 rfl rfl rfl (by simp)) (W.nn (h_l.a2 (i := i) om9 (fun he29 hi30 => (WD.tk 12 rfl (ok_indexAddrO (i := i) sl123 ty3 h_l rfl rfl ⟨om9, om9⟩) (WD.a1 13 rfl (W.storeO (i := i) (o := 0) (vs := ic9) (a' := l[j]) ty3 rfl rfl rfl rfl rfl (h_l) pr9 om9 (by decide) (fun cs h => by rw [h.1]; exact ⟨rfl, ho_j⟩) (fun Ms33 ho34 => (W.nn (ho34.a2 (i := j) om9 (fun he35 hi36 => (WD.tk 14 rfl (ok_indexAddrO (i := j) sl123 ty3 ho34 rfl rfl ⟨om9, om9⟩) (WD.a1 15 rfl (W.storeO (i := j) (o := 0) (vs := ic9) (a' := l[i]) ty3 rfl rfl rfl rfl rfl (ho34) pr9 om9 (by decide) (fun cs h => by rw [h.1]; exact ⟨rfl, ho_i⟩) (fun Ms39 ho40 => ?_)))))))))))))))))
 refine W.nn (WD.done (by kernel_rfl) ?_)
 refine ⟨.inl rfl, [], trivial, (Ms39 ++ []), sr9, ?_⟩
 have h := ho40
 refine ⟨rfl, ?_⟩
 rw [swapL, nth_lt hi, nth_lt hj, List.append_nil]; exact h

theorem lpop_fc {G : GH} {b_b : Nat} {Tb : TypeId} {c0 : Value} {c1 : Value} {v_l : Value} {l : List Int} {Ms_l : MH} (h_l : OwnR eInt 3 G v_l l Ms_l) (h0 : 0 < l.length) :
    Fc Tryz.prog 215 [.pointer (some ⟨b_b, 2, none⟩)] G ((b_b, ce9 Tb [c0, c1, v_l]) :: (Ms_l)) (fun v G' M' => v = .iface 3 (iV (nth l (l.length - 1))) ∧ i64 (nth l (l.length - 1)) ∧ ∃ v' Ms', M' = (b_b, ce9 Tb [c0, c1, v']) :: Ms' ∧ OwnR eInt 3 G' v' (l.take (l.length - 1)) Ms') := by
 obtain ⟨sa_l, sc_l, rfl⟩ := h_l.form
 have hl := h_l.len47
 have hlast : nth l (l.length - 1) = l[l.length - 1] := nth_lt om9
 have ho_z : i64 l[l.length - 1] := by obtain ⟨_, _, _, h⟩ := h_l.at (i := l.length - 1) om9; exact h
 refine Fc.go [.tmp 2] Tryz.func215 Tryz.ntmps215 rfl (fun w0 => (WC.perm (M' := ((b_b, ce9 Tb [c0, c1, lV sa_l l.length sc_l]) :: (Ms_l ++ []))) (by simp) (g9 11 ?_)))
 refine W.ok (Ok.int (n := ((l.length - 1 : Nat) : Int)) (ok_sub rfl rfl om9) om9) (g9 9 ?_)
 refine h_l.a2 (i := l.length - 1) om9 (fun he41 hi42 => (W.ok (ok_indexAddrO (i := l.length - 1) sl123 ty3 h_l rfl rfl ⟨om9, om9⟩) (W.ok (ok_loadO (vs := ic9) ty3 he41 (pmC pr9) rfl rfl rfl (by simp)) (g9 10 ?_))))
 refine W.shortO (l.length - 1) sl123 ty3 h_l rfl ⟨_, _, rfl, om9⟩ om9 (fun v45 ho46 => ?_)
 have q50 := ho46.form
 refine match q50 with | ⟨sa47, sc48, e_49⟩ => ?_
 subst e_49
 refine g9 7 ?_
 refine W.ok (ok_mkI pi3 rfl) (g9 4 ?_)
 refine ⟨.inr rfl, [_], ⟨rfl, trivial⟩, ((b_b, ce9 Tb [c0, c1, lV sa47 (((l).take (l.length - 1))).length sc48]) :: (Ms_l ++ [])), sr9.k9, ?_⟩
 exact ⟨by rw [hlast]; rfl, by rw [hlast]; exact ho_z, _, _, congrArg _ (List.append_nil _), ho46⟩

end Go.Proofs.YtfmigmijckdldaaGreat
namespace Go.Proofs.YtfmigmijckdldaaGreat
open Go Go.Fw Go.RowKit
attribute [local irreducible] Ok W WC

abbrev LeastR (b : Nat) (Tb : TypeId) (c0 c1 : Value) (G : GH) (l : List Int) (M : MH) : Prop := ∃ v Ms, M = (b, ce9 Tb [c0, c1, v]) :: Ms ∧ OwnR eInt 3 G v l Ms
theorem least_heap {b : Nat} {Tb : TypeId} {c0 c1 : Value} : HeapK Tryz.prog (fun a b : Int => decide (a < b)) (.iface 144 (.pointer (some ⟨b, 2, none⟩))) (LeastR b Tb c0 c1) (fun _ u a => u = .iface 3 (iV a) ∧ i64 a) False where
  mono := fun hl ⟨v, Ms, h1, h2⟩ => ⟨v, Ms, h1, h2.mono hl⟩
  bound := fun ⟨v, Ms, h1, h2⟩ => h2.len47
  len := fun {G l M} ⟨v, Ms, h1, h2⟩ => by
    subst h1
    exact Inv.val (e := 123) (by kernel_rfl) (by kernel_rfl) rfl (llen_fc h2) (fun v' G' M' hl ⟨e1, e2⟩ => ⟨e1, by rw [← e2]⟩)
  less := fun {G l M i j} ⟨v, Ms, h1, h2⟩ hi hj => by
    subst h1
    exact Inv.val (e := 123) (by kernel_rfl) (by kernel_rfl) rfl (lless_fc h2 i j hi hj) (fun v' G' M' hl ⟨e1, e2⟩ => ⟨e1, by rw [← e2]⟩)
  swap := fun {G l M i j} ⟨v, Ms, h1, h2⟩ hi hj => by
    subst h1
    exact Inv.val (e := 123) (by kernel_rfl) (by kernel_rfl) rfl (lswap_fc h2 i j hi hj) (fun v' G' M' hl ⟨e1, e2⟩ => ⟨e1, v, M', rfl, e2⟩)
  push := fun h => h.elim
  pop := fun {G l M} ⟨v, Ms, h1, h2⟩ h0 => by
    subst h1
    exact Inv.ptr (g := 215) (by kernel_rfl) (lpop_fc h2 h0) (fun v' G' M' hl ⟨e1, e4, v2, M2, e2, e3⟩ => ⟨⟨e1, e4⟩, v2, M2, e2, e3⟩)
end Go.Proofs.YtfmigmijckdldaaGreat
namespace Go.Proofs.YtfmigmijckdldaaGreat
open Go Go.Fw Go.RowKit
attribute [local irreducible] Ok W WC
theorem shasn_fc {G : GH} {b_s : Nat} {v_c : Value} {c : List Nd} {Ms_c : MH} (h_c : OwnR eNode 53 G v_c c Ms_c) {v_u : Value} {u : List Bool} {Ms_u : MH} (h_u : OwnR eBool 4 G v_u u Ms_u) {v_f : Value} {f : List Int} {Ms_f : MH} (h_f : OwnR eInt 3 G v_f f Ms_f) (i : Int) :
    Fc Tryz.prog 96 [pt9 b_s, iV i] G ((b_s, ce9 125 [v_c, v_u, v_f]) :: (Ms_c ++ (Ms_u ++ (Ms_f)))) (fun v G' M' => v = .bool (hasN u i) ∧ M' = (b_s, ce9 125 [v_c, v_u, v_f]) :: (Ms_c ++ (Ms_u ++ Ms_f))) := by
 obtain ⟨sa_c, sc_c, rfl⟩ := h_c.form
 obtain ⟨sa_u, sc_u, rfl⟩ := h_u.form
 obtain ⟨sa_f, sc_f, rfl⟩ := h_f.form
 have hl := h_u.len47
 refine Fc.go [.tmp 4] Tryz.func96 Tryz.ntmps96 rfl (fun w0 => (WC.perm (M' := ((b_s, ce9 125 [lV sa_c c.length sc_c, lV sa_u u.length sc_u, lV sa_f f.length sc_f]) :: (Ms_c ++ (Ms_u ++ (Ms_f ++ []))))) (by simp) (g9 8 ?_)))
 refine W.ok (ok_neqPN pp76 rfl rfl) (g9 7 ?_)
 refine W.sd 11 (fun h9 p9 => ?_) (fun h9 p9 => ?_)
 ·refine g9 16 ?_
  refine W.sd 20 (fun h18 p18 => ?_) (fun h18 p18 => ?_)
  ·refine g9 11 ?_
   refine h_u.a1 (i := i.toNat) om9 (fun he1 => (W.ok (ok_indexAddrO (i := i.toNat) sl122 ty4 h_u rfl rfl ⟨om9, om9⟩) (g9 1 ?_)))
   refine W.ok (ok_loadO (vs := bc9) ty4 he1 (pmC (pmA pr9)) rfl rfl rfl (by simp)) (g9 5 ?_)
   refine ⟨.inr rfl, [_], ⟨rfl, trivial⟩, ((b_s, ce9 125 [lV sa_c c.length sc_c, lV sa_u u.length sc_u, lV sa_f f.length sc_f]) :: (Ms_c ++ (Ms_u ++ (Ms_f ++ [])))), sr9.k9, ?_⟩
   exact ⟨congrArg Value.bool (hasN_get om9 om9), by simp⟩
  refine g9 12 ?_
  refine ⟨.inr rfl, [_], ⟨rfl, trivial⟩, ((b_s, ce9 125 [lV sa_c c.length sc_c, lV sa_u u.length sc_u, lV sa_f f.length sc_f]) :: (Ms_c ++ (Ms_u ++ (Ms_f ++ [])))), sr9.k9, ?_⟩
  exact ⟨congrArg Value.bool (hasN_big om9), by simp⟩
 refine g9 21 ?_
 refine ⟨.inr rfl, [_], ⟨rfl, trivial⟩, ((b_s, ce9 125 [lV sa_c c.length sc_c, lV sa_u u.length sc_u, lV sa_f f.length sc_f]) :: (Ms_c ++ (Ms_u ++ (Ms_f ++ [])))), sr9.k9, ?_⟩
 exact ⟨congrArg Value.bool (hasN_neg om9), by simp⟩

theorem ssetn_fc {G : GH} {b_s : Nat} {v_c : Value} {c : List Nd} {Ms_c : MH} (h_c : OwnR eNode 53 G v_c c Ms_c) {v_u : Value} {u : List Bool} {Ms_u : MH} (h_u : OwnR eBool 4 G v_u u Ms_u) {v_f : Value} {f : List Int} {Ms_f : MH} (h_f : OwnR eInt 3 G v_f f Ms_f) (i : Int) {cs_x : List Value} {x : Nd} (h_x : NodeC G cs_x x) (hcu : c.length = u.length) (hn : u.length ≤ 4096) (hh : Heap ltI f) (hp : f.Perm (freeN u)) :
    Fc Tryz.prog 61 [pt9 b_s, iV i, .agg (List.toArray cs_x)] G ((b_s, ce9 125 [v_c, v_u, v_f]) :: (Ms_c ++ (Ms_u ++ (Ms_f)))) (fun v G' M' => v = iV (layA (c, u) i x).1 ∧ ArR eNode 53 4 3 125 b_s G' (layA (c, u) i x).2 M') := by
 obtain ⟨pa_x, pc_x, ka_x, kc_x, ma_x, mc_x, ra_x, rc_x, rfl, hp_x, hk_x, hm_x, hr_x, hok_x⟩ := h_x
 obtain ⟨sa_c, sc_c, rfl⟩ := h_c.form
 obtain ⟨sa_u, sc_u, rfl⟩ := h_u.form
 obtain ⟨sa_f, sc_f, rfl⟩ := h_f.form
 have hl := h_u.len47
 have hlc := h_c.len47
 refine Fc.go [.tmp 6] Tryz.func61 Tryz.ntmps61 rfl (fun w0 => (WC.perm (M' := ((b_s, ce9 125 [lV sa_c c.length sc_c, lV sa_u u.length sc_u, lV sa_f f.length sc_f]) :: (Ms_c ++ (Ms_u ++ (Ms_f ++ []))))) (by simp) (g9 2 ?_)))
 refine W.box (L := [iV _, iV _, lV _ _ _, lV _ _ _, sV _, .bool _, iV _, iV _, lV _ _ _, lV _ _ _]) rfl rfl (fun b5 => (g9 7 ?_))
 refine W.ok (ok_eqlPN pp76 rfl rfl) (g9 10 ?_)
 refine W.call (Mp := ((b_s, ce9 125 [lV sa_c c.length sc_c, lV sa_u u.length sc_u, lV sa_f f.length sc_f]) :: (Ms_c ++ (Ms_u ++ Ms_f)))) (Mr := ((b5, ce9 53 (ndl x pa_x pc_x ka_x kc_x ma_x mc_x ra_x rc_x)) :: [])) (shasn_fc h_c h_u h_f _) rfl (((pmC ((pmF ((pmF pr9).trans pr9)).trans pr9)).cons _).trans ((List.Perm.swap _ _ _).trans (pr9.cons _))) ?_
 intro v9 G6 Ms8 hG6 q7
 refine match q7 with | ⟨e_10, e_11⟩ => ?_
 subst e_10
 subst e_11
 refine W.perm (M' := ((b_s, ce9 125 [lV sa_c c.length sc_c, lV sa_u u.length sc_u, lV sa_f f.length sc_f]) :: ((b5, ce9 53 (ndl x pa_x pc_x ka_x kc_x ma_x mc_x ra_x rc_x)) :: (Ms_c ++ (Ms_u ++ (Ms_f ++ [])))))) (((pmC ((pmF ((pmF pr9).trans pr9)).trans pr9)).cons _).trans pr9).symm (g9 3 ?_)
 refine WC.cond rfl (fun h12 => ?_) (fun h12 => ?_)
 ·refine g9 7 ?_
  refine ⟨.inr rfl, [_], ⟨rfl, trivial⟩, ((b_s, ce9 125 [lV sa_c c.length sc_c, lV sa_u u.length sc_u, lV sa_f f.length sc_f]) :: (Ms_c ++ (Ms_u ++ (Ms_f ++ [])))), (sr9.cons _).k9, ?_⟩
  exact ⟨congrArg (Value.int .i64) (congrArg Prod.fst (layA_f (st := (c, u)) (by simpa using h12))).symm, ArR.cast (st := (c, u)) ⟨_, ⟨_, _, _, _, _, _, rfl, (h_c.mono hG6), (h_u.mono hG6), (h_f.mono hG6)⟩, hcu, hn, hh, hp⟩ (congrArg Prod.snd (layA_f (st := (c, u)) (by simpa using h12))).symm (by simp)⟩
 have hhi : hasN u i = true := by simpa using h12
 have hil := hasN_lt hhi
 refine g9 3 ?_
 refine WC.dw (sn9.k9.k9) (d9 [0, 1, 2, 3, 4, 5] ?_)
 refine (h_c.mono hG6).aN (i := i.toNat) om9 (fun _ _ _ _ _ _ _ _ he12 hp_n13 hk_n13 hm_n13 hr_n13 hok_n13 => (WD.tk 6 rfl (ok_indexAddrO (i := i.toNat) sl24 ty53 (h_c.mono hG6) rfl rfl ⟨om9, om9⟩) (WD.a1 7 rfl (W.storeO (i := i.toNat) (o := 0) (vs := nd9) (a' := x) ty53 rfl rfl rfl rfl rfl ((h_c.mono hG6)) (pmC (pmC pr9)) om9 (by decide) (fun cs h => by obtain ⟨_, _, _, _, _, _, _, _, rfl, _⟩ := h; exact (nm9 hG6 hp_x hk_x hm_x hr_x hok_x)) (fun Ms16 ho17 => (W.perm (pmC (pmC pr9)).symm (W.nn (g9 8 ?_))))))))
 refine ⟨.inr rfl, [_], ⟨rfl, trivial⟩, ((b_s, ce9 125 [lV sa_c c.length sc_c, lV sa_u u.length sc_u, lV sa_f f.length sc_f]) :: (Ms16 ++ (Ms_u ++ (Ms_f ++ [])))), (sr9.cons _).k9, ?_⟩
 exact ⟨congrArg (Value.int .i64) (congrArg Prod.fst (layA_t (st := (c, u)) (by simpa using h12))).symm, ArR.cast (st := (c.set i.toNat x, u)) ⟨_, ⟨_, _, _, _, _, _, rfl, ho17, (h_u.mono hG6), (h_f.mono hG6)⟩, (by rw [List.length_set]; exact hcu), hn, hh, hp⟩ (congrArg Prod.snd (layA_t (st := (c, u)) (by simpa using h12))).symm (by simp)⟩

theorem sallocn_fc {G : GH} {b_s : Nat} {v_c : Value} {c : List Nd} {Ms_c : MH} (h_c : OwnR eNode 53 G v_c c Ms_c) {v_u : Value} {u : List Bool} {Ms_u : MH} (h_u : OwnR eBool 4 G v_u u Ms_u) {v_f : Value} {f : List Int} {Ms_f : MH} (h_f : OwnR eInt 3 G v_f f Ms_f) {cs_x : List Value} {x : Nd} (h_x : NodeC G cs_x x) (hcu : c.length = u.length) (hn : u.length ≤ 4096) (hh : Heap ltI f) (hp : f.Perm (freeN u)) :
    Fc Tryz.prog 60 [pt9 b_s, .agg (List.toArray cs_x)] G ((b_s, ce9 125 [v_c, v_u, v_f]) :: (Ms_c ++ (Ms_u ++ (Ms_f)))) (fun v G' M' => v = .tuple #[iV (nextA (c, u) x).1.1, iV (nextA (c, u) x).1.2] ∧ ArR eNode 53 4 3 125 b_s G' (nextA (c, u) x).2 M') := by
 obtain ⟨pa_x, pc_x, ka_x, kc_x, ma_x, mc_x, ra_x, rc_x, rfl, hp_x, hk_x, hm_x, hr_x, hok_x⟩ := h_x
 obtain ⟨sa_c, sc_c, rfl⟩ := h_c.form
 obtain ⟨sa_u, sc_u, rfl⟩ := h_u.form
 obtain ⟨sa_f, sc_f, rfl⟩ := h_f.form
 have hl := h_u.len47
 have hlc := h_c.len47
 have hlf := h_f.len47
 refine Fc.go [.tmp 4, .tmp 5] Tryz.func60 Tryz.ntmps60 rfl (fun w0 => (WC.perm (M' := ((b_s, ce9 125 [lV sa_c c.length sc_c, lV sa_u u.length sc_u, lV sa_f f.length sc_f]) :: (Ms_c ++ (Ms_u ++ (Ms_f ++ []))))) (by simp) (g9 2 ?_)))
 refine W.box (L := [iV _, iV _, lV _ _ _, lV _ _ _, sV _, .bool _, iV _, iV _, lV _ _ _, lV _ _ _]) rfl rfl (fun b18 => (g9 8 ?_))
 refine W.ok (ok_eqlPN pp76 rfl rfl) (g9 16 ?_)
 refine WC.cd (fun h14 p14 => ?_) (fun h14 p14 => ?_)
 ·refine g9 8 ?_
  refine ⟨.inr rfl, [_, _], ⟨rfl, rfl, trivial⟩, ((b_s, ce9 125 [lV sa_c c.length sc_c, lV sa_u u.length sc_u, lV sa_f f.length sc_f]) :: (Ms_c ++ (Ms_u ++ (Ms_f ++ [])))), sr9.k9.cons _, ?_⟩
  have hE := nextA_f (st := (c, u)) (x := x) (free_zero (u := u) (by have := hp.length_eq; omega))
  exact ⟨congrArg (fun r : Int × Int => Value.tuple #[iV r.1, iV r.2]) (congrArg Prod.fst hE).symm, ArR.cast (st := (c, u)) ⟨_, ⟨_, _, _, _, _, _, rfl, h_c, h_u, h_f⟩, hcu, hn, hh, hp⟩ (congrArg Prod.snd hE).symm (by simp)⟩
 refine g9 7 ?_
 refine W.ok (ok_mkI pi144 rfl) (W.call (Mp := ((b_s, ce9 125 [lV sa_c c.length sc_c, lV sa_u u.length sc_u, lV sa_f f.length sc_f]) :: Ms_f)) (Mr := ((b18, ce9 53 (ndl x pa_x pc_x ka_x kc_x ma_x mc_x ra_x rc_x)) :: (Ms_c ++ (Ms_u ++ [])))) (hpop_fc (least_heap (b := b_s) (Tb := 125) (c0 := lV sa_c c.length sc_c) (c1 := lV sa_u u.length sc_u)) ⟨_, _, rfl, h_f⟩ om9) rfl (((pmC (pmA (pmA pr9))).cons _).trans ((List.Perm.swap _ _ _).trans (pr9.cons _))) ?_)
 intro v22 G19 Ms21 hG19 q20
 refine match q20 with | ⟨⟨hv_z23, hi_z23⟩, ⟨vf_z23, Mf_z23, e_24, hf_z23⟩⟩ => ?_
 subst e_24
 have q26 := hf_z23.form
 refine match q26 with | ⟨sa_z23, sc_z23, e_25⟩ => ?_
 subst e_25
 obtain ⟨hlt, hee, hh2, hp2⟩ := take_first hh hp om9
 rw [hee] at hv_z23
 subst hv_z23
 refine W.perm (M' := ((b_s, ce9 125 [lV sa_c c.length sc_c, lV sa_u u.length sc_u, lV sa_z23 ((popL ltI f)).length sc_z23]) :: ((b18, ce9 53 (ndl x pa_x pc_x ka_x kc_x ma_x mc_x ra_x rc_x)) :: (Mf_z23 ++ (Ms_c ++ (Ms_u ++ [])))))) (((pmC pr9).cons _).trans pr9).symm (W.ok (ok_tyA pi3 rfl) (g9 4 ?_))
 refine WC.dw (sn9.k9.k9) (d9 [0, 1, 2, 3, 4, 5, 6, 7, 8, 9, 10] ?_)
 refine (h_c.mono hG19).aN (i := (firstN u)) om9 (fun _ _ _ _ _ _ _ _ he27 hp_n28 hk_n28 hm_n28 hr_n28 hok_n28 => (WD.tk 11 rfl (ok_indexAddrO (i := (firstN u)) sl24 ty53 (h_c.mono hG19) rfl rfl ⟨om9, om9⟩) (WD.a1 12 rfl (W.storeO (i := (firstN u)) (o := 0) (vs := nd9) (a' := x) ty53 rfl rfl rfl rfl rfl ((h_c.mono hG19)) (pmC (pmC (pmA pr9))) om9 (by decide) (fun cs h => by obtain ⟨_, _, _, _, _, _, _, _, rfl, _⟩ := h; exact (nm9 hG19 hp_x hk_x hm_x hr_x hok_x)) (fun Ms31 ho32 => (W.perm (pmC (pmC pr9)).symm (W.nn ((h_u.mono hG19).a1 (i := (firstN u)) om9 (fun he33 => (WD.tk 13 rfl (ok_indexAddrO (i := (firstN u)) sl122 ty4 (h_u.mono hG19) rfl rfl ⟨om9, om9⟩) (WD.a1 14 rfl (W.storeO (i := (firstN u)) (o := 0) (vs := bc9) (a' := true) ty4 rfl rfl rfl rfl rfl ((h_u.mono hG19)) (pmC (pmC (pmA (pmA pr9)))) om9 (by decide) (fun cs h => by rw [h]; rfl) (fun Ms37 ho38 => (W.perm (pmC (pmC pr9)).symm (W.nn (g9 9 ?_))))))))))))))))
 refine WC.perm (M' := ((b_s, ce9 125 [lV sa_c c.length sc_c, lV sa_u u.length sc_u, lV sa_z23 ((popL ltI f)).length sc_z23]) :: ((b18, ce9 53 (ndl x pa_x pc_x ka_x kc_x ma_x mc_x ra_x rc_x)) :: (Ms31 ++ (Ms37 ++ (Mf_z23 ++ [])))))) ((((List.Perm.append_left _ ((List.Perm.append_left _ ((List.Perm.append_left _ pr9).trans pr9)).trans pr9)).trans (pmA pr9)).cons _).cons _) (WC.ret ?_)
 refine ⟨.inr rfl, [_, _], ⟨rfl, rfl, trivial⟩, ((b_s, ce9 125 [lV sa_c c.length sc_c, lV sa_u u.length sc_u, lV sa_z23 ((popL ltI f)).length sc_z23]) :: (Ms31 ++ (Ms37 ++ (Mf_z23 ++ [])))), (sr9.cons _).k9, ?_⟩
 have hE := nextA_t (st := (c, u)) (x := x) hlt
 exact ⟨congrArg (fun r : Int × Int => Value.tuple #[iV r.1, iV r.2]) (congrArg Prod.fst hE).symm, ArR.cast (st := (c.set (firstN u) x, u.set (firstN u) true)) ⟨_, ⟨_, _, _, _, _, _, rfl, ho32, ho38, hf_z23⟩, (by rw [List.length_set, List.length_set]; exact hcu), (by rw [List.length_set]; exact hn), hh2, hp2⟩ (congrArg Prod.snd hE).symm (by simp)⟩

theorem sgetn_fc {G : GH} {b_s : Nat} {v_c : Value} {c : List Nd} {Ms_c : MH} (h_c : OwnR eNode 53 G v_c c Ms_c) {v_u : Value} {u : List Bool} {Ms_u : MH} (h_u : OwnR eBool 4 G v_u u Ms_u) {v_f : Value} {f : List Int} {Ms_f : MH} (h_f : OwnR eInt 3 G v_f f Ms_f) (i : Int) (hcu : c.length = u.length) :
    Fc Tryz.prog 63 [pt9 b_s, iV i] G ((b_s, ce9 125 [v_c, v_u, v_f]) :: (Ms_c ++ (Ms_u ++ (Ms_f)))) (fun v G' M' => ∃ cs, v = .tuple #[.agg (List.toArray cs), .bool (hasN u i)] ∧ NodeC G' cs (getA (c, u) i Nd.zero) ∧ M' = (b_s, ce9 125 [v_c, v_u, v_f]) :: (Ms_c ++ (Ms_u ++ Ms_f))) := by
 obtain ⟨sa_c, sc_c, rfl⟩ := h_c.form
 obtain ⟨sa_u, sc_u, rfl⟩ := h_u.form
 obtain ⟨sa_f, sc_f, rfl⟩ := h_f.form
 have hl := h_u.len47
 have hlc := h_c.len47
 refine Fc.go [.cell 4 53, .tmp 5] Tryz.func63 Tryz.ntmps63 rfl (fun w0 => (WC.perm (M' := ((b_s, ce9 125 [lV sa_c c.length sc_c, lV sa_u u.length sc_u, lV sa_f f.length sc_f]) :: (Ms_c ++ (Ms_u ++ (Ms_f ++ []))))) (by simp) (g9 2 ?_)))
 refine W.alloc zr53 (fun b39 => (g9 8 ?_))
 refine W.call (Mp := ((b_s, ce9 125 [lV sa_c c.length sc_c, lV sa_u u.length sc_u, lV sa_f f.length sc_f]) :: (Ms_c ++ (Ms_u ++ Ms_f)))) (Mr := ((b39, ce9 53 nz9) :: [])) (shasn_fc h_c h_u h_f _) rfl (((pmC ((pmF ((pmF pr9).trans pr9)).trans pr9)).cons _).trans ((List.Perm.swap _ _ _).trans (pr9.cons _))) ?_
 intro v43 G40 Ms42 hG40 q41
 refine match q41 with | ⟨e_44, e_45⟩ => ?_
 subst e_44
 subst e_45
 refine W.perm (M' := ((b_s, ce9 125 [lV sa_c c.length sc_c, lV sa_u u.length sc_u, lV sa_f f.length sc_f]) :: ((b39, ce9 53 nz9) :: (Ms_c ++ (Ms_u ++ (Ms_f ++ [])))))) (((pmC ((pmF ((pmF pr9).trans pr9)).trans pr9)).cons _).trans pr9).symm (g9 3 ?_)
 refine WC.cond rfl (fun h9 => ?_) (fun h9 => ?_)
 ·have hhi : hasN u i = false := by simpa using h9
  refine g9 9 ?_
  refine ⟨.inr rfl, [_, _], ⟨⟨_, _, _, _, _, rfl, nthM_mem (i := 1) rfl, ty53, (by simp), rfl, rfl⟩, rfl, trivial⟩, ((b_s, ce9 125 [lV sa_c c.length sc_c, lV sa_u u.length sc_u, lV sa_f f.length sc_f]) :: (Ms_c ++ (Ms_u ++ (Ms_f ++ [])))), (sr9.cons _).k9, ?_⟩
  refine ⟨_, ?_, NodeC.cast ⟨_, _, _, _, _, _, _, _, rfl, SlR.nil, SlR.nil, SlR.nil, SlR.nil, Nd.zero_ok⟩ (getA_f (st := (c, u)) hhi).symm, by simp⟩
  rw [hhi]; rfl
 have hhi : hasN u i = true := by simpa using h9
 have hil := hasN_lt hhi
 refine g9 9 ?_
 refine (h_c.mono hG40).aN (i := i.toNat) om9 (fun _ _ _ _ _ _ _ _ he46 hp_n47 hk_n47 hm_n47 hr_n47 hok_n47 => (W.ok (ok_indexAddrO (i := i.toNat) sl24 ty53 (h_c.mono hG40) rfl rfl ⟨om9, om9⟩) (W.ok (ok_loadO (vs := nd9) ty53 he46 (pmC (pmC pr9)) rfl rfl rfl (by simp)) (g9 5 ?_))))
 refine ⟨.inr rfl, [_, _], ⟨⟨_, _, _, _, _, rfl, nthM_mem (i := 1) rfl, ty53, (by simp), rfl, rfl⟩, rfl, trivial⟩, ((b_s, ce9 125 [lV sa_c c.length sc_c, lV sa_u u.length sc_u, lV sa_f f.length sc_f]) :: (Ms_c ++ (Ms_u ++ (Ms_f ++ [])))), (sr9.cons _).k9, ?_⟩
 refine ⟨_, ?_, NodeC.cast (nk9 hp_n47 hk_n47 hm_n47 hr_n47 hok_n47) (getA_t (st := (c, u)) hhi (by show _ < c.length; omega)).symm, by simp⟩
 rw [hhi]; rfl

theorem sroomn_fc {G : GH} {b_s : Nat} {v_c : Value} {c : List Nd} {Ms_c : MH} (h_c : OwnR eNode 53 G v_c c Ms_c) {v_u : Value} {u : List Bool} {Ms_u : MH} (h_u : OwnR eBool 4 G v_u u Ms_u) {v_f : Value} {f : List Int} {Ms_f : MH} (h_f : OwnR eInt 3 G v_f f Ms_f) (hcu : c.length = u.length) (hn : u.length ≤ 4096) (hh : Heap ltI f) (hp : f.Perm (freeN u)) :
    Fc Tryz.prog 102 [pt9 b_s] G ((b_s, ce9 125 [v_c, v_u, v_f]) :: (Ms_c ++ (Ms_u ++ (Ms_f)))) (fun v G' M' => v = iV ((freeN u).length : Int) ∧ M' = (b_s, ce9 125 [v_c, v_u, v_f]) :: (Ms_c ++ (Ms_u ++ Ms_f))) := by
 obtain ⟨sa_c, sc_c, rfl⟩ := h_c.form
 obtain ⟨sa_u, sc_u, rfl⟩ := h_u.form
 obtain ⟨sa_f, sc_f, rfl⟩ := h_f.form
 have hl := h_u.len47
 have hlf := h_f.len47
 have hfu := free_used u
 have hpl := hp.length_eq
 refine Fc.go [.tmp 2] Tryz.func102 Tryz.ntmps102 rfl (fun w0 => (WC.perm (M' := ((b_s, ce9 125 [lV sa_c c.length sc_c, lV sa_u u.length sc_u, lV sa_f f.length sc_f]) :: (Ms_c ++ (Ms_u ++ (Ms_f ++ []))))) (by simp) (g9 9 ?_)))
 refine W.ok (ok_eqlPN pp76 rfl rfl) (g9 16 ?_)
 refine ⟨.inr rfl, [_], ⟨rfl, trivial⟩, ((b_s, ce9 125 [lV sa_c c.length sc_c, lV sa_u u.length sc_u, lV sa_f f.length sc_f]) :: (Ms_c ++ (Ms_u ++ (Ms_f ++ [])))), sr9.k9, ?_⟩
 exact ⟨congrArg (Value.int .i64) om9, by simp⟩

theorem slistn_fc {G : GH} {b_s : Nat} {v_c : Value} {c : List Nd} {Ms_c : MH} (h_c : OwnR eNode 53 G v_c c Ms_c) {v_u : Value} {u : List Bool} {Ms_u : MH} (h_u : OwnR eBool 4 G v_u u Ms_u) {v_f : Value} {f : List Int} {Ms_f : MH} (h_f : OwnR eInt 3 G v_f f Ms_f) (hcu : c.length = u.length) (hn : u.length ≤ 4096) (hh : Heap ltI f) (hp : f.Perm (freeN u)) :
    Fc Tryz.prog 32 [pt9 b_s] G ((b_s, ce9 125 [v_c, v_u, v_f]) :: (Ms_c ++ (Ms_u ++ (Ms_f)))) (fun v G' M' => SlR eInt G' v (usedN u) ∧ M' = (b_s, ce9 125 [v_c, v_u, v_f]) :: (Ms_c ++ (Ms_u ++ Ms_f))) := by
 obtain ⟨sa_c, sc_c, rfl⟩ := h_c.form
 obtain ⟨sa_u, sc_u, rfl⟩ := h_u.form
 obtain ⟨sa_f, sc_f, rfl⟩ := h_f.form
 have hl := h_u.len47
 have hlf := h_f.len47
 have hfu := free_used u
 have hpl := hp.length_eq
 refine Fc.go [.tmp 2] Tryz.func32 Tryz.ntmps32 rfl (fun w0 => (WC.perm (M' := ((b_s, ce9 125 [lV sa_c c.length sc_c, lV sa_u u.length sc_u, lV sa_f f.length sc_f]) :: (Ms_c ++ (Ms_u ++ (Ms_f ++ []))))) (by simp) (g9 14 ?_)))
 refine W.ok (ok_neqPN pp76 rfl rfl) (g9 14 ?_)
 refine WC.loop (X := (Nat) × Value × MH) (fun k => [(13, nt9 k.1), (11, lV sa_u u.length sc_u), (12, nt9 ((u).length)), (3, k.2.1)]) (fun k G Ml => Ml = ((b_s, ce9 125 [lV sa_c c.length sc_c, lV sa_u u.length sc_u, lV sa_f f.length sc_f]) :: (k.2.2 ++ (Ms_c ++ (Ms_u ++ (Ms_f ++ []))))) ∧ OwnR eInt 3 G k.2.1 (usedK u k.1) k.2.2 ∧ k.1 ≤ u.length) (fun k => u.length - k.1) (0, lV none 0 0, ([] : MH)) hs9 ?_ ?_
 ·exact ⟨rfl, (by exact OwnR.nil), om9⟩
 rintro ⟨k, v_3, M_3⟩ gG50 G50 _ hG50 ⟨rfl, ho_3, hk⟩
 try dsimp only at ho_3 hk
 have hkl := usedK_len u k
 refine WC.fr (f := setL gG50 [(13, nt9 k), (11, lV sa_u u.length sc_u), (12, nt9 ((u).length)), (3, v_3)]) rfl (g9 6 ?_)
 refine WC.cd (fun h14 p14 => ?_) (fun h14 p14 => ?_)
 ·refine g9 7 ?_
  refine (h_u.mono hG50).a1 (i := k) om9 (fun he51 => (W.ok (ok_indexAddrO (i := k) sl122 ty4 (h_u.mono hG50) rfl rfl ⟨om9, om9⟩) (W.ok (ok_loadO (vs := bc9) ty4 he51 (pmC (pmA (pmA pr9))) rfl rfl rfl (by simp)) (g9 9 ?_))))
  refine WC.cond rfl (fun he52 => ?_) (fun he52 => ?_)
  ·refine g9 3 ?_
   refine W.lit (e := eInt) (l := [_]) (css := [[iV _]]) sl50 ty3 zr3 rfl rfl rfl rfl rfl rfl ⟨⟨rfl, om9, om9⟩, trivial⟩ (fun bl55 G55 hG55 hv55 => (W.app (e := eInt) sl50 ty3 zr3 rfl by3 rfl rfl ((ho_3.mono hG55)) (hv55) (pmC pr9) (by show (_ + 1) * 8 ≤ _; omega) (fun v56 Ms57 ho58 => (W.perm (pmC pr9).symm ?_))))
   have q62 := ho58.form
   refine match q62 with | ⟨sa59, sc60, e_61⟩ => ?_
   subst e_61
   refine g9 9 ?_
   exact ⟨hG55, (k + 1, lV sa59 ((usedK u k ++ _)).length sc60, Ms57), hs9, ⟨rfl, (by have h := ho58; rw [usedK_t om9 he52]; exact h), om9⟩, om9⟩
  refine g9 8 ?_
  exact ⟨Le.rfl, (k + 1, v_3, M_3), hs9, ⟨rfl, (by have h := ho_3; rw [usedK_f om9 he52]; exact h), om9⟩, om9⟩
 refine g9 11 ?_
 refine WC.giveO ho_3 (pmC pr9) (fun G63 hG63 hv63 => (WC.ret ?_))
 refine ⟨.inr rfl, [_], ⟨rfl, trivial⟩, ((b_s, ce9 125 [lV sa_c c.length sc_c, lV sa_u u.length sc_u, lV sa_f f.length sc_f]) :: (Ms_c ++ (Ms_u ++ (Ms_f ++ [])))), sr9.k9, ?_⟩
 exact ⟨SlR.cast hv63 (by rw [used_eq]; congr 1; omega), by simp⟩

end Go.Proofs.YtfmigmijckdldaaGreat
