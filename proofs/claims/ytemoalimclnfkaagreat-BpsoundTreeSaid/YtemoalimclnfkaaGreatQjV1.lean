/- Walks of heaps. -/
import Derived.Test.YtemoalimclnfkaaGreatQjFt
import Derived.Test.YtemoalimclnfkaaGreatQjNc
set_option maxRecDepth 100000
set_option maxHeartbeats 1600000
set_option linter.unusedVariables false
set_option linter.unusedSimpArgs false
set_option linter.unnecessarySimpa false
namespace Go.Proofs.YtemoalimclnfkaaGreat
open Go Go.Fw Go.RowKit
attribute [local irreducible] Ok W WC
theorem hdown_fc {G : GH} {α : Type} [Inhabited α] {lt : α → α → Bool} {x0 : Value} {Rep : GH → List α → MH → Prop} {EV : GH → Value → α → Prop} {pu : Prop} (hK : HeapK Tryz.prog lt x0 Rep EV pu) {l : List α} {Ms_l : MH} (h_l : Rep G l Ms_l) (i0 : Nat) (n : Nat) (f : Nat) (hf : n ≤ i0 + f) (hn : n ≤ l.length) (hi : i0 ≤ 1000000000000000) :
    Fc Tryz.prog 88 [x0, nt9 i0, nt9 n] G Ms_l (fun v G' M' => (∃ b, v = .bool b) ∧ Rep G' (downL lt f l i0 n) M') := by
 have hbd := hK.bound h_l
 refine Fc.go [.tmp 6] Tryz.func88 Tryz.ntmps88 rfl (fun w0 => (WC.perm (M' := (Ms_l ++ [])) (by simp) (g9 13 ?_)))
 refine WC.loop (X := (Nat × Nat × List α) × MH) (fun x => [(7, nt9 x.1.1), (1, nt9 i0), (2, nt9 n), (0, x0)]) (fun x G Ml => Ml = (x.2 ++ []) ∧ Rep G (x.1.2.2) x.2 ∧ downL lt x.1.2.1 x.1.2.2 x.1.1 n = downL lt f l i0 n ∧ n ≤ x.1.1 + x.1.2.1 ∧ x.1.2.2.length = l.length ∧ x.1.1 ≤ n + 1000000000000000) (fun x => n - x.1.1) (((i0, f, l) : Nat × Nat × List α), Ms_l) hs9 ?_ ?_
 ·exact ⟨rfl, (by simpa using h_l), rfl, hf, rfl, by dsimp only; omega⟩
 rintro ⟨⟨i, f9, L⟩, M_0⟩ gG1 G1 _ hG1 ⟨rfl, ho_0, hd, hfi, hL, hib⟩
 try dsimp only at ho_0 hd hfi hL hib
 have hbL : L.length ≤ 140737488355328 := by omega
 refine WC.fr (f := setL gG1 [(7, nt9 i), (1, nt9 i0), (2, nt9 n), (0, x0)]) rfl (g9 4 ?_)
 refine W.ok (ok_mul rfl rfl om9) (W.ok (Ok.int (n := ((2 * i + 1 : Nat) : Int)) (ok_add rfl rfl om9) om9) (g9 10 ?_))
 refine W.sd 18 (fun h17 p17 => ?_) (fun h17 p17 => ?_)
 ·try dsimp only at p17
  refine g9 21 ?_
  refine ⟨.inr rfl, [_], ⟨rfl, trivial⟩, M_0, List.sublist_append_left _ _, ?_⟩
  refine ⟨⟨_, rfl⟩, ?_⟩
  have h := ho_0
  rw [downL_stop om9] at hd
  rw [← hd]; exact h
 try dsimp only at p17
 refine g9 7 ?_
 refine WC.cd (fun h20 p20 => ?_) (fun h20 p20 => ?_)
 ·try dsimp only at p20
  exfalso; omega
 try dsimp only at p20
 have hkj := kidJ_lt (lt := lt) (l := L) (i := i) (n := n) om9
 refine g9 8 ?_
 refine WC.join (X := Unit) (fun u8 => [(9, nt9 ((kidJ lt L i n))), (0, x0), (1, nt9 i0), (2, nt9 n), (7, nt9 i)]) (fun u8 _ Ml => Ml = (M_0 ++ [])) ?_ ?_
 ·refine g9 3 ?_
  refine W.ok (Ok.int (n := ((2 * i + 2 : Nat) : Int)) (ok_add rfl rfl om9) om9) (g9 9 ?_)
  refine W.sd 28 (fun h27 p27 => ?_) (fun h27 p27 => ?_)
  ·try dsimp only at p27
   refine g9 7 ?_
   refine W.inv (hK.less (i := 2 * i + 2) (j := 2 * i + 1) ho_0 om9 om9) rfl rfl pr9 ?_
   intro _ G2 Ms4 hG2 q3
   refine match q3 with | ⟨e_6, eeq3⟩ => ?_
   subst e_6
   have eeq3 := eeq3.symm
   subst eeq3
   refine g9 3 ?_
   refine WC.cond rfl (fun h32 => ?_) (fun h32 => ?_)
   ·refine g9 5 ?_
    exact ⟨hG2, (), ⟨(by exact iv (congrArg Nat.cast (kidJ_t om9 h32).symm)), eqv, eqv, eqv, eqv, trivial⟩, rfl⟩
   refine g9 2 ?_
   exact ⟨hG2, (), ⟨(by exact iv (congrArg Nat.cast (kidJ_f (.inr h32)).symm)), eqv, eqv, eqv, eqv, trivial⟩, rfl⟩
  try dsimp only at p27
  refine g9 10 ?_
  exact ⟨Le.rfl, (), ⟨(by exact iv (congrArg Nat.cast (kidJ_f (.inl om9)).symm)), eqv, eqv, eqv, eqv, trivial⟩, rfl⟩
 rintro u8 gG7 G7 _ hG7 rfl
 refine g9 6 ?_
 refine W.inv (hK.less (i := (kidJ lt L i n)) (j := i) (hK.mono hG7 ho_0) om9 om9) rfl rfl pr9 ?_
 intro _ G8 Ms10 hG8 q9
 refine match q9 with | ⟨e_12, eeq9⟩ => ?_
 subst e_12
 have eeq9 := eeq9.symm
 subst eeq9
 refine g9 3 ?_
 refine WC.cond rfl (fun h39 => ?_) (fun h39 => ?_)
 ·refine g9 15 ?_
  refine ⟨.inr rfl, [_], ⟨rfl, trivial⟩, M_0, List.sublist_append_left _ _, ?_⟩
  refine ⟨⟨_, rfl⟩, ?_⟩
  have h := (hK.mono (hG7.trans hG8) ho_0)
  rw [downL_end om9 (by simpa using h39)] at hd
  rw [← hd]; exact h
 refine g9 7 ?_
 refine W.inv (hK.swap (i := i) (j := (kidJ lt L i n)) (hK.mono lec ho_0) om9 om9) rfl rfl pr9 ?_
 intro _ G13 Ms15 hG13 q14
 refine match q14 with | ⟨e_18, hR17⟩ => ?_
 subst e_18
 refine g9 8 ?_
 exact ⟨lec, ((((kidJ lt L i n), f9 - 1, swapL L i (kidJ lt L i n)) : Nat × Nat × List α), Ms15), hs9, ⟨rfl, (by simpa using hR17), by dsimp only; rw [← hd, downL_go hfi om9 (by simpa using h39)], by dsimp only; omega, by dsimp only; rw [swapL_length]; exact hL, by dsimp only; omega⟩, by dsimp only; omega⟩

theorem hup_fc {G : GH} {α : Type} [Inhabited α] {lt : α → α → Bool} {x0 : Value} {Rep : GH → List α → MH → Prop} {EV : GH → Value → α → Prop} {pu : Prop} (hK : HeapK Tryz.prog lt x0 Rep EV pu) {l : List α} {Ms_l : MH} (h_l : Rep G l Ms_l) (j0 : Nat) (f : Nat) (hf : j0 ≤ f) (hj : j0 < l.length) :
    Fc Tryz.prog 123 [x0, nt9 j0] G Ms_l (fun v G' M' => v = .tuple #[] ∧ Rep G' (upL lt f l j0) M') := by
 have hbd := hK.bound h_l
 refine Fc.go [] Tryz.func123 Tryz.ntmps123 rfl (fun w0 => (WC.perm (M' := (Ms_l ++ [])) (by simp) (g9 1 ?_)))
 refine WC.loop (X := (Nat × Nat × List α) × MH) (fun x => [(1, nt9 x.1.1), (0, x0)]) (fun x G Ml => Ml = (x.2 ++ []) ∧ Rep G (x.1.2.2) x.2 ∧ upL lt x.1.2.1 x.1.2.2 x.1.1 = upL lt f l j0 ∧ x.1.1 ≤ x.1.2.1 ∧ x.1.2.2.length = l.length ∧ x.1.1 < l.length) (fun x => x.1.1) (((j0, f, l) : Nat × Nat × List α), Ms_l) hs9 ?_ ?_
 ·exact ⟨rfl, (by simpa using h_l), rfl, hf, rfl, hj⟩
 rintro ⟨⟨j, f9, L⟩, M_0⟩ gG19 G19 _ hG19 ⟨rfl, ho_0, hd, hfi, hL, hjl⟩
 try dsimp only at ho_0 hd hfi hL hjl
 have hbL : L.length ≤ 140737488355328 := by omega
 refine WC.fr (f := setL gG19 [(1, nt9 j), (0, x0)]) rfl (g9 5 ?_)
 refine W.ok (Ok.int (n := (((j - 1) / 2 : Nat) : Int)) (ok_quo rfl rfl om9 (by rw [show (2 : Int) = 2 from rfl, tdiv_half]; omega)) (tdiv_half j)) (g9 10 ?_)
 refine W.sd 11 (fun h10 p10 => ?_) (fun h10 p10 => ?_)
 ·try dsimp only at p10
  refine g9 14 ?_
  refine ⟨.inl rfl, [], trivial, M_0, List.sublist_append_left _ _, ?_⟩
  refine ⟨rfl, ?_⟩
  have h := ho_0
  rw [upL_end (.inl om9)] at hd
  rw [← hd]; exact h
 try dsimp only at p10
 refine g9 7 ?_
 refine W.inv (hK.less (i := j) (j := (j - 1) / 2) ho_0 om9 om9) rfl rfl pr9 ?_
 intro _ G20 Ms22 hG20 q21
 refine match q21 with | ⟨e_24, eeq21⟩ => ?_
 subst e_24
 have eeq21 := eeq21.symm
 subst eeq21
 refine g9 5 ?_
 refine WC.cond rfl (fun h16 => ?_) (fun h16 => ?_)
 ·refine g9 5 ?_
  refine ⟨.inl rfl, [], trivial, M_0, List.sublist_append_left _ _, ?_⟩
  refine ⟨rfl, ?_⟩
  have h := (hK.mono hG20 ho_0)
  rw [upL_end (.inr (by simpa using h16))] at hd
  rw [← hd]; exact h
 refine g9 7 ?_
 refine W.inv (hK.swap (i := (j - 1) / 2) (j := j) (hK.mono hG20 ho_0) om9 om9) rfl rfl pr9 ?_
 intro _ G25 Ms27 hG25 q26
 refine match q26 with | ⟨e_30, hR29⟩ => ?_
 subst e_30
 refine g9 8 ?_
 exact ⟨lec, ((((j - 1) / 2, f9 - 1, swapL L ((j - 1) / 2) j) : Nat × Nat × List α), Ms27), hs9, ⟨rfl, (by simpa using hR29), by dsimp only; rw [← hd, upL_go hfi om9 (by simpa using h16)], by dsimp only; omega, by dsimp only; rw [swapL_length]; exact hL, by dsimp only; omega⟩, by dsimp only; omega⟩

theorem hpop_fc {G : GH} {α : Type} [Inhabited α] {lt : α → α → Bool} {x0 : Value} {Rep : GH → List α → MH → Prop} {EV : GH → Value → α → Prop} {pu : Prop} (hK : HeapK Tryz.prog lt x0 Rep EV pu) {l : List α} {Ms_l : MH} (h_l : Rep G l Ms_l) (h0 : 0 < l.length) :
    Fc Tryz.prog 54 [x0] G Ms_l (fun v G' M' => EV G' v (nth l 0) ∧ Rep G' (popL lt l) M') := by
 have hbd := hK.bound h_l
 refine Fc.go [.tmp 2] Tryz.func54 Tryz.ntmps54 rfl (fun w0 => (WC.perm (M' := (Ms_l ++ [])) (by simp) (g9 8 ?_)))
 refine W.inv (hK.len h_l) rfl rfl pr9 ?_
 intro _ G31 Ms33 hG31 q32
 refine match q32 with | ⟨e_35, eeq32⟩ => ?_
 subst e_35
 have eeq32 := eeq32.symm
 subst eeq32
 refine W.ok (Ok.int (n := ((l.length - 1 : Nat) : Int)) (ok_sub rfl rfl om9) om9) (g9 7 ?_)
 refine W.inv (hK.swap (i := 0) (j := l.length - 1) (hK.mono hG31 h_l) om9 om9) rfl rfl pr9 ?_
 intro _ G36 Ms38 hG36 q37
 refine match q37 with | ⟨e_41, hR40⟩ => ?_
 subst e_41
 refine g9 6 ?_
 refine W.call (Mp := Ms38) (hdown_fc hK hR40 0 _ l.length om9 (by first | omega | (simp only [swapL_length]; omega)) om9) rfl pr9 ?_
 intro _ G42 Ms44 hG42 q43
 refine match q43 with | ⟨⟨_, e_47⟩, hR46⟩ => ?_
 subst e_47
 refine g9 5 ?_
 refine W.inv (hK.pop hR46 (by rw [downL_length, swapL_length]; omega)) rfl rfl pr9 ?_
 intro v51 G48 Ms50 hG48 q49
 refine match q49 with | ⟨hvhR52, hR52⟩ => ?_
 refine g9 4 ?_
 refine ⟨.inr rfl, [_], ⟨rfl, trivial⟩, Ms50, List.sublist_append_left _ _, ?_⟩
 refine ⟨(by have h := hvhR52; rw [(popL_eq (lt := lt) h0).2] at h; exact h), ?_⟩
 have h := hR52
 rw [(popL_eq h0).1] at h; exact h

theorem hpush_fc {G : GH} {α : Type} [Inhabited α] {lt : α → α → Bool} {x0 : Value} {Rep : GH → List α → MH → Prop} {EV : GH → Value → α → Prop} (hK : HeapK Tryz.prog lt x0 Rep EV) {l : List α} {Ms_l : MH} (h_l : Rep G l Ms_l) {v_a : Value} {a : α} (h_a : EV G v_a a) (hb : l.length < 1000000) (hEV : ∀ {G G' : GH} {v : Value} {a : α}, Le G G' → EV G v a → EV G' v a) :
    Fc Tryz.prog 102 [x0, v_a] G Ms_l (fun v G' M' => v = .tuple #[] ∧ Rep G' (pushL lt l a) M') := by
 have hbd := hK.bound h_l
 have hla : (l ++ [a]).length = l.length + 1 := by simp
 refine Fc.go [] Tryz.func102 Tryz.ntmps102 rfl (fun w0 => (WC.perm (M' := (Ms_l ++ [])) (by simp) (g9 4 ?_)))
 refine W.inv (hK.push trivial h_l om9 h_a) rfl rfl pr9 ?_
 intro _ G53 Ms55 hG53 q54
 refine match q54 with | ⟨e_58, hR57⟩ => ?_
 subst e_58
 refine g9 5 ?_
 refine W.inv (hK.len hR57) rfl rfl pr9 ?_
 intro _ G59 Ms61 hG59 q60
 refine match q60 with | ⟨e_63, eeq60⟩ => ?_
 subst e_63
 have eeq60 := eeq60.symm
 subst eeq60
 refine W.ok (Ok.int (n := ((l.length : Nat) : Int)) (ok_sub rfl rfl om9) om9) (W.call (Mp := Ms55) (hup_fc hK (hK.mono hG59 hR57) _ l.length om9 om9) rfl pr9 ?_)
 intro _ G64 Ms66 hG64 q65
 refine match q65 with | ⟨e_69, hR68⟩ => ?_
 subst e_69
 refine W.nil ?_
 refine ⟨.inl rfl, [], trivial, Ms66, List.sublist_append_left _ _, ?_⟩
 refine ⟨rfl, ?_⟩
 exact hR68

theorem hinit_fc {G : GH} {α : Type} [Inhabited α] {lt : α → α → Bool} {x0 : Value} {Rep : GH → List α → MH → Prop} {EV : GH → Value → α → Prop} {pu : Prop} (hK : HeapK Tryz.prog lt x0 Rep EV pu) {l : List α} {Ms_l : MH} (h_l : Rep G l Ms_l) (hh : Heap lt l) (hb : l.length < 1000000) :
    Fc Tryz.prog 53 [x0] G Ms_l (fun v G' M' => v = .tuple #[] ∧ Rep G' (l) M') := by
 have hbd := hK.bound h_l
 refine Fc.go [] Tryz.func53 Tryz.ntmps53 rfl (fun w0 => (WC.perm (M' := (Ms_l ++ [])) (by simp) (g9 3 ?_)))
 refine W.inv (hK.len h_l) rfl rfl pr9 ?_
 intro _ G70 Ms72 hG70 q71
 refine match q71 with | ⟨e_74, eeq71⟩ => ?_
 subst e_74
 have eeq71 := eeq71.symm
 subst eeq71
 refine g9 6 ?_
 refine W.ok (Ok.int (n := ((l.length / 2 : Nat) : Int)) (ok_quo' rfl rfl om9 om9 om9) om9) (g9 5 ?_)
 refine WC.loop (X := (Int) × MH) (fun z => [(3, iV z.1), (2, nt9 ((l).length)), (0, x0)]) (fun z G Ml => Ml = (z.2 ++ []) ∧ Rep G (l) z.2 ∧ -1 ≤ z.1 ∧ z.1 ≤ l.length) (fun z => (z.1 + 1).toNat) (((((l.length / 2 : Nat) : Int) - 1) : Int), Ms_l) hs9 ?_ ?_
 ·exact ⟨rfl, (by simpa using (hK.mono hG70 h_l)), om9, om9⟩
 rintro ⟨z, M_0⟩ gG75 G75 _ hG75 ⟨rfl, ho_0, hz1, hz2⟩
 try dsimp only at ho_0 hz1 hz2
 refine WC.fr (f := setL gG75 [(3, iV z), (2, nt9 ((l).length)), (0, x0)]) rfl (g9 7 ?_)
 refine WC.cd (fun h10 p10 => ?_) (fun h10 p10 => ?_)
 ·try dsimp only at p10
  obtain ⟨m, rfl⟩ : ∃ m : Nat, z = (m : Int) := ⟨z.toNat, om9⟩
  refine g9 8 ?_
  refine W.call (Mp := M_0) (hdown_fc hK ho_0 _ _ l.length om9 (by first | omega | (simp only [swapL_length]; omega)) om9) rfl pr9 ?_
  intro _ G76 Ms78 hG76 q77
  refine match q77 with | ⟨⟨_, e_81⟩, hR80⟩ => ?_
  subst e_81
  refine g9 9 ?_
  exact ⟨hG76, (((m : Int) - 1), Ms78), hs9, ⟨rfl, (by have h := hR80; rw [downL_id hh] at h; exact h), by dsimp only; omega, by dsimp only; omega⟩, by dsimp only; omega⟩
 try dsimp only at p10
 refine g9 4 ?_
 refine ⟨.inl rfl, [], trivial, M_0, List.sublist_append_left _ _, ?_⟩
 refine ⟨rfl, ?_⟩
 exact ho_0

theorem llen_fc {G : GH} {v_l : Value} {l : List Int} {Ms_l : MH} (h_l : OwnR eInt 3 G v_l l Ms_l) :
    Fc Tryz.prog 173 [v_l] G Ms_l (fun v _ M' => v = iV ((l.length : Int)) ∧ Ms_l = M') := by
 refine Fc.go [.tmp 2] Tryz.func173 Tryz.ntmps173 rfl (fun w0 => (WC.perm (M' := (Ms_l ++ [])) (by simp) (g9 13 ?_)))
 refine ⟨.inr rfl, [_], ⟨rfl, trivial⟩, Ms_l, List.sublist_append_left _ _, ?_⟩
 exact ⟨rfl, rfl⟩

theorem lless_fc {G : GH} {v_l : Value} {l : List Int} {Ms_l : MH} (h_l : OwnR eInt 3 G v_l l Ms_l) (i : Nat) (j : Nat) (hi : i < l.length) (hj : j < l.length) :
    Fc Tryz.prog 174 [v_l, nt9 i, nt9 j] G Ms_l (fun v _ M' => v = .bool (decide (nth l i < nth l j)) ∧ Ms_l = M') := by
 have hl := h_l.len47
 refine Fc.go [.tmp 6] Tryz.func174 Tryz.ntmps174 rfl (fun w0 => (WC.perm (M' := (Ms_l ++ [])) (by simp) (g9 9 ?_)))
 refine h_l.a2 (i := i) om9 (fun he1 hi2 => (W.ok (ok_indexAddrO (i := i) sl112 ty3 h_l rfl rfl ⟨om9, om9⟩) (W.ok (ok_loadO (vs := ic9) ty3 he1 pr9 rfl rfl rfl (by simp)) (g9 2 ?_))))
 refine h_l.a2 (i := j) om9 (fun he5 hi6 => (W.ok (ok_indexAddrO (i := j) sl112 ty3 h_l rfl rfl ⟨om9, om9⟩) (W.ok (ok_loadO (vs := ic9) ty3 he5 pr9 rfl rfl rfl (by simp)) (g9 5 ?_))))
 refine ⟨.inr rfl, [_], ⟨rfl, trivial⟩, Ms_l, List.sublist_append_left _ _, ?_⟩
 exact ⟨by rw [nth_lt hi, nth_lt hj]; rfl, rfl⟩

theorem lswap_fc {G : GH} {v_l : Value} {l : List Int} {Ms_l : MH} (h_l : OwnR eInt 3 G v_l l Ms_l) (i : Nat) (j : Nat) (hi : i < l.length) (hj : j < l.length) :
    Fc Tryz.prog 175 [v_l, nt9 i, nt9 j] G Ms_l (fun v G' M' => v = .tuple #[] ∧ OwnR eInt 3 G' v_l (swapL l i j) M') := by
 have hl := h_l.len47
 have ho_i : i64 l[i] := by obtain ⟨_, _, _, h⟩ := h_l.at hi; exact h
 have ho_j : i64 l[j] := by obtain ⟨_, _, _, h⟩ := h_l.at hj; exact h
 have hls : (l.set i l[j]).length = l.length := List.length_set ..
 refine Fc.go [] Tryz.func175 Tryz.ntmps175 rfl (fun w0 => (WC.perm (M' := (Ms_l ++ [])) (by simp) (WC.dw sn9 (d9 [0, 1, 2, 3, 4, 5] ?_))))
 refine h_l.a2 (i := j) om9 (fun he9 hi10 => (WD.tk 6 rfl (ok_indexAddrO (i := j) sl112 ty3 h_l rfl rfl ⟨om9, om9⟩) (d9 [8, 9] ?_)))
 refine h_l.a2 (i := i) om9 (fun he13 hi14 => (WD.tk 10 rfl (ok_indexAddrO (i := i) sl112 ty3 h_l rfl rfl ⟨om9, om9⟩) ?_))
 refine WD.any [7, 11] (by kernel_rfl) rfl ⟨WD.ap ?_, WD.ap ?_, trivial⟩
 ·refine W.ok (ok_loadO (vs := ic9) ty3 he9 pr9 rfl rfl rfl (by simp)) (W.nn (WD.a1 11 rfl (W.ok (ok_loadO (vs := ic9) ty3 he13 pr9 rfl rfl rfl (by simp)) (W.nn (h_l.a2 (i := i) om9 (fun he17 hi18 => (WD.tk 12 rfl (ok_indexAddrO (i := i) sl112 ty3 h_l rfl rfl ⟨om9, om9⟩) (WD.a1 13 rfl (W.storeO (i := i) (o := 0) (vs := ic9) (a' := l[j]) ty3 rfl rfl rfl rfl rfl (h_l) pr9 om9 (by decide) (fun cs h => by rw [h.1]; exact ⟨rfl, ho_j⟩) (fun Ms21 ho22 => (W.nn (ho22.a2 (i := j) om9 (fun he23 hi24 => (WD.tk 14 rfl (ok_indexAddrO (i := j) sl112 ty3 ho22 rfl rfl ⟨om9, om9⟩) (WD.a1 15 rfl (W.storeO (i := j) (o := 0) (vs := ic9) (a' := l[i]) ty3 rfl rfl rfl rfl rfl (ho22) pr9 om9 (by decide) (fun cs h => by rw [h.1]; exact ⟨rfl, ho_i⟩) (fun Ms27 ho28 => ?_)))))))))))))))))
  refine W.nn (WD.done (by kernel_rfl) ?_)
  refine ⟨.inl rfl, [], trivial, (Ms27 ++ []), sr9, ?_⟩
  have h := ho28
  refine ⟨rfl, ?_⟩
  rw [swapL, nth_lt hi, nth_lt hj, List.append_nil]; exact h
 refine W.ok (ok_loadO (vs := ic9) ty3 he13 pr9 rfl rfl rfl (by simp)) (W.nn (WD.a1 7 rfl (W.ok (ok_loadO (vs := ic9) ty3 he9 pr9 rfl rfl rfl (by simp)) (W.nn (h_l.a2 (i := i) om9 (fun he29 hi30 => (WD.tk 12 rfl (ok_indexAddrO (i := i) sl112 ty3 h_l rfl rfl ⟨om9, om9⟩) (WD.a1 13 rfl (W.storeO (i := i) (o := 0) (vs := ic9) (a' := l[j]) ty3 rfl rfl rfl rfl rfl (h_l) pr9 om9 (by decide) (fun cs h => by rw [h.1]; exact ⟨rfl, ho_j⟩) (fun Ms33 ho34 => (W.nn (ho34.a2 (i := j) om9 (fun he35 hi36 => (WD.tk 14 rfl (ok_indexAddrO (i := j) sl112 ty3 ho34 rfl rfl ⟨om9, om9⟩) (WD.a1 15 rfl (W.storeO (i := j) (o := 0) (vs := ic9) (a' := l[i]) ty3 rfl rfl rfl rfl rfl (ho34) pr9 om9 (by decide) (fun cs h => by rw [h.1]; exact ⟨rfl, ho_i⟩) (fun Ms39 ho40 => ?_)))))))))))))))))
 refine W.nn (WD.done (by kernel_rfl) ?_)
 refine ⟨.inl rfl, [], trivial, (Ms39 ++ []), sr9, ?_⟩
 have h := ho40
 refine ⟨rfl, ?_⟩
 rw [swapL, nth_lt hi, nth_lt hj, List.append_nil]; exact h

theorem lpush_fc {G : GH} {b_b : Nat} {Tb : TypeId} {c0 : Value} {c1 : Value} {v_l : Value} {l : List Int} {Ms_l : MH} (h_l : OwnR eInt 3 G v_l l Ms_l) (a : Int) (hi_a : i64 a) (hb : l.length < 1000000) :
    Fc Tryz.prog 177 [.pointer (some ⟨b_b, 2, none⟩), .iface 3 (iV a)] G ((b_b, ce9 Tb [c0, c1, v_l]) :: (Ms_l)) (fun v G' M' => v = .tuple #[] ∧ ∃ v' Ms', M' = (b_b, ce9 Tb [c0, c1, v']) :: Ms' ∧ OwnR eInt 3 G' v' (l ++ [a]) Ms') := by
 obtain ⟨sa_l, sc_l, rfl⟩ := h_l.form
 refine Fc.go [] Tryz.func177 Tryz.ntmps177 rfl (fun w0 => (WC.perm (M' := ((b_b, ce9 Tb [c0, c1, lV sa_l l.length sc_l]) :: (Ms_l ++ []))) (by simp) (WC.dw (sn9.cons _) (d9 [0, 1, 2, 4] ?_))))
 refine WD.tk 5 rfl (ok_tyA pi3 rfl) ?_
 refine WD.any [3, 6] (by kernel_rfl) rfl ⟨WD.ap ?_, WD.ap ?_, trivial⟩
 ·refine g9 1 ?_
  refine W.nn (WD.a1 6 rfl (W.lit (e := eInt) (l := [a]) (css := [[iV _]]) sl112 ty3 zr3 rfl rfl rfl rfl rfl rfl ⟨⟨rfl, hi_a⟩, trivial⟩ (fun bl41 G41 hG41 hv41 => (W.nn (WD.a1 7 rfl (W.app (e := eInt) sl112 ty3 zr3 rfl by3 rfl rfl ((h_l.mono hG41)) (hv41) (pmC pr9) (by show (_ + 1) * 8 ≤ _; omega) (fun v42 Ms43 ho44 => (W.perm (pmC pr9).symm ?_))))))))
  have q48 := ho44.form
  refine match q48 with | ⟨sa45, sc46, e_47⟩ => ?_
  subst e_47
  refine W.nn (d9 [8, 9] ?_)
  refine WD.done (by kernel_rfl) ?_
  refine ⟨.inl rfl, [], trivial, ((b_b, ce9 Tb [c0, c1, lV sa45 ((l ++ [a])).length sc46]) :: (Ms43 ++ [])), sr9.k9, ?_⟩
  exact ⟨rfl, _, _, congrArg _ (List.append_nil _), ho44⟩
 refine W.lit (e := eInt) (l := [a]) (css := [[iV _]]) sl112 ty3 zr3 rfl rfl rfl rfl rfl rfl ⟨⟨rfl, hi_a⟩, trivial⟩ (fun bl49 G49 hG49 hv49 => (W.nn (WD.a1 3 rfl (g9 1 ?_))))
 refine W.nn (WD.a1 7 rfl (W.app (e := eInt) sl112 ty3 zr3 rfl by3 rfl rfl ((h_l.mono hG49)) (hv49) (pmC pr9) (by show (_ + 1) * 8 ≤ _; omega) (fun v50 Ms51 ho52 => (W.perm (pmC pr9).symm ?_))))
 have q56 := ho52.form
 refine match q56 with | ⟨sa53, sc54, e_55⟩ => ?_
 subst e_55
 refine W.nn (d9 [8, 9] ?_)
 refine WD.done (by kernel_rfl) ?_
 refine ⟨.inl rfl, [], trivial, ((b_b, ce9 Tb [c0, c1, lV sa53 ((l ++ [a])).length sc54]) :: (Ms51 ++ [])), sr9.k9, ?_⟩
 exact ⟨rfl, _, _, congrArg _ (List.append_nil _), ho52⟩

theorem lpop_fc {G : GH} {b_b : Nat} {Tb : TypeId} {c0 : Value} {c1 : Value} {v_l : Value} {l : List Int} {Ms_l : MH} (h_l : OwnR eInt 3 G v_l l Ms_l) (h0 : 0 < l.length) :
    Fc Tryz.prog 176 [.pointer (some ⟨b_b, 2, none⟩)] G ((b_b, ce9 Tb [c0, c1, v_l]) :: (Ms_l)) (fun v G' M' => v = .iface 3 (iV (nth l (l.length - 1))) ∧ i64 (nth l (l.length - 1)) ∧ ∃ v' Ms', M' = (b_b, ce9 Tb [c0, c1, v']) :: Ms' ∧ OwnR eInt 3 G' v' (l.take (l.length - 1)) Ms') := by
 obtain ⟨sa_l, sc_l, rfl⟩ := h_l.form
 have hl := h_l.len47
 have hlast : nth l (l.length - 1) = l[l.length - 1] := nth_lt om9
 have ho_z : i64 l[l.length - 1] := by obtain ⟨_, _, _, h⟩ := h_l.at (i := l.length - 1) om9; exact h
 refine Fc.go [.tmp 2] Tryz.func176 Tryz.ntmps176 rfl (fun w0 => (WC.perm (M' := ((b_b, ce9 Tb [c0, c1, lV sa_l l.length sc_l]) :: (Ms_l ++ []))) (by simp) (g9 11 ?_)))
 refine W.ok (Ok.int (n := ((l.length - 1 : Nat) : Int)) (ok_sub rfl rfl om9) om9) (g9 9 ?_)
 refine h_l.a2 (i := l.length - 1) om9 (fun he57 hi58 => (W.ok (ok_indexAddrO (i := l.length - 1) sl112 ty3 h_l rfl rfl ⟨om9, om9⟩) (W.ok (ok_loadO (vs := ic9) ty3 he57 (pmC pr9) rfl rfl rfl (by simp)) (g9 10 ?_))))
 refine W.shortO (l.length - 1) sl112 ty3 h_l rfl ⟨_, _, rfl, om9⟩ om9 (fun v61 ho62 => ?_)
 have q66 := ho62.form
 refine match q66 with | ⟨sa63, sc64, e_65⟩ => ?_
 subst e_65
 refine g9 7 ?_
 refine W.ok (ok_mkI pi3 rfl) (g9 4 ?_)
 refine ⟨.inr rfl, [_], ⟨rfl, trivial⟩, ((b_b, ce9 Tb [c0, c1, lV sa63 (((l).take (l.length - 1))).length sc64]) :: (Ms_l ++ [])), sr9.k9, ?_⟩
 exact ⟨by rw [hlast]; rfl, by rw [hlast]; exact ho_z, _, _, congrArg _ (List.append_nil _), ho62⟩


abbrev LeastR (b : Nat) (Tb : TypeId) (c0 c1 : Value) (G : GH) (l : List Int) (M : MH) : Prop := ∃ v Ms, M = (b, ce9 Tb [c0, c1, v]) :: Ms ∧ OwnR eInt 3 G v l Ms
theorem least_heap {b : Nat} {Tb : TypeId} {c0 c1 : Value} : HeapK Tryz.prog (fun a b : Int => decide (a < b)) (.iface 116 (.pointer (some ⟨b, 2, none⟩))) (LeastR b Tb c0 c1) (fun _ u a => u = .iface 3 (iV a) ∧ i64 a) where
  mono := fun hl ⟨v, Ms, h1, h2⟩ => ⟨v, Ms, h1, h2.mono hl⟩
  bound := fun ⟨v, Ms, h1, h2⟩ => h2.len47
  len := fun {G l M} ⟨v, Ms, h1, h2⟩ => by
    subst h1
    exact Inv.val (e := 112) (by kernel_rfl) (by kernel_rfl) rfl (llen_fc h2) (fun v' G' M' hl ⟨e1, e2⟩ => ⟨e1, by rw [← e2]⟩)
  less := fun {G l M i j} ⟨v, Ms, h1, h2⟩ hi hj => by
    subst h1
    exact Inv.val (e := 112) (by kernel_rfl) (by kernel_rfl) rfl (lless_fc h2 i j hi hj) (fun v' G' M' hl ⟨e1, e2⟩ => ⟨e1, by rw [← e2]⟩)
  swap := fun {G l M i j} ⟨v, Ms, h1, h2⟩ hi hj => by
    subst h1
    exact Inv.val (e := 112) (by kernel_rfl) (by kernel_rfl) rfl (lswap_fc h2 i j hi hj) (fun v' G' M' hl ⟨e1, e2⟩ => ⟨e1, v, M', rfl, e2⟩)
  push := fun _ {G l M u a} ⟨v, Ms, h1, h2⟩ hb ⟨h3, h4⟩ => by
    subst h1 h3
    exact Inv.ptr (g := 177) (by kernel_rfl) (lpush_fc h2 a h4 hb) (fun v' G' M' hl ⟨e1, v2, M2, e2, e3⟩ => ⟨e1, v2, M2, e2, e3⟩)
  pop := fun {G l M} ⟨v, Ms, h1, h2⟩ h0 => by
    subst h1
    exact Inv.ptr (g := 176) (by kernel_rfl) (lpop_fc h2 h0) (fun v' G' M' hl ⟨e1, e4, v2, M2, e2, e3⟩ => ⟨⟨e1, e4⟩, v2, M2, e2, e3⟩)
end Go.Proofs.YtemoalimclnfkaaGreat
