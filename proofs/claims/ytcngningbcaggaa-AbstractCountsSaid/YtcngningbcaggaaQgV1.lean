/- Walks of heaps. -/
import Derived.Test.YtcngningbcaggaaQgNc
import Derived.Test.YtcngningbcaggaaQgH9
set_option maxRecDepth 100000
set_option maxHeartbeats 1600000
set_option linter.unusedVariables false
set_option linter.unusedSimpArgs false
set_option linter.unnecessarySimpa false
namespace Go.Proofs.Ytcngningbcaggaa
open Go Go.Fw Go.RowKit
attribute [local irreducible] Ok W WC
theorem hdown_fc {G : GH} {α : Type} [Inhabited α] {lt : α → α → Bool} {x0 : Value} {Rep : GH → List α → MH → Prop} {EV : GH → Value → α → Prop} {pu : Prop} (hK : HeapK Try.prog lt x0 Rep EV pu) {l : List α} {Ms_l : MH} (h_l : Rep G l Ms_l) (i0 : Nat) (n : Nat) (f : Nat) (hf : n ≤ i0 + f) (hn : n ≤ l.length) (hi : i0 ≤ 1000000000000000) :
    Fc Try.prog 102 [x0, nt9 i0, nt9 n] G Ms_l (fun v G' M' => (∃ b, v = .bool b) ∧ Rep G' (downL lt f l i0 n) M') := by
 have hbd := hK.bound h_l
 refine Fc.go [.tmp 6] Try.func102 Try.ntmps102 rfl (fun w0 => (WC.perm (M' := (Ms_l ++ [])) (by simp) (g9 13 ?_)))
 refine WC.loop (X := (Nat × Nat × List α) × MH) (fun x => [(7, nt9 x.1.1), (1, nt9 i0), (2, nt9 n), (0, x0)]) (fun x G Ml => Ml = (x.2 ++ []) ∧ Rep G (x.1.2.2) x.2 ∧ downL lt x.1.2.1 x.1.2.2 x.1.1 n = downL lt f l i0 n ∧ n ≤ x.1.1 + x.1.2.1 ∧ x.1.2.2.length = l.length ∧ x.1.1 ≤ n + 1000000000000000) (fun x => n - x.1.1) (((i0, f, l) : Nat × Nat × List α), Ms_l) hs9 ?_ ?_
 ·exact ⟨rfl, (by simpa using h_l), rfl, hf, rfl, by dsimp only; omega⟩
 rintro ⟨⟨i, f9, L⟩, M_0⟩ gG1 G1 _ hG1 ⟨rfl, ho_0, hd, hfi, hL, hib⟩
 try dsimp only at ho_0 hd hfi hL hib
 have hbL : L.length ≤ 140737488355328 := by omega
 refine WC.fr (f := setL gG1 [(7, nt9 i), (1, nt9 i0), (2, nt9 n), (0, x0)]) rfl (g9 4 ?_)
 refine W.ok (ok_mul rfl rfl om9) (W.ok (Ok.int (n := ((2 * i + 1 : Nat) : Int)) (ok_add rfl rfl om9) om9) (g9 10 ?_))
 refine W.sd 18 (fun h17 p17 => ?_) (fun h17 p17 => ?_)
 ·try dsimp only at p17
  refine g9 21 ?_
  refine ⟨.inr rfl, [_], ⟨rfl, trivial⟩, M_0, List.sublist_append_left _ _, ?_⟩
  refine ⟨⟨_, rfl⟩, ?_⟩
  have h := ho_0
  rw [downL_stop om9] at hd
  rw [← hd]; exact h
 try dsimp only at p17
 refine g9 7 ?_
 refine WC.cd (fun h20 p20 => ?_) (fun h20 p20 => ?_)
 ·try dsimp only at p20
  exfalso; omega
 try dsimp only at p20
 have hkj := kidJ_lt (lt := lt) (l := L) (i := i) (n := n) om9
 refine g9 8 ?_
 refine WC.join (X := Unit) (fun u8 => [(9, nt9 ((kidJ lt L i n))), (0, x0), (1, nt9 i0), (2, nt9 n), (7, nt9 i)]) (fun u8 _ Ml => Ml = (M_0 ++ [])) ?_ ?_
 ·refine g9 3 ?_
  refine W.ok (Ok.int (n := ((2 * i + 2 : Nat) : Int)) (ok_add rfl rfl om9) om9) (g9 9 ?_)
  refine W.sd 28 (fun h27 p27 => ?_) (fun h27 p27 => ?_)
  ·try dsimp only at p27
   refine g9 7 ?_
   refine W.inv (hK.less (i := 2 * i + 2) (j := 2 * i + 1) ho_0 om9 om9) rfl rfl pr9 ?_
   intro _ G2 Ms4 hG2 q3
   refine match q3 with | ⟨e_6, eeq3⟩ => ?_
   subst e_6
   have eeq3 := eeq3.symm
   subst eeq3
   refine g9 3 ?_
   refine WC.cond rfl (fun h32 => ?_) (fun h32 => ?_)
   ·refine g9 5 ?_
    exact ⟨hG2, (), ⟨(by exact iv (congrArg Nat.cast (kidJ_t om9 h32).symm)), eqv, eqv, eqv, eqv, trivial⟩, rfl⟩
   refine g9 2 ?_
   exact ⟨hG2, (), ⟨(by exact iv (congrArg Nat.cast (kidJ_f (.inr h32)).symm)), eqv, eqv, eqv, eqv, trivial⟩, rfl⟩
  try dsimp only at p27
  refine g9 10 ?_
  exact ⟨Le.rfl, (), ⟨(by exact iv (congrArg Nat.cast (kidJ_f (.inl om9)).symm)), eqv, eqv, eqv, eqv, trivial⟩, rfl⟩
 rintro u8 gG7 G7 _ hG7 rfl
 refine g9 6 ?_
 refine W.inv (hK.less (i := (kidJ lt L i n)) (j := i) (hK.mono hG7 ho_0) om9 om9) rfl rfl pr9 ?_
 intro _ G8 Ms10 hG8 q9
 refine match q9 with | ⟨e_12, eeq9⟩ => ?_
 subst e_12
 have eeq9 := eeq9.symm
 subst eeq9
 refine g9 3 ?_
 refine WC.cond rfl (fun h39 => ?_) (fun h39 => ?_)
 ·refine g9 15 ?_
  refine ⟨.inr rfl, [_], ⟨rfl, trivial⟩, M_0, List.sublist_append_left _ _, ?_⟩
  refine ⟨⟨_, rfl⟩, ?_⟩
  have h := (hK.mono (hG7.trans hG8) ho_0)
  rw [downL_end om9 (by simpa using h39)] at hd
  rw [← hd]; exact h
 refine g9 7 ?_
 refine W.inv (hK.swap (i := i) (j := (kidJ lt L i n)) (hK.mono lec ho_0) om9 om9) rfl rfl pr9 ?_
 intro _ G13 Ms15 hG13 q14
 refine match q14 with | ⟨e_18, hR17⟩ => ?_
 subst e_18
 refine g9 8 ?_
 exact ⟨lec, ((((kidJ lt L i n), f9 - 1, swapL L i (kidJ lt L i n)) : Nat × Nat × List α), Ms15), hs9, ⟨rfl, (by simpa using hR17), by dsimp only; rw [← hd, downL_go hfi om9 (by simpa using h39)], by dsimp only; omega, by dsimp only; rw [swapL_length]; exact hL, by dsimp only; omega⟩, by dsimp only; omega⟩

theorem hup_fc {G : GH} {α : Type} [Inhabited α] {lt : α → α → Bool} {x0 : Value} {Rep : GH → List α → MH → Prop} {EV : GH → Value → α → Prop} {pu : Prop} (hK : HeapK Try.prog lt x0 Rep EV pu) {l : List α} {Ms_l : MH} (h_l : Rep G l Ms_l) (j0 : Nat) (f : Nat) (hf : j0 ≤ f) (hj : j0 < l.length) :
    Fc Try.prog 101 [x0, nt9 j0] G Ms_l (fun v G' M' => v = .tuple #[] ∧ Rep G' (upL lt f l j0) M') := by
 have hbd := hK.bound h_l
 refine Fc.go [] Try.func101 Try.ntmps101 rfl (fun w0 => (WC.perm (M' := (Ms_l ++ [])) (by simp) (g9 1 ?_)))
 refine WC.loop (X := (Nat × Nat × List α) × MH) (fun x => [(1, nt9 x.1.1), (0, x0)]) (fun x G Ml => Ml = (x.2 ++ []) ∧ Rep G (x.1.2.2) x.2 ∧ upL lt x.1.2.1 x.1.2.2 x.1.1 = upL lt f l j0 ∧ x.1.1 ≤ x.1.2.1 ∧ x.1.2.2.length = l.length ∧ x.1.1 < l.length) (fun x => x.1.1) (((j0, f, l) : Nat × Nat × List α), Ms_l) hs9 ?_ ?_
 ·exact ⟨rfl, (by simpa using h_l), rfl, hf, rfl, hj⟩
 rintro ⟨⟨j, f9, L⟩, M_0⟩ gG19 G19 _ hG19 ⟨rfl, ho_0, hd, hfi, hL, hjl⟩
 try dsimp only at ho_0 hd hfi hL hjl
 have hbL : L.length ≤ 140737488355328 := by omega
 refine WC.fr (f := setL gG19 [(1, nt9 j), (0, x0)]) rfl (g9 5 ?_)
 refine W.ok (Ok.int (n := (((j - 1) / 2 : Nat) : Int)) (ok_quo rfl rfl om9 (by rw [show (2 : Int) = 2 from rfl, tdiv_half]; omega)) (tdiv_half j)) (g9 10 ?_)
 refine W.sd 11 (fun h10 p10 => ?_) (fun h10 p10 => ?_)
 ·try dsimp only at p10
  refine g9 14 ?_
  refine ⟨.inl rfl, [], trivial, M_0, List.sublist_append_left _ _, ?_⟩
  refine ⟨rfl, ?_⟩
  have h := ho_0
  rw [upL_end (.inl om9)] at hd
  rw [← hd]; exact h
 try dsimp only at p10
 refine g9 7 ?_
 refine W.inv (hK.less (i := j) (j := (j - 1) / 2) ho_0 om9 om9) rfl rfl pr9 ?_
 intro _ G20 Ms22 hG20 q21
 refine match q21 with | ⟨e_24, eeq21⟩ => ?_
 subst e_24
 have eeq21 := eeq21.symm
 subst eeq21
 refine g9 5 ?_
 refine WC.cond rfl (fun h16 => ?_) (fun h16 => ?_)
 ·refine g9 5 ?_
  refine ⟨.inl rfl, [], trivial, M_0, List.sublist_append_left _ _, ?_⟩
  refine ⟨rfl, ?_⟩
  have h := (hK.mono hG20 ho_0)
  rw [upL_end (.inr (by simpa using h16))] at hd
  rw [← hd]; exact h
 refine g9 7 ?_
 refine W.inv (hK.swap (i := (j - 1) / 2) (j := j) (hK.mono hG20 ho_0) om9 om9) rfl rfl pr9 ?_
 intro _ G25 Ms27 hG25 q26
 refine match q26 with | ⟨e_30, hR29⟩ => ?_
 subst e_30
 refine g9 8 ?_
 exact ⟨lec, ((((j - 1) / 2, f9 - 1, swapL L ((j - 1) / 2) j) : Nat × Nat × List α), Ms27), hs9, ⟨rfl, (by simpa using hR29), by dsimp only; rw [← hd, upL_go hfi om9 (by simpa using h16)], by dsimp only; omega, by dsimp only; rw [swapL_length]; exact hL, by dsimp only; omega⟩, by dsimp only; omega⟩

theorem hpop_fc {G : GH} {α : Type} [Inhabited α] {lt : α → α → Bool} {x0 : Value} {Rep : GH → List α → MH → Prop} {EV : GH → Value → α → Prop} {pu : Prop} (hK : HeapK Try.prog lt x0 Rep EV pu) {l : List α} {Ms_l : MH} (h_l : Rep G l Ms_l) (h0 : 0 < l.length) :
    Fc Try.prog 84 [x0] G Ms_l (fun v G' M' => EV G' v (nth l 0) ∧ Rep G' (popL lt l) M') := by
 have hbd := hK.bound h_l
 refine Fc.go [.tmp 2] Try.func84 Try.ntmps84 rfl (fun w0 => (WC.perm (M' := (Ms_l ++ [])) (by simp) (g9 8 ?_)))
 refine W.inv (hK.len h_l) rfl rfl pr9 ?_
 intro _ G31 Ms33 hG31 q32
 refine match q32 with | ⟨e_35, eeq32⟩ => ?_
 subst e_35
 have eeq32 := eeq32.symm
 subst eeq32
 refine W.ok (Ok.int (n := ((l.length - 1 : Nat) : Int)) (ok_sub rfl rfl om9) om9) (g9 7 ?_)
 refine W.inv (hK.swap (i := 0) (j := l.length - 1) (hK.mono hG31 h_l) om9 om9) rfl rfl pr9 ?_
 intro _ G36 Ms38 hG36 q37
 refine match q37 with | ⟨e_41, hR40⟩ => ?_
 subst e_41
 refine g9 6 ?_
 refine W.call (Mp := Ms38) (hdown_fc hK hR40 0 _ l.length om9 (by first | omega | (simp only [swapL_length]; omega)) om9) rfl pr9 ?_
 intro _ G42 Ms44 hG42 q43
 refine match q43 with | ⟨⟨_, e_47⟩, hR46⟩ => ?_
 subst e_47
 refine g9 5 ?_
 refine W.inv (hK.pop hR46 (by rw [downL_length, swapL_length]; omega)) rfl rfl pr9 ?_
 intro v51 G48 Ms50 hG48 q49
 refine match q49 with | ⟨hvhR52, hR52⟩ => ?_
 refine g9 4 ?_
 refine ⟨.inr rfl, [_], ⟨rfl, trivial⟩, Ms50, List.sublist_append_left _ _, ?_⟩
 refine ⟨(by have h := hvhR52; rw [(popL_eq (lt := lt) h0).2] at h; exact h), ?_⟩
 have h := hR52
 rw [(popL_eq h0).1] at h; exact h

theorem hpush_fc {G : GH} {α : Type} [Inhabited α] {lt : α → α → Bool} {x0 : Value} {Rep : GH → List α → MH → Prop} {EV : GH → Value → α → Prop} (hK : HeapK Try.prog lt x0 Rep EV) {l : List α} {Ms_l : MH} (h_l : Rep G l Ms_l) {v_a : Value} {a : α} (h_a : EV G v_a a) (hb : l.length < 1000000) (hEV : ∀ {G G' : GH} {v : Value} {a : α}, Le G G' → EV G v a → EV G' v a) :
    Fc Try.prog 82 [x0, v_a] G Ms_l (fun v G' M' => v = .tuple #[] ∧ Rep G' (pushL lt l a) M') := by
 have hbd := hK.bound h_l
 have hla : (l ++ [a]).length = l.length + 1 := by simp
 refine Fc.go [] Try.func82 Try.ntmps82 rfl (fun w0 => (WC.perm (M' := (Ms_l ++ [])) (by simp) (g9 4 ?_)))
 refine W.inv (hK.push trivial h_l om9 h_a) rfl rfl pr9 ?_
 intro _ G53 Ms55 hG53 q54
 refine match q54 with | ⟨e_58, hR57⟩ => ?_
 subst e_58
 refine g9 5 ?_
 refine W.inv (hK.len hR57) rfl rfl pr9 ?_
 intro _ G59 Ms61 hG59 q60
 refine match q60 with | ⟨e_63, eeq60⟩ => ?_
 subst e_63
 have eeq60 := eeq60.symm
 subst eeq60
 refine W.ok (Ok.int (n := ((l.length : Nat) : Int)) (ok_sub rfl rfl om9) om9) (W.call (Mp := Ms55) (hup_fc hK (hK.mono hG59 hR57) _ l.length om9 om9) rfl pr9 ?_)
 intro _ G64 Ms66 hG64 q65
 refine match q65 with | ⟨e_69, hR68⟩ => ?_
 subst e_69
 refine W.nil ?_
 refine ⟨.inl rfl, [], trivial, Ms66, List.sublist_append_left _ _, ?_⟩
 refine ⟨rfl, ?_⟩
 exact hR68

end Go.Proofs.Ytcngningbcaggaa
