/- Walks of heaps. -/
import Derived.Test.YtmbafmifalppaaaQaFt
import Derived.Test.YtmbafmifalppaaaQaNc
set_option maxRecDepth 100000
set_option maxHeartbeats 1600000
set_option linter.unusedVariables false
set_option linter.unusedSimpArgs false
set_option linter.unnecessarySimpa false
namespace Go.Proofs.Ytmbafmifalppaaa
open Go Go.Fw Go.RowKit
theorem hdown_fc {G : GH} {α : Type} [Inhabited α] {lt : α → α → Bool} {x0 : Value} {Rep : GH → List α → MH → Prop} {EV : GH → Value → α → Prop} (hK : HeapK Try.prog lt x0 Rep EV) {l : List α} {Ms_l : MH} (h_l : Rep G l Ms_l) (i0 : Nat) (n : Nat) (f : Nat) (hf : n ≤ i0 + f) (hn : n ≤ l.length) (hi : i0 ≤ 1000000000000000) :
    Fc Try.prog 157 [x0, .int .i64 ((i0 : Nat) : Int), .int .i64 ((n : Nat) : Int)] G Ms_l (fun v G' M' => (∃ b, v = .bool b) ∧ Rep G' (downL lt f l i0 n) M') := by
 have hbd := hK.bound h_l
 refine Fc.intro (rs := [.tmp 6]) cl157 Try.func157 rfl Try.ntmps157 rfl rfl (fun w0 => ?_)
 refine WC.perm (M' := (Ms_l ++ [])) (by simp) (WC.seq (WC.region (W.as (W.nil (thn_n (WC.seq (WC.region (W.mv (W.as (W.nil (thn_n (WC.seq (WC.block ?_)))))))))))))
 refine WC.loop (X := (Nat × Nat × List α) × MH) (fun x => [(7, .int .i64 ((x.1.1 : Nat) : Int)), (1, .int .i64 ((i0 : Nat) : Int)), (2, .int .i64 ((n : Nat) : Int)), (0, x0)]) (fun x G Ml => Ml = (x.2 ++ []) ∧ Rep G (x.1.2.2) x.2 ∧ downL lt x.1.2.1 x.1.2.2 x.1.1 n = downL lt f l i0 n ∧ n ≤ x.1.1 + x.1.2.1 ∧ x.1.2.2.length = l.length ∧ x.1.1 ≤ n + 1000000000000000) (fun x => n - x.1.1) (((i0, f, l) : Nat × Nat × List α), Ms_l) ⟨eqv, eqv, eqv, eqv, trivial⟩ ?_ ?_
 ·exact ⟨rfl, (by simpa using h_l), rfl, hf, rfl, by dsimp only; omega⟩
 rintro ⟨⟨i, f9, L⟩, M_0⟩ gG1 G1 _ hG1 ⟨rfl, ho_0, hd, hfi, hL, hib⟩
 try dsimp only at ho_0 hd hfi hL hib
 have hbL : L.length ≤ 140737488355328 := by omega
 refine WC.fr (f := setL gG1 [(7, .int .i64 ((i : Nat) : Int)), (1, .int .i64 ((i0 : Nat) : Int)), (2, .int .i64 ((n : Nat) : Int)), (0, x0)]) rfl (WC.block (WC.seq (WC.region (W.mv (W.ok (ok_mul rfl rfl (by omega)) (W.ok (Ok.int (n := ((2 * i + 1 : Nat) : Int)) (ok_add rfl rfl (by omega)) (by omega)) (W.as (W.nil (thn_n (WC.seq (WC.seq (WC.region (W.mv (W.mv ?_))))))))))))))
 refine W.ok (ok_geq rfl rfl) (W.mv ?_)
 refine W.sp 18 rfl (fun h17 => ?_) (fun h17 => ?_)
 ·have p17 := of_decide_eq_true h17
  try dsimp only at p17
  refine W.no (dj := 18) rfl rfl h17 (W.no (dj := 18) rfl rfl h17 (W.ok (ok_pick_t rfl h17) (W.nil (thn_n (WC.cond_t rfl rfl (WC.exit (thn_x (blk_m (thn_x (blk_h (thn_n (WC.seq (WC.region (W.mv (W.mv (W.ok (ok_gtr rfl rfl) (W.as (W.nil (thn_n (WC.ret ?_))))))))))))))))))))
  refine ⟨.inr rfl, [_], ⟨rfl, trivial⟩, M_0, List.sublist_append_left _ _, ?_⟩
  refine ⟨⟨_, rfl⟩, ?_⟩
  have h := ho_0
  rw [downL_stop (by omega)] at hd
  rw [← hd]; exact h
 have p17 := of_decide_eq_false h17
 try dsimp only at p17
 refine W.yes (dj := 18) rfl rfl h17 (W.mv (W.yes (dj := 18) rfl rfl h17 (W.ok (ok_lss rfl rfl) (W.ok (ok_pick_f rfl h17) (W.nil (thn_n ?_))))))
 refine WC.cond (b := _) rfl (fun h20 => ?_) (fun h20 => ?_)
 ·have p20 := of_decide_eq_true h20
  try dsimp only at p20
  exfalso; omega
 have p20 := of_decide_eq_false h20
 try dsimp only at p20
 have hkj := kidJ_lt (lt := lt) (l := L) (i := i) (n := n) (by omega)
 refine WC.skip (thn_n (WC.seq (WC.region (W.mv (W.as (W.nil (thn_n ?_)))))))
 refine WC.join (X := Unit) (fun u8 => [(9, .int .i64 (((kidJ lt L i n) : Nat) : Int)), (0, x0), (1, .int .i64 ((i0 : Nat) : Int)), (2, .int .i64 ((n : Nat) : Int)), (7, .int .i64 ((i : Nat) : Int))]) (fun u8 _ Ml => Ml = (M_0 ++ [])) ?_ ?_
 ·refine WC.seq (WC.region (W.mv (W.ok (Ok.int (n := ((2 * i + 2 : Nat) : Int)) (ok_add rfl rfl (by omega)) (by omega)) (W.as (W.nil (thn_n (WC.seq (WC.region (W.mv (W.mv (W.ok (ok_lss rfl rfl) (W.mv ?_))))))))))))
  refine W.sp 28 rfl (fun h27 => ?_) (fun h27 => ?_)
  ·have p27 := of_decide_eq_true h27
   try dsimp only at p27
   refine W.yes (dj := 28) rfl rfl h27 (W.mv (W.yes (dj := 28) rfl rfl h27 (W.mv (W.yes (dj := 28) rfl rfl h27 (W.mv (W.yes (dj := 28) rfl rfl h27 (W.inv (hK.less (i := 2 * i + 2) (j := 2 * i + 1) ho_0 (by omega) (by omega)) rfl rfl pr9 ?_)))))))
   intro _ G2 Ms4 hG2 q3
   refine match q3 with | ⟨e_6, eeq3⟩ => ?_
   subst e_6
   have eeq3 := eeq3.symm
   subst eeq3
   refine W.ok (ok_pick_t rfl h27) (W.nil (thn_n ?_))
   refine WC.cond (b := _) rfl (fun h32 => ?_) (fun h32 => ?_)
   ·refine WC.region (W.mv (W.as (W.nil (thn_n ?_))))
    exact ⟨hG2, (), ⟨(by exact iv (congrArg Nat.cast (kidJ_t (by omega) h32).symm)), eqv, eqv, eqv, eqv, trivial⟩, rfl⟩
   refine WC.skip (thn_n ?_)
   exact ⟨hG2, (), ⟨(by exact iv (congrArg Nat.cast (kidJ_f (.inr h32)).symm)), eqv, eqv, eqv, eqv, trivial⟩, rfl⟩
  have p27 := of_decide_eq_false h27
  try dsimp only at p27
  refine W.no (dj := 28) rfl rfl h27 (W.no (dj := 28) rfl rfl h27 (W.no (dj := 28) rfl rfl h27 (W.no (dj := 28) rfl rfl h27 (W.ok (ok_pick_f rfl h27) (W.nil (thn_n (WC.cond_f rfl rfl (WC.skip (thn_n ?_)))))))))
  exact ⟨Le.rfl, (), ⟨(by exact iv (congrArg Nat.cast (kidJ_f (.inl (by omega))).symm)), eqv, eqv, eqv, eqv, trivial⟩, rfl⟩
 rintro u8 gG7 G7 _ hG7 rfl
 refine WC.seq (WC.seq (WC.region (W.mv (W.mv (W.mv (W.inv (hK.less (i := (kidJ lt L i n)) (j := i) (hK.mono hG7 ho_0) (by omega) (by omega)) rfl rfl pr9 ?_))))))
 intro _ G8 Ms10 hG8 q9
 refine match q9 with | ⟨e_12, eeq9⟩ => ?_
 subst e_12
 have eeq9 := eeq9.symm
 subst eeq9
 refine W.ok (ok_not rfl) (W.nil (thn_n ?_))
 refine WC.cond (b := _) rfl (fun h39 => ?_) (fun h39 => ?_)
 ·refine WC.exit (thn_x (blk_m (thn_x (blk_h (thn_n (WC.seq (WC.region (W.mv (W.mv (W.ok (ok_gtr rfl rfl) (W.as (W.nil (thn_n (WC.ret ?_))))))))))))))
  refine ⟨.inr rfl, [_], ⟨rfl, trivial⟩, M_0, List.sublist_append_left _ _, ?_⟩
  refine ⟨⟨_, rfl⟩, ?_⟩
  have h := (hK.mono (hG7.trans hG8) ho_0)
  rw [downL_end (by omega) (by simpa using h39)] at hd
  rw [← hd]; exact h
 refine WC.skip (thn_n (WC.seq (WC.region (W.mv (W.mv (W.mv (W.inv (hK.swap (i := i) (j := (kidJ lt L i n)) (hK.mono (hG7.trans hG8) ho_0) (by omega) (by omega)) rfl rfl pr9 ?_)))))))
 intro _ G13 Ms15 hG13 q14
 refine match q14 with | ⟨e_18, hR17⟩ => ?_
 subst e_18
 refine W.nil (thn_n (WC.region (W.mv (W.as (W.nil (blk_n (thn_n ?_)))))))
 exact ⟨((hG7.trans hG8).trans hG13), ((((kidJ lt L i n), f9 - 1, swapL L i (kidJ lt L i n)) : Nat × Nat × List α), Ms15), ⟨eqv, eqv, eqv, eqv, trivial⟩, ⟨rfl, (by simpa using hR17), by dsimp only; rw [← hd, downL_go hfi (by omega) (by simpa using h39)], by dsimp only; omega, by dsimp only; rw [swapL_length]; exact hL, by dsimp only; omega⟩, by dsimp only; omega⟩

theorem hpop_fc {G : GH} {α : Type} [Inhabited α] {lt : α → α → Bool} {x0 : Value} {Rep : GH → List α → MH → Prop} {EV : GH → Value → α → Prop} (hK : HeapK Try.prog lt x0 Rep EV) {l : List α} {Ms_l : MH} (h_l : Rep G l Ms_l) (h0 : 0 < l.length) :
    Fc Try.prog 133 [x0] G Ms_l (fun v G' M' => EV G' v (nth l 0) ∧ Rep G' (popL lt l) M') := by
 have hbd := hK.bound h_l
 refine Fc.intro (rs := [.tmp 2]) cl133 Try.func133 rfl Try.ntmps133 rfl rfl (fun w0 => ?_)
 refine WC.perm (M' := (Ms_l ++ [])) (by simp) (WC.seq (WC.region (W.as (W.nil (thn_n (WC.seq (WC.region (W.mv (W.inv (hK.len h_l) rfl rfl pr9 ?_)))))))))
 intro _ G31 Ms33 hG31 q32
 refine match q32 with | ⟨e_35, eeq32⟩ => ?_
 subst e_35
 have eeq32 := eeq32.symm
 subst eeq32
 refine W.ok (Ok.int (n := ((l.length - 1 : Nat) : Int)) (ok_sub rfl rfl (by omega)) (by omega)) (W.as (W.nil (thn_n (WC.seq (WC.region (W.mv (W.mv (W.inv (hK.swap (i := 0) (j := l.length - 1) (hK.mono hG31 h_l) (by omega) (by omega)) rfl rfl pr9 ?_))))))))
 intro _ G36 Ms38 hG36 q37
 refine match q37 with | ⟨e_41, hR40⟩ => ?_
 subst e_41
 refine W.nil (thn_n (WC.seq (WC.region (W.mv (W.mv (W.call (Mp := Ms38) (hdown_fc hK hR40 0 _ l.length (by omega) (by first | omega | (simp only [swapL_length]; omega)) (by omega)) rfl pr9 ?_))))))
 intro _ G42 Ms44 hG42 q43
 refine match q43 with | ⟨⟨_, e_47⟩, hR46⟩ => ?_
 subst e_47
 refine W.nil (thn_n (WC.seq (WC.region (W.mv (W.inv (hK.pop hR46 (by rw [downL_length, swapL_length]; omega)) rfl rfl pr9 ?_)))))
 intro v51 G48 Ms50 hG48 q49
 refine match q49 with | ⟨hvhR52, hR52⟩ => ?_
 refine W.as (W.nil (thn_n (WC.ret ?_)))
 refine ⟨.inr rfl, [_], ⟨rfl, trivial⟩, Ms50, List.sublist_append_left _ _, ?_⟩
 refine ⟨(by have h := hvhR52; rw [(popL_eq (lt := lt) h0).2] at h; exact h), ?_⟩
 have h := hR52
 rw [(popL_eq h0).1] at h; exact h

theorem hinit_fc {G : GH} {α : Type} [Inhabited α] {lt : α → α → Bool} {x0 : Value} {Rep : GH → List α → MH → Prop} {EV : GH → Value → α → Prop} (hK : HeapK Try.prog lt x0 Rep EV) {l : List α} {Ms_l : MH} (h_l : Rep G l Ms_l) (hh : Heap lt l) (hb : l.length < 1000000) :
    Fc Try.prog 127 [x0] G Ms_l (fun v G' M' => v = .tuple #[] ∧ Rep G' (l) M') := by
 have hbd := hK.bound h_l
 refine Fc.intro (rs := []) cl127 Try.func127 rfl Try.ntmps127 rfl rfl (fun w0 => ?_)
 refine WC.perm (M' := (Ms_l ++ [])) (by simp) (WC.seq (WC.region (W.mv (W.inv (hK.len h_l) rfl rfl pr9 ?_))))
 intro _ G70 Ms72 hG70 q71
 refine match q71 with | ⟨e_74, eeq71⟩ => ?_
 subst e_74
 have eeq71 := eeq71.symm
 subst eeq71
 refine W.as (W.nil (thn_n (WC.seq (WC.region (W.mv (W.ok (Ok.int (n := ((l.length / 2 : Nat) : Int)) (ok_quo' rfl rfl (by omega) (by omega) (by omega)) (by omega)) (W.ok (ok_sub rfl rfl (by omega)) (W.as (W.nil (thn_n (WC.block ?_)))))))))))
 refine WC.loop (X := (Int) × MH) (fun z => [(3, .int .i64 z.1), (2, .int .i64 (((l).length : Nat) : Int)), (0, x0)]) (fun z G Ml => Ml = (z.2 ++ []) ∧ Rep G (l) z.2 ∧ -1 ≤ z.1 ∧ z.1 ≤ l.length) (fun z => (z.1 + 1).toNat) (((((l.length / 2 : Nat) : Int) - 1) : Int), Ms_l) ⟨eqv, eqv, eqv, trivial⟩ ?_ ?_
 ·exact ⟨rfl, (by simpa using (hK.mono hG70 h_l)), by omega, by omega⟩
 rintro ⟨z, M_0⟩ gG75 G75 _ hG75 ⟨rfl, ho_0, hz1, hz2⟩
 try dsimp only at ho_0 hz1 hz2
 refine WC.fr (f := setL gG75 [(3, .int .i64 z), (2, .int .i64 (((l).length : Nat) : Int)), (0, x0)]) rfl (WC.seq (WC.seq (WC.region (W.mv (W.ok (ok_geq rfl rfl) (W.nil (thn_n ?_)))))))
 refine WC.cond (b := _) rfl (fun h10 => ?_) (fun h10 => ?_)
 ·have p10 := of_decide_eq_true h10
  try dsimp only at p10
  obtain ⟨m, rfl⟩ : ∃ m : Nat, z = (m : Int) := ⟨z.toNat, by omega⟩
  refine WC.skip (thn_n (WC.seq (WC.block (WC.region (W.mv (W.mv (W.mv (W.call (Mp := M_0) (hdown_fc hK ho_0 _ _ l.length (by omega) (by first | omega | (simp only [swapL_length]; omega)) (by omega)) rfl pr9 ?_))))))))
  intro _ G76 Ms78 hG76 q77
  refine match q77 with | ⟨⟨_, e_81⟩, hR80⟩ => ?_
  subst e_81
  refine W.nil (blk_n (thn_n (WC.region (W.mv (W.ok (ok_sub rfl rfl (by omega)) (W.as (W.nil (thn_n ?_))))))))
  exact ⟨hG76, (((m : Int) - 1), Ms78), ⟨eqv, eqv, eqv, trivial⟩, ⟨rfl, (by have h := hR80; rw [downL_id hh] at h; exact h), by dsimp only; omega, by dsimp only; omega⟩, by dsimp only; omega⟩
 have p10 := of_decide_eq_false h10
 try dsimp only at p10
 refine WC.exit (thn_x (thn_x (blk_h ?_)))
 refine ⟨.inl rfl, [], trivial, M_0, List.sublist_append_left _ _, ?_⟩
 refine ⟨rfl, ?_⟩
 exact ho_0

end Go.Proofs.Ytmbafmifalppaaa
