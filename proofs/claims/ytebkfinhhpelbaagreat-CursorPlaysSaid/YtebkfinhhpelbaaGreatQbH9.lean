/- Shorter names for steps that come often. No condition. -/
import Derived.Test.YtebkfinhhpelbaaGreatQbNc
set_option linter.unusedVariables false
set_option maxRecDepth 100000
set_option maxHeartbeats 1600000
set_option linter.unusedSimpArgs false
set_option linter.unnecessarySimpa false
theorem List.Sublist.k9 {α : Type} {a : α} {l l' : List α} (h : l.Sublist l') : (a :: l).Sublist (a :: l') := h.cons_cons a
namespace Go.Fw
open Go Go.RowKit
theorem sn9 {α : Type} {l : List α} : List.Sublist [] l := List.nil_sublist l
theorem sr9 {α : Type} {l : List α} : List.Sublist l l := List.Sublist.refl l
theorem pr9 {α : Type} {l : List α} : List.Perm l l := List.Perm.refl l
theorem WD.tk {E : Env} {f : Fr} {G : GH} {M Mk : MH} {ops : Array Oper} {K : Kt} {fuel : Nat} {listed : Array Bool} (i : Nat) {op : Op} {ty : TypeId} {pos : String} {aft : Array Edge} {d : Nat} {v : Value} (ho : ops[i]? = some ⟨some d, op, ty, pos, aft, none⟩) (hok : Ok E f G Mk ⟨some d, op, ty, pos, aft, none⟩ v)
    (h : WD E ops fuel (listed.setIfInBounds i true) (upd f d v) G M Mk K) (hs : Region.noSelect ops = true := by kernel_rfl) (hf : Region.free .any ops listed i = true := by kernel_rfl) (hr : (Region.ready .any ops listed).contains i = true := by kernel_rfl) (hd : Nat.blt d E.n = true := by rfl) : WD E ops (fuel + 1) listed f G M Mk K :=
  WD.take i ho rfl rfl hs hf hr hok h hd
theorem WD.n9 {E : Env} {f : Fr} {G G' : GH} {M' Mk : MH} {ops : Array Oper} {K : Kt} {fuel : Nat} {listed : Array Bool} (a : Le G G') (b : Mk.Sublist M') (h : WD E ops fuel listed f G' M' Mk K) : Le G G' ∧ Mk.Sublist M' ∧ ∃ Mk' : MH, Mk'.Sublist M' ∧ Mk.Sublist Mk' ∧ WD E ops fuel listed f G' M' Mk' K := ⟨a, b, Mk, b, List.Sublist.refl _, h⟩
theorem WD.a1 {E : Env} {f : Fr} {G : GH} {M Mk : MH} {ops : Array Oper} {K : Kt} {fuel : Nat} {listed : Array Bool} (i : Nat) {dst : Option Nat} {op : Op} {ty : TypeId} {pos : String} {aft : Array Edge} (ho : ops[i]? = some ⟨dst, op, ty, pos, aft, none⟩)
    (h : W E [(⟨dst, op, ty, pos, aft, none⟩ : Oper)].toArray false [(⟨dst, op, ty, pos, aft, none⟩ : Oper)] f G M (fun f' G' M' => Le G G' ∧ Mk.Sublist M' ∧ ∃ Mk', Mk'.Sublist M' ∧ Mk.Sublist Mk' ∧ WD E ops fuel (listed.setIfInBounds i true) f' G' M' Mk' K))
    (hr : Region.ready .any ops listed = [i] := by kernel_rfl) : WD E ops (fuel + 1) listed f G M Mk K := WD.any [i] hr rfl ⟨⟨_, ho, rfl, h⟩, trivial⟩
abbrev nd9 (a b : Int) (c : Option Addr) (d e : Nat) (f : Option Addr) (g h : Nat) (i : ByteArray) (j : Bool) (k l : Int) (m : Option Addr) (n o : Nat) (p : Option Addr) (q r : Nat) : List Value := [.int .i64 a, .int .i64 b, .slice c d e, .slice f g h, .string i, .bool j, .int .i64 k, .int .i64 l, .slice m n o, .slice p q r]
end Go.Fw
namespace Go.Proofs.YtebkfinhhpelbaaGreat
open Go Go.Fw Go.RowKit
theorem hdown_fc {G : GH} {α : Type} [Inhabited α] {lt : α → α → Bool} {x0 : Value} {Rep : GH → List α → MH → Prop} {EV : GH → Value → α → Prop} (hK : HeapK Tryz.prog lt x0 Rep EV) {l : List α} {Ms_l : MH} (h_l : Rep G l Ms_l) (i0 : Nat) (n : Nat) (f : Nat) (hf : n ≤ i0 + f) (hn : n ≤ l.length) (hi : i0 ≤ 1000000000000000) :
    Fc Tryz.prog 191 [x0, .int .i64 ((i0 : Nat) : Int), .int .i64 ((n : Nat) : Int)] G Ms_l (fun v G' M' => (∃ b, v = .bool b) ∧ Rep G' (downL lt f l i0 n) M') := by
 have hbd := hK.bound h_l
 refine Fc.intro (rs := [.tmp 6]) cl191 Tryz.func191 rfl Tryz.ntmps191 rfl rfl (fun w0 => ?_)
 refine WC.perm (M' := (Ms_l ++ [])) (by simp) (WC.seq (WC.region (W.as (W.nil (thn_n (WC.seq (WC.region (W.mv (W.as (W.nil (thn_n (WC.seq (WC.block ?_)))))))))))))
 refine WC.loop (X := (Nat × Nat × List α) × MH) (fun x => [(7, .int .i64 ((x.1.1 : Nat) : Int)), (1, .int .i64 ((i0 : Nat) : Int)), (2, .int .i64 ((n : Nat) : Int)), (0, x0)]) (fun x G Ml => Ml = (x.2 ++ []) ∧ Rep G (x.1.2.2) x.2 ∧ downL lt x.1.2.1 x.1.2.2 x.1.1 n = downL lt f l i0 n ∧ n ≤ x.1.1 + x.1.2.1 ∧ x.1.2.2.length = l.length ∧ x.1.1 ≤ n + 1000000000000000) (fun x => n - x.1.1) (((i0, f, l) : Nat × Nat × List α), Ms_l) ⟨eqv, eqv, eqv, eqv, trivial⟩ ?_ ?_
 ·exact ⟨rfl, (by simpa using h_l), rfl, hf, rfl, by dsimp only; omega⟩
 rintro ⟨⟨i, f9, L⟩, M_0⟩ gG1 G1 _ hG1 ⟨rfl, ho_0, hd, hfi, hL, hib⟩
 try dsimp only at ho_0 hd hfi hL hib
 have hbL : L.length ≤ 140737488355328 := by omega
 refine WC.fr (f := setL gG1 [(7, .int .i64 ((i : Nat) : Int)), (1, .int .i64 ((i0 : Nat) : Int)), (2, .int .i64 ((n : Nat) : Int)), (0, x0)]) rfl (WC.block (WC.seq (WC.region (W.mv (W.ok (ok_mul rfl rfl (by omega)) (W.ok (Ok.int (n := ((2 * i + 1 : Nat) : Int)) (ok_add rfl rfl (by omega)) (by omega)) (W.as (W.nil (thn_n (WC.seq (WC.seq (WC.region (W.mv (W.mv ?_))))))))))))))
 refine W.ok (ok_geq rfl rfl) (W.mv ?_)
 refine W.sp 18 rfl (fun h17 => ?_) (fun h17 => ?_)
 ·have p17 := of_decide_eq_true h17
  try dsimp only at p17
  refine W.no (dj := 18) rfl rfl h17 (W.no (dj := 18) rfl rfl h17 (W.ok (ok_pick_t rfl h17) (W.nil (thn_n (WC.cond_t rfl rfl (WC.exit (thn_x (blk_m (thn_x (blk_h (thn_n (WC.seq (WC.region (W.mv (W.mv (W.ok (ok_gtr rfl rfl) (W.as (W.nil (thn_n (WC.ret ?_))))))))))))))))))))
  refine ⟨.inr rfl, [_], ⟨rfl, trivial⟩, M_0, List.sublist_append_left _ _, ?_⟩
  refine ⟨⟨_, rfl⟩, ?_⟩
  have h := ho_0
  rw [downL_stop (by omega)] at hd
  rw [← hd]; exact h
 have p17 := of_decide_eq_false h17
 try dsimp only at p17
 refine W.yes (dj := 18) rfl rfl h17 (W.mv (W.yes (dj := 18) rfl rfl h17 (W.ok (ok_lss rfl rfl) (W.ok (ok_pick_f rfl h17) (W.nil (thn_n ?_))))))
 refine WC.cond (b := _) rfl (fun h20 => ?_) (fun h20 => ?_)
 ·have p20 := of_decide_eq_true h20
  try dsimp only at p20
  exfalso; omega
 have p20 := of_decide_eq_false h20
 try dsimp only at p20
 have hkj := kidJ_lt (lt := lt) (l := L) (i := i) (n := n) (by omega)
 refine WC.skip (thn_n (WC.seq (WC.region (W.mv (W.as (W.nil (thn_n ?_)))))))
 refine WC.join (X := Unit) (fun u8 => [(9, .int .i64 (((kidJ lt L i n) : Nat) : Int)), (0, x0), (1, .int .i64 ((i0 : Nat) : Int)), (2, .int .i64 ((n : Nat) : Int)), (7, .int .i64 ((i : Nat) : Int))]) (fun u8 _ Ml => Ml = (M_0 ++ [])) ?_ ?_
 ·refine WC.seq (WC.region (W.mv (W.ok (Ok.int (n := ((2 * i + 2 : Nat) : Int)) (ok_add rfl rfl (by omega)) (by omega)) (W.as (W.nil (thn_n (WC.seq (WC.region (W.mv (W.mv (W.ok (ok_lss rfl rfl) (W.mv ?_))))))))))))
  refine W.sp 28 rfl (fun h27 => ?_) (fun h27 => ?_)
  ·have p27 := of_decide_eq_true h27
   try dsimp only at p27
   refine W.yes (dj := 28) rfl rfl h27 (W.mv (W.yes (dj := 28) rfl rfl h27 (W.mv (W.yes (dj := 28) rfl rfl h27 (W.mv (W.yes (dj := 28) rfl rfl h27 (W.inv (hK.less (i := 2 * i + 2) (j := 2 * i + 1) ho_0 (by omega) (by omega)) rfl rfl pr9 ?_)))))))
   intro _ G2 Ms4 hG2 q3
   refine match q3 with | ⟨e_6, eeq3⟩ => ?_
   subst e_6
   have eeq3 := eeq3.symm
   subst eeq3
   refine W.ok (ok_pick_t rfl h27) (W.nil (thn_n ?_))
   refine WC.cond (b := _) rfl (fun h32 => ?_) (fun h32 => ?_)
   ·refine WC.region (W.mv (W.as (W.nil (thn_n ?_))))
    exact ⟨hG2, (), ⟨(by exact iv (congrArg Nat.cast (kidJ_t (by omega) h32).symm)), eqv, eqv, eqv, eqv, trivial⟩, rfl⟩
   refine WC.skip (thn_n ?_)
   exact ⟨hG2, (), ⟨(by exact iv (congrArg Nat.cast (kidJ_f (.inr h32)).symm)), eqv, eqv, eqv, eqv, trivial⟩, rfl⟩
  have p27 := of_decide_eq_false h27
  try dsimp only at p27
  refine W.no (dj := 28) rfl rfl h27 (W.no (dj := 28) rfl rfl h27 (W.no (dj := 28) rfl rfl h27 (W.no (dj := 28) rfl rfl h27 (W.ok (ok_pick_f rfl h27) (W.nil (thn_n (WC.cond_f rfl rfl (WC.skip (thn_n ?_)))))))))
  exact ⟨Le.rfl, (), ⟨(by exact iv (congrArg Nat.cast (kidJ_f (.inl (by omega))).symm)), eqv, eqv, eqv, eqv, trivial⟩, rfl⟩
 rintro u8 gG7 G7 _ hG7 rfl
 refine WC.seq (WC.seq (WC.region (W.mv (W.mv (W.mv (W.inv (hK.less (i := (kidJ lt L i n)) (j := i) (hK.mono hG7 ho_0) (by omega) (by omega)) rfl rfl pr9 ?_))))))
 intro _ G8 Ms10 hG8 q9
 refine match q9 with | ⟨e_12, eeq9⟩ => ?_
 subst e_12
 have eeq9 := eeq9.symm
 subst eeq9
 refine W.ok (ok_not rfl) (W.nil (thn_n ?_))
 refine WC.cond (b := _) rfl (fun h39 => ?_) (fun h39 => ?_)
 ·refine WC.exit (thn_x (blk_m (thn_x (blk_h (thn_n (WC.seq (WC.region (W.mv (W.mv (W.ok (ok_gtr rfl rfl) (W.as (W.nil (thn_n (WC.ret ?_))))))))))))))
  refine ⟨.inr rfl, [_], ⟨rfl, trivial⟩, M_0, List.sublist_append_left _ _, ?_⟩
  refine ⟨⟨_, rfl⟩, ?_⟩
  have h := (hK.mono (hG7.trans hG8) ho_0)
  rw [downL_end (by omega) (by simpa using h39)] at hd
  rw [← hd]; exact h
 refine WC.skip (thn_n (WC.seq (WC.region (W.mv (W.mv (W.mv (W.inv (hK.swap (i := i) (j := (kidJ lt L i n)) (hK.mono (hG7.trans hG8) ho_0) (by omega) (by omega)) rfl rfl pr9 ?_)))))))
 intro _ G13 Ms15 hG13 q14
 refine match q14 with | ⟨e_18, hR17⟩ => ?_
 subst e_18
 refine W.nil (thn_n (WC.region (W.mv (W.as (W.nil (blk_n (thn_n ?_)))))))
 exact ⟨((hG7.trans hG8).trans hG13), ((((kidJ lt L i n), f9 - 1, swapL L i (kidJ lt L i n)) : Nat × Nat × List α), Ms15), ⟨eqv, eqv, eqv, eqv, trivial⟩, ⟨rfl, (by simpa using hR17), by dsimp only; rw [← hd, downL_go hfi (by omega) (by simpa using h39)], by dsimp only; omega, by dsimp only; rw [swapL_length]; exact hL, by dsimp only; omega⟩, by dsimp only; omega⟩

theorem hup_fc {G : GH} {α : Type} [Inhabited α] {lt : α → α → Bool} {x0 : Value} {Rep : GH → List α → MH → Prop} {EV : GH → Value → α → Prop} (hK : HeapK Tryz.prog lt x0 Rep EV) {l : List α} {Ms_l : MH} (h_l : Rep G l Ms_l) (j0 : Nat) (f : Nat) (hf : j0 ≤ f) (hj : j0 < l.length) :
    Fc Tryz.prog 190 [x0, .int .i64 ((j0 : Nat) : Int)] G Ms_l (fun v G' M' => v = .tuple #[] ∧ Rep G' (upL lt f l j0) M') := by
 have hbd := hK.bound h_l
 refine Fc.intro (rs := []) cl190 Tryz.func190 rfl Tryz.ntmps190 rfl rfl (fun w0 => ?_)
 refine WC.perm (M' := (Ms_l ++ [])) (by simp) (WC.block ?_)
 refine WC.loop (X := (Nat × Nat × List α) × MH) (fun x => [(1, .int .i64 ((x.1.1 : Nat) : Int)), (0, x0)]) (fun x G Ml => Ml = (x.2 ++ []) ∧ Rep G (x.1.2.2) x.2 ∧ upL lt x.1.2.1 x.1.2.2 x.1.1 = upL lt f l j0 ∧ x.1.1 ≤ x.1.2.1 ∧ x.1.2.2.length = l.length ∧ x.1.1 < l.length) (fun x => x.1.1) (((j0, f, l) : Nat × Nat × List α), Ms_l) ⟨eqv, eqv, trivial⟩ ?_ ?_
 ·exact ⟨rfl, (by simpa using h_l), rfl, hf, rfl, hj⟩
 rintro ⟨⟨j, f9, L⟩, M_0⟩ gG19 G19 _ hG19 ⟨rfl, ho_0, hd, hfi, hL, hjl⟩
 try dsimp only at ho_0 hd hfi hL hjl
 have hbL : L.length ≤ 140737488355328 := by omega
 refine WC.fr (f := setL gG19 [(1, .int .i64 ((j : Nat) : Int)), (0, x0)]) rfl (WC.block (WC.seq (WC.region (W.mv (W.ok (ok_sub rfl rfl (by omega)) (W.ok (Ok.int (n := (((j - 1) / 2 : Nat) : Int)) (ok_quo rfl rfl (by omega) (by rw [show (2 : Int) = 2 from rfl, tdiv_half]; omega)) (tdiv_half j)) (W.as (W.nil (thn_n (WC.seq (WC.seq (WC.region (W.mv (W.mv ?_))))))))))))))
 refine W.ok (ok_eql rfl rfl) (W.mv ?_)
 refine W.sp 11 rfl (fun h10 => ?_) (fun h10 => ?_)
 ·have p10 := of_decide_eq_true h10
  try dsimp only at p10
  refine W.no (dj := 11) rfl rfl h10 (W.no (dj := 11) rfl rfl h10 (W.no (dj := 11) rfl rfl h10 (W.no (dj := 11) rfl rfl h10 (W.no (dj := 11) rfl rfl h10 (W.ok (ok_pick_t rfl h10) (W.nil (thn_n (WC.cond_t rfl rfl (WC.exit (thn_x (blk_m (thn_x (blk_h ?_)))))))))))))
  refine ⟨.inl rfl, [], trivial, M_0, List.sublist_append_left _ _, ?_⟩
  refine ⟨rfl, ?_⟩
  have h := ho_0
  rw [upL_end (.inl (by omega))] at hd
  rw [← hd]; exact h
 have p10 := of_decide_eq_false h10
 try dsimp only at p10
 refine W.yes (dj := 11) rfl rfl h10 (W.mv (W.yes (dj := 11) rfl rfl h10 (W.mv (W.yes (dj := 11) rfl rfl h10 (W.mv (W.yes (dj := 11) rfl rfl h10 (W.inv (hK.less (i := j) (j := (j - 1) / 2) ho_0 (by omega) (by omega)) rfl rfl pr9 ?_)))))))
 intro _ G20 Ms22 hG20 q21
 refine match q21 with | ⟨e_24, eeq21⟩ => ?_
 subst e_24
 have eeq21 := eeq21.symm
 subst eeq21
 refine W.yes (dj := 11) rfl rfl h10 (W.ok (ok_not rfl) (W.ok (ok_pick_f rfl h10) (W.nil (thn_n ?_))))
 refine WC.cond (b := _) rfl (fun h16 => ?_) (fun h16 => ?_)
 ·refine WC.exit (thn_x (blk_m (thn_x (blk_h ?_))))
  refine ⟨.inl rfl, [], trivial, M_0, List.sublist_append_left _ _, ?_⟩
  refine ⟨rfl, ?_⟩
  have h := (hK.mono hG20 ho_0)
  rw [upL_end (.inr (by simpa using h16))] at hd
  rw [← hd]; exact h
 refine WC.skip (thn_n (WC.seq (WC.region (W.mv (W.mv (W.mv (W.inv (hK.swap (i := (j - 1) / 2) (j := j) (hK.mono hG20 ho_0) (by omega) (by omega)) rfl rfl pr9 ?_)))))))
 intro _ G25 Ms27 hG25 q26
 refine match q26 with | ⟨e_30, hR29⟩ => ?_
 subst e_30
 refine W.nil (thn_n (WC.region (W.mv (W.as (W.nil (blk_n (thn_n ?_)))))))
 exact ⟨(hG20.trans hG25), ((((j - 1) / 2, f9 - 1, swapL L ((j - 1) / 2) j) : Nat × Nat × List α), Ms27), ⟨eqv, eqv, trivial⟩, ⟨rfl, (by simpa using hR29), by dsimp only; rw [← hd, upL_go hfi (by omega) (by simpa using h16)], by dsimp only; omega, by dsimp only; rw [swapL_length]; exact hL, by dsimp only; omega⟩, by dsimp only; omega⟩

theorem hpop_fc {G : GH} {α : Type} [Inhabited α] {lt : α → α → Bool} {x0 : Value} {Rep : GH → List α → MH → Prop} {EV : GH → Value → α → Prop} (hK : HeapK Tryz.prog lt x0 Rep EV) {l : List α} {Ms_l : MH} (h_l : Rep G l Ms_l) (h0 : 0 < l.length) :
    Fc Tryz.prog 147 [x0] G Ms_l (fun v G' M' => EV G' v (nth l 0) ∧ Rep G' (popL lt l) M') := by
 have hbd := hK.bound h_l
 refine Fc.intro (rs := [.tmp 2]) cl147 Tryz.func147 rfl Tryz.ntmps147 rfl rfl (fun w0 => ?_)
 refine WC.perm (M' := (Ms_l ++ [])) (by simp) (WC.seq (WC.region (W.as (W.nil (thn_n (WC.seq (WC.region (W.mv (W.inv (hK.len h_l) rfl rfl pr9 ?_)))))))))
 intro _ G31 Ms33 hG31 q32
 refine match q32 with | ⟨e_35, eeq32⟩ => ?_
 subst e_35
 have eeq32 := eeq32.symm
 subst eeq32
 refine W.ok (Ok.int (n := ((l.length - 1 : Nat) : Int)) (ok_sub rfl rfl (by omega)) (by omega)) (W.as (W.nil (thn_n (WC.seq (WC.region (W.mv (W.mv (W.inv (hK.swap (i := 0) (j := l.length - 1) (hK.mono hG31 h_l) (by omega) (by omega)) rfl rfl pr9 ?_))))))))
 intro _ G36 Ms38 hG36 q37
 refine match q37 with | ⟨e_41, hR40⟩ => ?_
 subst e_41
 refine W.nil (thn_n (WC.seq (WC.region (W.mv (W.mv (W.call (Mp := Ms38) (hdown_fc hK hR40 0 _ l.length (by omega) (by first | omega | (simp only [swapL_length]; omega)) (by omega)) rfl pr9 ?_))))))
 intro _ G42 Ms44 hG42 q43
 refine match q43 with | ⟨⟨_, e_47⟩, hR46⟩ => ?_
 subst e_47
 refine W.nil (thn_n (WC.seq (WC.region (W.mv (W.inv (hK.pop hR46 (by rw [downL_length, swapL_length]; omega)) rfl rfl pr9 ?_)))))
 intro v51 G48 Ms50 hG48 q49
 refine match q49 with | ⟨hvhR52, hR52⟩ => ?_
 refine W.as (W.nil (thn_n (WC.ret ?_)))
 refine ⟨.inr rfl, [_], ⟨rfl, trivial⟩, Ms50, List.sublist_append_left _ _, ?_⟩
 refine ⟨(by have h := hvhR52; rw [(popL_eq (lt := lt) h0).2] at h; exact h), ?_⟩
 have h := hR52
 rw [(popL_eq h0).1] at h; exact h

theorem hpush_fc {G : GH} {α : Type} [Inhabited α] {lt : α → α → Bool} {x0 : Value} {Rep : GH → List α → MH → Prop} {EV : GH → Value → α → Prop} (hK : HeapK Tryz.prog lt x0 Rep EV) {l : List α} {Ms_l : MH} (h_l : Rep G l Ms_l) {v_a : Value} {a : α} (h_a : EV G v_a a) (hb : l.length < 1000000) (hEV : ∀ {G G' : GH} {v : Value} {a : α}, Le G G' → EV G v a → EV G' v a) :
    Fc Tryz.prog 145 [x0, v_a] G Ms_l (fun v G' M' => v = .tuple #[] ∧ Rep G' (pushL lt l a) M') := by
 have hbd := hK.bound h_l
 have hla : (l ++ [a]).length = l.length + 1 := by simp
 refine Fc.intro (rs := []) cl145 Tryz.func145 rfl Tryz.ntmps145 rfl rfl (fun w0 => ?_)
 refine WC.perm (M' := (Ms_l ++ [])) (by simp) (WC.seq (WC.region (W.mv (W.mv (W.inv (hK.push h_l (by omega) h_a) rfl rfl pr9 ?_)))))
 intro _ G53 Ms55 hG53 q54
 refine match q54 with | ⟨e_58, hR57⟩ => ?_
 subst e_58
 refine W.nil (thn_n (WC.region (W.mv (W.mv (W.inv (hK.len hR57) rfl rfl pr9 ?_)))))
 intro _ G59 Ms61 hG59 q60
 refine match q60 with | ⟨e_63, eeq60⟩ => ?_
 subst e_63
 have eeq60 := eeq60.symm
 subst eeq60
 refine W.ok (Ok.int (n := ((l.length : Nat) : Int)) (ok_sub rfl rfl (by omega)) (by omega)) (W.call (Mp := Ms55) (hup_fc hK (hK.mono hG59 hR57) _ l.length (by omega) (by omega)) rfl pr9 ?_)
 intro _ G64 Ms66 hG64 q65
 refine match q65 with | ⟨e_69, hR68⟩ => ?_
 subst e_69
 refine W.nil ?_
 refine ⟨.inl rfl, [], trivial, Ms66, List.sublist_append_left _ _, ?_⟩
 refine ⟨rfl, ?_⟩
 exact hR68

end Go.Proofs.YtebkfinhhpelbaaGreat
