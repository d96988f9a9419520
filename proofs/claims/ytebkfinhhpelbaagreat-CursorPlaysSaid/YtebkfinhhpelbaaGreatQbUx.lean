/- Walks of how a cursor moves. -/
import Derived.Test.YtebkfinhhpelbaaGreatQbUw
set_option maxRecDepth 100000
set_option maxHeartbeats 1600000
set_option linter.unusedVariables false
set_option linter.unusedSimpArgs false
set_option linter.unnecessarySimpa false
namespace Go.Proofs.YtebkfinhhpelbaaGreat
open Go Go.Fw Go.RowKit
theorem prows_fc {G : GH} {b_c : Nat} {a9 i9 : Int} {xs : List Seat} {Ms_c : MH} (h_c : CbR 124 130 b_c xs a9 i9 G () Ms_c) (hL : LvF xs) {z : Int} (i : Nat) (hz : z = i) (hi : i < xs.length) : Fc Tryz.prog 81 [.pointer (some ⟨b_c, 0, none⟩), .int .i64 z] G Ms_c (fun v G' M' => SlR ePair G' v (viewS (xs[i]'hi)) ∧ CbR 124 130 b_c xs a9 i9 G' () M') := by
  subst hz
  obtain ⟨v, Ml, rfl, hX⟩ := h_c
  exact (crows_fc hX i hi (hL.leaf _ (List.getElem_mem hi))).mono fun v' G' M' _ ⟨e1, Ml', e2, e3⟩ => ⟨e1, v, Ml', e2, e3⟩
theorem cnow_fc {G : GH} {b_c : Nat} {a9 i9 : Int} {xs : List Seat} {Ms_c : MH} (h_c : CbR 124 130 b_c xs a9 i9 G () Ms_c) (hL : LvF xs) :
    Fc Tryz.prog 140 [.pointer (some ⟨b_c, 0, none⟩)] G Ms_c (fun v G' M' => v = .bool false ∧ CbR 124 130 b_c xs (-1) 0 G' () M') := by
 refine Fc.intro (rs := [.tmp 2]) cl140 Tryz.func140 rfl Tryz.ntmps140 rfl rfl (fun w0 => ?_)
 refine WC.perm (M' := (Ms_c ++ [])) (by simp) (WC.seq (WC.region (W.as (W.nil (thn_n (WC.seq ?_))))))
 obtain ⟨vlv1, Mllv1, eMlv1, hLlv1⟩ := h_c
 subst eMlv1
 obtain ⟨salv1, sclv1, idslv1, elv1, hillv1, hsllv1⟩ := hLlv1.form
 subst elv1
 refine WC.perm (M' := ((b_c, .cells (List.toArray [.slice salv1 xs.length sclv1, .int .i64 a9, .int .i64 i9]) 124 (0, 0)) :: (Mllv1 ++ []))) pr9.symm (WC.region (W.mv (W.mv (W.ok (ok_nilP rfl) (W.ok (ok_fieldB fd124_1 rfl) (W.store (i := 0) (vs := [.int .i64 _]) (L' := [.slice _ _ _, .int .i64 _, .int .i64 _]) ty3 rfl rfl rfl rfl rfl rfl rfl rfl (W.ok (ok_nilP rfl) (W.ok (ok_fieldB fd124_2 rfl) (W.store (i := 0) (vs := [.int .i64 _]) (L' := [.slice _ _ _, .int .i64 _, .int .i64 _]) ty3 rfl rfl rfl rfl rfl rfl rfl rfl (W.nil (thn_n (WC.seq (WC.region (W.as ?_))))))))))))))
 refine W.nil (thn_n ?_)
 have hC2 : CbR 124 130 b_c xs (-1) 0 G () ((b_c, .cells (List.toArray [.slice salv1 xs.length sclv1, .int .i64 (-1), .int .i64 0]) 124 (0, 0)) :: Mllv1) := ⟨_, _, rfl, hLlv1⟩
 refine WC.perm (M' := (((b_c, .cells (List.toArray [.slice salv1 xs.length sclv1, .int .i64 (-1), .int .i64 0]) 124 (0, 0)) :: Mllv1) ++ [])) (pr9.symm.trans ((pr9.cons _).trans pr9)) (WC.ret ?_)
 refine ⟨.inr rfl, [_], ⟨rfl, trivial⟩, ((b_c, .cells (List.toArray [.slice salv1 xs.length sclv1, .int .i64 (-1), .int .i64 0]) 124 (0, 0)) :: Mllv1), List.sublist_append_left _ _, ?_⟩
 exact ⟨rfl, hC2⟩

theorem cahead_fc {G : GH} {b_c : Nat} {a9 i9 : Int} {xs : List Seat} {Ms_c : MH} (h_c : CbR 124 130 b_c xs a9 i9 G () Ms_c) (hL : LvF xs) (a : Nat) (i : Nat) (ha9 : a ≤ 100) (hai : ∀ h : a < xs.length, i ≤ (viewS (xs[a]'h)).length) :
    Fc Tryz.prog 78 [.pointer (some ⟨b_c, 0, none⟩), .int .i64 ((a : Nat) : Int), .int .i64 ((i : Nat) : Int)] G Ms_c (fun v G' M' => v = .bool (fwdN (totP xs) (offN xs a + i)).isSome ∧ CuR 124 130 b_c xs G' (fwdN (totP xs) (offN xs a + i)) M') := by
 have hxl := hL.len
 refine Fc.intro (rs := [.tmp 6]) cl78 Tryz.func78 rfl Tryz.ntmps78 rfl rfl (fun w0 => ?_)
 refine WC.perm (M' := (Ms_c ++ [])) (by simp) (WC.seq (WC.region (W.as (W.nil (thn_n (WC.seq (WC.block ?_)))))))
 refine WC.loop (X := (Nat × Nat) × MH) (fun y => [(1, .int .i64 ((y.1.1 : Nat) : Int)), (2, .int .i64 ((y.1.2 : Nat) : Int)), (0, .pointer (some ⟨b_c, 0, none⟩))]) (fun y G Ml => Ml = (y.2 ++ []) ∧ CbR 124 130 b_c xs a9 i9 G (()) y.2 ∧ offN xs y.1.1 + y.1.2 = offN xs a + i ∧ y.1.1 ≤ 101 ∧ ∀ h : y.1.1 < xs.length, y.1.2 ≤ (viewS (xs[y.1.1]'h)).length) (fun y => 101 - y.1.1) (((a, i) : Nat × Nat), Ms_c) ⟨eqv, eqv, eqv, trivial⟩ ?_ ?_
 ·exact ⟨rfl, (by exact h_c), rfl, by dsimp only; omega, hai⟩
 rintro ⟨⟨a2, i2⟩, M_0⟩ gG3 G3 _ hG3 ⟨rfl, ho_0, hof, ha2, hai2⟩
 try dsimp only at ho_0 hof ha2 hai2
 refine WC.fr (f := setL gG3 [(1, .int .i64 ((a2 : Nat) : Int)), (2, .int .i64 ((i2 : Nat) : Int)), (0, .pointer (some ⟨b_c, 0, none⟩))]) rfl (WC.seq (WC.seq ?_))
 obtain ⟨vlv4, Mllv4, eMlv4, hLlv4⟩ := ho_0
 subst eMlv4
 obtain ⟨salv4, sclv4, idslv4, elv4, hillv4, hsllv4⟩ := hLlv4.form
 subst elv4
 refine WC.perm (M' := ((b_c, .cells (List.toArray [.slice salv4 xs.length sclv4, .int .i64 a9, .int .i64 i9]) 124 (0, 0)) :: (Mllv4 ++ []))) pr9.symm (WC.region (W.mv (W.mv (W.ok (ok_nilP rfl) (W.ok (ok_fieldB fd124_0 rfl) (W.ok (ok_loadB (i := 0) (vs := [.slice _ _ _]) ty122 rfl rfl rfl rfl (by simp)) (W.ok (ok_len sl122 hsllv4 rfl) (W.ok (ok_lss rfl rfl) (W.nil (thn_n ?_))))))))))
 refine WC.cond (b := _) rfl (fun h13 => ?_) (fun h13 => ?_)
 ·have p13 := of_decide_eq_true h13
  try dsimp only at p13
  refine WC.skip (thn_n (WC.seq (WC.block (WC.seq ?_))))
  have hC5 : CbR 124 130 b_c xs a9 i9 G3 () ((b_c, .cells (List.toArray [.slice salv4 xs.length sclv4, .int .i64 a9, .int .i64 i9]) 124 (0, 0)) :: Mllv4) := ⟨_, _, rfl, hLlv4⟩
  refine WC.perm (M' := (((b_c, .cells (List.toArray [.slice salv4 xs.length sclv4, .int .i64 a9, .int .i64 i9]) 124 (0, 0)) :: Mllv4) ++ [])) (pr9.symm.trans ((pr9.cons _).trans pr9)) (WC.region (W.mv (W.mv (W.mv (W.call (Mp := ((b_c, .cells (List.toArray [.slice salv4 xs.length sclv4, .int .i64 a9, .int .i64 i9]) 124 (0, 0)) :: Mllv4)) (prows_fc hC5 hL (a2) (by omega) (by omega)) rfl pr9 ?_)))))
  intro v9 G6 Ms8 hG6 q7
  refine match q7 with | ⟨hv11, hC10⟩ => ?_
  have q13 := hv11.form
  refine match q13 with | ⟨sa_hv11, sc_hv11, e_12⟩ => ?_
  subst e_12
  refine W.ok (ok_len sl41 hv11 rfl) (W.ok (ok_lss rfl rfl) (W.nil (thn_n ?_)))
  refine WC.cond (b := _) rfl (fun h21 => ?_) (fun h21 => ?_)
  ·have p21 := of_decide_eq_true h21
   try dsimp only at p21
   refine WC.seq ?_
   obtain ⟨vlv14, Mllv14, eMlv14, hLlv14⟩ := hC10
   subst eMlv14
   obtain ⟨salv14, sclv14, idslv14, elv14, hillv14, hsllv14⟩ := hLlv14.form
   subst elv14
   refine WC.perm (M' := ((b_c, .cells (List.toArray [.slice salv14 xs.length sclv14, .int .i64 a9, .int .i64 i9]) 124 (0, 0)) :: (Mllv14 ++ []))) pr9.symm (WC.region (W.mv (W.mv (W.mv (W.mv (W.ok (ok_nilP rfl) (W.ok (ok_fieldB fd124_1 rfl) (W.store (i := 0) (vs := [.int .i64 _]) (L' := [.slice _ _ _, .int .i64 _, .int .i64 _]) ty3 rfl rfl rfl rfl rfl rfl rfl rfl (W.ok (ok_nilP rfl) (W.ok (ok_fieldB fd124_2 rfl) (W.store (i := 0) (vs := [.int .i64 _]) (L' := [.slice _ _ _, .int .i64 _, .int .i64 _]) ty3 rfl rfl rfl rfl rfl rfl rfl rfl (W.nil (thn_n (WC.seq ?_))))))))))))))
   refine WC.region (W.as (W.nil (thn_n ?_)))
   have hC15 : CbR 124 130 b_c xs ((((a2 : Nat) : Int))) ((((i2 : Nat) : Int))) G6 () ((b_c, .cells (List.toArray [.slice salv14 xs.length sclv14, .int .i64 (((a2 : Nat) : Int)), .int .i64 (((i2 : Nat) : Int))]) 124 (0, 0)) :: Mllv14) := ⟨_, _, rfl, hLlv14⟩
   refine WC.perm (M' := (((b_c, .cells (List.toArray [.slice salv14 xs.length sclv14, .int .i64 (((a2 : Nat) : Int)), .int .i64 (((i2 : Nat) : Int))]) 124 (0, 0)) :: Mllv14) ++ [])) (pr9.symm.trans ((pr9.cons _).trans pr9)) (WC.ret (blk_r (thn_r (thn_r (blk_r (thn_r ?_))))))
   refine ⟨.inr rfl, [_], ⟨rfl, trivial⟩, ((b_c, .cells (List.toArray [.slice salv14 xs.length sclv14, .int .i64 (((a2 : Nat) : Int)), .int .i64 (((i2 : Nat) : Int))]) 124 (0, 0)) :: Mllv14), List.sublist_append_left _ _, ?_⟩
   have hfw := fwd_at (xs := xs) (a := a2) (i := i2) (by omega) (by omega)
   rw [hof] at hfw
   exact ⟨congrArg Value.bool (by have h9 : (fwdN (totP xs) (offN xs a + i)).isSome = true := by { have h8 := off_succ (xs := xs) (a := a2) (by omega); have h7 := off_tot xs (a2 + 1); unfold fwdN totP; rw [if_pos (by omega)]; rfl }; exact h9.symm), _, _, hfw, hC15⟩
  have p21 := of_decide_eq_false h21
  try dsimp only at p21
  refine WC.skip (blk_n (thn_n (WC.region (W.mv (W.ok (ok_add rfl rfl (by omega)) (W.as (W.as (W.nil (thn_n ?_)))))))))
  exact ⟨hG6, (((a2 + 1, 0) : Nat × Nat), Ms8), ⟨eqv, eqv, eqv, trivial⟩, ⟨rfl, (by exact hC10), by dsimp only; rw [← hof, off_succ (xs := xs) (a := a2) (by omega)]; have h9 := hai2 (by omega); omega, by dsimp only; omega, fun _ => Nat.zero_le _⟩, by dsimp only; omega⟩
 have p13 := of_decide_eq_false h13
 try dsimp only at p13
 refine WC.exit (thn_x (thn_x (blk_h (thn_n (WC.seq ?_)))))
 have hC16 : CbR 124 130 b_c xs a9 i9 G3 () ((b_c, .cells (List.toArray [.slice salv4 xs.length sclv4, .int .i64 a9, .int .i64 i9]) 124 (0, 0)) :: Mllv4) := ⟨_, _, rfl, hLlv4⟩
 refine WC.perm (M' := (((b_c, .cells (List.toArray [.slice salv4 xs.length sclv4, .int .i64 a9, .int .i64 i9]) 124 (0, 0)) :: Mllv4) ++ [])) (pr9.symm.trans ((pr9.cons _).trans pr9)) (WC.region (W.mv (W.call (Mp := ((b_c, .cells (List.toArray [.slice salv4 xs.length sclv4, .int .i64 a9, .int .i64 i9]) 124 (0, 0)) :: Mllv4)) (cnow_fc hC16 hL) rfl pr9 ?_)))
 intro v20 G17 Ms19 hG17 q18
 refine match q18 with | ⟨e_22, hC21⟩ => ?_
 subst e_22
 refine W.as (W.nil (thn_n (WC.ret ?_)))
 refine ⟨.inr rfl, [_], ⟨rfl, trivial⟩, Ms19, List.sublist_append_left _ _, ?_⟩
 have hfe := fwd_end (xs := xs) (a := a2) (i := i2) (by omega)
 rw [hof] at hfe
 exact ⟨congrArg Value.bool (by unfold totP; rw [hfe]; rfl), -1, 0, by unfold totP; rw [hfe]; exact ⟨rfl, rfl⟩, hC21⟩

theorem cback_fc {G : GH} {b_c : Nat} {a9 i9 : Int} {xs : List Seat} {Ms_c : MH} (h_c : CbR 124 130 b_c xs a9 i9 G () Ms_c) (hL : LvF xs) (a : Nat) (i : Nat) (ha9 : a ≤ xs.length) (hai : 0 < i → ∃ h : a < xs.length, i ≤ (viewS (xs[a]'h)).length) :
    Fc Tryz.prog 80 [.pointer (some ⟨b_c, 0, none⟩), .int .i64 ((a : Nat) : Int), .int .i64 ((i : Nat) : Int)] G Ms_c (fun v G' M' => v = .bool (bwdN (offN xs a + i)).isSome ∧ CuR 124 130 b_c xs G' (bwdN (offN xs a + i)) M') := by
 have hxl := hL.len
 refine Fc.intro (rs := [.tmp 6]) cl80 Tryz.func80 rfl Tryz.ntmps80 rfl rfl (fun w0 => ?_)
 refine WC.perm (M' := (Ms_c ++ [])) (by simp) (WC.seq (WC.region (W.as (W.nil (thn_n (WC.block ?_))))))
 refine WC.loop (X := (Nat × Nat) × MH) (fun y => [(1, .int .i64 ((y.1.1 : Nat) : Int)), (2, .int .i64 ((y.1.2 : Nat) : Int)), (0, .pointer (some ⟨b_c, 0, none⟩))]) (fun y G Ml => Ml = (y.2 ++ []) ∧ CbR 124 130 b_c xs a9 i9 G (()) y.2 ∧ offN xs y.1.1 + y.1.2 = offN xs a + i ∧ y.1.1 ≤ xs.length ∧ (0 < y.1.2 → ∃ h : y.1.1 < xs.length, y.1.2 ≤ (viewS (xs[y.1.1]'h)).length)) (fun y => y.1.1) (((a, i) : Nat × Nat), Ms_c) ⟨eqv, eqv, eqv, trivial⟩ ?_ ?_
 ·exact ⟨rfl, (by exact h_c), rfl, ha9, hai⟩
 rintro ⟨⟨a2, i2⟩, M_0⟩ gG23 G23 _ hG23 ⟨rfl, ho_0, hof, ha2, hai2⟩
 try dsimp only at ho_0 hof ha2 hai2
 refine WC.fr (f := setL gG23 [(1, .int .i64 ((a2 : Nat) : Int)), (2, .int .i64 ((i2 : Nat) : Int)), (0, .pointer (some ⟨b_c, 0, none⟩))]) rfl (WC.block (WC.seq (WC.seq (WC.region (W.mv (W.ok (ok_gtr rfl rfl) (W.nil (thn_n ?_))))))))
 refine WC.cond (b := _) rfl (fun h8 => ?_) (fun h8 => ?_)
 ·have p8 := of_decide_eq_true h8
  try dsimp only at p8
  obtain ⟨hb1, hb2⟩ := hai2 (by omega)
  have hvl := (hL.leaf _ (List.getElem_mem hb1)).vlen
  refine WC.seq ?_
  obtain ⟨vlv24, Mllv24, eMlv24, hLlv24⟩ := ho_0
  subst eMlv24
  obtain ⟨salv24, sclv24, idslv24, elv24, hillv24, hsllv24⟩ := hLlv24.form
  subst elv24
  refine WC.perm (M' := ((b_c, .cells (List.toArray [.slice salv24 xs.length sclv24, .int .i64 a9, .int .i64 i9]) 124 (0, 0)) :: (Mllv24 ++ []))) pr9.symm (WC.region (W.mv (W.mv (W.mv (W.mv (W.ok (ok_sub rfl rfl (by omega)) (W.ok (ok_nilP rfl) (W.ok (ok_fieldB fd124_1 rfl) (W.store (i := 0) (vs := [.int .i64 _]) (L' := [.slice _ _ _, .int .i64 _, .int .i64 _]) ty3 rfl rfl rfl rfl rfl rfl rfl rfl (W.ok (ok_nilP rfl) (W.ok (ok_fieldB fd124_2 rfl) (W.store (i := 0) (vs := [.int .i64 _]) (L' := [.slice _ _ _, .int .i64 _, .int .i64 _]) ty3 rfl rfl rfl rfl rfl rfl rfl rfl (W.nil (thn_n ?_))))))))))))))
  refine WC.seq (WC.region (W.as (W.nil (thn_n ?_))))
  have hC25 : CbR 124 130 b_c xs ((((a2 : Nat) : Int))) ((((((i2 : Nat) : Int)) - (1)))) G23 () ((b_c, .cells (List.toArray [.slice salv24 xs.length sclv24, .int .i64 (((a2 : Nat) : Int)), .int .i64 (((((i2 : Nat) : Int)) - (1)))]) 124 (0, 0)) :: Mllv24) := ⟨_, _, rfl, hLlv24⟩
  refine WC.perm (M' := (((b_c, .cells (List.toArray [.slice salv24 xs.length sclv24, .int .i64 (((a2 : Nat) : Int)), .int .i64 (((((i2 : Nat) : Int)) - (1)))]) 124 (0, 0)) :: Mllv24) ++ [])) (pr9.symm.trans ((pr9.cons _).trans pr9)) (WC.ret (thn_r (blk_r (thn_r (blk_r ?_)))))
  refine ⟨.inr rfl, [_], ⟨rfl, trivial⟩, ((b_c, .cells (List.toArray [.slice salv24 xs.length sclv24, .int .i64 (((a2 : Nat) : Int)), .int .i64 (((((i2 : Nat) : Int)) - (1)))]) 124 (0, 0)) :: Mllv24), List.sublist_append_left _ _, ?_⟩
  have hbw := bwd_at hb1 (by omega) hb2
  rw [hof] at hbw
  exact ⟨congrArg Value.bool (by unfold bwdN; rw [if_neg (by omega)]; rfl), _, _, hbw, hC25⟩
 have p8 := of_decide_eq_false h8
 try dsimp only at p8
 refine WC.skip (thn_n (WC.seq (WC.seq (WC.region (W.mv (W.ok (ok_sub rfl rfl (by omega)) (W.as (W.nil (thn_n (WC.seq (WC.region (W.mv (W.ok (ok_lss rfl rfl) (W.nil (thn_n ?_)))))))))))))))
 refine WC.cond (b := _) rfl (fun h21 => ?_) (fun h21 => ?_)
 ·have p21 := of_decide_eq_true h21
  try dsimp only at p21
  refine WC.seq (WC.region (W.mv (W.call (Mp := M_0) (cnow_fc ho_0 hL) rfl pr9 ?_)))
  intro v29 G26 Ms28 hG26 q27
  refine match q27 with | ⟨e_31, hC30⟩ => ?_
  subst e_31
  refine W.as (W.nil (thn_n (WC.ret (thn_r (blk_r (thn_r (blk_r ?_)))))))
  refine ⟨.inr rfl, [_], ⟨rfl, trivial⟩, Ms28, List.sublist_append_left _ _, ?_⟩
  have hz : offN xs a + i = 0 := by rw [← hof]; have e1 : a2 = 0 := (by omega); have e2 : i2 = 0 := (by omega); rw [e1, e2]; rfl
  exact ⟨congrArg Value.bool (by rw [hz]; rfl), -1, 0, by rw [hz]; exact ⟨rfl, rfl⟩, hC30⟩
 have p21 := of_decide_eq_false h21
 try dsimp only at p21
 refine WC.skip (thn_n (WC.region (W.mv (W.mv (W.call (Mp := M_0) (prows_fc ho_0 hL (a2 - 1) (by omega) (by omega)) rfl pr9 ?_)))))
 intro v35 G32 Ms34 hG32 q33
 refine match q33 with | ⟨hv37, hC36⟩ => ?_
 have q39 := hv37.form
 refine match q39 with | ⟨sa_hv37, sc_hv37, e_38⟩ => ?_
 subst e_38
 refine W.ok (ok_len sl41 hv37 rfl) (W.as (W.nil (blk_n (thn_n ?_))))
 exact ⟨hG32, (((a2 - 1, (viewS (xs[a2 - 1]'(by omega))).length) : Nat × Nat), Ms34), ⟨eqv, eqv, eqv, trivial⟩, ⟨rfl, (by exact hC36), by dsimp only; have h9 := off_succ (xs := xs) (a := a2 - 1) (by omega); rw [show a2 - 1 + 1 = a2 by omega] at h9; omega, by dsimp only; omega, fun _ => ⟨by dsimp only; omega, Nat.le_refl _⟩⟩, by dsimp only; omega⟩

end Go.Proofs.YtebkfinhhpelbaaGreat
namespace Go.Proofs.YtebkfinhhpelbaaGreat
open Go Go.Fw Go.RowKit
theorem cfind1_fc {G : GH} {b_x : Nat} {c0 : Value} {c1 : Value} {c2 : Value} {c3 : Value} {c4 : Value} {c5 : Value} {c6 : Value} {c7 : Value} {c8 : Value} {c9 : Value} {slo : Str} {shi : Str} {so : Bool} {c13 : Value} {c14 : Value} {c15 : Value} (k : Str) {b_k : Nat} (h_k : CellsG G b_k 0 [.string k.b]) :
    Fc Tryz.prog 142 [.pointer (some ⟨b_x, 0, none⟩), .pointer (some ⟨b_k, 0, none⟩)] G [(b_x, .cells (List.toArray [c0, c1, c2, c3, c4, c5, c6, c7, c8, c9, .string slo.b, .string shi.b, .bool so, c13, c14, c15]) 130 (0, 0))] (fun v G' M' => v = .bool (Span.has ⟨slo, shi, so⟩ k) ∧ M' = [(b_x, .cells (List.toArray [c0, c1, c2, c3, c4, c5, c6, c7, c8, c9, .string slo.b, .string shi.b, .bool so, c13, c14, c15]) 130 (0, 0))]) := by
 refine Fc.intro (rs := [.tmp 3]) cl142 Tryz.func142 rfl Tryz.ntmps142 rfl rfl (fun w0 => ?_)
 refine WC.seq (WC.region (W.as (W.nil (thn_n (WC.seq (WC.draw mix (by kernel_rfl) (W.mv (W.ok (ok_nilP rfl) (W.ok (ok_fieldB fd130_1 rfl) (W.ok (ok_loadB (i := 0) (vs := [.string _, .string _, .bool _]) ty52 rfl rfl rfl rfl (by simp)) (W.ok (ok_loadG (vs := [.string _]) ty9 h_k rfl rfl rfl (by simp)) (W.qcall (spanhas_fc _ _ _ _) rfl (W.as (W.nil (thn_n ?_)))))))))))))))
 refine WC.ret ?_
 refine ⟨.inr rfl, [_], ⟨rfl, trivial⟩, [(b_x, .cells (List.toArray [c0, c1, c2, c3, c4, c5, c6, c7, c8, c9, .string slo.b, .string shi.b, .bool so, c13, c14, c15]) 130 (0, 0))], sr9.k9, ?_⟩
 exact ⟨rfl, rfl⟩

theorem ixleaf_fc {G : GH} {v_xs : Value} {xs : List Seat} {Ms_xs : MH} (h_xs : LvR 130 v_xs G xs Ms_xs) (k : Str) {b_k : Nat} (h_k : CellsG G b_k 0 [.string k.b]) :
    Fc Tryz.prog 141 [v_xs, .func (.func 142) #[] #[.pointer (some ⟨b_k, 0, none⟩)]] G Ms_xs (fun v G' M' => v = .int .i64 (idxN (fun x : Seat => x.s.has k) xs) ∧ M' = Ms_xs) := by
 have h_xs0 := h_xs
 obtain ⟨ids, css, hsl, hil, hLE, hpm⟩ := h_xs
 obtain ⟨sa_xs, sc_xs, rfl⟩ := hsl.form
 have hl := hsl.len47
 refine Fc.intro (rs := [.tmp 4]) cl141 Tryz.func141 rfl Tryz.ntmps141 rfl rfl (fun w0 => ?_)
 refine WC.perm (M' := (Ms_xs ++ [])) (by simp) (WC.seq (WC.region (W.as (W.nil (thn_n (WC.seq (WC.seq (WC.region (W.mv (W.ok (ok_len sl122 hsl rfl) (W.mv (W.nil (thn_n (WC.block ?_))))))))))))))
 refine WC.loop (X := Nat) (fun i => [(8, .int .i64 ((i : Nat) : Int)), (0, .slice sa_xs ids.length sc_xs), (1, .func (.func 142) #[] #[.pointer (some ⟨b_k, 0, none⟩)]), (7, .int .i64 (((ids).length : Nat) : Int))]) (fun i _ Ml => Ml = (Ms_xs ++ []) ∧ i ≤ ids.length ∧ ∀ j (h : j < xs.length), j < i → (fun x : Seat => x.s.has k) xs[j] = false) (fun i => ids.length - i) 0 ⟨eqv, eqv, eqv, eqv, trivial⟩ ?_ ?_
 ·exact ⟨rfl, by omega, fun j _ h => by omega⟩
 rintro i gG1 G1 _ hG1 ⟨rfl, hi, hj⟩
 refine WC.seq (WC.region (W.ok (ok_lss rfl rfl) (W.nil (thn_n (WC.seq ?_)))))
 refine WC.cond (b := _) rfl (fun h9 => ?_) (fun h9 => ?_)
 ·have p9 := of_decide_eq_true h9
  refine WC.skip (thn_n (WC.seq (WC.block (WC.seq (WC.region (W.mv (W.as (W.nil (thn_n (WC.seq (WC.region (W.mv (W.mv (W.mv ?_))))))))))))))
  have q4 := (hsl.mono hG1).at (i := i) (by omega)
  refine match q4 with | ⟨_, he2, e_3⟩ => ?_
  subst e_3
  refine W.ok (ok_indexAddr (i := i) sl122 ty127 (hsl.mono hG1) rfl rfl ⟨by omega, by omega⟩) (W.ok (ok_loadE (vs := [.pointer _]) ty127 he2 rfl rfl rfl (by simp)) ?_)
  obtain ⟨cs0, R0, hlf, hp0, _⟩ := lv_at (TL := 130) (ids := ids) (css := css) (xs := xs) i (by omega) (by have := hLE.len; omega) (hLE.mono (hG1)) (by omega)
  obtain ⟨cn, vm, vr, kn, rfl, hN, hM, hV⟩ := hlf
  obtain ⟨pa_n, pc_n, ka_n, kc_n, ma_n, mc_n, ra_n, rc_n, rfl, hp_n, hk_n, hm_n, hr_n, hok_n⟩ := hN
  refine W.callV (fst := []) (caps := [.pointer (some ⟨b_k, 0, none⟩)]) (Mp := [((ids[i]'(by omega)), .cells (List.toArray [.int .i64 (xs[i]'(by omega)).n.slot, .int .i64 (xs[i]'(by omega)).n.level, .slice pa_n ((xs[i]'(by omega)).n.pivots).length pc_n, .slice ka_n ((xs[i]'(by omega)).n.kids).length kc_n, .string (xs[i]'(by omega)).n.high.b, .bool (xs[i]'(by omega)).n.top, .int .i64 (xs[i]'(by omega)).n.right, .int .i64 (xs[i]'(by omega)).n.seen, .slice ma_n ((xs[i]'(by omega)).n.msgs).length mc_n, .slice ra_n ((xs[i]'(by omega)).n.rows).length rc_n, .string (xs[i]'(by omega)).s.lo.b, .string (xs[i]'(by omega)).s.hi.b, .bool (xs[i]'(by omega)).s.opn, vm, vr, .bool kn]) 130 (0, 0))]) (Mr := R0 ++ []) rfl (cfind1_fc k (h_k.mono hG1)) rfl ((hp0.trans hpm.symm).append_right []) ?_
  intro v8 G5 Ms7 hG5 q6
  refine match q6 with | ⟨e_9, e_10⟩ => ?_
  subst e_9
  subst e_10
  refine W.perm (M' := (Ms_xs ++ [])) ((hp0.trans hpm.symm).append_right []).symm (W.nil (thn_n ?_))
  refine WC.cond (b := _) rfl (fun h16 => ?_) (fun h16 => ?_)
  ·refine WC.seq (WC.region (W.mv (W.as (W.nil (thn_n (WC.ret (blk_r (thn_r (thn_r (blk_r (thn_r ?_)))))))))))
   refine ⟨.inr rfl, [_], ⟨rfl, trivial⟩, Ms_xs, List.sublist_append_left _ _, ?_⟩
   refine ⟨congrArg (Value.int .i64) ?_, rfl⟩
   exact (idxN_at (by omega) (h16) hj).symm
  refine WC.skip (blk_n (thn_n (WC.region (W.ok (ok_add rfl rfl (by omega)) (W.mv (W.nil (thn_n ?_)))))))
  exact ⟨hG5, i + 1, ⟨eqv, eqv, eqv, eqv, trivial⟩, ⟨rfl, by omega, fun j h hji => by
      by_cases e2 : j = i
      · subst e2; exact h16
      · exact hj j h (by omega)⟩, by omega⟩
 have p9 := of_decide_eq_false h9
 refine WC.exit (thn_x (thn_x (blk_h (thn_n (WC.seq (WC.region (W.as (W.nil (thn_n (WC.ret ?_))))))))))
 refine ⟨.inr rfl, [_], ⟨rfl, trivial⟩, Ms_xs, List.sublist_append_left _ _, ?_⟩
 refine ⟨congrArg (Value.int .i64) ?_, rfl⟩
 exact (idxN_no (fun j h => hj j h (by omega))).symm

theorem cfind_fc {G : GH} {b_c : Nat} {a9 i9 : Int} {xs : List Seat} {Ms_c : MH} (h_c : CbR 124 130 b_c xs a9 i9 G () Ms_c) (hL : LvF xs) (k : Str) :
    Fc Tryz.prog 79 [.pointer (some ⟨b_c, 0, none⟩), .string k.b] G Ms_c (fun v G' M' => ∃ a i : Nat, v = .tuple #[.int .i64 (a : Int), .int .i64 (i : Int)] ∧ (∃ h : a < xs.length, i ≤ (viewS (xs[a]'h)).length) ∧ offN xs a + i = fndN (xs.flatMap viewS) k ∧ CbR 124 130 b_c xs a9 i9 G' () M') := by
 have hxl := hL.len
 refine Fc.intro (rs := [.tmp 4, .tmp 5]) cl79 Tryz.func79 rfl Tryz.ntmps79 rfl rfl (fun w0 => ?_)
 refine WC.perm (M' := (Ms_c ++ [])) (by simp) (WC.seq (WC.region (W.box (L := [.string _]) rfl rfl (fun b11 => (W.as (W.as (W.nil (thn_n (WC.seq ?_)))))))))
 obtain ⟨vlv12, Mllv12, eMlv12, hLlv12⟩ := h_c
 subst eMlv12
 obtain ⟨salv12, sclv12, idslv12, elv12, hillv12, hsllv12⟩ := hLlv12.form
 subst elv12
 refine WC.perm (M' := ((b_c, .cells (List.toArray [.slice salv12 xs.length sclv12, .int .i64 a9, .int .i64 i9]) 124 (0, 0)) :: ((b11, .cells (List.toArray [.string k.b]) 9 (0, 0)) :: (Mllv12 ++ [])))) (pmD pr9).symm (WC.region (W.mv (W.ok (ok_nilP rfl) (W.ok (ok_fieldB fd124_0 rfl) (W.ok (ok_loadB (i := 0) (vs := [.slice _ _ _]) ty122 rfl rfl rfl rfl (by simp)) (W.giveB (b := b11) (L := [.string _]) ((List.Perm.swap _ _ _).trans (pr9.cons _)) (fun G13 hG13 hc13 => (W.ok (ok_makeFn (fst := []) (caps := [.tmp 3]) (vs := []) (ws := [.pointer (some ⟨b11, 0, none⟩)]) rfl rfl) (W.call (Mp := Mllv12) (ixleaf_fc (LvR.mono hG13 hLlv12) k hc13) rfl (pmC pr9) ?_)))))))))
 intro v17 G14 Ms16 hG14 q15
 have q18 := hL.idx k
 refine match q18 with | ⟨ai, hai, hidx, hax⟩ => ?_
 rw [hidx] at q15
 refine match q15 with | ⟨e_19, eeq15⟩ => ?_
 subst e_19
 have eeq15 := eeq15.symm
 subst eeq15
 refine W.perm (pmC pr9).symm (W.as (W.nil (thn_n (WC.seq (WC.seq (WC.region (W.mv (W.ok (ok_lss rfl rfl) (W.nil (thn_n ?_))))))))))
 refine WC.cond (b := _) rfl (fun h13 => ?_) (fun h13 => ?_)
 ·have p13 := of_decide_eq_true h13
  exfalso; omega
 have p13 := of_decide_eq_false h13
 refine WC.skip (thn_n (WC.seq ?_))
 have hC20 : CbR 124 130 b_c xs a9 i9 G14 () ((b_c, .cells (List.toArray [.slice salv12 xs.length sclv12, .int .i64 a9, .int .i64 i9]) 124 (0, 0)) :: Mllv12) := ⟨_, _, rfl, (LvR.mono (hG13.trans hG14) hLlv12)⟩
 refine WC.perm (M' := (((b_c, .cells (List.toArray [.slice salv12 xs.length sclv12, .int .i64 a9, .int .i64 i9]) 124 (0, 0)) :: Mllv12) ++ [])) (pr9.symm.trans ((pr9.cons _).trans pr9)) (WC.drawW _ sn9 mix (by rintro _ _ _ _ ⟨h | h, _⟩ <;> cases h) (WD.tk 0 rfl (ok_mv) (WD.tk 1 rfl (ok_mv) (WD.tk 3 rfl (ok_loadG (vs := [.string _]) ty9 (hc13.mono hG14) rfl rfl rfl (by simp)) (WD.a1 2 rfl (W.call (Mp := ((b_c, .cells (List.toArray [.slice salv12 xs.length sclv12, .int .i64 a9, .int .i64 i9]) 124 (0, 0)) :: Mllv12)) (prows_fc hC20 hL (ai) (by omega) (by omega)) rfl pr9 ?_))))))
 intro v24 G21 Ms23 hG21 q22
 refine match q22 with | ⟨hv26, hC25⟩ => ?_
 have q28 := hv26.form
 refine match q28 with | ⟨sa_hv26, sc_hv26, e_27⟩ => ?_
 subst e_27
 refine W.nil (WD.n9 hG21 sn9 (WD.a1 4 rfl (W.qcall (rfind_fc hv26 k (LeafF.vsrt hL hai)) rfl (W.nil (WD.n9 Le.rfl sn9 (WD.tk 5 rfl (ok_mv) (WD.tk 6 rfl (ok_extract rfl rfl) (WD.tk 7 rfl (ok_extract rfl rfl) (WD.tk 8 rfl (ok_as) (WD.done (by kernel_rfl) (thn_n (WC.seq (WC.region (W.mv (W.mv (W.as ?_))))))))))))))))
 refine W.as (W.nil (thn_n (WC.ret ?_)))
 refine ⟨.inr rfl, [_, _], ⟨rfl, rfl, trivial⟩, Ms23, List.sublist_append_left _ _, ?_⟩
 exact ⟨ai, _, rfl, ⟨hai, fndN_le _ _⟩, hL.find hai hax, hC25⟩

end Go.Proofs.YtebkfinhhpelbaaGreat
