/- Walks of what a cursor does. -/
import Derived.Test.YtebkfinhhpelbaaGreatQaUx
set_option maxRecDepth 100000
set_option maxHeartbeats 1600000
set_option linter.unusedVariables false
set_option linter.unusedSimpArgs false
set_option linter.unnecessarySimpa false
namespace Go.Proofs.YtebkfinhhpelbaaGreat
open Go Go.Fw Go.RowKit
theorem cseek_fc {G : GH} {b_c : Nat} {a9 i9 : Int} {xs : List Seat} {Ms_c : MH} (h_c : CbR 124 130 b_c xs a9 i9 G () Ms_c) (hL : LvF xs) (k : Str) :
    Fc Tryz.prog 31 [.pointer (some ⟨b_c, 0, none⟩), .string k.b] G Ms_c (fun v G' M' => v = .bool (fwdN (totP xs) (fndN (xs.flatMap viewS) k)).isSome ∧ CuR 124 130 b_c xs G' (fwdN (totP xs) (fndN (xs.flatMap viewS) k)) M') := by
 have hxl := hL.len
 refine Fc.intro (rs := [.tmp 4]) cl31 Tryz.func31 rfl Tryz.ntmps31 rfl rfl (fun w0 => ?_)
 refine WC.perm (M' := (Ms_c ++ [])) (by simp) (WC.seq (WC.region (W.as (W.nil (thn_n (WC.seq (WC.seq (WC.region (W.mv (W.ok (ok_eqlPN pp60 rfl rfl) (W.nil (thn_n (WC.cond_f rfl rfl (WC.skip (thn_n (WC.seq ?_))))))))))))))))
 refine WC.region (W.mv (W.mv (W.mv (W.call (Mp := Ms_c) (cfind_fc h_c hL k) rfl pr9 ?_))))
 intro v4 G1 Ms3 hG1 q2
 refine match q2 with | ⟨ak, ik, e_6, hak, hof, hC5⟩ => ?_
 subst e_6
 refine W.ok (ok_extract rfl rfl) (W.ok (ok_extract rfl rfl) (W.call (Mp := Ms3) (cahead_fc hC5 hL ak ik (by obtain ⟨h, _⟩ := hak; omega) (fun _ => hak.2)) rfl pr9 ?_))
 intro v10 G7 Ms9 hG7 q8
 refine match q8 with | ⟨e_12, hC11⟩ => ?_
 subst e_12
 refine W.perm (M' := (Ms9 ++ [])) pr9.symm (W.as (W.nil (thn_n (WC.ret ?_))))
 refine ⟨.inr rfl, [_], ⟨rfl, trivial⟩, Ms9, List.sublist_append_left _ _, ?_⟩
 rw [hof] at hC11 ⊢
 exact ⟨rfl, hC11⟩

theorem cbefore_fc {G : GH} {b_c : Nat} {a9 i9 : Int} {xs : List Seat} {Ms_c : MH} (h_c : CbR 124 130 b_c xs a9 i9 G () Ms_c) (hL : LvF xs) (k : Str) :
    Fc Tryz.prog 32 [.pointer (some ⟨b_c, 0, none⟩), .string k.b] G Ms_c (fun v G' M' => v = .bool (bwdN (fndN (xs.flatMap viewS) k)).isSome ∧ CuR 124 130 b_c xs G' (bwdN (fndN (xs.flatMap viewS) k)) M') := by
 have hxl := hL.len
 refine Fc.intro (rs := [.tmp 4]) cl32 Tryz.func32 rfl Tryz.ntmps32 rfl rfl (fun w0 => ?_)
 refine WC.perm (M' := (Ms_c ++ [])) (by simp) (WC.seq (WC.region (W.as (W.nil (thn_n (WC.seq (WC.seq (WC.region (W.mv (W.ok (ok_eqlPN pp60 rfl rfl) (W.nil (thn_n (WC.cond_f rfl rfl (WC.skip (thn_n (WC.seq ?_))))))))))))))))
 refine WC.region (W.mv (W.mv (W.mv (W.call (Mp := Ms_c) (cfind_fc h_c hL k) rfl pr9 ?_))))
 intro v16 G13 Ms15 hG13 q14
 refine match q14 with | ⟨ak, ik, e_18, hak, hof, hC17⟩ => ?_
 subst e_18
 refine W.ok (ok_extract rfl rfl) (W.ok (ok_extract rfl rfl) (W.call (Mp := Ms15) (cback_fc hC17 hL ak ik (by obtain ⟨h, _⟩ := hak; omega) (fun _ => hak)) rfl pr9 ?_))
 intro v22 G19 Ms21 hG19 q20
 refine match q20 with | ⟨e_24, hC23⟩ => ?_
 subst e_24
 refine W.perm (M' := (Ms21 ++ [])) pr9.symm (W.as (W.nil (thn_n (WC.ret ?_))))
 refine ⟨.inr rfl, [_], ⟨rfl, trivial⟩, Ms21, List.sublist_append_left _ _, ?_⟩
 rw [hof] at hC23 ⊢
 exact ⟨rfl, hC23⟩

theorem cnext0_fc {G : GH} {b_c : Nat} {xs : List Seat} {Ms_c : MH} (h_c : CbR 124 130 b_c xs (-1) 0 G () Ms_c) (hL : LvF xs) :
    Fc Tryz.prog 33 [.pointer (some ⟨b_c, 0, none⟩)] G Ms_c (fun v G' M' => v = .bool false ∧ CbR 124 130 b_c xs (-1) 0 G' () M') := by
 refine Fc.intro (rs := [.tmp 2]) cl33 Tryz.func33 rfl Tryz.ntmps33 rfl rfl (fun w0 => ?_)
 refine WC.perm (M' := (Ms_c ++ [])) (by simp) (WC.seq (WC.region (W.as (W.nil (thn_n (WC.seq (WC.seq ?_)))))))
 obtain ⟨vlv25, Mllv25, eMlv25, hLlv25⟩ := h_c
 subst eMlv25
 obtain ⟨salv25, sclv25, idslv25, elv25, hillv25, hsllv25⟩ := hLlv25.form
 subst elv25
 refine WC.perm (M' := ((b_c, .cells (List.toArray [.slice salv25 xs.length sclv25, .int .i64 (-1), .int .i64 0]) 124 (0, 0)) :: (Mllv25 ++ []))) pr9.symm (WC.region (W.mv (W.ok (ok_eqlPN pp60 rfl rfl) (W.mv (W.yes (dj := 5) rfl rfl rfl (W.mv (W.yes (dj := 5) rfl rfl rfl (W.ok (ok_nilP rfl) (W.yes (dj := 5) rfl rfl rfl (W.ok (ok_fieldB fd124_1 rfl) (W.yes (dj := 5) rfl rfl rfl (W.ok (ok_loadB (i := 0) (vs := [.int .i64 _]) ty3 rfl rfl rfl rfl (by simp)) (W.yes (dj := 5) rfl rfl rfl ?_)))))))))))))
 refine W.ok (ok_lss rfl rfl) (W.ok (ok_pick_f rfl rfl) (W.nil (thn_n ?_)))
 refine WC.cond (b := _) rfl (fun h10 => ?_) (fun h10 => ?_)
 ·have p10 := of_decide_eq_true h10
  refine WC.seq (WC.region (W.as (W.nil (thn_n ?_))))
  have hC26 : CbR 124 130 b_c xs (-1) 0 G () ((b_c, .cells (List.toArray [.slice salv25 xs.length sclv25, .int .i64 (-1), .int .i64 0]) 124 (0, 0)) :: Mllv25) := ⟨_, _, rfl, hLlv25⟩
  refine WC.perm (M' := (((b_c, .cells (List.toArray [.slice salv25 xs.length sclv25, .int .i64 (-1), .int .i64 0]) 124 (0, 0)) :: Mllv25) ++ [])) (pr9.symm.trans ((pr9.cons _).trans pr9)) (WC.ret (thn_r ?_))
  refine ⟨.inr rfl, [_], ⟨rfl, trivial⟩, ((b_c, .cells (List.toArray [.slice salv25 xs.length sclv25, .int .i64 (-1), .int .i64 0]) 124 (0, 0)) :: Mllv25), List.sublist_append_left _ _, ?_⟩
  exact ⟨rfl, hC26⟩
 have p10 := of_decide_eq_false h10
 exfalso; omega

theorem cnext1_fc {G : GH} {b_c : Nat} {xs : List Seat} {Ms_c : MH} {a9 j9 : Nat} (h_c : CbR 124 130 b_c xs (((a9 : Nat) : Int)) (((j9 : Nat) : Int)) G () Ms_c) (hL : LvF xs) (ha : a9 < xs.length) (hj : j9 < (viewS (xs[a9]'ha)).length) :
    Fc Tryz.prog 33 [.pointer (some ⟨b_c, 0, none⟩)] G Ms_c (fun v G' M' => v = .bool (fwdN (totP xs) (offN xs a9 + (j9 + 1))).isSome ∧ CuR 124 130 b_c xs G' (fwdN (totP xs) (offN xs a9 + (j9 + 1))) M') := by
 have hxl := hL.len
 have hvl := (hL.leaf _ (List.getElem_mem ha)).vlen
 refine Fc.intro (rs := [.tmp 2]) cl33 Tryz.func33 rfl Tryz.ntmps33 rfl rfl (fun w0 => ?_)
 refine WC.perm (M' := (Ms_c ++ [])) (by simp) (WC.seq (WC.region (W.as (W.nil (thn_n (WC.seq (WC.seq ?_)))))))
 obtain ⟨vlv27, Mllv27, eMlv27, hLlv27⟩ := h_c
 subst eMlv27
 obtain ⟨salv27, sclv27, idslv27, elv27, hillv27, hsllv27⟩ := hLlv27.form
 subst elv27
 refine WC.perm (M' := ((b_c, .cells (List.toArray [.slice salv27 xs.length sclv27, .int .i64 (((a9 : Nat) : Int)), .int .i64 (((j9 : Nat) : Int))]) 124 (0, 0)) :: (Mllv27 ++ []))) pr9.symm (WC.region (W.mv (W.ok (ok_eqlPN pp60 rfl rfl) (W.mv (W.yes (dj := 5) rfl rfl rfl (W.mv (W.yes (dj := 5) rfl rfl rfl (W.ok (ok_nilP rfl) (W.yes (dj := 5) rfl rfl rfl (W.ok (ok_fieldB fd124_1 rfl) (W.yes (dj := 5) rfl rfl rfl (W.ok (ok_loadB (i := 0) (vs := [.int .i64 _]) ty3 rfl rfl rfl rfl (by simp)) (W.yes (dj := 5) rfl rfl rfl ?_)))))))))))))
 refine W.ok (ok_lss rfl rfl) (W.ok (ok_pick_f rfl rfl) (W.nil (thn_n ?_)))
 refine WC.cond (b := _) rfl (fun h10 => ?_) (fun h10 => ?_)
 ·have p10 := of_decide_eq_true h10
  exfalso; omega
 have p10 := of_decide_eq_false h10
 refine WC.skip (thn_n (WC.seq (WC.drawW _ (sn9.cons _) mix (by rintro _ _ _ _ ⟨h | h, _⟩ <;> cases h) (WD.tk 0 rfl (ok_mv) (WD.tk 1 rfl (ok_mv) (WD.tk 2 rfl (ok_nilP rfl) (WD.tk 3 rfl (ok_fieldB fd124_1 rfl) (WD.tk 5 rfl (ok_mv) (WD.tk 6 rfl (ok_nilP rfl) (WD.tk 7 rfl (ok_fieldB fd124_2 rfl) ?_))))))))))
 refine WD.any [4, 8] (by kernel_rfl) rfl ⟨⟨_, rfl, rfl, ?_⟩, ⟨_, rfl, rfl, ?_⟩, trivial⟩
 ·refine W.ok (ok_loadB (i := 0) (vs := [.int .i64 _]) ty3 rfl rfl rfl rfl (by simp)) (W.nil (WD.n9 Le.rfl (sn9.cons _) (WD.a1 8 rfl (W.ok (ok_loadB (i := 0) (vs := [.int .i64 _]) ty3 rfl rfl rfl rfl (by simp)) (W.nil (WD.n9 Le.rfl (sn9.cons _) (WD.tk 9 rfl (ok_add rfl rfl (by omega)) (WD.a1 10 rfl (W.call (Mp := ((b_c, .cells (List.toArray [.slice salv27 xs.length sclv27, .int .i64 (((a9 : Nat) : Int)), .int .i64 (((j9 : Nat) : Int))]) 124 (0, 0)) :: Mllv27)) (Mr := []) (cahead_fc ⟨_, _, rfl, hLlv27⟩ hL a9 (j9 + 1) (by omega) (fun _ => by omega)) rfl ((pr9.cons _).trans pr9) ?_)))))))))
  intro v31 G28 Ms30 hG28 q29
  refine match q29 with | ⟨e_33, hC32⟩ => ?_
  subst e_33
  refine W.nil (WD.n9 hG28 sn9 (WD.tk 11 rfl (ok_as) (WD.done (by kernel_rfl) (thn_n (WC.ret ?_)))))
  refine ⟨.inr rfl, [_], ⟨rfl, trivial⟩, Ms30, List.sublist_append_left _ _, ?_⟩
  exact ⟨rfl, hC32⟩
 refine W.ok (ok_loadB (i := 0) (vs := [.int .i64 _]) ty3 rfl rfl rfl rfl (by simp)) (W.nil (WD.n9 Le.rfl (sn9.cons _) (WD.tk 9 rfl (ok_add rfl rfl (by omega)) (WD.a1 4 rfl (W.ok (ok_loadB (i := 0) (vs := [.int .i64 _]) ty3 rfl rfl rfl rfl (by simp)) (W.nil (WD.n9 Le.rfl (sn9.cons _) (WD.a1 10 rfl (W.call (Mp := ((b_c, .cells (List.toArray [.slice salv27 xs.length sclv27, .int .i64 (((a9 : Nat) : Int)), .int .i64 (((j9 : Nat) : Int))]) 124 (0, 0)) :: Mllv27)) (Mr := []) (cahead_fc ⟨_, _, rfl, hLlv27⟩ hL a9 (j9 + 1) (by omega) (fun _ => by omega)) rfl ((pr9.cons _).trans pr9) ?_)))))))))
 intro v37 G34 Ms36 hG34 q35
 refine match q35 with | ⟨e_39, hC38⟩ => ?_
 subst e_39
 refine W.nil (WD.n9 hG34 sn9 (WD.tk 11 rfl (ok_as) (WD.done (by kernel_rfl) (thn_n (WC.ret ?_)))))
 refine ⟨.inr rfl, [_], ⟨rfl, trivial⟩, Ms36, List.sublist_append_left _ _, ?_⟩
 exact ⟨rfl, hC38⟩

theorem cprev0_fc {G : GH} {b_c : Nat} {xs : List Seat} {Ms_c : MH} (h_c : CbR 124 130 b_c xs (-1) 0 G () Ms_c) (hL : LvF xs) :
    Fc Tryz.prog 34 [.pointer (some ⟨b_c, 0, none⟩)] G Ms_c (fun v G' M' => v = .bool false ∧ CbR 124 130 b_c xs (-1) 0 G' () M') := by
 refine Fc.intro (rs := [.tmp 2]) cl34 Tryz.func34 rfl Tryz.ntmps34 rfl rfl (fun w0 => ?_)
 refine WC.perm (M' := (Ms_c ++ [])) (by simp) (WC.seq (WC.region (W.as (W.nil (thn_n (WC.seq (WC.seq ?_)))))))
 obtain ⟨vlv40, Mllv40, eMlv40, hLlv40⟩ := h_c
 subst eMlv40
 obtain ⟨salv40, sclv40, idslv40, elv40, hillv40, hsllv40⟩ := hLlv40.form
 subst elv40
 refine WC.perm (M' := ((b_c, .cells (List.toArray [.slice salv40 xs.length sclv40, .int .i64 (-1), .int .i64 0]) 124 (0, 0)) :: (Mllv40 ++ []))) pr9.symm (WC.region (W.mv (W.ok (ok_eqlPN pp60 rfl rfl) (W.mv (W.yes (dj := 5) rfl rfl rfl (W.mv (W.yes (dj := 5) rfl rfl rfl (W.ok (ok_nilP rfl) (W.yes (dj := 5) rfl rfl rfl (W.ok (ok_fieldB fd124_1 rfl) (W.yes (dj := 5) rfl rfl rfl (W.ok (ok_loadB (i := 0) (vs := [.int .i64 _]) ty3 rfl rfl rfl rfl (by simp)) (W.yes (dj := 5) rfl rfl rfl ?_)))))))))))))
 refine W.ok (ok_lss rfl rfl) (W.ok (ok_pick_f rfl rfl) (W.nil (thn_n ?_)))
 refine WC.cond (b := _) rfl (fun h10 => ?_) (fun h10 => ?_)
 ·have p10 := of_decide_eq_true h10
  refine WC.seq (WC.region (W.as (W.nil (thn_n ?_))))
  have hC41 : CbR 124 130 b_c xs (-1) 0 G () ((b_c, .cells (List.toArray [.slice salv40 xs.length sclv40, .int .i64 (-1), .int .i64 0]) 124 (0, 0)) :: Mllv40) := ⟨_, _, rfl, hLlv40⟩
  refine WC.perm (M' := (((b_c, .cells (List.toArray [.slice salv40 xs.length sclv40, .int .i64 (-1), .int .i64 0]) 124 (0, 0)) :: Mllv40) ++ [])) (pr9.symm.trans ((pr9.cons _).trans pr9)) (WC.ret (thn_r ?_))
  refine ⟨.inr rfl, [_], ⟨rfl, trivial⟩, ((b_c, .cells (List.toArray [.slice salv40 xs.length sclv40, .int .i64 (-1), .int .i64 0]) 124 (0, 0)) :: Mllv40), List.sublist_append_left _ _, ?_⟩
  exact ⟨rfl, hC41⟩
 have p10 := of_decide_eq_false h10
 exfalso; omega

theorem cprev1_fc {G : GH} {b_c : Nat} {xs : List Seat} {Ms_c : MH} {a9 j9 : Nat} (h_c : CbR 124 130 b_c xs (((a9 : Nat) : Int)) (((j9 : Nat) : Int)) G () Ms_c) (hL : LvF xs) (ha : a9 < xs.length) (hj : j9 < (viewS (xs[a9]'ha)).length) :
    Fc Tryz.prog 34 [.pointer (some ⟨b_c, 0, none⟩)] G Ms_c (fun v G' M' => v = .bool (bwdN (offN xs a9 + j9)).isSome ∧ CuR 124 130 b_c xs G' (bwdN (offN xs a9 + j9)) M') := by
 have hxl := hL.len
 have hvl := (hL.leaf _ (List.getElem_mem ha)).vlen
 refine Fc.intro (rs := [.tmp 2]) cl34 Tryz.func34 rfl Tryz.ntmps34 rfl rfl (fun w0 => ?_)
 refine WC.perm (M' := (Ms_c ++ [])) (by simp) (WC.seq (WC.region (W.as (W.nil (thn_n (WC.seq (WC.seq ?_)))))))
 obtain ⟨vlv42, Mllv42, eMlv42, hLlv42⟩ := h_c
 subst eMlv42
 obtain ⟨salv42, sclv42, idslv42, elv42, hillv42, hsllv42⟩ := hLlv42.form
 subst elv42
 refine WC.perm (M' := ((b_c, .cells (List.toArray [.slice salv42 xs.length sclv42, .int .i64 (((a9 : Nat) : Int)), .int .i64 (((j9 : Nat) : Int))]) 124 (0, 0)) :: (Mllv42 ++ []))) pr9.symm (WC.region (W.mv (W.ok (ok_eqlPN pp60 rfl rfl) (W.mv (W.yes (dj := 5) rfl rfl rfl (W.mv (W.yes (dj := 5) rfl rfl rfl (W.ok (ok_nilP rfl) (W.yes (dj := 5) rfl rfl rfl (W.ok (ok_fieldB fd124_1 rfl) (W.yes (dj := 5) rfl rfl rfl (W.ok (ok_loadB (i := 0) (vs := [.int .i64 _]) ty3 rfl rfl rfl rfl (by simp)) (W.yes (dj := 5) rfl rfl rfl ?_)))))))))))))
 refine W.ok (ok_lss rfl rfl) (W.ok (ok_pick_f rfl rfl) (W.nil (thn_n ?_)))
 refine WC.cond (b := _) rfl (fun h10 => ?_) (fun h10 => ?_)
 ·have p10 := of_decide_eq_true h10
  exfalso; omega
 have p10 := of_decide_eq_false h10
 refine WC.skip (thn_n (WC.seq (WC.drawW _ (sn9.cons _) mix (by rintro _ _ _ _ ⟨h | h, _⟩ <;> cases h) (WD.tk 0 rfl (ok_mv) (WD.tk 1 rfl (ok_mv) (WD.tk 2 rfl (ok_nilP rfl) (WD.tk 3 rfl (ok_fieldB fd124_1 rfl) (WD.tk 5 rfl (ok_mv) (WD.tk 6 rfl (ok_nilP rfl) (WD.tk 7 rfl (ok_fieldB fd124_2 rfl) ?_))))))))))
 refine WD.any [4, 8] (by kernel_rfl) rfl ⟨⟨_, rfl, rfl, ?_⟩, ⟨_, rfl, rfl, ?_⟩, trivial⟩
 ·refine W.ok (ok_loadB (i := 0) (vs := [.int .i64 _]) ty3 rfl rfl rfl rfl (by simp)) (W.nil (WD.n9 Le.rfl (sn9.cons _) (WD.a1 8 rfl (W.ok (ok_loadB (i := 0) (vs := [.int .i64 _]) ty3 rfl rfl rfl rfl (by simp)) (W.nil (WD.n9 Le.rfl (sn9.cons _) (WD.a1 9 rfl (W.call (Mp := ((b_c, .cells (List.toArray [.slice salv42 xs.length sclv42, .int .i64 (((a9 : Nat) : Int)), .int .i64 (((j9 : Nat) : Int))]) 124 (0, 0)) :: Mllv42)) (Mr := []) (cback_fc ⟨_, _, rfl, hLlv42⟩ hL a9 j9 (by omega) (fun _ => ⟨ha, by omega⟩)) rfl ((pr9.cons _).trans pr9) ?_))))))))
  intro v46 G43 Ms45 hG43 q44
  refine match q44 with | ⟨e_48, hC47⟩ => ?_
  subst e_48
  refine W.nil (WD.n9 hG43 sn9 (WD.tk 10 rfl (ok_as) (WD.done (by kernel_rfl) (thn_n (WC.ret ?_)))))
  refine ⟨.inr rfl, [_], ⟨rfl, trivial⟩, Ms45, List.sublist_append_left _ _, ?_⟩
  exact ⟨rfl, hC47⟩
 refine W.ok (ok_loadB (i := 0) (vs := [.int .i64 _]) ty3 rfl rfl rfl rfl (by simp)) (W.nil (WD.n9 Le.rfl (sn9.cons _) (WD.a1 4 rfl (W.ok (ok_loadB (i := 0) (vs := [.int .i64 _]) ty3 rfl rfl rfl rfl (by simp)) (W.nil (WD.n9 Le.rfl (sn9.cons _) (WD.a1 9 rfl (W.call (Mp := ((b_c, .cells (List.toArray [.slice salv42 xs.length sclv42, .int .i64 (((a9 : Nat) : Int)), .int .i64 (((j9 : Nat) : Int))]) 124 (0, 0)) :: Mllv42)) (Mr := []) (cback_fc ⟨_, _, rfl, hLlv42⟩ hL a9 j9 (by omega) (fun _ => ⟨ha, by omega⟩)) rfl ((pr9.cons _).trans pr9) ?_))))))))
 intro v52 G49 Ms51 hG49 q50
 refine match q50 with | ⟨e_54, hC53⟩ => ?_
 subst e_54
 refine W.nil (WD.n9 hG49 sn9 (WD.tk 10 rfl (ok_as) (WD.done (by kernel_rfl) (thn_n (WC.ret ?_)))))
 refine ⟨.inr rfl, [_], ⟨rfl, trivial⟩, Ms51, List.sublist_append_left _ _, ?_⟩
 exact ⟨rfl, hC53⟩

theorem cnext_fc {G : GH} {b_c : Nat} {xs : List Seat} {Ms_c : MH} {q : Option Nat} (h_c : CuR 124 130 b_c xs G q Ms_c) (hL : LvF xs) : Fc Tryz.prog 33 [.pointer (some ⟨b_c, 0, none⟩)] G Ms_c (fun v G' M' => v = .bool (nxtN (totP xs) q).isSome ∧ CuR 124 130 b_c xs G' (nxtN (totP xs) q) M') := by
  obtain ⟨a, i, hP, hC⟩ := h_c
  cases q with
  | none =>
    obtain ⟨rfl, rfl⟩ := hP
    exact (cnext0_fc hC hL).mono fun v G' M' _ ⟨e1, e2⟩ => ⟨e1, -1, 0, ⟨rfl, rfl⟩, e2⟩
  | some f =>
    obtain ⟨b, j, rfl, rfl, h1, h2, rfl⟩ := hP
    exact cnext1_fc hC hL h1 h2
theorem cprev_fc {G : GH} {b_c : Nat} {xs : List Seat} {Ms_c : MH} {q : Option Nat} (h_c : CuR 124 130 b_c xs G q Ms_c) (hL : LvF xs) : Fc Tryz.prog 34 [.pointer (some ⟨b_c, 0, none⟩)] G Ms_c (fun v G' M' => v = .bool (prvN q).isSome ∧ CuR 124 130 b_c xs G' (prvN q) M') := by
  obtain ⟨a, i, hP, hC⟩ := h_c
  cases q with
  | none =>
    obtain ⟨rfl, rfl⟩ := hP
    exact (cprev0_fc hC hL).mono fun v G' M' _ ⟨e1, e2⟩ => ⟨e1, -1, 0, ⟨rfl, rfl⟩, e2⟩
  | some f =>
    obtain ⟨b, j, rfl, rfl, h1, h2, rfl⟩ := hP
    exact cprev1_fc hC hL h1 h2
end Go.Proofs.YtebkfinhhpelbaaGreat
