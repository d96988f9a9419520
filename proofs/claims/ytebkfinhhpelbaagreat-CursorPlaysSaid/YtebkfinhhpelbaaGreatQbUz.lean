/- Walks of what a cursor does. -/
import Derived.Test.YtebkfinhhpelbaaGreatQbUx
set_option maxRecDepth 100000
set_option maxHeartbeats 1600000
set_option linter.unusedVariables false
set_option linter.unusedSimpArgs false
set_option linter.unnecessarySimpa false
namespace Go.Proofs.YtebkfinhhpelbaaGreat
open Go Go.Fw Go.RowKit
theorem cseek_fc {G : GH} {b_c : Nat} {a9 i9 : Int} {xs : List Seat} {Ms_c : MH} (h_c : CbR 124 130 b_c xs a9 i9 G () Ms_c) (hL : LvF xs) (k : Str) :
    Fc Tryz.prog 31 [.pointer (some ⟨b_c, 0, none⟩), .string k.b] G Ms_c (fun v G' M' => v = .bool (fwdN (totP xs) (fndN (xs.flatMap viewS) k)).isSome ∧ CuR 124 130 b_c xs G' (fwdN (totP xs) (fndN (xs.flatMap viewS) k)) M') := by
 have hxl := hL.len
 refine Fc.intro (rs := [.tmp 4]) cl31 Tryz.func31 rfl Tryz.ntmps31 rfl rfl (fun w0 => ?_)
 refine WC.perm (M' := (Ms_c ++ [])) (by simp) (WC.seq (WC.region (W.as (W.nil (thn_n (WC.seq (WC.seq (WC.region (W.mv (W.ok (ok_eqlPN pp60 rfl rfl) (W.nil (thn_n (WC.cond_f rfl rfl (WC.skip (thn_n (WC.seq ?_))))))))))))))))
 refine WC.region (W.mv (W.mv (W.mv (W.call (Mp := Ms_c) (cfind_fc h_c hL k) rfl pr9 ?_))))
 intro v4 G1 Ms3 hG1 q2
 refine match q2 with | ⟨ak, ik, e_6, hak, hof, hC5⟩ => ?_
 subst e_6
 refine W.ok (ok_extract rfl rfl) (W.ok (ok_extract rfl rfl) (W.call (Mp := Ms3) (cahead_fc hC5 hL ak ik (by obtain ⟨h, _⟩ := hak; omega) (fun _ => hak.2)) rfl pr9 ?_))
 intro v10 G7 Ms9 hG7 q8
 refine match q8 with | ⟨e_12, hC11⟩ => ?_
 subst e_12
 refine W.perm (M' := (Ms9 ++ [])) pr9.symm (W.as (W.nil (thn_n (WC.ret ?_))))
 refine ⟨.inr rfl, [_], ⟨rfl, trivial⟩, Ms9, List.sublist_append_left _ _, ?_⟩
 rw [hof] at hC11 ⊢
 exact ⟨rfl, hC11⟩

theorem cbefore_fc {G : GH} {b_c : Nat} {a9 i9 : Int} {xs : List Seat} {Ms_c : MH} (h_c : CbR 124 130 b_c xs a9 i9 G () Ms_c) (hL : LvF xs) (k : Str) :
    Fc Tryz.prog 32 [.pointer (some ⟨b_c, 0, none⟩), .string k.b] G Ms_c (fun v G' M' => v = .bool (bwdN (fndN (xs.flatMap viewS) k)).isSome ∧ CuR 124 130 b_c xs G' (bwdN (fndN (xs.flatMap viewS) k)) M') := by
 have hxl := hL.len
 refine Fc.intro (rs := [.tmp 4]) cl32 Tryz.func32 rfl Tryz.ntmps32 rfl rfl (fun w0 => ?_)
 refine WC.perm (M' := (Ms_c ++ [])) (by simp) (WC.seq (WC.region (W.as (W.nil (thn_n (WC.seq (WC.seq (WC.region (W.mv (W.ok (ok_eqlPN pp60 rfl rfl) (W.nil (thn_n (WC.cond_f rfl rfl (WC.skip (thn_n (WC.seq ?_))))))))))))))))
 refine WC.region (W.mv (W.mv (W.mv (W.call (Mp := Ms_c) (cfind_fc h_c hL k) rfl pr9 ?_))))
 intro v16 G13 Ms15 hG13 q14
 refine match q14 with | ⟨ak, ik, e_18, hak, hof, hC17⟩ => ?_
 subst e_18
 refine W.ok (ok_extract rfl rfl) (W.ok (ok_extract rfl rfl) (W.call (Mp := Ms15) (cback_fc hC17 hL ak ik (by obtain ⟨h, _⟩ := hak; omega) (fun _ => hak)) rfl pr9 ?_))
 intro v22 G19 Ms21 hG19 q20
 refine match q20 with | ⟨e_24, hC23⟩ => ?_
 subst e_24
 refine W.perm (M' := (Ms21 ++ [])) pr9.symm (W.as (W.nil (thn_n (WC.ret ?_))))
 refine ⟨.inr rfl, [_], ⟨rfl, trivial⟩, Ms21, List.sublist_append_left _ _, ?_⟩
 rw [hof] at hC23 ⊢
 exact ⟨rfl, hC23⟩

theorem cnext0_fc {G : GH} {b_c : Nat} {xs : List Seat} {Ms_c : MH} (h_c : CbR 124 130 b_c xs (-1) 0 G () Ms_c) (hL : LvF xs) :
    Fc Tryz.prog 33 [.pointer (some ⟨b_c, 0, none⟩)] G Ms_c (fun v G' M' => v = .bool false ∧ CbR 124 130 b_c xs (-1) 0 G' () M') := by
 refine Fc.intro (rs := [.tmp 2]) cl33 Tryz.func33 rfl Tryz.ntmps33 rfl rfl (fun w0 => ?_)
 refine WC.perm (M' := (Ms_c ++ [])) (by simp) (WC.seq (WC.region (W.as (W.nil (thn_n (WC.seq (WC.seq ?_)))))))
 obtain ⟨vlv25, Mllv25, eMlv25, hLlv25⟩ := h_c
 subst eMlv25
 obtain ⟨salv25, sclv25, idslv25, elv25, hillv25, hsllv25⟩ := hLlv25.form
 subst elv25
 refine WC.perm (M' := ((b_c, .cells (List.toArray [.slice salv25 xs.length sclv25, .int .i64 (-1), .int .i64 0]) 124 (0, 0)) :: (Mllv25 ++ []))) pr9.symm (WC.region (W.mv (W.ok (ok_eqlPN pp60 rfl rfl) (W.mv (W.yes (dj := 5) rfl rfl rfl (W.mv (W.yes (dj := 5) rfl rfl rfl (W.ok (ok_nilP rfl) (W.yes (dj := 5) rfl rfl rfl (W.ok (ok_fieldB fd124_1 rfl) (W.yes (dj := 5) rfl rfl rfl (W.ok (ok_loadB (i := 0) (vs := [.int .i64 _]) ty3 rfl rfl rfl rfl (by simp)) (W.yes (dj := 5) rfl rfl rfl ?_)))))))))))))
 refine W.ok (ok_lss rfl rfl) (W.ok (ok_pick_f rfl rfl) (W.nil (thn_n ?_)))
 refine WC.cond (b := _) rfl (fun h10 => ?_) (fun h10 => ?_)
 ·have p10 := of_decide_eq_true h10
  refine WC.seq (WC.region (W.as (W.nil (thn_n ?_))))
  have hC26 : CbR 124 130 b_c xs (-1) 0 G () ((b_c, .cells (List.toArray [.slice salv25 xs.length sclv25, .int .i64 (-1), .int .i64 0]) 124 (0, 0)) :: Mllv25) := ⟨_, _, rfl, hLlv25⟩
  refine WC.perm (M' := (((b_c, .cells (List.toArray [.slice salv25 xs.length sclv25, .int .i64 (-1), .int .i64 0]) 124 (0, 0)) :: Mllv25) ++ [])) (pr9.symm.trans ((pr9.cons _).trans pr9)) (WC.ret (thn_r ?_))
  refine ⟨.inr rfl, [_], ⟨rfl, trivial⟩, ((b_c, .cells (List.toArray [.slice salv25 xs.length sclv25, .int .i64 (-1), .int .i64 0]) 124 (0, 0)) :: Mllv25), List.sublist_append_left _ _, ?_⟩
  exact ⟨rfl, hC26⟩
 have p10 := of_decide_eq_false h10
 exfalso; omega

theorem cnext1_fc {G : GH} {b_c : Nat} {xs : List Seat} {Ms_c : MH} {a9 j9 : Nat} (h_c : CbR 124 130 b_c xs (((a9 : Nat) : Int)) (((j9 : Nat) : Int)) G () Ms_c) (hL : LvF xs) (ha : a9 < xs.length) (hj : j9 < (viewS (xs[a9]'ha)).length) :
    Fc Tryz.prog 33 [.pointer (some ⟨b_c, 0, none⟩)] G Ms_c (fun v G' M' => v = .bool (fwdN (totP xs) (offN xs a9 + (j9 + 1))).isSome ∧ CuR 124 130 b_c xs G' (fwdN (totP xs) (offN xs a9 + (j9 + 1))) M') := by
 have hxl := hL.len
 have hvl := (hL.leaf _ (List.getElem_mem ha)).vlen
 refine Fc.intro (rs := [.tmp 2]) cl33 Tryz.func33 rfl Tryz.ntmps33 rfl rfl (fun w0 => ?_)
 refine WC.perm (M' := (Ms_c ++ [])) (by simp) (WC.seq (WC.region (W.as (W.nil (thn_n (WC.seq (WC.seq ?_)))))))
 obtain ⟨vlv27, Mllv27, eMlv27, hLlv27⟩ := h_c
 subst eMlv27
 obtain ⟨salv27, sclv27, idslv27, elv27, hillv27, hsllv27⟩ := hLlv27.form
 subst elv27
 refine WC.perm (M' := ((b_c, .cells (List.toArray [.slice salv27 xs.length sclv27, .int .i64 (((a9 : Nat) : Int)), .int .i64 (((j9 : Nat) : Int))]) 124 (0, 0)) :: (Mllv27 ++ []))) pr9.symm (WC.region (W.mv (W.ok (ok_eqlPN pp60 rfl rfl) (W.mv (W.yes (dj := 5) rfl rfl rfl (W.mv (W.yes (dj := 5) rfl rfl rfl (W.ok (ok_nilP rfl) (W.yes (dj := 5) rfl rfl rfl (W.ok (ok_fieldB fd124_1 rfl) (W.yes (dj := 5) rfl rfl rfl (W.ok (ok_loadB (i := 0) (vs := [.int .i64 _]) ty3 rfl rfl rfl rfl (by simp)) (W.yes (dj := 5) rfl rfl rfl ?_)))))))))))))
 refine W.ok (ok_lss rfl rfl) (W.ok (ok_pick_f rfl rfl) (W.nil (thn_n ?_)))
 refine WC.cond (b := _) rfl (fun h10 => ?_) (fun h10 => ?_)
 ·have p10 := of_decide_eq_true h10
  exfalso; omega
 have p10 := of_decide_eq_false h10
 refine WC.skip (thn_n (WC.seq (WC.drawW _ (sn9.cons _) mix (by rintro _ _ _ _ ⟨h | h, _⟩ <;> cases h) (WD.tk 0 rfl (ok_mv) (WD.tk 1 rfl (ok_mv) (WD.tk 2 rfl (ok_nilP rfl) (WD.tk 3 rfl (ok_fieldB fd124_1 rfl) (WD.tk 5 rfl (ok_mv) (WD.tk 6 rfl (ok_nilP rfl) (WD.tk 7 rfl (ok_fieldB fd124_2 rfl) ?_))))))))))
 refine WD.any [4, 8] (by kernel_rfl) rfl ⟨⟨_, rfl, rfl, ?_⟩, ⟨_, rfl, rfl, ?_⟩, trivial⟩
 ·refine W.ok (ok_loadB (i := 0) (vs := [.int .i64 _]) ty3 rfl rfl rfl rfl (by simp)) (W.nil (WD.n9 Le.rfl (sn9.cons _) (WD.a1 8 rfl (W.ok (ok_loadB (i := 0) (vs := [.int .i64 _]) ty3 rfl rfl rfl rfl (by simp)) (W.nil (WD.n9 Le.rfl (sn9.cons _) (WD.tk 9 rfl (ok_add rfl rfl (by omega)) (WD.a1 10 rfl (W.call (Mp := ((b_c, .cells (List.toArray [.slice salv27 xs.length sclv27, .int .i64 (((a9 : Nat) : Int)), .int .i64 (((j9 : Nat) : Int))]) 124 (0, 0)) :: Mllv27)) (Mr := []) (cahead_fc ⟨_, _, rfl, hLlv27⟩ hL a9 (j9 + 1) (by omega) (fun _ => by omega)) rfl ((pr9.cons _).trans pr9) ?_)))))))))
  intro v31 G28 Ms30 hG28 q29
  refine match q29 with | ⟨e_33, hC32⟩ => ?_
  subst e_33
  refine W.nil (WD.n9 hG28 sn9 (WD.tk 11 rfl (ok_as) (WD.done (by kernel_rfl) (thn_n (WC.ret ?_)))))
  refine ⟨.inr rfl, [_], ⟨rfl, trivial⟩, Ms30, List.sublist_append_left _ _, ?_⟩
  exact ⟨rfl, hC32⟩
 refine W.ok (ok_loadB (i := 0) (vs := [.int .i64 _]) ty3 rfl rfl rfl rfl (by simp)) (W.nil (WD.n9 Le.rfl (sn9.cons _) (WD.tk 9 rfl (ok_add rfl rfl (by omega)) (WD.a1 4 rfl (W.ok (ok_loadB (i := 0) (vs := [.int .i64 _]) ty3 rfl rfl rfl rfl (by simp)) (W.nil (WD.n9 Le.rfl (sn9.cons _) (WD.a1 10 rfl (W.call (Mp := ((b_c, .cells (List.toArray [.slice salv27 xs.length sclv27, .int .i64 (((a9 : Nat) : Int)), .int .i64 (((j9 : Nat) : Int))]) 124 (0, 0)) :: Mllv27)) (Mr := []) (cahead_fc ⟨_, _, rfl, hLlv27⟩ hL a9 (j9 + 1) (by omega) (fun _ => by omega)) rfl ((pr9.cons _).trans pr9) ?_)))))))))
 intro v37 G34 Ms36 hG34 q35
 refine match q35 with | ⟨e_39, hC38⟩ => ?_
 subst e_39
 refine W.nil (WD.n9 hG34 sn9 (WD.tk 11 rfl (ok_as) (WD.done (by kernel_rfl) (thn_n (WC.ret ?_)))))
 refine ⟨.inr rfl, [_], ⟨rfl, trivial⟩, Ms36, List.sublist_append_left _ _, ?_⟩
 exact ⟨rfl, hC38⟩

theorem cprev0_fc {G : GH} {b_c : Nat} {xs : List Seat} {Ms_c : MH} (h_c : CbR 124 130 b_c xs (-1) 0 G () Ms_c) (hL : LvF xs) :
    Fc Tryz.prog 34 [.pointer (some ⟨b_c, 0, none⟩)] G Ms_c (fun v G' M' => v = .bool false ∧ CbR 124 130 b_c xs (-1) 0 G' () M') := by
 refine Fc.intro (rs := [.tmp 2]) cl34 Tryz.func34 rfl Tryz.ntmps34 rfl rfl (fun w0 => ?_)
 refine WC.perm (M' := (Ms_c ++ [])) (by simp) (WC.seq (WC.region (W.as (W.nil (thn_n (WC.seq (WC.seq ?_)))))))
 obtain ⟨vlv40, Mllv40, eMlv40, hLlv40⟩ := h_c
 subst eMlv40
 obtain ⟨salv40, sclv40, idslv40, elv40, hillv40, hsllv40⟩ := hLlv40.form
 subst elv40
 refine WC.perm (M' := ((b_c, .cells (List.toArray [.slice salv40 xs.length sclv40, .int .i64 (-1), .int .i64 0]) 124 (0, 0)) :: (Mllv40 ++ []))) pr9.symm (WC.region (W.mv (W.ok (ok_eqlPN pp60 rfl rfl) (W.mv (W.yes (dj := 5) rfl rfl rfl (W.mv (W.yes (dj := 5) rfl rfl rfl (W.ok (ok_nilP rfl) (W.yes (dj := 5) rfl rfl rfl (W.ok (ok_fieldB fd124_1 rfl) (W.yes (dj := 5) rfl rfl rfl (W.ok (ok_loadB (i := 0) (vs := [.int .i64 _]) ty3 rfl rfl rfl rfl (by simp)) (W.yes (dj := 5) rfl rfl rfl ?_)))))))))))))
 refine W.ok (ok_lss rfl rfl) (W.ok (ok_pick_f rfl rfl) (W.nil (thn_n ?_)))
 refine WC.cond (b := _) rfl (fun h10 => ?_) (fun h10 => ?_)
 ·have p10 := of_decide_eq_true h10
  refine WC.seq (WC.region (W.as (W.nil (thn_n ?_))))
  have hC41 : CbR 124 130 b_c xs (-1) 0 G () ((b_c, .cells (List.toArray [.slice salv40 xs.length sclv40, .int .i64 (-1), .int .i64 0]) 124 (0, 0)) :: Mllv40) := ⟨_, _, rfl, hLlv40⟩
  refine WC.perm (M' := (((b_c, .cells (List.toArray [.slice salv40 xs.length sclv40, .int .i64 (-1), .int .i64 0]) 124 (0, 0)) :: Mllv40) ++ [])) (pr9.symm.trans ((pr9.cons _).trans pr9)) (WC.ret (thn_r ?_))
  refine ⟨.inr rfl, [_], ⟨rfl, trivial⟩, ((b_c, .cells (List.toArray [.slice salv40 xs.length sclv40, .int .i64 (-1), .int .i64 0]) 124 (0, 0)) :: Mllv40), List.sublist_append_left _ _, ?_⟩
  exact ⟨rfl, hC41⟩
 have p10 := of_decide_eq_false h10
 exfalso; omega

theorem cprev1_fc {G : GH} {b_c : Nat} {xs : List Seat} {Ms_c : MH} {a9 j9 : Nat} (h_c : CbR 124 130 b_c xs (((a9 : Nat) : Int)) (((j9 : Nat) : Int)) G () Ms_c) (hL : LvF xs) (ha : a9 < xs.length) (hj : j9 < (viewS (xs[a9]'ha)).length) :
    Fc Tryz.prog 34 [.pointer (some ⟨b_c, 0, none⟩)] G Ms_c (fun v G' M' => v = .bool (bwdN (offN xs a9 + j9)).isSome ∧ CuR 124 130 b_c xs G' (bwdN (offN xs a9 + j9)) M') := by
 have hxl := hL.len
 have hvl := (hL.leaf _ (List.getElem_mem ha)).vlen
 refine Fc.intro (rs := [.tmp 2]) cl34 Tryz.func34 rfl Tryz.ntmps34 rfl rfl (fun w0 => ?_)
 refine WC.perm (M' := (Ms_c ++ [])) (by simp) (WC.seq (WC.region (W.as (W.nil (thn_n (WC.seq (WC.seq ?_)))))))
 obtain ⟨vlv42, Mllv42, eMlv42, hLlv42⟩ := h_c
 subst eMlv42
 obtain ⟨salv42, sclv42, idslv42, elv42, hillv42, hsllv42⟩ := hLlv42.form
 subst elv42
 refine WC.perm (M' := ((b_c, .cells (List.toArray [.slice salv42 xs.length sclv42, .int .i64 (((a9 : Nat) : Int)), .int .i64 (((j9 : Nat) : Int))]) 124 (0, 0)) :: (Mllv42 ++ []))) pr9.symm (WC.region (W.mv (W.ok (ok_eqlPN pp60 rfl rfl) (W.mv (W.yes (dj := 5) rfl rfl rfl (W.mv (W.yes (dj := 5) rfl rfl rfl (W.ok (ok_nilP rfl) (W.yes (dj := 5) rfl rfl rfl (W.ok (ok_fieldB fd124_1 rfl) (W.yes (dj := 5) rfl rfl rfl (W.ok (ok_loadB (i := 0) (vs := [.int .i64 _]) ty3 rfl rfl rfl rfl (by simp)) (W.yes (dj := 5) rfl rfl rfl ?_)))))))))))))
 refine W.ok (ok_lss rfl rfl) (W.ok (ok_pick_f rfl rfl) (W.nil (thn_n ?_)))
 refine WC.cond (b := _) rfl (fun h10 => ?_) (fun h10 => ?_)
 ·have p10 := of_decide_eq_true h10
  exfalso; omega
 have p10 := of_decide_eq_false h10
 refine WC.skip (thn_n (WC.seq (WC.drawW _ (sn9.cons _) mix (by rintro _ _ _ _ ⟨h | h, _⟩ <;> cases h) (WD.tk 0 rfl (ok_mv) (WD.tk 1 rfl (ok_mv) (WD.tk 2 rfl (ok_nilP rfl) (WD.tk 3 rfl (ok_fieldB fd124_1 rfl) (WD.tk 5 rfl (ok_mv) (WD.tk 6 rfl (ok_nilP rfl) (WD.tk 7 rfl (ok_fieldB fd124_2 rfl) ?_))))))))))
 refine WD.any [4, 8] (by kernel_rfl) rfl ⟨⟨_, rfl, rfl, ?_⟩, ⟨_, rfl, rfl, ?_⟩, trivial⟩
 ·refine W.ok (ok_loadB (i := 0) (vs := [.int .i64 _]) ty3 rfl rfl rfl rfl (by simp)) (W.nil (WD.n9 Le.rfl (sn9.cons _) (WD.a1 8 rfl (W.ok (ok_loadB (i := 0) (vs := [.int .i64 _]) ty3 rfl rfl rfl rfl (by simp)) (W.nil (WD.n9 Le.rfl (sn9.cons _) (WD.a1 9 rfl (W.call (Mp := ((b_c, .cells (List.toArray [.slice salv42 xs.length sclv42, .int .i64 (((a9 : Nat) : Int)), .int .i64 (((j9 : Nat) : Int))]) 124 (0, 0)) :: Mllv42)) (Mr := []) (cback_fc ⟨_, _, rfl, hLlv42⟩ hL a9 j9 (by omega) (fun _ => ⟨ha, by omega⟩)) rfl ((pr9.cons _).trans pr9) ?_))))))))
  intro v46 G43 Ms45 hG43 q44
  refine match q44 with | ⟨e_48, hC47⟩ => ?_
  subst e_48
  refine W.nil (WD.n9 hG43 sn9 (WD.tk 10 rfl (ok_as) (WD.done (by kernel_rfl) (thn_n (WC.ret ?_)))))
  refine ⟨.inr rfl, [_], ⟨rfl, trivial⟩, Ms45, List.sublist_append_left _ _, ?_⟩
  exact ⟨rfl, hC47⟩
 refine W.ok (ok_loadB (i := 0) (vs := [.int .i64 _]) ty3 rfl rfl rfl rfl (by simp)) (W.nil (WD.n9 Le.rfl (sn9.cons _) (WD.a1 4 rfl (W.ok (ok_loadB (i := 0) (vs := [.int .i64 _]) ty3 rfl rfl rfl rfl (by simp)) (W.nil (WD.n9 Le.rfl (sn9.cons _) (WD.a1 9 rfl (W.call (Mp := ((b_c, .cells (List.toArray [.slice salv42 xs.length sclv42, .int .i64 (((a9 : Nat) : Int)), .int .i64 (((j9 : Nat) : Int))]) 124 (0, 0)) :: Mllv42)) (Mr := []) (cback_fc ⟨_, _, rfl, hLlv42⟩ hL a9 j9 (by omega) (fun _ => ⟨ha, by omega⟩)) rfl ((pr9.cons _).trans pr9) ?_))))))))
 intro v52 G49 Ms51 hG49 q50
 refine match q50 with | ⟨e_54, hC53⟩ => ?_
 subst e_54
 refine W.nil (WD.n9 hG49 sn9 (WD.tk 10 rfl (ok_as) (WD.done (by kernel_rfl) (thn_n (WC.ret ?_)))))
 refine ⟨.inr rfl, [_], ⟨rfl, trivial⟩, Ms51, List.sublist_append_left _ _, ?_⟩
 exact ⟨rfl, hC53⟩

theorem cnext_fc {G : GH} {b_c : Nat} {xs : List Seat} {Ms_c : MH} {q : Option Nat} (h_c : CuR 124 130 b_c xs G q Ms_c) (hL : LvF xs) : Fc Tryz.prog 33 [.pointer (some ⟨b_c, 0, none⟩)] G Ms_c (fun v G' M' => v = .bool (nxtN (totP xs) q).isSome ∧ CuR 124 130 b_c xs G' (nxtN (totP xs) q) M') := by
  obtain ⟨a, i, hP, hC⟩ := h_c
  cases q with
  | none =>
    obtain ⟨rfl, rfl⟩ := hP
    exact (cnext0_fc hC hL).mono fun v G' M' _ ⟨e1, e2⟩ => ⟨e1, -1, 0, ⟨rfl, rfl⟩, e2⟩
  | some f =>
    obtain ⟨b, j, rfl, rfl, h1, h2, rfl⟩ := hP
    exact cnext1_fc hC hL h1 h2
theorem cprev_fc {G : GH} {b_c : Nat} {xs : List Seat} {Ms_c : MH} {q : Option Nat} (h_c : CuR 124 130 b_c xs G q Ms_c) (hL : LvF xs) : Fc Tryz.prog 34 [.pointer (some ⟨b_c, 0, none⟩)] G Ms_c (fun v G' M' => v = .bool (prvN q).isSome ∧ CuR 124 130 b_c xs G' (prvN q) M') := by
  obtain ⟨a, i, hP, hC⟩ := h_c
  cases q with
  | none =>
    obtain ⟨rfl, rfl⟩ := hP
    exact (cprev0_fc hC hL).mono fun v G' M' _ ⟨e1, e2⟩ => ⟨e1, -1, 0, ⟨rfl, rfl⟩, e2⟩
  | some f =>
    obtain ⟨b, j, rfl, rfl, h1, h2, rfl⟩ := hP
    exact cprev1_fc hC hL h1 h2
end Go.Proofs.YtebkfinhhpelbaaGreat
namespace Go.Proofs.YtebkfinhhpelbaaGreat
open Go Go.Fw Go.RowKit
theorem cpair0_fc {G : GH} {b_c : Nat} {xs : List Seat} {Ms_c : MH} (h_c : CbR 124 130 b_c xs (-1) 0 G () Ms_c) (hL : LvF xs) :
    Fc Tryz.prog 36 [.pointer (some ⟨b_c, 0, none⟩)] G Ms_c (fun v G' M' => v = .tuple #[.agg #[.string (⟨Str.nil, Str.nil⟩ : Pair).key.b, .string (⟨Str.nil, Str.nil⟩ : Pair).val.b], .bool false] ∧ CbR 124 130 b_c xs (-1) 0 G' () M') := by
 refine Fc.intro (rs := [.cell 2 69, .tmp 3]) cl36 Tryz.func36 rfl Tryz.ntmps36 rfl rfl (fun w0 => ?_)
 refine WC.perm (M' := (Ms_c ++ [])) (by simp) (WC.seq (WC.region (W.alloc zr69 (fun b1 => (W.as (W.nil (thn_n (WC.seq (WC.seq ?_)))))))))
 obtain ⟨vlv2, Mllv2, eMlv2, hLlv2⟩ := h_c
 subst eMlv2
 obtain ⟨salv2, sclv2, idslv2, elv2, hillv2, hsllv2⟩ := hLlv2.form
 subst elv2
 refine WC.perm (M' := ((b_c, .cells (List.toArray [.slice salv2 xs.length sclv2, .int .i64 (-1), .int .i64 0]) 124 (0, 0)) :: ((b1, .cells (List.toArray [.string ⟨#[]⟩, .string ⟨#[]⟩]) 69 (0, 0)) :: (Mllv2 ++ [])))) (pmD pr9).symm (WC.region (W.mv (W.ok (ok_eqlPN pp60 rfl rfl) (W.mv (W.yes (dj := 6) rfl rfl rfl (W.mv (W.yes (dj := 6) rfl rfl rfl (W.ok (ok_nilP rfl) (W.yes (dj := 6) rfl rfl rfl (W.ok (ok_fieldB fd124_1 rfl) (W.yes (dj := 6) rfl rfl rfl (W.ok (ok_loadB (i := 0) (vs := [.int .i64 _]) ty3 rfl rfl rfl rfl (by simp)) (W.yes (dj := 6) rfl rfl rfl ?_)))))))))))))
 refine W.ok (ok_lss rfl rfl) (W.ok (ok_pick_f rfl rfl) (W.nil (thn_n ?_)))
 refine WC.cond (b := _) rfl (fun h11 => ?_) (fun h11 => ?_)
 ·have p11 := of_decide_eq_true h11
  refine WC.seq (WC.region (W.ok (ok_build (L := [.string _, .string _]) pl69 zr69 rfl rfl rfl) (W.store (i := 1) (vs := [.string _, .string _]) (L' := [.string _, .string _]) ty69 rfl rfl rfl rfl rfl rfl rfl rfl (W.as (W.nil (thn_n ?_))))))
  have hC3 : CbR 124 130 b_c xs (-1) 0 G () ((b_c, .cells (List.toArray [.slice salv2 xs.length sclv2, .int .i64 (-1), .int .i64 0]) 124 (0, 0)) :: Mllv2) := ⟨_, _, rfl, hLlv2⟩
  refine WC.perm (M' := ((b1, .cells (List.toArray [.string ⟨#[]⟩, .string ⟨#[]⟩]) 69 (0, 0)) :: (((b_c, .cells (List.toArray [.slice salv2 xs.length sclv2, .int .i64 (-1), .int .i64 0]) 124 (0, 0)) :: Mllv2) ++ []))) ((pmC pr9).symm.trans (((pmC pr9).cons _).trans pr9)) (WC.ret (thn_r ?_))
  refine ⟨.inr rfl, [_, _], ⟨⟨_, _, _, _, _, rfl, nthM_mem (i := 0) rfl, ty69, (by simp), rfl, rfl⟩, rfl, trivial⟩, ((b_c, .cells (List.toArray [.slice salv2 xs.length sclv2, .int .i64 (-1), .int .i64 0]) 124 (0, 0)) :: Mllv2), (List.sublist_append_left _ _).cons _, ?_⟩
  exact ⟨rfl, hC3⟩
 have p11 := of_decide_eq_false h11
 exfalso; omega

theorem cpair1_fc {G : GH} {b_c : Nat} {xs : List Seat} {Ms_c : MH} {a9 j9 : Nat} (h_c : CbR 124 130 b_c xs (((a9 : Nat) : Int)) (((j9 : Nat) : Int)) G () Ms_c) (hL : LvF xs) (ha : a9 < xs.length) (hj : j9 < (viewS (xs[a9]'ha)).length) :
    Fc Tryz.prog 36 [.pointer (some ⟨b_c, 0, none⟩)] G Ms_c (fun v G' M' => v = .tuple #[.agg #[.string ((viewS (xs[a9]'ha))[j9]'hj).key.b, .string ((viewS (xs[a9]'ha))[j9]'hj).val.b], .bool true] ∧ CbR 124 130 b_c xs (a9 : Nat) (j9 : Nat) G' () M') := by
 refine Fc.intro (rs := [.cell 2 69, .tmp 3]) cl36 Tryz.func36 rfl Tryz.ntmps36 rfl rfl (fun w0 => ?_)
 refine WC.perm (M' := (Ms_c ++ [])) (by simp) (WC.seq (WC.region (W.alloc zr69 (fun b4 => (W.as (W.nil (thn_n (WC.seq (WC.seq ?_)))))))))
 obtain ⟨vlv5, Mllv5, eMlv5, hLlv5⟩ := h_c
 subst eMlv5
 obtain ⟨salv5, sclv5, idslv5, elv5, hillv5, hsllv5⟩ := hLlv5.form
 subst elv5
 refine WC.perm (M' := ((b_c, .cells (List.toArray [.slice salv5 xs.length sclv5, .int .i64 (((a9 : Nat) : Int)), .int .i64 (((j9 : Nat) : Int))]) 124 (0, 0)) :: ((b4, .cells (List.toArray [.string ⟨#[]⟩, .string ⟨#[]⟩]) 69 (0, 0)) :: (Mllv5 ++ [])))) (pmD pr9).symm (WC.region (W.mv (W.ok (ok_eqlPN pp60 rfl rfl) (W.mv (W.yes (dj := 6) rfl rfl rfl (W.mv (W.yes (dj := 6) rfl rfl rfl (W.ok (ok_nilP rfl) (W.yes (dj := 6) rfl rfl rfl (W.ok (ok_fieldB fd124_1 rfl) (W.yes (dj := 6) rfl rfl rfl (W.ok (ok_loadB (i := 0) (vs := [.int .i64 _]) ty3 rfl rfl rfl rfl (by simp)) (W.yes (dj := 6) rfl rfl rfl ?_)))))))))))))
 refine W.ok (ok_lss rfl rfl) (W.ok (ok_pick_f rfl rfl) (W.nil (thn_n ?_)))
 refine WC.cond (b := _) rfl (fun h11 => ?_) (fun h11 => ?_)
 ·have p11 := of_decide_eq_true h11
  exfalso; omega
 have p11 := of_decide_eq_false h11
 refine WC.skip (thn_n (WC.seq (WC.drawW _ ((sn9.cons _).k9) mix (by rintro _ _ _ _ ⟨h | h, _⟩ <;> cases h) (WD.tk 0 rfl (ok_mv) (WD.tk 1 rfl (ok_mv) (WD.tk 2 rfl (ok_nilP rfl) (WD.tk 3 rfl (ok_fieldB fd124_1 rfl) (WD.tk 4 rfl (ok_loadB (i := 0) (vs := [.int .i64 _]) ty3 rfl rfl rfl rfl (by simp)) (WD.tk 6 rfl (ok_mv) (WD.tk 7 rfl (ok_nilP rfl) (WD.tk 8 rfl (ok_fieldB fd124_2 rfl) (WD.tk 9 rfl (ok_loadB (i := 0) (vs := [.int .i64 _]) ty3 rfl rfl rfl rfl (by simp)) (WD.a1 5 rfl (W.call (Mp := ((b_c, .cells (List.toArray [.slice salv5 xs.length sclv5, .int .i64 (((a9 : Nat) : Int)), .int .i64 (((j9 : Nat) : Int))]) 124 (0, 0)) :: Mllv5)) (Mr := ((b4, .cells (List.toArray [.string ⟨#[]⟩, .string ⟨#[]⟩]) 69 (0, 0)) :: [])) (crows_fc hLlv5 a9 ha (hL.leaf _ (List.getElem_mem ha))) rfl (((pmC pr9).cons _).trans pr9) ?_))))))))))))))
 intro v9 G6 Ms8 hG6 q7
 refine match q7 with | ⟨hv11, Ml9, e_12, hX10⟩ => ?_
 subst e_12
 have q14 := hv11.form
 refine match q14 with | ⟨sa_hv11, sc_hv11, e_13⟩ => ?_
 subst e_13
 refine W.perm (M' := ((b_c, .cells (List.toArray [.slice salv5 xs.length sclv5, .int .i64 (((a9 : Nat) : Int)), .int .i64 (((j9 : Nat) : Int))]) 124 (0, 0)) :: ((b4, .cells (List.toArray [.string ⟨#[]⟩, .string ⟨#[]⟩]) 69 (0, 0)) :: (Ml9 ++ [])))) (((pmC pr9).cons _).trans pr9).symm (W.nil (WD.n9 hG6 ((sn9.cons _).k9) ?_))
 have q17 := hv11.at (i := j9) (by omega)
 refine match q17 with | ⟨_, he15, e_16⟩ => ?_
 subst e_16
 refine WD.tk 10 rfl (ok_indexAddr (i := j9) sl41 ty69 hv11 rfl rfl ⟨by omega, by omega⟩) (WD.tk 11 rfl (ok_loadE (vs := [.string _, .string _]) ty69 he15 rfl rfl rfl (by simp)) (WD.a1 12 rfl (W.store (i := 1) (vs := [.string _, .string _]) (L' := [.string _, .string _]) ty69 rfl rfl rfl rfl rfl rfl rfl rfl (W.nil (WD.n9 Le.rfl ((sn9.cons _).k9) (WD.tk 13 rfl (ok_as) (WD.done (by kernel_rfl) (thn_n ?_))))))))
 have hC18 : CbR 124 130 b_c xs (((((a9 : Nat) : Int)))) (((((j9 : Nat) : Int)))) G6 () ((b_c, .cells (List.toArray [.slice salv5 xs.length sclv5, .int .i64 ((((a9 : Nat) : Int))), .int .i64 ((((j9 : Nat) : Int)))]) 124 (0, 0)) :: Ml9) := ⟨_, _, rfl, hX10⟩
 refine WC.perm (M' := ((b4, .cells (List.toArray [.string (((viewS (xs[a9]'ha)))[j9]).key.b, .string (((viewS (xs[a9]'ha)))[j9]).val.b]) 69 (0, 0)) :: (((b_c, .cells (List.toArray [.slice salv5 xs.length sclv5, .int .i64 ((((a9 : Nat) : Int))), .int .i64 ((((j9 : Nat) : Int)))]) 124 (0, 0)) :: Ml9) ++ []))) ((pmC pr9).symm.trans (((pmC pr9).cons _).trans pr9)) (WC.ret ?_)
 refine ⟨.inr rfl, [_, _], ⟨⟨_, _, _, _, _, rfl, nthM_mem (i := 0) rfl, ty69, (by simp), rfl, rfl⟩, rfl, trivial⟩, ((b_c, .cells (List.toArray [.slice salv5 xs.length sclv5, .int .i64 ((((a9 : Nat) : Int))), .int .i64 ((((j9 : Nat) : Int)))]) 124 (0, 0)) :: Ml9), (List.sublist_append_left _ _).cons _, ?_⟩
 exact ⟨rfl, hC18⟩

theorem cpair_fc {G : GH} {b_c : Nat} {xs : List Seat} {Ms_c : MH} {q : Option Nat} (h_c : CuR 124 130 b_c xs G q Ms_c) (hL : LvF xs) : Fc Tryz.prog 36 [.pointer (some ⟨b_c, 0, none⟩)] G Ms_c (fun v G' M' => v = .tuple #[.agg #[.string (pairQ xs q).key.b, .string (pairQ xs q).val.b], .bool q.isSome] ∧ CuR 124 130 b_c xs G' q M') := by
  obtain ⟨a, i, hP, hC⟩ := h_c
  cases q with
  | none =>
    obtain ⟨rfl, rfl⟩ := hP
    exact (cpair0_fc hC hL).mono fun v G' M' _ ⟨e1, e2⟩ => ⟨e1, -1, 0, ⟨rfl, rfl⟩, e2⟩
  | some f =>
    obtain ⟨b, j, rfl, rfl, h1, h2, rfl⟩ := hP
    exact (cpair1_fc hC hL h1 h2).mono fun v G' M' _ ⟨e1, e2⟩ => ⟨by rw [pairQ_at h1 h2]; exact e1, _, _, ⟨b, j, rfl, rfl, h1, h2, rfl⟩, e2⟩
theorem ctake_fc {G : GH} {b_c : Nat} {xs : List Seat} {q : Option Nat} {Ms_c : MH} (h_c : CuR 124 130 b_c xs G q Ms_c) (hL : LvF xs) (n : Int) :
    Fc Tryz.prog 35 [.pointer (some ⟨b_c, 0, none⟩), .int .i64 n] G Ms_c (fun v G' M' => SlR ePair G' v (tkN xs q (min n.toNat (totP xs - q.getD (totP xs)))) ∧ CuR 124 130 b_c xs G' (advN xs q (min n.toNat (totP xs - q.getD (totP xs)))) M') := by
 have hlt := h_c.lt
 have htot := hL.tot
 refine Fc.intro (rs := [.tmp 4]) cl35 Tryz.func35 rfl Tryz.ntmps35 rfl rfl (fun w0 => ?_)
 refine WC.perm (M' := (Ms_c ++ [])) (by simp) (WC.seq (WC.region (W.as (W.nil (thn_n (WC.seq (WC.region (W.as (W.nil (thn_n (WC.seq (WC.block ?_))))))))))))
 refine WC.loop (X := (Nat) × Value × MH × MH) (fun k => [(1, .int .i64 n), (5, k.2.1), (0, .pointer (some ⟨b_c, 0, none⟩))]) (fun k G Ml => Ml = (k.2.2.1 ++ (k.2.2.2 ++ [])) ∧ OwnR ePair 69 G k.2.1 (tkN xs q k.1) k.2.2.1 ∧ CuR 124 130 b_c xs G (advN xs q k.1) k.2.2.2 ∧ k.1 ≤ totP xs - q.getD (totP xs) ∧ (k.1 = 0 ∨ (k.1 : Int) ≤ n)) (fun k => totP xs - q.getD (totP xs) - k.1) (0, .slice none 0 0, ([] : MH), Ms_c) ⟨eqv, eqv, eqv, trivial⟩ ?_ ?_
 ·exact ⟨rfl, (by exact OwnR.nil), (by have h9 := h_c; rw [← adv_0 hlt] at h9; exact h9), Nat.zero_le _, .inl rfl⟩
 rintro ⟨k, v_5, M_5, M_0⟩ gG19 G19 _ hG19 ⟨rfl, ho_5, ho_0, hk, hkn⟩
 try dsimp only at ho_5 ho_0 hk hkn
 have htl := ctk_len hk
 have ht6 : totP xs ≤ 600000 := htot
 refine WC.fr (f := setL gG19 [(1, .int .i64 n), (5, v_5), (0, .pointer (some ⟨b_c, 0, none⟩))]) rfl (WC.seq (WC.seq (WC.region (W.mv (W.ok (ok_lenO sl41 ho_5 rfl) (W.mv (W.ok (ok_lss rfl rfl) (W.nil (thn_n ?_)))))))))
 refine WC.cond (b := _) rfl (fun h11 => ?_) (fun h11 => ?_)
 ·have p11 := of_decide_eq_true h11
  refine WC.skip (thn_n (WC.block (WC.seq (WC.region (W.mv (W.call (Mp := M_0) (cpair_fc ho_0 hL) rfl (pmA pr9) ?_))))))
  intro v23 G20 Ms22 hG20 q21
  refine match q21 with | ⟨e_25, hR24⟩ => ?_
  subst e_25
  refine W.mv (W.ok (ok_extract rfl rfl) (W.ok (ok_extract rfl rfl) (W.alloc zr69 (fun b26 => (W.store (i := 0) (vs := [.string _, .string _]) (L' := [.string _, .string _]) ty69 rfl rfl rfl rfl rfl rfl rfl rfl (W.as (W.nil (thn_n (WC.seq (WC.seq (WC.region (W.mv (W.ok (ok_not rfl) (W.nil (thn_n ?_)))))))))))))))
  refine WC.cond (b := _) rfl (fun h18 => ?_) (fun h18 => ?_)
  ·have hse := adv_end (k := k) (xs := xs) (q := q) (by simpa using h18)
   refine WC.exit (thn_x (blk_m (thn_x (blk_h (thn_n (WC.seq (WC.region (W.mv (W.as (W.nil (thn_n (WC.giveO (ho_5.mono hG20) (pmC (pmA pr9)) (fun G27 hG27 hv27 => (WC.ret ?_))))))))))))))
   refine ⟨.inr rfl, [_], ⟨rfl, trivial⟩, Ms22, (List.sublist_append_left _ _).cons _, ?_⟩
   have hmk : (min n.toNat (totP xs - q.getD (totP xs))) = k := by omega
   rw [hmk]
   exact ⟨hv27, (CuR.mono hG27 hR24)⟩
  have hso : (advN xs q k).isSome = true := by simpa using h18
  refine WC.skip (thn_n (WC.seq (WC.region (W.mv (W.ok (ok_loadB (i := 0) (vs := [.string _, .string _]) ty69 rfl rfl rfl rfl (by simp)) (W.lit (e := ePair) (l := [⟨(pairQ xs (advN xs q k)).key, (pairQ xs (advN xs q k)).val⟩]) (css := [[.string _, .string _]]) sl41 ty69 zr69 rfl rfl rfl rfl rfl rfl ⟨rfl, trivial⟩ (fun bl28 G28 hG28 hv28 => (W.app (e := ePair) sl41 ty69 zr69 rfl by69 rfl rfl ((ho_5.mono (hG20.trans hG28))) (hv28) (pmC (pmA pr9)) (by show (_ + 1) * 32 ≤ _; omega) (fun v29 Ms30 ho31 => (W.perm (pmC pr9).symm (W.as (W.nil (thn_n (WC.region (W.mv (W.call (Mp := Ms22) (cnext_fc (CuR.mono hG28 hR24) hL) rfl (pmC (pmA pr9)) ?_))))))))))))))))
  intro v35 G32 Ms34 hG32 q33
  refine match q33 with | ⟨e_37, hR36⟩ => ?_
  subst e_37
  refine W.perm (pmC pr9).symm (W.sub (sr9.cons _) (W.perm (M' := (Ms30 ++ (Ms34 ++ []))) ((List.Perm.append_left _ ((List.Perm.append_left _ pr9).trans pr9)).trans (pmA pr9)) (W.nil (blk_n (thn_n ?_)))))
  exact ⟨((hG20.trans hG28).trans hG32), (k + 1, v29, Ms30, Ms34), ⟨eqv, eqv, eqv, trivial⟩, ⟨rfl, (by have h9 := (ho31.mono hG32); rw [← ctk_succ (adv_next hso).2] at h9; exact h9), (by have h9 := hR36; rw [(adv_next hso).1] at h9; exact h9), by have := (adv_next hso).2; omega, .inr (by omega)⟩, by have := (adv_next hso).2; omega⟩
 have p11 := of_decide_eq_false h11
 refine WC.exit (thn_x (thn_x (blk_h (thn_n (WC.seq (WC.region (W.mv (W.as (W.nil (thn_n (WC.giveO ho_5 pr9 (fun G38 hG38 hv38 => (WC.ret ?_)))))))))))))
 refine ⟨.inr rfl, [_], ⟨rfl, trivial⟩, M_0, List.sublist_append_left _ _, ?_⟩
 have hmk : (min n.toNat (totP xs - q.getD (totP xs))) = k := by omega
 rw [hmk]
 exact ⟨hv38, (CuR.mono hG38 ho_0)⟩

end Go.Proofs.YtebkfinhhpelbaaGreat

namespace Go.Fw
open Go Go.RowKit
section
variable {ty : TypeId} {pos : String} {aft : Array Edge} {α : Type} {V : VEnc α} {E : Env} {f : Fr} {G : GH} {M Ms Mr : MH} {K : Kt} {ops rest : List Oper} {t t2 et : TypeId} {x kk : Operand} {b : Nat} {k : Int} {m : List (Int × α)}
theorem W.del (ht : mapIK E.P t = some et) (hx : ev f x = .map (some b)) (hk : ev f kk = .int .i64 k) (hm : MpR V b G m Ms) (hp : (Ms ++ Mr).Perm M)
  (h : ∀ Ms', MpR V b G (delM m k) Ms' → W E ops.toArray false rest f G (Ms' ++ Mr) K) : W E ops.toArray false (⟨none, .call { callee := .builtin .delete, args := #[x, kk], argTypes := #[t, t2] }, ty, pos, aft, none⟩ :: rest) f G M K := by
 intro a' w Q hi hr0 hK
 obtain ⟨es, clock, rfl, he⟩ := hm
 have hr := hr0.perm hp
 obtain ⟨kt, h1, h2, h3⟩ := mapIK_ok ht
 have hb : w.heap[b]? = some (.map es.toArray clock) := hr.r.mu (b, .map es.toArray clock) (by simp)
 have hgo := MapKept.run_getObj_map (P := E.P) hb
 have key : ∃ es', MpE V G es' (delM m k) ∧ (Builtin.delete_ #[t, t2] ty #[.map (some b), .int .i64 k]).run E.P w = .ok (.tuple #[]) { w with heap := w.heap.setIfInBounds b (.map es'.toArray clock) } := by
  rcases find_mp (k := k) 0 he with ⟨g1, g2, _, g4⟩ | ⟨j, e, a2, g1, g2, g3, g4, g5, _, g7⟩
  ·refine ⟨es, by rw [g4]; exact he, ?_⟩
   have hfk := MapKept.run_findKey (P := E.P) (w := w) h2 g2
   have hset := MapKept.run_setObj_map (P := E.P) (.map es.toArray clock) hb
   simp [Builtin.delete_, run_underlying h1, hgo, h3, hfk, hset, Result.andThen]
  ·refine ⟨es.eraseIdx j, g7, ?_⟩
   rw [Nat.zero_add] at g3
   have hfk := MapKept.run_findKey (P := E.P) (w := w) h2 g3
   have hset := MapKept.run_setObj_map (P := E.P) (.map (es.eraseIdx j).toArray clock) hb
   have hj : j < es.length := by
    rcases Nat.lt_or_ge j es.length with h | h
    ·exact h
    ·rw [List.getElem?_eq_none h] at g2; cases g2
   have hes : es.toArray.eraseIdxIfInBounds j = (es.eraseIdx j).toArray := by
    unfold Array.eraseIdxIfInBounds
    rw [dif_pos (by simpa using hj)]
    simp
   simp [Builtin.delete_, run_underlying h1, hgo, h3, hfk, hset, hes, Result.andThen]
 obtain ⟨es', k1, k2⟩ := key
 have hrun : (execOp (ev f) ⟨none, .call { callee := .builtin .delete, args := #[x, kk], argTypes := #[t, t2] }, ty, pos, aft, none⟩).run E.P w = .ok (.value (.tuple #[])) { w with heap := w.heap.setIfInBounds b (.map es'.toArray clock) } := by
  simp [execOp, resolve, invoke, builtin, hx, hk, k2]
 refine wpList_plain rfl fun K' hK' => ?_
 unfold Oper.wp
 rw [hi.eval, hrun]
 exact hK' _ _ (h _ ⟨es', clock, rfl, k1⟩ _ _ Q (hi.put_none undef) (setMap_real hr) hK)
theorem W.lookH {d : Nat} {z0 : Value} {z a : α} (hs : getM m k = some a) (ht : mapIK E.P t = some et) (hz : zvK E.P et = some z0) (hzz : V.R G z0 z) (hm : MpR V b G m Ms) (hx : ev f x = .map (some b)) (hk : ev f kk = .int .i64 k) (hp : (Ms ++ Mr).Perm M)
  (h : ∀ v, V.R G v a → W E ops.toArray false rest (upd f d (.tuple #[v, .bool true])) G M K) (hd : Nat.blt d E.n = true := by rfl) :
  W E ops.toArray false (⟨some d, .lookup t x kk true, ty, pos, aft, none⟩ :: rest) f G M K := by
 obtain ⟨v, h1, h2⟩ := look_own (E := E) (f := f) (M := M) (d := d) (ty := ty) (pos := pos) (aft := aft) (ok := true) ht hz hzz hx hk hm hp
 rw [hs] at h1 h2
 exact W.ok h2 (h v h1) hd
end
theorem getM_del : ∀ {α : Type} (m : List (Int × α)) (k j : Int), j ≠ k → getM (delM m k) j = getM m j
 | _, [], k, j, _ => rfl
 | _, p :: m, k, j, h => by
  rw [delM]
  by_cases hp : p.1 = k
  ·rw [if_pos hp, getM_cons, if_neg (by rw [hp]; exact fun e => h e.symm)]
  ·rw [if_neg hp, getM_cons, getM_cons, getM_del m k j h]
section
variable {c : Cfg} {l : List Nd} {ss : List Seat}
structure Hav (l : List Nd) (n : Nat) (x : Seat) (m : List (Int × Nd)) : Prop where
 all : ∀ y ∈ preF l n x, getM m y.n.slot = some y.n
 nd : ((preF l n x).map fun y : Seat => y.n.slot).Nodup
theorem Hav.self {n : Nat} {x : Seat} {m : List (Int × Nd)} (h : Hav l n x m) : getM m x.n.slot = some x.n := h.all x (by cases n <;> simp [preF])
structure HavK (l : List Nd) (n : Nat) (x : Seat) (j : Nat) (m : List (Int × Nd)) : Prop where
 all : ∀ y ∈ ((kidsD l x).drop j).flatMap (preF l n), getM m y.n.slot = some y.n
 nd : ((((kidsD l x).drop j).flatMap (preF l n)).map fun y : Seat => y.n.slot).Nodup
theorem Hav.kids {n : Nat} {x : Seat} {m : List (Int × Nd)} (h : Hav l (n + 1) x m) : HavK l n x 0 (delM m x.n.slot) := by
 have hnd := h.nd
 rw [preF, List.map_cons, List.nodup_cons] at hnd
 refine ⟨fun y hy => ?_, by rw [List.drop_zero]; exact hnd.2⟩
 rw [List.drop_zero] at hy
 rw [getM_del]
 ·exact h.all y (by rw [preF]; exact List.mem_cons_of_mem _ hy)
 ·intro e
  exact hnd.1 (by rw [← e]; exact List.mem_map.2 ⟨y, hy, rfl⟩)
theorem HavK.head {n : Nat} {x : Seat} {j : Nat} {m : List (Int × Nd)} (h : HavK l n x j m) (hj : j < (kidsD l x).length) : Hav l n (kidsD l x)[j] m := by
 have e := List.drop_eq_getElem_cons hj
 refine ⟨fun y hy => h.all y (by rw [e, List.flatMap_cons]; exact List.mem_append_left _ hy), ?_⟩
 have := h.nd
 rw [e, List.flatMap_cons, List.map_append, List.nodup_append] at this
 exact this.1
def SamD (l : List Nd) (n : Nat) (x : Seat) (m m' : List (Int × Nd)) : Prop := ∀ k, (∀ y ∈ preF l n x, y.n.slot ≠ k) → getM m' k = getM m k
theorem HavK.tail {n : Nat} {x : Seat} {j : Nat} {m m' : List (Int × Nd)} (h : HavK l n x j m) (hj : j < (kidsD l x).length) (hs : SamD l n (kidsD l x)[j] m m') : HavK l n x (j + 1) m' := by
 have e := List.drop_eq_getElem_cons hj
 have hnd := h.nd
 rw [e, List.flatMap_cons, List.map_append, List.nodup_append] at hnd
 refine ⟨fun y hy => ?_, hnd.2.1⟩
 rw [hs y.n.slot fun z hz he => hnd.2.2 z.n.slot (List.mem_map.2 ⟨z, hz, rfl⟩) y.n.slot (List.mem_map.2 ⟨y, hy, rfl⟩) he]
 exact h.all y (by rw [e, List.flatMap_cons]; exact List.mem_append_right _ hy)
def SamK (l : List Nd) (n : Nat) (x : Seat) (j : Nat) (m m' : List (Int × Nd)) : Prop := ∀ k, x.n.slot ≠ k → (∀ y ∈ ((kidsD l x).take j).flatMap (preF l n), y.n.slot ≠ k) → getM m' k = getM m k
theorem SamK.zero {n : Nat} {x : Seat} {m : List (Int × Nd)} : SamK l n x 0 m (delM m x.n.slot) := fun k hk _ => getM_del _ _ _ (fun e => hk e.symm)
theorem SamK.succ {n : Nat} {x : Seat} {j : Nat} {m m1 m2 : List (Int × Nd)} (h : SamK l n x j m m1) (hj : j < (kidsD l x).length) (hs : SamD l n (kidsD l x)[j] m1 m2) : SamK l n x (j + 1) m m2 := fun k hk hy => by
 have e : (kidsD l x).take (j + 1) = (kidsD l x).take j ++ [(kidsD l x)[j]] := List.take_succ_eq_append_getElem hj
 rw [hs k fun z hz => hy z (by rw [e, List.flatMap_append]; exact List.mem_append_right _ (by simpa using hz))]
 exact h k hk fun y h2 => hy y (by rw [e, List.flatMap_append]; exact List.mem_append_left _ h2)
theorem SamK.all {n : Nat} {x : Seat} {j : Nat} {m m1 : List (Int × Nd)} (h : SamK l n x j m m1) (hj : (kidsD l x).length ≤ j) : SamD l (n + 1) x m m1 := fun k hy => by
 refine h k (hy x (by simp [preF])) fun y h2 => hy y ?_
 rw [List.take_of_length_le hj] at h2
 rw [preF]; exact List.mem_cons_of_mem _ h2
theorem samD_leaf {x : Seat} {m : List (Int × Nd)} : SamD l 0 x m (delM m x.n.slot) := fun k hy => getM_del _ _ _ (fun e => hy x (by simp [preF]) e.symm)
noncomputable def dfsK (l : List Nd) (n : Nat) (x : Seat) (j : Nat) : List Seat := ((kidsD l x).take j).flatMap (dfsF l n)
theorem dfsK_succ {n : Nat} {x : Seat} {j : Nat} (hj : j < (kidsD l x).length) : dfsK l n x (j + 1) = dfsK l n x j ++ dfsF l n (kidsD l x)[j] := by
 unfold dfsK; rw [List.take_succ_eq_append_getElem hj, List.flatMap_append]; simp
theorem dfsK_all {n : Nat} {x : Seat} {j : Nat} (hj : (kidsD l x).length ≤ j) : dfsK l n x j = dfsF l (n + 1) x := by
 unfold dfsK; rw [List.take_of_length_le hj]; rfl
theorem dfsK_le {n : Nat} {x : Seat} {j : Nat} (hj : j < (kidsD l x).length) : (dfsK l n x j).length + (dfsF l n (kidsD l x)[j]).length ≤ (dfsF l (n + 1) x).length := by
 rw [← List.length_append, ← dfsK_succ hj]
 show (((kidsD l x).take (j + 1)).flatMap (dfsF l n)).length ≤ ((kidsD l x).flatMap (dfsF l n)).length
 conv => rhs; rw [← List.take_append_drop (j + 1) (kidsD l x), List.flatMap_append, List.length_append]
 omega
theorem hav_root (t : Tree c l ss) : Hav l (rootS l 0).n.level.toNat (rootS l 0) (bySl l) := ⟨fun y hy => t.inMap ((t.pre_perm _ [rootS l 0] ss (by exact t.fix) (fun x hx => hx) (fun x hx => by simp at hx; rw [hx])).mem_iff.2 (by simpa using hy)), t.slots_nodup⟩
end
theorem ga_mv {a : Nat × Obj} {P Q R : MH} : (a :: (P ++ (Q ++ R))).Perm (P ++ (Q ++ (a :: R))) := by
 have h1 : (P ++ (Q ++ (a :: R))).Perm (a :: ((P ++ Q) ++ R)) := by rw [← List.append_assoc]; exact List.perm_middle
 rw [List.append_assoc] at h1
 exact h1.symm
def GaR (TC TL tp : TypeId) (bc bm : Nat) (G : GH) (st : List (Int × Nd) × List Seat) (M : MH) : Prop :=
 ∃ (v : Value) (ids : List Nat) (css : List (List Value)) (Mm Mo Ml : MH), M = (bc, .cells (List.toArray [v, .int .i64 (-1), .int .i64 0]) TC (0, 0)) :: (Mm ++ (Mo ++ Ml)) ∧
  MpR vNode bm G st.1 Mm ∧ OwnR ePtr tp G v ids Mo ∧ ids.length = css.length ∧ LvE G css st.2 ∧ Ml.Perm (lvM TL ids css)
theorem GaR.mono {TC TL tp : TypeId} {bc bm : Nat} {G G' : GH} {st : List (Int × Nd) × List Seat} {M : MH} (hl : Le G G') (h : GaR TC TL tp bc bm G st M) : GaR TC TL tp bc bm G' st M := by
 obtain ⟨v, ids, css, Mm, Mo, Ml, h1, h2, h3, h4, h5, h6⟩ := h
 exact ⟨v, ids, css, Mm, Mo, Ml, h1, h2.mono hl, h3.mono hl, h4, h5.mono hl, h6⟩
theorem GaR.cast {TC TL tp : TypeId} {bc bm : Nat} {G : GH} {st st' : List (Int × Nd) × List Seat} {M : MH} (h : GaR TC TL tp bc bm G st M) (e : st = st') : GaR TC TL tp bc bm G st' M := e ▸ h
theorem lvM_add {TL : TypeId} {b : Nat} {cs : List Value} {ids : List Nat} {css : List (List Value)} {Ml : MH} (h : ids.length = css.length) (hp : Ml.Perm (lvM TL ids css)) : ((b, Obj.cells (List.toArray cs) TL (0, 0)) :: Ml).Perm (lvM TL (ids ++ [b]) (css ++ [cs])) := by
 rw [lvM_snoc h]
 exact ((hp.cons _).trans (List.perm_append_comm (l₁ := [_]))) 
end Go.Fw
