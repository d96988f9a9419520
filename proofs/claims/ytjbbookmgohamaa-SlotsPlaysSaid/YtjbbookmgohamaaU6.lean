/- Walks of arenas by definition. -/
import Derived.Test.YtjbbookmgohamaaU2
import Derived.Test.YtjbbookmgohamaaNj
import Derived.Test.YtjbbookmgohamaaW2
namespace Go.Proofs.Ytjbbookmgohamaa
open Go Go.Fw Go.RowKit
set_option maxRecDepth 100000
set_option maxHeartbeats 1600000
set_option linter.unusedVariables false
set_option linter.unusedSimpArgs false
set_option linter.unnecessarySimpa false
theorem rhas_fc {G : GH} {b_s : Nat} {v_X : Value} {X : List Int} {Ms_X : MH} (h_X : OwnR eInt 3 G v_X X Ms_X) {v_u : Value} {u : List Bool} {Ms_u : MH} (h_u : OwnR eBool 4 G v_u u Ms_u) (i : Int) :
    Fc Try.prog 26 [.pointer (some ⟨b_s, 0, none⟩), .int .i64 i] G ((b_s, .cells (List.toArray [v_X, v_u]) 62 (0, 0)) :: (Ms_X ++ (Ms_u))) (fun v G' M' => v = .bool (hasN u i) ∧ M' = (b_s, .cells (List.toArray [v_X, v_u]) 62 (0, 0)) :: (Ms_X ++ Ms_u)) := by
 obtain ⟨sa_X, sc_X, rfl⟩ := h_X.form
 obtain ⟨sa_u, sc_u, rfl⟩ := h_u.form
 have hl := h_u.len47
 have hlx := h_X.len47
 refine Fc.intro (rs := [.tmp 4]) cl26 Try.func26 rfl Try.ntmps26 rfl rfl (fun w0 => ?_)
 refine WC.perm (M' := ((b_s, .cells (List.toArray [.slice sa_X X.length sc_X, .slice sa_u u.length sc_u]) 62 (0, 0)) :: (Ms_X ++ (Ms_u ++ [])))) (by simp) ?_
 refine WC.seq ?_
 refine WC.region ?_
 refine W.as ?_
 refine W.nil (thn_n ?_)
 refine WC.seq ?_
 refine WC.region ?_
 refine W.mv ?_
 refine W.ok (ok_geq rfl rfl) ?_
 refine W.mv ?_
 refine W.sp 7 rfl (fun h6 => ?_) (fun h6 => ?_)
 ·have p6 := of_decide_eq_true h6
  refine W.yes (dj := 7) rfl rfl h6 ?_
  refine W.mv ?_
  refine W.yes (dj := 7) rfl rfl h6 ?_
  refine W.mv ?_
  refine W.yes (dj := 7) rfl rfl h6 ?_
  refine W.ok (ok_nilP rfl) ?_
  refine W.yes (dj := 7) rfl rfl h6 ?_
  refine W.ok (ok_fieldB fd62_1 rfl) ?_
  refine W.yes (dj := 7) rfl rfl h6 ?_
  refine W.ok (ok_loadB (i := 0) (vs := [.slice _ _ _]) ty60 rfl rfl rfl rfl (by simp)) ?_
  refine W.yes (dj := 7) rfl rfl h6 ?_
  refine W.ok (ok_lenO sl60 h_u rfl) ?_
  refine W.yes (dj := 7) rfl rfl h6 ?_
  refine W.ok (ok_lss rfl rfl) ?_
  refine W.ok (ok_pick_t rfl h6) ?_
  refine W.mv ?_
  refine W.sp 16 rfl (fun h14 => ?_) (fun h14 => ?_)
  ·have p14 := of_decide_eq_true h14
   refine W.yes (dj := 16) rfl rfl h14 ?_
   refine W.mv ?_
   refine W.yes (dj := 16) rfl rfl h14 ?_
   refine W.ok (ok_nilP rfl) ?_
   refine W.yes (dj := 16) rfl rfl h14 ?_
   refine W.ok (ok_fieldB fd62_1 rfl) ?_
   refine W.yes (dj := 16) rfl rfl h14 ?_
   refine W.ok (ok_loadB (i := 0) (vs := [.slice _ _ _]) ty60 rfl rfl rfl rfl (by simp)) ?_
   refine W.yes (dj := 16) rfl rfl h14 ?_
   refine W.mv ?_
   refine W.yes (dj := 16) rfl rfl h14 ?_
   have q4 := h_u.at (i := i.toNat) (by omega)
   refine match q4 with | ⟨_, he1, e_3⟩ => ?_
   subst e_3
   refine W.ok (ok_indexAddrO (i := i.toNat) sl60 ty4 h_u rfl rfl ⟨by omega, by omega⟩) ?_
   refine W.yes (dj := 16) rfl rfl h14 ?_
   refine W.ok (ok_loadO (vs := [.bool _]) ty4 he1 (pmC (pmA (List.Perm.refl _))) rfl rfl rfl (by simp)) ?_
   refine W.ok (ok_pick_t rfl h14) ?_
   refine W.as ?_
   refine W.nil (thn_n ?_)
   refine WC.ret ?_
   refine ⟨.inr rfl, [_], ⟨rfl, trivial⟩, ((b_s, .cells (List.toArray [.slice sa_X X.length sc_X, .slice sa_u u.length sc_u]) 62 (0, 0)) :: (Ms_X ++ (Ms_u ++ []))), (List.Sublist.refl _).cons_cons _, ?_⟩
   exact ⟨congrArg Value.bool (hasN_get (by omega) (by omega)), by simp⟩
  ·have p14 := of_decide_eq_false h14
   refine W.no (dj := 16) rfl rfl h14 ?_
   refine W.no (dj := 16) rfl rfl h14 ?_
   refine W.no (dj := 16) rfl rfl h14 ?_
   refine W.no (dj := 16) rfl rfl h14 ?_
   refine W.no (dj := 16) rfl rfl h14 ?_
   refine W.no (dj := 16) rfl rfl h14 ?_
   refine W.no (dj := 16) rfl rfl h14 ?_
   refine W.ok (ok_pick_f rfl h14) ?_
   refine W.as ?_
   refine W.nil (thn_n ?_)
   refine WC.ret ?_
   refine ⟨.inr rfl, [_], ⟨rfl, trivial⟩, ((b_s, .cells (List.toArray [.slice sa_X X.length sc_X, .slice sa_u u.length sc_u]) 62 (0, 0)) :: (Ms_X ++ (Ms_u ++ []))), (List.Sublist.refl _).cons_cons _, ?_⟩
   exact ⟨congrArg Value.bool (hasN_big (by omega)), by simp⟩
 ·have p6 := of_decide_eq_false h6
  refine W.no (dj := 7) rfl rfl h6 ?_
  refine W.no (dj := 7) rfl rfl h6 ?_
  refine W.no (dj := 7) rfl rfl h6 ?_
  refine W.no (dj := 7) rfl rfl h6 ?_
  refine W.no (dj := 7) rfl rfl h6 ?_
  refine W.no (dj := 7) rfl rfl h6 ?_
  refine W.no (dj := 7) rfl rfl h6 ?_
  refine W.ok (ok_pick_f rfl h6) ?_
  refine W.mv ?_
  refine W.no (dj := 16) rfl rfl rfl ?_
  refine W.no (dj := 16) rfl rfl rfl ?_
  refine W.no (dj := 16) rfl rfl rfl ?_
  refine W.no (dj := 16) rfl rfl rfl ?_
  refine W.no (dj := 16) rfl rfl rfl ?_
  refine W.no (dj := 16) rfl rfl rfl ?_
  refine W.no (dj := 16) rfl rfl rfl ?_
  refine W.ok (ok_pick_f rfl rfl) ?_
  refine W.as ?_
  refine W.nil (thn_n ?_)
  refine WC.ret ?_
  refine ⟨.inr rfl, [_], ⟨rfl, trivial⟩, ((b_s, .cells (List.toArray [.slice sa_X X.length sc_X, .slice sa_u u.length sc_u]) 62 (0, 0)) :: (Ms_X ++ (Ms_u ++ []))), (List.Sublist.refl _).cons_cons _, ?_⟩
  exact ⟨congrArg Value.bool (hasN_neg (by omega)), by simp⟩

theorem ralloc_fc {G : GH} {b_s : Nat} {v_X : Value} {X : List Int} {Ms_X : MH} (h_X : OwnR eInt 3 G v_X X Ms_X) {v_u : Value} {u : List Bool} {Ms_u : MH} (h_u : OwnR eBool 4 G v_u u Ms_u) (x : Int) (hXu : X.length = u.length) (hx : i64 x) :
    Fc Try.prog 29 [.pointer (some ⟨b_s, 0, none⟩), .int .i64 x] G ((b_s, .cells (List.toArray [v_X, v_u]) 62 (0, 0)) :: (Ms_X ++ (Ms_u))) (fun v G' M' => v = .int .i64 (nextR (X, u) x).1 ∧ ReR 3 4 62 b_s G' (nextR (X, u) x).2 M') := by
 obtain ⟨sa_X, sc_X, rfl⟩ := h_X.form
 obtain ⟨sa_u, sc_u, rfl⟩ := h_u.form
 have hl := h_u.len47
 have hlx := h_X.len47
 refine Fc.intro (rs := [.tmp 4]) cl29 Try.func29 rfl Try.ntmps29 rfl rfl (fun w0 => ?_)
 refine WC.perm (M' := ((b_s, .cells (List.toArray [.slice sa_X X.length sc_X, .slice sa_u u.length sc_u]) 62 (0, 0)) :: (Ms_X ++ (Ms_u ++ [])))) (by simp) ?_
 refine WC.seq ?_
 refine WC.region ?_
 refine W.as ?_
 refine W.nil (thn_n ?_)
 refine WC.seq ?_
 refine WC.seq ?_
 refine WC.region ?_
 refine W.as ?_
 refine W.nil (thn_n ?_)
 refine WC.block ?_
 refine WC.loop (X := Nat) (fun k => [(5, .int .i64 ((k : Nat) : Int)), (0, .pointer (some ⟨b_s, 0, none⟩)), (1, .int .i64 x)]) (fun k _ Ml => Ml = ((b_s, .cells (List.toArray [.slice sa_X X.length sc_X, .slice sa_u u.length sc_u]) 62 (0, 0)) :: (Ms_X ++ (Ms_u ++ []))) ∧ k ≤ u.length ∧ ∀ j (hj : j < u.length), j < k → u[j] = true) (fun k => u.length - k) 0 ⟨(by first | rfl | exact iv (by dsimp only; omega) | exact iv (by omega)), (by first | rfl | exact iv (by dsimp only; omega) | exact iv (by omega)), (by first | rfl | exact iv (by dsimp only; omega) | exact iv (by omega)), trivial⟩ ?_ ?_
 ·exact ⟨rfl, by omega, fun j _ h => by omega⟩
 ·rintro k gG5 G5 _ hG5 ⟨rfl, hk, hk2⟩
  refine WC.seq ?_
  refine WC.seq ?_
  refine WC.region ?_
  refine W.mv ?_
  refine W.mv ?_
  refine W.ok (ok_nilP rfl) ?_
  refine W.ok (ok_fieldB fd62_1 rfl) ?_
  refine W.ok (ok_loadB (i := 0) (vs := [.slice _ _ _]) ty60 rfl rfl rfl rfl (by simp)) ?_
  refine W.ok (ok_lenO sl60 (h_u.mono hG5) rfl) ?_
  refine W.ok (ok_lss rfl rfl) ?_
  refine W.nil (thn_n ?_)
  refine WC.cond (b := _) rfl (fun h12 => ?_) (fun h12 => ?_)
  ·have p12 := of_decide_eq_true h12
   refine WC.skip (thn_n ?_)
   refine WC.seq ?_
   refine WC.block ?_
   refine WC.seq ?_
   refine WC.region ?_
   refine W.mv ?_
   refine W.ok (ok_nilP rfl) ?_
   refine W.ok (ok_fieldB fd62_1 rfl) ?_
   refine W.ok (ok_loadB (i := 0) (vs := [.slice _ _ _]) ty60 rfl rfl rfl rfl (by simp)) ?_
   refine W.mv ?_
   have q9 := (h_u.mono hG5).at (i := k) (by omega)
   refine match q9 with | ⟨_, he6, e_8⟩ => ?_
   subst e_8
   refine W.ok (ok_indexAddrO (i := k) sl60 ty4 (h_u.mono hG5) rfl rfl ⟨by omega, by omega⟩) ?_
   refine W.ok (ok_loadO (vs := [.bool _]) ty4 he6 (pmC (pmA (List.Perm.refl _))) rfl rfl rfl (by simp)) ?_
   refine W.ok (ok_not rfl) ?_
   refine W.nil (thn_n ?_)
   refine WC.cond (b := _) rfl (fun h22 => ?_) (fun h22 => ?_)
   ·refine WC.seq ?_
    refine WC.region ?_
    refine W.mv ?_
    refine W.ok (ok_nilP rfl) ?_
    refine W.ok (ok_fieldB fd62_1 rfl) ?_
    refine W.ok (ok_loadB (i := 0) (vs := [.slice _ _ _]) ty60 rfl rfl rfl rfl (by simp)) ?_
    refine W.mv ?_
    have q13 := (h_u.mono hG5).at (i := k) (by omega)
    refine match q13 with | ⟨_, he10, e_12⟩ => ?_
    subst e_12
    refine W.ok (ok_indexAddrO (i := k) sl60 ty4 (h_u.mono hG5) rfl rfl ⟨by omega, by omega⟩) ?_
    refine W.storeO (i := k) (o := 0) (vs := [.bool _]) (a' := true) ty4 rfl rfl rfl rfl rfl ((h_u.mono hG5)) (pmC (pmA (List.Perm.refl _))) (by omega) (by decide) (fun cs h => by rw [h]; rfl) (fun Ms14 ho15 => ?_)
    refine W.perm (pmC (List.Perm.refl _)).symm ?_
    refine W.nil (thn_n ?_)
    refine WC.seq ?_
    refine WC.region ?_
    refine W.mv ?_
    refine W.ok (ok_nilP rfl) ?_
    refine W.ok (ok_fieldB fd62_0 rfl) ?_
    refine W.ok (ok_loadB (i := 0) (vs := [.slice _ _ _]) ty30 rfl rfl rfl rfl (by simp)) ?_
    refine W.mv ?_
    refine W.mv ?_
    have q19 := (h_X.mono hG5).at (i := k) (by omega)
    refine match q19 with | ⟨_, he16, ⟨e_18, hi17⟩⟩ => ?_
    subst e_18
    refine W.ok (ok_indexAddrO (i := k) sl30 ty3 (h_X.mono hG5) rfl rfl ⟨by omega, by omega⟩) ?_
    refine W.storeO (i := k) (o := 0) (vs := [.int .i64 _]) (a' := x) ty3 rfl rfl rfl rfl rfl ((h_X.mono hG5)) (pmC (pmA (List.Perm.refl _))) (by omega) (by decide) (fun cs h => by rw [h.1]; exact ⟨rfl, hx⟩) (fun Ms20 ho21 => ?_)
    refine W.perm (pmC (List.Perm.refl _)).symm ?_
    refine W.nil (thn_n ?_)
    refine WC.seq ?_
    refine WC.region ?_
    refine W.mv ?_
    refine W.as ?_
    refine W.nil (thn_n ?_)
    refine WC.ret (blk_r (thn_r (thn_r (blk_r (thn_r ?_)))))
    refine ⟨.inr rfl, [_], ⟨rfl, trivial⟩, ((b_s, .cells (List.toArray [.slice sa_X X.length sc_X, .slice sa_u u.length sc_u]) 62 (0, 0)) :: (Ms20 ++ (Ms14 ++ []))), (List.Sublist.refl _).cons_cons _, ?_⟩
    have hE := nextR_t (st := (X, u)) (x := x) (i := k) (by show k < u.length; omega) (by show u[k] = false; simpa using h22) (fun j hj hjk => hk2 j hj hjk)
    exact ⟨congrArg (Value.int .i64) (congrArg Prod.fst hE).symm, ReR.cast (st := (X.set k x, u.set k true)) ⟨_, _, _, _, rfl, ho21, ho15⟩ (congrArg Prod.snd hE).symm (by simp)⟩
   ·refine WC.skip (blk_n (thn_n ?_))
    refine WC.region ?_
    refine W.mv ?_
    refine W.ok (ok_add rfl rfl (by omega)) ?_
    refine W.as ?_
    refine W.nil (thn_n ?_)
    exact ⟨Le.rfl, k + 1, ⟨(by first | rfl | exact iv (by dsimp only; omega) | exact iv (by omega)), (by first | rfl | exact iv (by dsimp only; omega) | exact iv (by omega)), (by first | rfl | exact iv (by dsimp only; omega) | exact iv (by omega)), trivial⟩, ⟨rfl, by omega, fun j hj hjk => by
      by_cases e : j = k
      · subst e; simpa using h22
      · exact hk2 j hj (by omega)⟩, by omega⟩
  ·have p12 := of_decide_eq_false h12
   refine WC.exit (thn_x (thn_x (blk_h (thn_n ?_))))
   refine WC.seq ?_
   refine WC.region ?_
   refine W.as ?_
   refine W.nil (thn_n ?_)
   refine WC.ret ?_
   refine ⟨.inr rfl, [_], ⟨rfl, trivial⟩, ((b_s, .cells (List.toArray [.slice sa_X X.length sc_X, .slice sa_u u.length sc_u]) 62 (0, 0)) :: (Ms_X ++ (Ms_u ++ []))), (List.Sublist.refl _).cons_cons _, ?_⟩
   have hE := nextR_f (st := (X, u)) (x := x) (fun j hj => hk2 j hj (by have : j < u.length := hj; omega))
   exact ⟨congrArg (Value.int .i64) (congrArg Prod.fst hE).symm, ReR.cast (st := (X, u)) ⟨_, _, _, _, rfl, (h_X.mono hG5), (h_u.mono hG5)⟩ (congrArg Prod.snd hE).symm (by simp)⟩

theorem rlist_fc {G : GH} {b_s : Nat} {v_X : Value} {X : List Int} {Ms_X : MH} (h_X : OwnR eInt 3 G v_X X Ms_X) {v_u : Value} {u : List Bool} {Ms_u : MH} (h_u : OwnR eBool 4 G v_u u Ms_u) (hn : u.length ≤ 4096) :
    Fc Try.prog 31 [.pointer (some ⟨b_s, 0, none⟩)] G ((b_s, .cells (List.toArray [v_X, v_u]) 62 (0, 0)) :: (Ms_X ++ (Ms_u))) (fun v G' M' => SlR eInt G' v (usedN u) ∧ M' = (b_s, .cells (List.toArray [v_X, v_u]) 62 (0, 0)) :: (Ms_X ++ Ms_u)) := by
 obtain ⟨sa_X, sc_X, rfl⟩ := h_X.form
 obtain ⟨sa_u, sc_u, rfl⟩ := h_u.form
 have hl := h_u.len47
 have hlx := h_X.len47
 refine Fc.intro (rs := [.tmp 2]) cl31 Try.func31 rfl Try.ntmps31 rfl rfl (fun w0 => ?_)
 refine WC.perm (M' := ((b_s, .cells (List.toArray [.slice sa_X X.length sc_X, .slice sa_u u.length sc_u]) 62 (0, 0)) :: (Ms_X ++ (Ms_u ++ [])))) (by simp) ?_
 refine WC.seq ?_
 refine WC.region ?_
 refine W.as ?_
 refine W.nil (thn_n ?_)
 refine WC.seq ?_
 refine WC.region ?_
 refine W.as ?_
 refine W.nil (thn_n ?_)
 refine WC.seq ?_
 refine WC.seq ?_
 refine WC.region ?_
 refine W.as ?_
 refine W.nil (thn_n ?_)
 refine WC.block ?_
 refine WC.loop (X := (Nat) × Value × MH) (fun k => [(4, .int .i64 ((k.1 : Nat) : Int)), (0, .pointer (some ⟨b_s, 0, none⟩)), (3, k.2.1)]) (fun k G Ml => Ml = ((b_s, .cells (List.toArray [.slice sa_X X.length sc_X, .slice sa_u u.length sc_u]) 62 (0, 0)) :: (k.2.2 ++ (Ms_X ++ (Ms_u ++ [])))) ∧ OwnR eInt 3 G k.2.1 (usedK u k.1) k.2.2 ∧ k.1 ≤ u.length) (fun k => u.length - k.1) (0, .slice none 0 0, ([] : MH)) ⟨(by first | rfl | exact iv (by dsimp only; omega) | exact iv (by omega)), (by first | rfl | exact iv (by dsimp only; omega) | exact iv (by omega)), (by first | rfl | exact iv (by dsimp only; omega) | exact iv (by omega)), trivial⟩ ?_ ?_
 ·exact ⟨rfl, (by exact OwnR.nil), by omega⟩
 ·rintro ⟨k, v_3, M_3⟩ gG22 G22 _ hG22 ⟨rfl, ho_3, hk⟩
  try dsimp only at ho_3 hk
  have hkl := usedK_len u k
  refine WC.fr (f := setL gG22 [(4, .int .i64 ((k : Nat) : Int)), (0, .pointer (some ⟨b_s, 0, none⟩)), (3, v_3)]) rfl ?_
  refine WC.seq ?_
  refine WC.seq ?_
  refine WC.region ?_
  refine W.mv ?_
  refine W.mv ?_
  refine W.ok (ok_nilP rfl) ?_
  refine W.ok (ok_fieldB fd62_1 rfl) ?_
  refine W.ok (ok_loadB (i := 0) (vs := [.slice _ _ _]) ty60 rfl rfl rfl rfl (by simp)) ?_
  refine W.ok (ok_lenO sl60 (h_u.mono hG22) rfl) ?_
  refine W.ok (ok_lss rfl rfl) ?_
  refine W.nil (thn_n ?_)
  refine WC.cond (b := _) rfl (fun h11 => ?_) (fun h11 => ?_)
  ·have p11 := of_decide_eq_true h11
   refine WC.skip (thn_n ?_)
   refine WC.seq ?_
   refine WC.block ?_
   refine WC.seq ?_
   refine WC.region ?_
   refine W.mv ?_
   refine W.ok (ok_nilP rfl) ?_
   refine W.ok (ok_fieldB fd62_1 rfl) ?_
   refine W.ok (ok_loadB (i := 0) (vs := [.slice _ _ _]) ty60 rfl rfl rfl rfl (by simp)) ?_
   refine W.mv ?_
   have q26 := (h_u.mono hG22).at (i := k) (by omega)
   refine match q26 with | ⟨_, he23, e_25⟩ => ?_
   subst e_25
   refine W.ok (ok_indexAddrO (i := k) sl60 ty4 (h_u.mono hG22) rfl rfl ⟨by omega, by omega⟩) ?_
   refine W.ok (ok_loadO (vs := [.bool _]) ty4 he23 (pmC (pmA (pmA (List.Perm.refl _)))) rfl rfl rfl (by simp)) ?_
   refine W.nil (thn_n ?_)
   refine WC.cond (b := _) rfl (fun he24 => ?_) (fun he24 => ?_)
   ·refine WC.region ?_
    refine W.mv ?_
    refine W.mv ?_
    refine W.lit (e := eInt) (l := [_]) (css := [[.int .i64 _]]) sl30 ty3 zr3 rfl rfl rfl rfl rfl rfl ⟨⟨rfl, by omega, by omega⟩, trivial⟩ (fun bl27 G27 hG27 hv27 => ?_)
    refine W.app (e := eInt) sl30 ty3 zr3 rfl by3 rfl rfl ((ho_3.mono hG27)) (hv27) (pmC (List.Perm.refl _)) (by show (_ + 1) * 8 ≤ _; omega) (fun v28 Ms29 ho30 => ?_)
    refine W.perm (pmC (List.Perm.refl _)).symm ?_
    have q34 := ho30.form
    refine match q34 with | ⟨sa31, sc32, e_33⟩ => ?_
    subst e_33
    refine W.as ?_
    refine W.nil (blk_n (thn_n ?_))
    refine WC.region ?_
    refine W.mv ?_
    refine W.ok (ok_add rfl rfl (by omega)) ?_
    refine W.as ?_
    refine W.nil (thn_n ?_)
    exact ⟨hG27, (k + 1, .slice sa31 ((usedK u k ++ _)).length sc32, Ms29), ⟨(by first | rfl | exact iv (by dsimp only; omega) | exact iv (by omega)), (by first | rfl | exact iv (by dsimp only; omega) | exact iv (by omega)), (by first | rfl | exact iv (by dsimp only; omega) | exact iv (by omega)), trivial⟩, ⟨rfl, (by have h := ho30; rw [usedK_t (by omega) he24]; exact h), by omega⟩, by omega⟩
   ·refine WC.skip (blk_n (thn_n ?_))
    refine WC.region ?_
    refine W.mv ?_
    refine W.ok (ok_add rfl rfl (by omega)) ?_
    refine W.as ?_
    refine W.nil (thn_n ?_)
    exact ⟨Le.rfl, (k + 1, v_3, M_3), ⟨(by first | rfl | exact iv (by dsimp only; omega) | exact iv (by omega)), (by first | rfl | exact iv (by dsimp only; omega) | exact iv (by omega)), (by first | rfl | exact iv (by dsimp only; omega) | exact iv (by omega)), trivial⟩, ⟨rfl, (by have h := ho_3; rw [usedK_f (by omega) he24]; exact h), by omega⟩, by omega⟩
  ·have p11 := of_decide_eq_false h11
   refine WC.exit (thn_x (thn_x (blk_h (thn_n ?_))))
   refine WC.seq ?_
   refine WC.region ?_
   refine W.mv ?_
   refine W.as ?_
   refine W.nil (thn_n ?_)
   refine WC.giveO ho_3 (pmC (List.Perm.refl _)) (fun G35 hG35 hv35 => ?_)
   refine WC.ret ?_
   refine ⟨.inr rfl, [_], ⟨rfl, trivial⟩, ((b_s, .cells (List.toArray [.slice sa_X X.length sc_X, .slice sa_u u.length sc_u]) 62 (0, 0)) :: (Ms_X ++ (Ms_u ++ []))), (List.Sublist.refl _).cons_cons _, ?_⟩
   exact ⟨SlR.cast hv35 (by rw [used_eq]; congr 1; omega), by simp⟩

theorem rnew_fc {G : GH} (n : Int) :
    Fc Try.prog 23 [.int .i64 n] G [] (fun v G' M' => (¬ (1 ≤ n ∧ n ≤ 4096) ∧ v = .tuple #[.pointer none, .bool false] ∧ M' = []) ∨ ((1 ≤ n ∧ n ≤ 4096) ∧ ∃ b, v = .tuple #[.pointer (some ⟨b, 0, none⟩), .bool true] ∧ ReR 3 4 62 b G' (List.replicate n.toNat (0 : Int), List.replicate n.toNat false) M')) := by
 refine Fc.intro (rs := [.tmp 2, .tmp 3]) cl23 Try.func23 rfl Try.ntmps23 rfl rfl (fun w0 => ?_)
 refine WC.seq ?_
 refine WC.region ?_
 refine W.as ?_
 refine W.as ?_
 refine W.nil (thn_n ?_)
 refine WC.seq ?_
 refine WC.seq ?_
 refine WC.region ?_
 refine W.mv ?_
 refine W.ok (ok_lss rfl rfl) ?_
 refine W.mv ?_
 refine W.sp 6 rfl (fun h5 => ?_) (fun h5 => ?_)
 ·have p5 := of_decide_eq_true h5
  refine W.no (dj := 6) rfl rfl h5 ?_
  refine W.no (dj := 6) rfl rfl h5 ?_
  refine W.ok (ok_pick_t rfl h5) ?_
  refine W.nil (thn_n ?_)
  refine WC.cond_t rfl rfl ?_
  refine WC.seq ?_
  refine WC.region ?_
  refine W.as ?_
  refine W.as ?_
  refine W.nil (thn_n ?_)
  refine WC.ret (thn_r ?_)
  refine ⟨.inr rfl, [_, _], ⟨rfl, rfl, trivial⟩, [], List.Sublist.refl _, ?_⟩
  exact .inl ⟨by omega, rfl, rfl⟩
 ·have p5 := of_decide_eq_false h5
  refine W.yes (dj := 6) rfl rfl h5 ?_
  refine W.mv ?_
  refine W.yes (dj := 6) rfl rfl h5 ?_
  refine W.ok (ok_gtr rfl rfl) ?_
  refine W.ok (ok_pick_f rfl h5) ?_
  refine W.nil (thn_n ?_)
  refine WC.cond (b := _) rfl (fun h8 => ?_) (fun h8 => ?_)
  ·have p8 := of_decide_eq_true h8
   refine WC.seq ?_
   refine WC.region ?_
   refine W.as ?_
   refine W.as ?_
   refine W.nil (thn_n ?_)
   refine WC.ret (thn_r ?_)
   refine ⟨.inr rfl, [_, _], ⟨rfl, rfl, trivial⟩, [], List.Sublist.refl _, ?_⟩
   exact .inl ⟨by omega, rfl, rfl⟩
  ·have p8 := of_decide_eq_false h8
   obtain ⟨m, rfl⟩ : ∃ m : Nat, n = (m : Int) := ⟨n.toNat, by omega⟩
   refine WC.skip (thn_n ?_)
   refine WC.seq ?_
   refine WC.drawW _ (List.Sublist.refl _) mix (by rintro _ _ _ _ ⟨h | h, _⟩ <;> cases h) ?_
   refine WD.take 0 rfl rfl rfl (by kernel_rfl) (by kernel_rfl) (by kernel_rfl) (ok_mv) ?_
   refine WD.take 2 rfl rfl rfl (by kernel_rfl) (by kernel_rfl) (by kernel_rfl) (ok_mv) ?_
   refine WD.any [1, 3] (by kernel_rfl) rfl ⟨⟨_, rfl, rfl, ?_⟩, ⟨_, rfl, rfl, ?_⟩, trivial⟩
   ·refine W.mkSl (e := eInt) (a0 := (0 : Int)) (n := (m)) sl30 ty3 zr3 rfl by3 (⟨rfl, by decide, by decide⟩) rfl rfl (by first | (show _ * 8 ≤ 140737488355328; omega) | (show _ * 1 ≤ 16777216; omega) | (show _ * 1 ≤ 140737488355328; omega) | (show _ * 1 ≤ 16777216; omega)) (by first | (show _ * 8 ≤ 140737488355328; omega) | (show _ * 1 ≤ 16777216; omega) | (show _ * 1 ≤ 140737488355328; omega) | (show _ * 1 ≤ 16777216; omega)) (fun v36 Ms37 ho38 => ?_)
    have q42 := ho38.form
    refine match q42 with | ⟨sa39, sc40, e_41⟩ => ?_
    subst e_41
    refine W.nil ⟨Le.rfl, List.nil_sublist _, _, List.nil_sublist _, List.Sublist.refl _, ?_⟩
    refine WD.any [3] (by kernel_rfl) rfl ⟨⟨_, rfl, rfl, ?_⟩, trivial⟩
    refine W.mkSl (e := eBool) (a0 := false) (n := (m)) sl60 ty4 zr4 rfl by4 (rfl) rfl rfl (by first | (show _ * 8 ≤ 140737488355328; omega) | (show _ * 1 ≤ 16777216; omega) | (show _ * 1 ≤ 140737488355328; omega) | (show _ * 1 ≤ 16777216; omega)) (by first | (show _ * 8 ≤ 140737488355328; omega) | (show _ * 1 ≤ 16777216; omega) | (show _ * 1 ≤ 140737488355328; omega) | (show _ * 1 ≤ 16777216; omega)) (fun v43 Ms44 ho45 => ?_)
    have q49 := ho45.form
    refine match q49 with | ⟨sa46, sc47, e_48⟩ => ?_
    subst e_48
    refine W.nil ⟨Le.rfl, List.nil_sublist _, _, List.nil_sublist _, List.Sublist.refl _, ?_⟩
    refine WD.take 4 rfl rfl rfl (by kernel_rfl) (by kernel_rfl) (by kernel_rfl) (ok_build (L := [.slice _ _ _, .slice _ _ _]) pl62 zr62 rfl rfl rfl) ?_
    refine WD.any [5] (by kernel_rfl) rfl ⟨⟨_, rfl, rfl, ?_⟩, trivial⟩
    refine W.box (L := [.slice _ _ _, .slice _ _ _]) rfl rfl (fun b50 => ?_)
    refine W.nil ⟨Le.rfl, (List.nil_sublist _).cons _, _, (List.nil_sublist _).cons _, List.Sublist.refl _, ?_⟩
    refine WD.take 6 rfl rfl rfl (by kernel_rfl) (by kernel_rfl) (by kernel_rfl) (ok_as) ?_
    refine WD.take 7 rfl rfl rfl (by kernel_rfl) (by kernel_rfl) (by kernel_rfl) (ok_as) ?_
    refine WD.done (by kernel_rfl) (thn_n ?_)
    refine WC.perm (M' := ((b50, .cells (List.toArray [.slice sa39 ((List.replicate ((m)) (0 : Int))).length sc40, .slice sa46 ((List.replicate ((m)) false)).length sc47]) 62 (0, 0)) :: (Ms37 ++ (Ms44 ++ [])))) (((List.Perm.append_left _ ((List.Perm.append_left _ (List.Perm.refl _)).trans (List.Perm.refl _))).trans (pmA (List.Perm.refl _))).cons _) ?_
    refine WC.ret ?_
    refine ⟨.inr rfl, [_, _], ⟨rfl, rfl, trivial⟩, ((b50, .cells (List.toArray [.slice sa39 ((List.replicate ((m)) (0 : Int))).length sc40, .slice sa46 ((List.replicate ((m)) false)).length sc47]) 62 (0, 0)) :: (Ms37 ++ (Ms44 ++ []))), (List.Sublist.refl _).cons_cons _, ?_⟩
    exact .inr ⟨by omega, _, rfl, ReR.cast (st := (List.replicate m (0 : Int), List.replicate m false)) ⟨_, _, _, _, rfl, ho38, ho45⟩ (by simp) (by simp)⟩
   ·refine W.mkSl (e := eBool) (a0 := false) (n := (m)) sl60 ty4 zr4 rfl by4 (rfl) rfl rfl (by first | (show _ * 8 ≤ 140737488355328; omega) | (show _ * 1 ≤ 16777216; omega) | (show _ * 1 ≤ 140737488355328; omega) | (show _ * 1 ≤ 16777216; omega)) (by first | (show _ * 8 ≤ 140737488355328; omega) | (show _ * 1 ≤ 16777216; omega) | (show _ * 1 ≤ 140737488355328; omega) | (show _ * 1 ≤ 16777216; omega)) (fun v51 Ms52 ho53 => ?_)
    have q57 := ho53.form
    refine match q57 with | ⟨sa54, sc55, e_56⟩ => ?_
    subst e_56
    refine W.nil ⟨Le.rfl, List.nil_sublist _, _, List.nil_sublist _, List.Sublist.refl _, ?_⟩
    refine WD.any [1] (by kernel_rfl) rfl ⟨⟨_, rfl, rfl, ?_⟩, trivial⟩
    refine W.mkSl (e := eInt) (a0 := (0 : Int)) (n := (m)) sl30 ty3 zr3 rfl by3 (⟨rfl, by decide, by decide⟩) rfl rfl (by first | (show _ * 8 ≤ 140737488355328; omega) | (show _ * 1 ≤ 16777216; omega) | (show _ * 1 ≤ 140737488355328; omega) | (show _ * 1 ≤ 16777216; omega)) (by first | (show _ * 8 ≤ 140737488355328; omega) | (show _ * 1 ≤ 16777216; omega) | (show _ * 1 ≤ 140737488355328; omega) | (show _ * 1 ≤ 16777216; omega)) (fun v58 Ms59 ho60 => ?_)
    have q64 := ho60.form
    refine match q64 with | ⟨sa61, sc62, e_63⟩ => ?_
    subst e_63
    refine W.nil ⟨Le.rfl, List.nil_sublist _, _, List.nil_sublist _, List.Sublist.refl _, ?_⟩
    refine WD.take 4 rfl rfl rfl (by kernel_rfl) (by kernel_rfl) (by kernel_rfl) (ok_build (L := [.slice _ _ _, .slice _ _ _]) pl62 zr62 rfl rfl rfl) ?_
    refine WD.any [5] (by kernel_rfl) rfl ⟨⟨_, rfl, rfl, ?_⟩, trivial⟩
    refine W.box (L := [.slice _ _ _, .slice _ _ _]) rfl rfl (fun b65 => ?_)
    refine W.nil ⟨Le.rfl, (List.nil_sublist _).cons _, _, (List.nil_sublist _).cons _, List.Sublist.refl _, ?_⟩
    refine WD.take 6 rfl rfl rfl (by kernel_rfl) (by kernel_rfl) (by kernel_rfl) (ok_as) ?_
    refine WD.take 7 rfl rfl rfl (by kernel_rfl) (by kernel_rfl) (by kernel_rfl) (ok_as) ?_
    refine WD.done (by kernel_rfl) (thn_n ?_)
    refine WC.ret ?_
    refine ⟨.inr rfl, [_, _], ⟨rfl, rfl, trivial⟩, ((b65, .cells (List.toArray [.slice sa61 ((List.replicate ((m)) (0 : Int))).length sc62, .slice sa54 ((List.replicate ((m)) false)).length sc55]) 62 (0, 0)) :: (Ms59 ++ (Ms52 ++ []))), (List.Sublist.refl _).cons_cons _, ?_⟩
    exact .inr ⟨by omega, _, rfl, ReR.cast (st := (List.replicate m (0 : Int), List.replicate m false)) ⟨_, _, _, _, rfl, ho60, ho53⟩ (by simp) (by simp)⟩

theorem qhas_fc {G : GH} {b : Nat} {st : List Int × List Bool} {M : MH} (h : ReR 3 4 62 b G st M) (i : Int) : Fc Try.prog 26 [.pointer (some ⟨b, 0, none⟩), .int .i64 i] G M (fun v G' M' => v = .bool (hasN st.2 i) ∧ M' = M) := by
  obtain ⟨vx, vu, Mx, Mu, rfl, h1, h2⟩ := h
  exact rhas_fc h1 h2 i
theorem qalloc_fc {G : GH} {b : Nat} {st : List Int × List Bool} {M : MH} (h : ReR 3 4 62 b G st M) (hl : st.1.length = st.2.length) (x : Int) (hx : i64 x) : Fc Try.prog 29 [.pointer (some ⟨b, 0, none⟩), .int .i64 x] G M (fun v G' M' => v = .int .i64 (nextR st x).1 ∧ ReR 3 4 62 b G' (nextR st x).2 M') := by
  obtain ⟨vx, vu, Mx, Mu, rfl, h1, h2⟩ := h
  exact ralloc_fc h1 h2 x hl hx
theorem qlist_fc {G : GH} {b : Nat} {st : List Int × List Bool} {M : MH} (h : ReR 3 4 62 b G st M) (hn : st.2.length ≤ 4096) : Fc Try.prog 31 [.pointer (some ⟨b, 0, none⟩)] G M (fun v G' M' => SlR eInt G' v (usedN st.2) ∧ M' = M) := by
  obtain ⟨vx, vu, Mx, Mu, rfl, h1, h2⟩ := h
  exact rlist_fc h1 h2 hn
end Go.Proofs.Ytjbbookmgohamaa
