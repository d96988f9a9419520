/- The law SlotsPlays is walked. -/
import Derived.Test.YtjbbookmgohamaaU6
import Derived.Test.YtjbbookmgohamaaA11
namespace Go.Proofs.Ytjbbookmgohamaa
open Go Go.Fw Go.RowKit
set_option maxRecDepth 100000
set_option maxHeartbeats 1600000
set_option linter.unusedVariables false
set_option linter.unusedSimpArgs false
set_option linter.unnecessarySimpa false
theorem ofreei_t {G : GH} {b : Nat} {c : List Int} {u : List Bool} {M : MH} (h : ArR eInt 3 4 3 127 b G (c, u) M) (i : Int) (hi : i64 i)(hh : hasN u i = true) : Fc Try.prog 25 [.pointer (some ⟨b, 0, none⟩), .int .i64 i] G M (fun v G' M' => v = .int .i64 0 ∧ ArR eInt 3 4 3 127 b G' (c.set i.toNat 0, u.set i.toNat false) M') := by
  have h0 := ofreei h i hi
  rw [freeA_t (st := (c, u)) hh] at h0
  exact h0
theorem ofreei_f {G : GH} {b : Nat} {c : List Int} {u : List Bool} {M : MH} (h : ArR eInt 3 4 3 127 b G (c, u) M) (i : Int) (hi : i64 i)(hh : hasN u i = false) : Fc Try.prog 25 [.pointer (some ⟨b, 0, none⟩), .int .i64 i] G M (fun v G' M' => v = .int .i64 8 ∧ ArR eInt 3 4 3 127 b G' (c, u) M') := by
  have h0 := ofreei h i hi
  rw [freeA_f (st := (c, u)) hh] at h0
  exact h0
theorem oseti_t {G : GH} {b : Nat} {c : List Int} {u : List Bool} {M : MH} (h : ArR eInt 3 4 3 127 b G (c, u) M) (i x : Int) (hx : i64 x)(hh : hasN u i = true) : Fc Try.prog 27 [.pointer (some ⟨b, 0, none⟩), .int .i64 i, .int .i64 x] G M (fun v G' M' => v = .int .i64 0 ∧ ArR eInt 3 4 3 127 b G' (c.set i.toNat x, u) M') := by
  have h0 := oseti h i x hx
  rw [layA_t (st := (c, u)) hh] at h0
  exact h0
theorem oseti_f {G : GH} {b : Nat} {c : List Int} {u : List Bool} {M : MH} (h : ArR eInt 3 4 3 127 b G (c, u) M) (i x : Int) (hx : i64 x)(hh : hasN u i = false) : Fc Try.prog 27 [.pointer (some ⟨b, 0, none⟩), .int .i64 i, .int .i64 x] G M (fun v G' M' => v = .int .i64 8 ∧ ArR eInt 3 4 3 127 b G' (c, u) M') := by
  have h0 := oseti h i x hx
  rw [layA_f (st := (c, u)) hh] at h0
  exact h0
theorem oalloci_t {G : GH} {b : Nat} {c : List Int} {u : List Bool} {M : MH} (h : ArR eInt 3 4 3 127 b G (c, u) M) (x : Int) (hx : i64 x)(hh : firstN u < u.length) : Fc Try.prog 28 [.pointer (some ⟨b, 0, none⟩), .int .i64 x] G M (fun v G' M' => v = .tuple #[.int .i64 ((firstN u : Nat) : Int), .int .i64 0] ∧ ArR eInt 3 4 3 127 b G' (c.set (firstN u) x, u.set (firstN u) true) M') := by
  have h0 := oalloci h x hx
  rw [nextA_t (st := (c, u)) hh] at h0
  exact h0
theorem oalloci_f {G : GH} {b : Nat} {c : List Int} {u : List Bool} {M : MH} (h : ArR eInt 3 4 3 127 b G (c, u) M) (x : Int) (hx : i64 x)(hh : ¬ firstN u < u.length) : Fc Try.prog 28 [.pointer (some ⟨b, 0, none⟩), .int .i64 x] G M (fun v G' M' => v = .tuple #[.int .i64 0, .int .i64 4] ∧ ArR eInt 3 4 3 127 b G' (c, u) M') := by
  have h0 := oalloci h x hx
  have hle := firstN_le u
  rw [nextA_f (st := (c, u)) (by show firstN u = u.length; omega)] at h0
  exact h0
theorem ogeti_t {G : GH} {b : Nat} {c : List Int} {u : List Bool} {M : MH} (h : ArR eInt 3 4 3 127 b G (c, u) M) (i : Int)(hh : hasN u i = true) : Fc Try.prog 30 [.pointer (some ⟨b, 0, none⟩), .int .i64 i] G M (fun v G' M' => v = .tuple #[.int .i64 (getA (c, u) i 0), .bool true] ∧ M' = M) := by
  have h0 := ogeti h i
  dsimp only at h0
  rw [hh] at h0
  exact h0
theorem ogeti_f {G : GH} {b : Nat} {c : List Int} {u : List Bool} {M : MH} (h : ArR eInt 3 4 3 127 b G (c, u) M) (i : Int)(hh : hasN u i = false) : Fc Try.prog 30 [.pointer (some ⟨b, 0, none⟩), .int .i64 i] G M (fun v G' M' => v = .tuple #[.int .i64 0, .bool false] ∧ M' = M) := by
  have h0 := ogeti h i
  dsimp only at h0
  rw [hh, getA_f (st := (c, u)) hh] at h0
  exact h0
theorem qalloc_t {G : GH} {b : Nat} {X : List Int} {u : List Bool} {M : MH} (h : ReR 3 4 62 b G (X, u) M) (hl : X.length = u.length) (x : Int) (hx : i64 x)(hh : firstN u < u.length) : Fc Try.prog 29 [.pointer (some ⟨b, 0, none⟩), .int .i64 x] G M (fun v G' M' => v = .int .i64 ((firstN u : Nat) : Int) ∧ ReR 3 4 62 b G' (X.set (firstN u) x, u.set (firstN u) true) M') := by
  have h0 := qalloc_fc h hl x hx
  have e : nextR (X, u) x = ((firstN u : Int), (X.set (firstN u) x, u.set (firstN u) true)) := if_pos hh
  rw [e] at h0
  exact h0
theorem qalloc_f {G : GH} {b : Nat} {X : List Int} {u : List Bool} {M : MH} (h : ReR 3 4 62 b G (X, u) M) (hl : X.length = u.length) (x : Int) (hx : i64 x)(hh : ¬ firstN u < u.length) : Fc Try.prog 29 [.pointer (some ⟨b, 0, none⟩), .int .i64 x] G M (fun v G' M' => v = .int .i64 (-1) ∧ ReR 3 4 62 b G' (X, u) M') := by
  have h0 := qalloc_fc h hl x hx
  have e : nextR (X, u) x = (-1, (X, u)) := if_neg hh
  rw [e] at h0
  exact h0
theorem qhas_t {G : GH} {b : Nat} {X : List Int} {u : List Bool} {M : MH} (h : ReR 3 4 62 b G (X, u) M) (i : Int)(hh : hasN u i = true) : Fc Try.prog 26 [.pointer (some ⟨b, 0, none⟩), .int .i64 i] G M (fun v G' M' => v = .bool true ∧ M' = M) := by
  have h0 := qhas_fc h i
  dsimp only at h0
  rw [hh] at h0
  exact h0
theorem qhas_f {G : GH} {b : Nat} {X : List Int} {u : List Bool} {M : MH} (h : ReR 3 4 62 b G (X, u) M) (i : Int)(hh : hasN u i = false) : Fc Try.prog 26 [.pointer (some ⟨b, 0, none⟩), .int .i64 i] G M (fun v G' M' => v = .bool false ∧ M' = M) := by
  have h0 := qhas_fc h i
  dsimp only at h0
  rw [hh] at h0
  exact h0
theorem rhas_t {G : GH} {b_s : Nat} {v_X v_u : Value} {Ms_X Ms_u : MH} {X : List Int} {u : List Bool} (h1 : OwnR eInt 3 G v_X X Ms_X) (h2 : OwnR eBool 4 G v_u u Ms_u) (i : Int) (hh : hasN u i = true) : Fc Try.prog 26 [.pointer (some ⟨b_s, 0, none⟩), .int .i64 i] G ((b_s, .cells (List.toArray [v_X, v_u]) 62 (0, 0)) :: (Ms_X ++ Ms_u)) (fun v G' M' => v = .bool true ∧ M' = (b_s, .cells (List.toArray [v_X, v_u]) 62 (0, 0)) :: (Ms_X ++ Ms_u)) := (rhas_fc h1 h2 i).mono fun v G' M' _ ⟨e1, e2⟩ => ⟨e1.trans (congrArg Value.bool hh), e2⟩
theorem rhas_f {G : GH} {b_s : Nat} {v_X v_u : Value} {Ms_X Ms_u : MH} {X : List Int} {u : List Bool} (h1 : OwnR eInt 3 G v_X X Ms_X) (h2 : OwnR eBool 4 G v_u u Ms_u) (i : Int) (hh : hasN u i = false) : Fc Try.prog 26 [.pointer (some ⟨b_s, 0, none⟩), .int .i64 i] G ((b_s, .cells (List.toArray [v_X, v_u]) 62 (0, 0)) :: (Ms_X ++ Ms_u)) (fun v G' M' => v = .bool false ∧ M' = (b_s, .cells (List.toArray [v_X, v_u]) 62 (0, 0)) :: (Ms_X ++ Ms_u)) := (rhas_fc h1 h2 i).mono fun v G' M' _ ⟨e1, e2⟩ => ⟨e1.trans (congrArg Value.bool hh), e2⟩
theorem hasN_or (u : List Bool) (i : Int) : hasN u i = true ∨ hasN u i = false := by cases hasN u i <;> simp
set_option maxHeartbeats 16000000
theorem slotsPlays_fc {G : GH} (n : Int) {v_acts : Value} {acts : List Act3} (h_acts : SlR eAct3 G v_acts acts) (hn0 : i64 n) :
    Fc Try.prog 4 [.int .i64 n, v_acts] G [] (fun v _ _ => v = .bool (true)) := by
 obtain ⟨sa_acts, sc_acts, rfl⟩ := h_acts.form
 have hl := h_acts.len47
 refine Fc.intro (rs := [.tmp 4]) cl4 Try.func4 rfl Try.ntmps4 rfl rfl (fun w0 => ?_)
 refine WC.seq ?_
 refine WC.region ?_
 refine W.as ?_
 refine W.nil (thn_n ?_)
 refine WC.seq ?_
 refine WC.region ?_
 refine W.mv ?_
 refine W.call (Mp := []) (snewi_fc n) rfl (List.Perm.refl _) ?_
 intro v4 G1 Ms3 hG1 q2
 refine Or.elim q2 (fun q5 => ?_) (fun q6 => ?_)
 ·refine match q5 with | ⟨hn1, e_7, e_8⟩ => ?_
  subst e_7
  subst e_8
  refine W.mv ?_
  refine W.ok (ok_extract rfl rfl) ?_
  refine W.ok (ok_extract rfl rfl) ?_
  refine W.as ?_
  refine W.as ?_
  refine W.nil (thn_n ?_)
  refine WC.seq ?_
  refine WC.region ?_
  refine W.mv ?_
  refine W.call (Mp := []) (rnew_fc n) rfl (List.Perm.refl _) ?_
  intro v12 G9 Ms11 hG9 q10
  refine Or.elim q10 (fun q13 => ?_) (fun q14 => ?_)
  ·refine match q13 with | ⟨hn1, e_15, e_16⟩ => ?_
   subst e_15
   subst e_16
   refine W.mv ?_
   refine W.ok (ok_extract rfl rfl) ?_
   refine W.ok (ok_extract rfl rfl) ?_
   refine W.as ?_
   refine W.as ?_
   refine W.nil (thn_n ?_)
   refine WC.seq ?_
   refine WC.seq ?_
   refine WC.region ?_
   refine W.mv ?_
   refine W.ok (ok_eql rfl rfl) ?_
   refine W.mv ?_
   refine W.ok (ok_neqB bo4 rfl rfl) ?_
   refine W.mv ?_
   refine W.yes (dj := 32) rfl rfl rfl ?_
   refine W.mv ?_
   refine W.yes (dj := 32) rfl rfl rfl ?_
   refine W.ok (ok_eqlPN pp48 rfl rfl) ?_
   refine W.yes (dj := 32) rfl rfl rfl ?_
   refine W.mv ?_
   refine W.yes (dj := 32) rfl rfl rfl ?_
   refine W.ok (ok_eqlB bo4 rfl rfl) ?_
   refine W.ok (ok_pick_f rfl rfl) ?_
   refine W.mv ?_
   refine W.yes (dj := 38) rfl rfl rfl ?_
   refine W.mv ?_
   refine W.yes (dj := 38) rfl rfl rfl ?_
   refine W.ok (ok_not rfl) ?_
   refine W.yes (dj := 38) rfl rfl rfl ?_
   refine W.mv ?_
   refine W.yes (dj := 41) rfl rfl rfl ?_
   refine W.mv ?_
   refine W.yes (dj := 41) rfl rfl rfl ?_
   refine W.ok (ok_neq rfl rfl) ?_
   refine W.yes (dj := 38) rfl rfl rfl ?_
   refine W.ok (ok_pick_t rfl rfl) ?_
   refine W.ok (ok_pick_f rfl rfl) ?_
   refine W.nil (thn_n ?_)
   refine WC.cond_f rfl rfl ?_
   refine WC.skip (thn_n ?_)
   refine WC.seq ?_
   refine WC.seq ?_
   refine WC.region ?_
   refine W.mv ?_
   refine W.ok (ok_not rfl) ?_
   refine W.mv ?_
   refine W.no (dj := 48) rfl rfl rfl ?_
   refine W.no (dj := 48) rfl rfl rfl ?_
   refine W.no (dj := 48) rfl rfl rfl ?_
   refine W.ok (ok_pick_t rfl rfl) ?_
   refine W.nil (thn_n ?_)
   refine WC.cond_t rfl rfl ?_
   refine WC.seq ?_
   refine WC.region ?_
   refine W.qcall (awake11_fc) rfl ?_
   refine W.as ?_
   refine W.nil (thn_n ?_)
   refine WC.ret (thn_r ?_)
   refine ⟨.inr rfl, [_], ⟨rfl, trivial⟩, [], List.nil_sublist _, ?_⟩
   rfl
  ·exact absurd q14.1 hn1
 ·refine match q6 with | ⟨hn2, bA, e_17, hA9⟩ => ?_
  subst e_17
  refine W.mv ?_
  refine W.ok (ok_extract rfl rfl) ?_
  refine W.ok (ok_extract rfl rfl) ?_
  refine W.as ?_
  refine W.as ?_
  refine W.nil (thn_n ?_)
  refine WC.seq ?_
  refine WC.region ?_
  refine W.mv ?_
  refine W.call (Mp := []) (rnew_fc n) rfl (List.Perm.refl _) ?_
  intro v21 G18 Ms20 hG18 q19
  refine Or.elim q19 (fun q22 => ?_) (fun q23 => ?_)
  ·exact absurd hn2 q22.1
  ·refine match q23 with | ⟨hn3, bR, e_24, hR9⟩ => ?_
   subst e_24
   refine W.mv ?_
   refine W.ok (ok_extract rfl rfl) ?_
   refine W.ok (ok_extract rfl rfl) ?_
   refine W.as ?_
   refine W.as ?_
   refine W.nil (thn_n ?_)
   refine WC.seq ?_
   refine WC.seq ?_
   refine WC.region ?_
   refine W.mv ?_
   refine W.ok (ok_eql rfl rfl) ?_
   refine W.mv ?_
   refine W.ok (ok_neqB bo4 rfl rfl) ?_
   refine W.mv ?_
   refine W.yes (dj := 32) rfl rfl rfl ?_
   refine W.mv ?_
   refine W.yes (dj := 32) rfl rfl rfl ?_
   refine W.ok (ok_eqlPN pp48 rfl rfl) ?_
   refine W.yes (dj := 32) rfl rfl rfl ?_
   refine W.mv ?_
   refine W.yes (dj := 32) rfl rfl rfl ?_
   refine W.ok (ok_eqlB bo4 rfl rfl) ?_
   refine W.ok (ok_pick_f rfl rfl) ?_
   refine W.mv ?_
   refine W.yes (dj := 38) rfl rfl rfl ?_
   refine W.mv ?_
   refine W.yes (dj := 38) rfl rfl rfl ?_
   refine W.ok (ok_not rfl) ?_
   refine W.yes (dj := 38) rfl rfl rfl ?_
   refine W.mv ?_
   refine W.no (dj := 41) rfl rfl rfl ?_
   refine W.no (dj := 41) rfl rfl rfl ?_
   refine W.yes (dj := 38) rfl rfl rfl ?_
   refine W.ok (ok_pick_f rfl rfl) ?_
   refine W.ok (ok_pick_f rfl rfl) ?_
   refine W.nil (thn_n ?_)
   refine WC.cond_f rfl rfl ?_
   refine WC.skip (thn_n ?_)
   refine WC.seq ?_
   refine WC.seq ?_
   refine WC.region ?_
   refine W.mv ?_
   refine W.ok (ok_not rfl) ?_
   refine W.mv ?_
   refine W.yes (dj := 48) rfl rfl rfl ?_
   refine W.mv ?_
   refine W.yes (dj := 48) rfl rfl rfl ?_
   refine W.ok (ok_len sl47 (h_acts.mono (hG1.trans hG18)) rfl) ?_
   refine W.yes (dj := 48) rfl rfl rfl ?_
   refine W.ok (ok_gtr rfl rfl) ?_
   refine W.ok (ok_pick_f rfl rfl) ?_
   refine W.nil (thn_n ?_)
   refine WC.cond (b := _) rfl (fun h51 => ?_) (fun h51 => ?_)
   ·have p51 := of_decide_eq_true h51
    refine WC.seq ?_
    refine WC.region ?_
    refine W.qcall (awake11_fc) rfl ?_
    refine W.as ?_
    refine W.nil (thn_n ?_)
    refine WC.ret (thn_r ?_)
    refine ⟨.inr rfl, [_], ⟨rfl, trivial⟩, [], List.nil_sublist _, ?_⟩
    rfl
   ·have p51 := of_decide_eq_false h51
    refine WC.skip (thn_n ?_)
    refine WC.seq ?_
    refine WC.seq ?_
    refine WC.region ?_
    refine W.mv ?_
    refine W.ok (ok_len sl47 (h_acts.mono (hG1.trans hG18)) rfl) ?_
    refine W.mv ?_
    refine W.nil (thn_n ?_)
    refine WC.block ?_
    refine WC.loop (X := (Nat × List Int × List Bool × List Int) × MH × MH) (fun x => [(56, .int .i64 ((x.1.1 : Nat) : Int)), (0, .int .i64 n), (54, .slice sa_acts acts.length sc_acts), (55, .int .i64 (((acts).length : Nat) : Int)), (7, .pointer (some ⟨bR, 0, none⟩)), (5, .pointer (some ⟨bA, 0, none⟩))]) (fun x G Ml => Ml = (x.2.1 ++ (x.2.2 ++ [])) ∧ ReR 3 4 62 bR G ((x.1.2.2.2, x.1.2.2.1)) x.2.1 ∧ ArR eInt 3 4 3 127 bA G ((x.1.2.1, x.1.2.2.1)) x.2.2 ∧ x.1.1 ≤ acts.length ∧ x.1.2.2.1.length = n.toNat ∧ Agree x.1.2.1 x.1.2.2.1 x.1.2.2.2) (fun x => acts.length - x.1.1) ((0, List.replicate n.toNat 0, List.replicate n.toNat false, List.replicate n.toNat 0), Ms20, Ms3) ⟨(by first | rfl | exact iv (by dsimp only; omega) | exact iv (by omega)), (by first | rfl | exact iv (by dsimp only; omega) | exact iv (by omega)), (by first | rfl | exact iv (by dsimp only; omega) | exact iv (by omega)), (by first | rfl | exact iv (by dsimp only; omega) | exact iv (by omega)), (by first | rfl | exact iv (by dsimp only; omega) | exact iv (by omega)), (by first | rfl | exact iv (by dsimp only; omega) | exact iv (by omega)), trivial⟩ ?_ ?_
    ·exact ⟨rfl, (by exact hR9), (by exact (ArR.mono hG18 hA9)), by simp, by simp, Agree.init _⟩
    ·rintro ⟨⟨k, c, u, X⟩, M_7, M_5⟩ gG25 G25 _ hG25 ⟨rfl, ho_7, ho_5, hk, hun, hag⟩
     try dsimp only at ho_7 ho_5 hk hun hag
     have hXu := hag.2.1
     have hfu := free_used u
     refine WC.fr (f := setL gG25 [(56, .int .i64 ((k : Nat) : Int)), (0, .int .i64 n), (54, .slice sa_acts acts.length sc_acts), (55, .int .i64 (((acts).length : Nat) : Int)), (7, .pointer (some ⟨bR, 0, none⟩)), (5, .pointer (some ⟨bA, 0, none⟩))]) rfl ?_
     refine WC.seq ?_
     refine WC.region ?_
     refine W.ok (ok_lss rfl rfl) ?_
     refine W.nil (thn_n ?_)
     refine WC.seq ?_
     refine WC.cond (b := _) rfl (fun h57 => ?_) (fun h57 => ?_)
     ·have p57 := of_decide_eq_true h57
      refine WC.skip (thn_n ?_)
      refine WC.seq ?_
      refine WC.block ?_
      refine WC.seq ?_
      refine WC.region ?_
      have q29 := (h_acts.mono ((hG1.trans hG18).trans hG25)).at (i := k) (by omega)
      refine match q29 with | ⟨_, he26, ⟨e_28, hqa_ha27, hqb_ha27, hqc_ha27⟩⟩ => ?_
      subst e_28
      refine W.ok (ok_indexAddr (i := k) sl47 ty56 (h_acts.mono ((hG1.trans hG18).trans hG25)) rfl rfl ⟨by omega, by omega⟩) ?_
      refine W.ok (ok_loadE (vs := [.int .i64 _, .int .i64 _, .int .i64 _]) ty56 he26 rfl rfl rfl (by simp)) ?_
      refine W.alloc zr56 (fun b30 => ?_)
      refine W.store (i := 0) (vs := [.int .i64 _, .int .i64 _, .int .i64 _]) (L' := [.int .i64 _, .int .i64 _, .int .i64 _]) ty56 rfl rfl rfl rfl rfl rfl rfl rfl ?_
      refine W.nil (thn_n ?_)
      refine WC.seq ?_
      refine WC.region ?_
      refine W.as ?_
      refine W.nil (thn_n ?_)
      refine WC.seq ?_
      refine WC.seq ?_
      refine WC.region ?_
      refine W.ok (ok_fieldB fd56_0 rfl) ?_
      refine W.ok (ok_loadB (i := 0) (vs := [.int .i64 _]) ty3 rfl rfl rfl rfl (by simp)) ?_
      refine W.ok (ok_convW un3 un57 rfl) ?_
      refine W.ok (ok_rem rfl rfl (by decide)) ?_
      refine W.nil (thn_n ?_)
      refine WC.block ?_
      refine WC.seq ?_
      refine WC.region ?_
      refine W.ok (ok_eql rfl rfl) ?_
      refine W.as ?_
      refine W.nil (thn_n ?_)
      refine WC.cond (b := _) rfl (fun h99 => ?_) (fun h99 => ?_)
      ·have p99 := of_decide_eq_true h99
       refine WC.seq ?_
       refine WC.region ?_
       refine W.mv ?_
       refine W.ok (ok_fieldB fd56_1 rfl) ?_
       refine W.ok (ok_loadB (i := 0) (vs := [.int .i64 _]) ty3 rfl rfl rfl rfl (by simp)) ?_
       have q31 := hasN_or u (((acts)[k]).slot)
       refine Or.elim q31 (fun q32 => ?_) (fun q33 => ?_)
       ·refine W.call (Mp := M_5) (ofreei_t ho_5 _ (by assumption) q32) rfl (pmC (pmA (List.Perm.refl _))) ?_
        intro v37 G34 Ms36 hG34 q35
        refine match q35 with | ⟨e_39, hR38⟩ => ?_
        subst e_39
        refine W.perm (pmC (List.Perm.refl _)).symm ?_
        refine W.as ?_
        refine W.nil (thn_n ?_)
        refine WC.seq ?_
        refine WC.seq ?_
        refine WC.region ?_
        refine W.mv ?_
        refine W.ok (ok_eql rfl rfl) ?_
        refine W.mv ?_
        refine W.ok (ok_fieldB fd56_1 rfl) ?_
        refine W.ok (ok_loadB (i := 0) (vs := [.int .i64 _]) ty3 rfl rfl rfl rfl (by simp)) ?_
        refine W.call (Mp := M_7) (qhas_t (ReR.mono hG34 ho_7) _ q32) rfl (pmC (pmA (List.Perm.refl _))) ?_
        intro v43 G40 Ms42 hG40 q41
        refine match q41 with | ⟨e_45, eeq41⟩ => ?_
        subst e_45
        have eeq41 := eeq41.symm
        subst eeq41
        refine W.perm (pmC (List.Perm.refl _)).symm ?_
        refine W.ok (ok_neqB bo4 rfl rfl) ?_
        refine W.mv ?_
        refine W.yes (dj := 111) rfl rfl rfl ?_
        refine W.mv ?_
        refine W.yes (dj := 111) rfl rfl rfl ?_
        refine W.ok (ok_neq rfl rfl) ?_
        refine W.yes (dj := 111) rfl rfl rfl ?_
        refine W.mv ?_
        refine W.no (dj := 114) rfl rfl rfl ?_
        refine W.no (dj := 114) rfl rfl rfl ?_
        refine W.yes (dj := 111) rfl rfl rfl ?_
        refine W.ok (ok_pick_f rfl rfl) ?_
        refine W.ok (ok_pick_f rfl rfl) ?_
        refine W.nil (thn_n ?_)
        refine WC.cond_f rfl rfl ?_
        refine WC.skip (thn_n ?_)
        refine WC.seq ?_
        refine WC.region ?_
        refine W.mv ?_
        refine W.ok (ok_eql rfl rfl) ?_
        refine W.nil (thn_n ?_)
        refine WC.cond_t rfl rfl ?_
        have hil := hasN_lt q32
        have hXl := hag.2.1
        refine match (ReR.mono (hG34.trans hG40) ho_7) with | ⟨vX_u46, vu_u46, MX_u46, Mu_u46, eM_, hX_u46, hu_u46⟩ => ?_
        subst eM_
        refine WC.perm (M' := ((bR, .cells (List.toArray [vX_u46, vu_u46]) 62 (0, 0)) :: ((b30, .cells (List.toArray [.int .i64 ((acts)[k]).kind, .int .i64 ((acts)[k]).slot, .int .i64 ((acts)[k]).x]) 56 (0, 0)) :: (MX_u46 ++ (Mu_u46 ++ (Ms36 ++ [])))))) (pmD ((pmF (List.Perm.refl _)).cons _)).symm ?_
        dsimp only at hX_u46 hu_u46
        have hf_ := hX_u46.form
        obtain ⟨saX_u46, scX_u46, eV_⟩ := hf_
        subst eV_
        have hf_ := hu_u46.form
        obtain ⟨sau_u46, scu_u46, eV_⟩ := hf_
        subst eV_
        refine WC.drawW _ (((List.nil_sublist _).cons_cons _).cons_cons _) mix (by rintro _ _ _ _ ⟨h | h, _⟩ <;> cases h) ?_
        refine WD.take 0 rfl rfl rfl (by kernel_rfl) (by kernel_rfl) (by kernel_rfl) (ok_mv) ?_
        refine WD.take 1 rfl rfl rfl (by kernel_rfl) (by kernel_rfl) (by kernel_rfl) (ok_nilP rfl) ?_
        refine WD.take 2 rfl rfl rfl (by kernel_rfl) (by kernel_rfl) (by kernel_rfl) (ok_fieldB fd62_1 rfl) ?_
        refine WD.take 3 rfl rfl rfl (by kernel_rfl) (by kernel_rfl) (by kernel_rfl) (ok_loadB (i := 0) (vs := [.slice _ _ _]) ty60 rfl rfl rfl rfl (by simp)) ?_
        refine WD.take 4 rfl rfl rfl (by kernel_rfl) (by kernel_rfl) (by kernel_rfl) (ok_fieldB fd56_1 rfl) ?_
        refine WD.take 5 rfl rfl rfl (by kernel_rfl) (by kernel_rfl) (by kernel_rfl) (ok_loadB (i := 1) (vs := [.int .i64 _]) ty3 rfl rfl rfl rfl (by simp)) ?_
        have q50 := hu_u46.at (i := ((acts)[k]).slot.toNat) (by omega)
        refine match q50 with | ⟨_, he47, e_49⟩ => ?_
        subst e_49
        refine WD.take 6 rfl rfl rfl (by kernel_rfl) (by kernel_rfl) (by kernel_rfl) (ok_indexAddrO (i := ((acts)[k]).slot.toNat) sl60 ty4 hu_u46 rfl rfl ⟨by omega, by omega⟩) ?_
        refine WD.any [7] (by kernel_rfl) rfl ⟨⟨_, rfl, rfl, ?_⟩, trivial⟩
        refine W.storeO (i := ((acts)[k]).slot.toNat) (o := 0) (vs := [.bool _]) (a' := false) ty4 rfl rfl rfl rfl rfl (hu_u46) (pmC (pmC (pmA (List.Perm.refl _)))) (by omega) (by decide) (fun cs h => by rw [h]; rfl) (fun Ms51 ho52 => ?_)
        refine W.perm (pmC (pmC (List.Perm.refl _))).symm ?_
        refine W.nil ⟨Le.rfl, ((List.nil_sublist _).cons_cons _).cons_cons _, _, ((List.nil_sublist _).cons_cons _).cons_cons _, List.Sublist.refl _, ?_⟩
        refine WD.done (by kernel_rfl) (blk_n (thn_n ?_))
        refine WC.seq ?_
        have hag2 : Agree (c.set (((acts)[k]).slot).toNat 0) (u.set (((acts)[k]).slot).toNat false) X := hag.free ((acts)[k]).slot.toNat 0
        have hXl2 := hag2.2.1
        refine WC.region ?_
        refine W.mv ?_
        refine W.ok (ok_fieldB fd56_1 rfl) ?_
        refine W.ok (ok_loadB (i := 1) (vs := [.int .i64 _]) ty3 rfl rfl rfl rfl (by simp)) ?_
        have q53 := hasN_or (u.set (((acts)[k]).slot).toNat false) (((acts)[k]).slot)
        refine Or.elim q53 (fun q54 => ?_) (fun q55 => ?_)
        ·refine W.call (Mp := Ms36) (ogeti_t (ArR.mono hG40 hR38) _ q54) rfl (pmC (pmC (pmA (pmA (List.Perm.refl _))))) ?_
         intro v59 G56 Ms58 hG56 q57
         refine match q57 with | ⟨e_61, eeq57⟩ => ?_
         subst e_61
         have eeq57 := eeq57.symm
         subst eeq57
         refine W.perm (pmC (pmC (List.Perm.refl _))).symm ?_
         refine W.mv ?_
         refine W.ok (ok_extract rfl rfl) ?_
         refine W.ok (ok_extract rfl rfl) ?_
         refine W.as ?_
         refine W.as ?_
         refine W.nil (thn_n ?_)
         refine WC.seq ?_
         have hil := hasN_lt q54
         have hXl := hag.2.1
         refine WC.drawW _ (((List.nil_sublist _).cons_cons _).cons_cons _) mix (by rintro _ _ _ _ ⟨h | h, _⟩ <;> cases h) ?_
         refine WD.take 0 rfl rfl rfl (by kernel_rfl) (by kernel_rfl) (by kernel_rfl) (ok_mv) ?_
         refine WD.take 1 rfl rfl rfl (by kernel_rfl) (by kernel_rfl) (by kernel_rfl) (ok_mv) ?_
         refine WD.take 2 rfl rfl rfl (by kernel_rfl) (by kernel_rfl) (by kernel_rfl) (ok_fieldB fd56_1 rfl) ?_
         refine WD.take 3 rfl rfl rfl (by kernel_rfl) (by kernel_rfl) (by kernel_rfl) (ok_loadB (i := 1) (vs := [.int .i64 _]) ty3 rfl rfl rfl rfl (by simp)) ?_
         refine WD.any [4] (by kernel_rfl) rfl ⟨⟨_, rfl, rfl, ?_⟩, trivial⟩
         refine W.call (Mp := ((bR, .cells (List.toArray [.slice saX_u46 (X).length scX_u46, .slice sau_u46 (u).length scu_u46]) 62 (0, 0)) :: (MX_u46 ++ Ms51))) (Mr := ((b30, .cells (List.toArray [.int .i64 ((acts)[k]).kind, .int .i64 ((acts)[k]).slot, .int .i64 ((acts)[k]).x]) 56 (0, 0)) :: (Ms36 ++ []))) (rhas_t (hX_u46.mono hG56) (ho52.mono hG56) _ q54) rfl (((pmC ((pmF (pmA (List.Perm.refl _))).trans (pmA (pmA (List.Perm.refl _))))).cons _).trans (List.Perm.refl _)) ?_
         intro v65 G62 Ms64 hG62 q63
         refine match q63 with | ⟨e_66, e_67⟩ => ?_
         subst e_66
         subst e_67
         refine W.perm (M' := ((bR, .cells (List.toArray [.slice saX_u46 (X).length scX_u46, .slice sau_u46 (u).length scu_u46]) 62 (0, 0)) :: ((b30, .cells (List.toArray [.int .i64 ((acts)[k]).kind, .int .i64 ((acts)[k]).slot, .int .i64 ((acts)[k]).x]) 56 (0, 0)) :: (MX_u46 ++ (Ms51 ++ (Ms36 ++ [])))))) (((pmC ((pmF (List.Perm.refl _)).trans (List.Perm.refl _))).cons _).trans (List.Perm.refl _)).symm ?_
         refine W.nil ⟨hG62, ((List.nil_sublist _).cons_cons _).cons_cons _, _, ((List.nil_sublist _).cons_cons _).cons_cons _, List.Sublist.refl _, ?_⟩
         refine WD.take 5 rfl rfl rfl (by kernel_rfl) (by kernel_rfl) (by kernel_rfl) (ok_neqB bo4 rfl rfl) ?_
         refine WD.take 6 rfl rfl rfl (by kernel_rfl) (by kernel_rfl) (by kernel_rfl) (ok_mv) ?_
         refine WD.takeY 7 175 rfl rfl rfl rfl rfl rfl (by kernel_rfl) (by kernel_rfl) (by kernel_rfl) (ok_mv) ?_
         refine WD.takeY 8 175 rfl rfl rfl rfl rfl rfl (by kernel_rfl) (by kernel_rfl) (by kernel_rfl) (ok_mv) ?_
         refine WD.takeY 9 177 rfl rfl rfl rfl rfl rfl (by kernel_rfl) (by kernel_rfl) (by kernel_rfl) (ok_mv) ?_
         refine WD.takeY 10 177 rfl rfl rfl rfl rfl rfl (by kernel_rfl) (by kernel_rfl) (by kernel_rfl) (ok_mv) ?_
         refine WD.takeY 11 177 rfl rfl rfl rfl rfl rfl (by kernel_rfl) (by kernel_rfl) (by kernel_rfl) (ok_nilP rfl) ?_
         refine WD.takeY 12 177 rfl rfl rfl rfl rfl rfl (by kernel_rfl) (by kernel_rfl) (by kernel_rfl) (ok_fieldB fd62_0 rfl) ?_
         refine WD.takeY 13 177 rfl rfl rfl rfl rfl rfl (by kernel_rfl) (by kernel_rfl) (by kernel_rfl) (ok_loadB (i := 0) (vs := [.slice _ _ _]) ty30 rfl rfl rfl rfl (by simp)) ?_
         refine WD.takeY 14 177 rfl rfl rfl rfl rfl rfl (by kernel_rfl) (by kernel_rfl) (by kernel_rfl) (ok_fieldB fd56_1 rfl) ?_
         refine WD.takeY 15 177 rfl rfl rfl rfl rfl rfl (by kernel_rfl) (by kernel_rfl) (by kernel_rfl) (ok_loadB (i := 1) (vs := [.int .i64 _]) ty3 rfl rfl rfl rfl (by simp)) ?_
         have q71 := (hX_u46.mono (hG56.trans hG62)).at (i := ((acts)[k]).slot.toNat) (by omega)
         refine match q71 with | ⟨_, he68, ⟨e_70, hi69⟩⟩ => ?_
         subst e_70
         refine WD.takeY 16 177 rfl rfl rfl rfl rfl rfl (by kernel_rfl) (by kernel_rfl) (by kernel_rfl) (ok_indexAddrO (i := ((acts)[k]).slot.toNat) sl30 ty3 (hX_u46.mono (hG56.trans hG62)) rfl rfl ⟨by omega, by omega⟩) ?_
         refine WD.anyG [17] (by kernel_rfl) rfl ⟨⟨_, rfl, .inr ⟨_, 177, _, _, rfl, rfl, rfl, rfl, rfl⟩, ?_⟩, trivial⟩
         refine W.ok (ok_loadO (vs := [.int .i64 _]) ty3 he68 (pmC (pmC (List.Perm.refl _))) rfl rfl rfl (by simp)) ?_
         refine W.nil ⟨Le.rfl, ((List.nil_sublist _).cons_cons _).cons_cons _, _, ((List.nil_sublist _).cons_cons _).cons_cons _, List.Sublist.refl _, ?_⟩
         refine WD.takeY 18 177 rfl rfl rfl rfl rfl rfl (by kernel_rfl) (by kernel_rfl) (by kernel_rfl) (ok_neq rfl rfl) ?_
         refine WD.takeY 19 175 rfl rfl rfl rfl rfl rfl (by kernel_rfl) (by kernel_rfl) (by kernel_rfl) (ok_pick_t rfl rfl) ?_
         refine WD.take 20 rfl rfl rfl (by kernel_rfl) (by kernel_rfl) (by kernel_rfl) (ok_pick_f rfl rfl) ?_
         refine WD.take 21 rfl rfl rfl (by kernel_rfl) (by kernel_rfl) (by kernel_rfl) (ok_mv) ?_
         refine WD.sp 190 rfl (fun h187 => ?_) (fun h187 => ?_)
         ·have p187 := nd_t h187
          exact absurd (hag2.get q54 (by omega)) p187
         ·have p187 := nd_f h187
          refine WD.takeY 22 190 rfl rfl rfl rfl rfl h187 (by kernel_rfl) (by kernel_rfl) (by kernel_rfl) (ok_mv) ?_
          refine WD.takeY 23 190 rfl rfl rfl rfl rfl h187 (by kernel_rfl) (by kernel_rfl) (by kernel_rfl) (ok_not rfl) ?_
          refine WD.takeY 24 190 rfl rfl rfl rfl rfl h187 (by kernel_rfl) (by kernel_rfl) (by kernel_rfl) (ok_mv) ?_
          refine WD.takeN 25 193 rfl rfl rfl rfl rfl rfl (by kernel_rfl) (by kernel_rfl) (by kernel_rfl) ?_
          refine WD.takeN 26 193 rfl rfl rfl rfl rfl rfl (by kernel_rfl) (by kernel_rfl) (by kernel_rfl) ?_
          refine WD.takeY 27 190 rfl rfl rfl rfl rfl h187 (by kernel_rfl) (by kernel_rfl) (by kernel_rfl) (ok_pick_f rfl rfl) ?_
          refine WD.take 28 rfl rfl rfl (by kernel_rfl) (by kernel_rfl) (by kernel_rfl) (ok_pick_f rfl h187) ?_
          refine WD.done (by kernel_rfl) (thn_n ?_)
          refine WC.cond_f rfl rfl ?_
          refine WC.skip (blk_n (thn_n ?_))
          have hR72 : ReR 3 4 62 bR G62 (X, ((u).set (((acts)[k]).slot.toNat) false)) ((bR, .cells (List.toArray [.slice saX_u46 (X).length scX_u46, .slice sau_u46 (u).length scu_u46]) 62 (0, 0)) :: (MX_u46 ++ Ms51)) := ⟨_, _, _, _, rfl, (hX_u46.mono (hG56.trans hG62)), (ho52.mono (hG56.trans hG62))⟩
          refine WC.perm (M' := ((b30, .cells (List.toArray [.int .i64 ((acts)[k]).kind, .int .i64 ((acts)[k]).slot, .int .i64 ((acts)[k]).x]) 56 (0, 0)) :: (((bR, .cells (List.toArray [.slice saX_u46 (X).length scX_u46, .slice sau_u46 (u).length scu_u46]) 62 (0, 0)) :: (MX_u46 ++ Ms51)) ++ (Ms36 ++ [])))) ((pmC (List.Perm.refl _)).symm.trans (((pmC ((pmF (List.Perm.refl _)).trans (List.Perm.refl _))).cons _).trans (List.Perm.refl _))) ?_
          refine WC.region ?_
          refine W.ok (ok_add rfl rfl (by omega)) ?_
          refine W.mv ?_
          refine W.sub ((List.Sublist.refl _).cons _) ?_
          refine W.nil (thn_n ?_)
          exact ⟨(((hG34.trans hG40).trans hG56).trans hG62), ((k + 1, (c.set (((acts)[k]).slot).toNat 0), (u.set (((acts)[k]).slot).toNat false), X), ((bR, .cells (List.toArray [.slice saX_u46 (X).length scX_u46, .slice sau_u46 (u).length scu_u46]) 62 (0, 0)) :: (MX_u46 ++ Ms51)), Ms36), ⟨(by first | rfl | exact iv (by dsimp only; omega) | exact iv (by omega)), (by first | rfl | exact iv (by dsimp only; omega) | exact iv (by omega)), (by first | rfl | exact iv (by dsimp only; omega) | exact iv (by omega)), (by first | rfl | exact iv (by dsimp only; omega) | exact iv (by omega)), (by first | rfl | exact iv (by dsimp only; omega) | exact iv (by omega)), (by first | rfl | exact iv (by dsimp only; omega) | exact iv (by omega)), trivial⟩, ⟨rfl, (by exact hR72), (by exact (ArR.mono ((hG40.trans hG56).trans hG62) hR38)), by dsimp only; omega, (by rw [List.length_set]; exact hun), hag.free ((acts)[k]).slot.toNat 0⟩, by dsimp only; omega⟩
        ·refine W.call (Mp := Ms36) (ogeti_f (ArR.mono hG40 hR38) _ q55) rfl (pmC (pmC (pmA (pmA (List.Perm.refl _))))) ?_
         intro v76 G73 Ms75 hG73 q74
         refine match q74 with | ⟨e_78, eeq74⟩ => ?_
         subst e_78
         have eeq74 := eeq74.symm
         subst eeq74
         refine W.perm (pmC (pmC (List.Perm.refl _))).symm ?_
         refine W.mv ?_
         refine W.ok (ok_extract rfl rfl) ?_
         refine W.ok (ok_extract rfl rfl) ?_
         refine W.as ?_
         refine W.as ?_
         refine W.nil (thn_n ?_)
         refine WC.seq ?_
         refine WC.drawW _ (((List.nil_sublist _).cons_cons _).cons_cons _) mix (by rintro _ _ _ _ ⟨h | h, _⟩ <;> cases h) ?_
         refine WD.take 0 rfl rfl rfl (by kernel_rfl) (by kernel_rfl) (by kernel_rfl) (ok_mv) ?_
         refine WD.take 1 rfl rfl rfl (by kernel_rfl) (by kernel_rfl) (by kernel_rfl) (ok_mv) ?_
         refine WD.take 2 rfl rfl rfl (by kernel_rfl) (by kernel_rfl) (by kernel_rfl) (ok_fieldB fd56_1 rfl) ?_
         refine WD.take 3 rfl rfl rfl (by kernel_rfl) (by kernel_rfl) (by kernel_rfl) (ok_loadB (i := 1) (vs := [.int .i64 _]) ty3 rfl rfl rfl rfl (by simp)) ?_
         refine WD.any [4] (by kernel_rfl) rfl ⟨⟨_, rfl, rfl, ?_⟩, trivial⟩
         refine W.call (Mp := ((bR, .cells (List.toArray [.slice saX_u46 (X).length scX_u46, .slice sau_u46 (u).length scu_u46]) 62 (0, 0)) :: (MX_u46 ++ Ms51))) (Mr := ((b30, .cells (List.toArray [.int .i64 ((acts)[k]).kind, .int .i64 ((acts)[k]).slot, .int .i64 ((acts)[k]).x]) 56 (0, 0)) :: (Ms36 ++ []))) (rhas_f (hX_u46.mono hG73) (ho52.mono hG73) _ q55) rfl (((pmC ((pmF (pmA (List.Perm.refl _))).trans (pmA (pmA (List.Perm.refl _))))).cons _).trans (List.Perm.refl _)) ?_
         intro v82 G79 Ms81 hG79 q80
         refine match q80 with | ⟨e_83, e_84⟩ => ?_
         subst e_83
         subst e_84
         refine W.perm (M' := ((bR, .cells (List.toArray [.slice saX_u46 (X).length scX_u46, .slice sau_u46 (u).length scu_u46]) 62 (0, 0)) :: ((b30, .cells (List.toArray [.int .i64 ((acts)[k]).kind, .int .i64 ((acts)[k]).slot, .int .i64 ((acts)[k]).x]) 56 (0, 0)) :: (MX_u46 ++ (Ms51 ++ (Ms36 ++ [])))))) (((pmC ((pmF (List.Perm.refl _)).trans (List.Perm.refl _))).cons _).trans (List.Perm.refl _)).symm ?_
         refine W.nil ⟨hG79, ((List.nil_sublist _).cons_cons _).cons_cons _, _, ((List.nil_sublist _).cons_cons _).cons_cons _, List.Sublist.refl _, ?_⟩
         refine WD.take 5 rfl rfl rfl (by kernel_rfl) (by kernel_rfl) (by kernel_rfl) (ok_neqB bo4 rfl rfl) ?_
         refine WD.take 6 rfl rfl rfl (by kernel_rfl) (by kernel_rfl) (by kernel_rfl) (ok_mv) ?_
         refine WD.takeY 7 175 rfl rfl rfl rfl rfl rfl (by kernel_rfl) (by kernel_rfl) (by kernel_rfl) (ok_mv) ?_
         refine WD.takeY 8 175 rfl rfl rfl rfl rfl rfl (by kernel_rfl) (by kernel_rfl) (by kernel_rfl) (ok_mv) ?_
         refine WD.takeN 9 177 rfl rfl rfl rfl rfl rfl (by kernel_rfl) (by kernel_rfl) (by kernel_rfl) ?_
         refine WD.takeN 10 177 rfl rfl rfl rfl rfl rfl (by kernel_rfl) (by kernel_rfl) (by kernel_rfl) ?_
         refine WD.takeN 11 177 rfl rfl rfl rfl rfl rfl (by kernel_rfl) (by kernel_rfl) (by kernel_rfl) ?_
         refine WD.takeN 12 177 rfl rfl rfl rfl rfl rfl (by kernel_rfl) (by kernel_rfl) (by kernel_rfl) ?_
         refine WD.takeN 13 177 rfl rfl rfl rfl rfl rfl (by kernel_rfl) (by kernel_rfl) (by kernel_rfl) ?_
         refine WD.takeN 14 177 rfl rfl rfl rfl rfl rfl (by kernel_rfl) (by kernel_rfl) (by kernel_rfl) ?_
         refine WD.takeN 15 177 rfl rfl rfl rfl rfl rfl (by kernel_rfl) (by kernel_rfl) (by kernel_rfl) ?_
         refine WD.takeN 16 177 rfl rfl rfl rfl rfl rfl (by kernel_rfl) (by kernel_rfl) (by kernel_rfl) ?_
         refine WD.takeN 17 177 rfl rfl rfl rfl rfl rfl (by kernel_rfl) (by kernel_rfl) (by kernel_rfl) ?_
         refine WD.takeN 18 177 rfl rfl rfl rfl rfl rfl (by kernel_rfl) (by kernel_rfl) (by kernel_rfl) ?_
         refine WD.takeY 19 175 rfl rfl rfl rfl rfl rfl (by kernel_rfl) (by kernel_rfl) (by kernel_rfl) (ok_pick_f rfl rfl) ?_
         refine WD.take 20 rfl rfl rfl (by kernel_rfl) (by kernel_rfl) (by kernel_rfl) (ok_pick_f rfl rfl) ?_
         refine WD.take 21 rfl rfl rfl (by kernel_rfl) (by kernel_rfl) (by kernel_rfl) (ok_mv) ?_
         refine WD.takeY 22 190 rfl rfl rfl rfl rfl rfl (by kernel_rfl) (by kernel_rfl) (by kernel_rfl) (ok_mv) ?_
         refine WD.takeY 23 190 rfl rfl rfl rfl rfl rfl (by kernel_rfl) (by kernel_rfl) (by kernel_rfl) (ok_not rfl) ?_
         refine WD.takeY 24 190 rfl rfl rfl rfl rfl rfl (by kernel_rfl) (by kernel_rfl) (by kernel_rfl) (ok_mv) ?_
         refine WD.takeY 25 193 rfl rfl rfl rfl rfl rfl (by kernel_rfl) (by kernel_rfl) (by kernel_rfl) (ok_mv) ?_
         refine WD.takeY 26 193 rfl rfl rfl rfl rfl rfl (by kernel_rfl) (by kernel_rfl) (by kernel_rfl) (ok_neq rfl rfl) ?_
         refine WD.takeY 27 190 rfl rfl rfl rfl rfl rfl (by kernel_rfl) (by kernel_rfl) (by kernel_rfl) (ok_pick_t rfl rfl) ?_
         refine WD.take 28 rfl rfl rfl (by kernel_rfl) (by kernel_rfl) (by kernel_rfl) (ok_pick_f rfl rfl) ?_
         refine WD.done (by kernel_rfl) (thn_n ?_)
         refine WC.cond_f rfl rfl ?_
         refine WC.skip (blk_n (thn_n ?_))
         have hR85 : ReR 3 4 62 bR G79 (X, ((u).set (((acts)[k]).slot.toNat) false)) ((bR, .cells (List.toArray [.slice saX_u46 (X).length scX_u46, .slice sau_u46 (u).length scu_u46]) 62 (0, 0)) :: (MX_u46 ++ Ms51)) := ⟨_, _, _, _, rfl, (hX_u46.mono (hG73.trans hG79)), (ho52.mono (hG73.trans hG79))⟩
         refine WC.perm (M' := ((b30, .cells (List.toArray [.int .i64 ((acts)[k]).kind, .int .i64 ((acts)[k]).slot, .int .i64 ((acts)[k]).x]) 56 (0, 0)) :: (((bR, .cells (List.toArray [.slice saX_u46 (X).length scX_u46, .slice sau_u46 (u).length scu_u46]) 62 (0, 0)) :: (MX_u46 ++ Ms51)) ++ (Ms36 ++ [])))) ((pmC (List.Perm.refl _)).symm.trans (((pmC ((pmF (List.Perm.refl _)).trans (List.Perm.refl _))).cons _).trans (List.Perm.refl _))) ?_
         refine WC.region ?_
         refine W.ok (ok_add rfl rfl (by omega)) ?_
         refine W.mv ?_
         refine W.sub ((List.Sublist.refl _).cons _) ?_
         refine W.nil (thn_n ?_)
         exact ⟨(((hG34.trans hG40).trans hG73).trans hG79), ((k + 1, (c.set (((acts)[k]).slot).toNat 0), (u.set (((acts)[k]).slot).toNat false), X), ((bR, .cells (List.toArray [.slice saX_u46 (X).length scX_u46, .slice sau_u46 (u).length scu_u46]) 62 (0, 0)) :: (MX_u46 ++ Ms51)), Ms36), ⟨(by first | rfl | exact iv (by dsimp only; omega) | exact iv (by omega)), (by first | rfl | exact iv (by dsimp only; omega) | exact iv (by omega)), (by first | rfl | exact iv (by dsimp only; omega) | exact iv (by omega)), (by first | rfl | exact iv (by dsimp only; omega) | exact iv (by omega)), (by first | rfl | exact iv (by dsimp only; omega) | exact iv (by omega)), (by first | rfl | exact iv (by dsimp only; omega) | exact iv (by omega)), trivial⟩, ⟨rfl, (by exact hR85), (by exact (ArR.mono ((hG40.trans hG73).trans hG79) hR38)), by dsimp only; omega, (by rw [List.length_set]; exact hun), hag.free ((acts)[k]).slot.toNat 0⟩, by dsimp only; omega⟩
       ·refine W.call (Mp := M_5) (ofreei_f ho_5 _ (by assumption) q33) rfl (pmC (pmA (List.Perm.refl _))) ?_
        intro v89 G86 Ms88 hG86 q87
        refine match q87 with | ⟨e_91, hR90⟩ => ?_
        subst e_91
        refine W.perm (pmC (List.Perm.refl _)).symm ?_
        refine W.as ?_
        refine W.nil (thn_n ?_)
        refine WC.seq ?_
        refine WC.seq ?_
        refine WC.region ?_
        refine W.mv ?_
        refine W.ok (ok_eql rfl rfl) ?_
        refine W.mv ?_
        refine W.ok (ok_fieldB fd56_1 rfl) ?_
        refine W.ok (ok_loadB (i := 0) (vs := [.int .i64 _]) ty3 rfl rfl rfl rfl (by simp)) ?_
        refine W.call (Mp := M_7) (qhas_f (ReR.mono hG86 ho_7) _ q33) rfl (pmC (pmA (List.Perm.refl _))) ?_
        intro v95 G92 Ms94 hG92 q93
        refine match q93 with | ⟨e_97, eeq93⟩ => ?_
        subst e_97
        have eeq93 := eeq93.symm
        subst eeq93
        refine W.perm (pmC (List.Perm.refl _)).symm ?_
        refine W.ok (ok_neqB bo4 rfl rfl) ?_
        refine W.mv ?_
        refine W.yes (dj := 111) rfl rfl rfl ?_
        refine W.mv ?_
        refine W.yes (dj := 111) rfl rfl rfl ?_
        refine W.ok (ok_neq rfl rfl) ?_
        refine W.yes (dj := 111) rfl rfl rfl ?_
        refine W.mv ?_
        refine W.yes (dj := 114) rfl rfl rfl ?_
        refine W.mv ?_
        refine W.yes (dj := 114) rfl rfl rfl ?_
        refine W.ok (ok_neq rfl rfl) ?_
        refine W.yes (dj := 111) rfl rfl rfl ?_
        refine W.ok (ok_pick_t rfl rfl) ?_
        refine W.ok (ok_pick_f rfl rfl) ?_
        refine W.nil (thn_n ?_)
        refine WC.cond_f rfl rfl ?_
        refine WC.skip (thn_n ?_)
        refine WC.seq ?_
        refine WC.region ?_
        refine W.mv ?_
        refine W.ok (ok_eql rfl rfl) ?_
        refine W.nil (thn_n ?_)
        refine WC.cond_f rfl rfl ?_
        refine WC.skip (blk_n (thn_n ?_))
        refine WC.seq ?_
        refine match (ReR.mono (hG86.trans hG92) ho_7) with | ⟨vX_u98, vu_u98, MX_u98, Mu_u98, eM_, hX_u98, hu_u98⟩ => ?_
        subst eM_
        refine WC.perm (M' := ((bR, .cells (List.toArray [vX_u98, vu_u98]) 62 (0, 0)) :: ((b30, .cells (List.toArray [.int .i64 ((acts)[k]).kind, .int .i64 ((acts)[k]).slot, .int .i64 ((acts)[k]).x]) 56 (0, 0)) :: (MX_u98 ++ (Mu_u98 ++ (Ms88 ++ [])))))) (pmD ((pmF (List.Perm.refl _)).cons _)).symm ?_
        dsimp only at hX_u98 hu_u98
        have hf_ := hX_u98.form
        obtain ⟨saX_u98, scX_u98, eV_⟩ := hf_
        subst eV_
        have hf_ := hu_u98.form
        obtain ⟨sau_u98, scu_u98, eV_⟩ := hf_
        subst eV_
        have hag2 : Agree c u X := hag
        have hXl2 := hag2.2.1
        refine WC.region ?_
        refine W.mv ?_
        refine W.ok (ok_fieldB fd56_1 rfl) ?_
        refine W.ok (ok_loadB (i := 1) (vs := [.int .i64 _]) ty3 rfl rfl rfl rfl (by simp)) ?_
        have q99 := hasN_or u (((acts)[k]).slot)
        refine Or.elim q99 (fun q100 => ?_) (fun q101 => ?_)
        ·refine W.call (Mp := Ms88) (ogeti_t (ArR.mono hG92 hR90) _ q100) rfl (pmC (pmC (pmA (pmA (List.Perm.refl _))))) ?_
         intro v105 G102 Ms104 hG102 q103
         refine match q103 with | ⟨e_107, eeq103⟩ => ?_
         subst e_107
         have eeq103 := eeq103.symm
         subst eeq103
         refine W.perm (pmC (pmC (List.Perm.refl _))).symm ?_
         refine W.mv ?_
         refine W.ok (ok_extract rfl rfl) ?_
         refine W.ok (ok_extract rfl rfl) ?_
         refine W.as ?_
         refine W.as ?_
         refine W.nil (thn_n ?_)
         refine WC.seq ?_
         have hil := hasN_lt q100
         have hXl := hag.2.1
         refine WC.drawW _ (((List.nil_sublist _).cons_cons _).cons_cons _) mix (by rintro _ _ _ _ ⟨h | h, _⟩ <;> cases h) ?_
         refine WD.take 0 rfl rfl rfl (by kernel_rfl) (by kernel_rfl) (by kernel_rfl) (ok_mv) ?_
         refine WD.take 1 rfl rfl rfl (by kernel_rfl) (by kernel_rfl) (by kernel_rfl) (ok_mv) ?_
         refine WD.take 2 rfl rfl rfl (by kernel_rfl) (by kernel_rfl) (by kernel_rfl) (ok_fieldB fd56_1 rfl) ?_
         refine WD.take 3 rfl rfl rfl (by kernel_rfl) (by kernel_rfl) (by kernel_rfl) (ok_loadB (i := 1) (vs := [.int .i64 _]) ty3 rfl rfl rfl rfl (by simp)) ?_
         refine WD.any [4] (by kernel_rfl) rfl ⟨⟨_, rfl, rfl, ?_⟩, trivial⟩
         refine W.call (Mp := ((bR, .cells (List.toArray [.slice saX_u98 (X).length scX_u98, .slice sau_u98 (u).length scu_u98]) 62 (0, 0)) :: (MX_u98 ++ Mu_u98))) (Mr := ((b30, .cells (List.toArray [.int .i64 ((acts)[k]).kind, .int .i64 ((acts)[k]).slot, .int .i64 ((acts)[k]).x]) 56 (0, 0)) :: (Ms88 ++ []))) (rhas_t (hX_u98.mono hG102) (hu_u98.mono hG102) _ q100) rfl (((pmC ((pmF (pmA (List.Perm.refl _))).trans (pmA (List.Perm.refl _)))).cons _).trans (List.Perm.refl _)) ?_
         intro v111 G108 Ms110 hG108 q109
         refine match q109 with | ⟨e_112, e_113⟩ => ?_
         subst e_112
         subst e_113
         refine W.perm (M' := ((bR, .cells (List.toArray [.slice saX_u98 (X).length scX_u98, .slice sau_u98 (u).length scu_u98]) 62 (0, 0)) :: ((b30, .cells (List.toArray [.int .i64 ((acts)[k]).kind, .int .i64 ((acts)[k]).slot, .int .i64 ((acts)[k]).x]) 56 (0, 0)) :: (MX_u98 ++ (Mu_u98 ++ (Ms88 ++ [])))))) (((pmC ((pmF (List.Perm.refl _)).trans (List.Perm.refl _))).cons _).trans (List.Perm.refl _)).symm ?_
         refine W.nil ⟨hG108, ((List.nil_sublist _).cons_cons _).cons_cons _, _, ((List.nil_sublist _).cons_cons _).cons_cons _, List.Sublist.refl _, ?_⟩
         refine WD.take 5 rfl rfl rfl (by kernel_rfl) (by kernel_rfl) (by kernel_rfl) (ok_neqB bo4 rfl rfl) ?_
         refine WD.take 6 rfl rfl rfl (by kernel_rfl) (by kernel_rfl) (by kernel_rfl) (ok_mv) ?_
         refine WD.takeY 7 175 rfl rfl rfl rfl rfl rfl (by kernel_rfl) (by kernel_rfl) (by kernel_rfl) (ok_mv) ?_
         refine WD.takeY 8 175 rfl rfl rfl rfl rfl rfl (by kernel_rfl) (by kernel_rfl) (by kernel_rfl) (ok_mv) ?_
         refine WD.takeY 9 177 rfl rfl rfl rfl rfl rfl (by kernel_rfl) (by kernel_rfl) (by kernel_rfl) (ok_mv) ?_
         refine WD.takeY 10 177 rfl rfl rfl rfl rfl rfl (by kernel_rfl) (by kernel_rfl) (by kernel_rfl) (ok_mv) ?_
         refine WD.takeY 11 177 rfl rfl rfl rfl rfl rfl (by kernel_rfl) (by kernel_rfl) (by kernel_rfl) (ok_nilP rfl) ?_
         refine WD.takeY 12 177 rfl rfl rfl rfl rfl rfl (by kernel_rfl) (by kernel_rfl) (by kernel_rfl) (ok_fieldB fd62_0 rfl) ?_
         refine WD.takeY 13 177 rfl rfl rfl rfl rfl rfl (by kernel_rfl) (by kernel_rfl) (by kernel_rfl) (ok_loadB (i := 0) (vs := [.slice _ _ _]) ty30 rfl rfl rfl rfl (by simp)) ?_
         refine WD.takeY 14 177 rfl rfl rfl rfl rfl rfl (by kernel_rfl) (by kernel_rfl) (by kernel_rfl) (ok_fieldB fd56_1 rfl) ?_
         refine WD.takeY 15 177 rfl rfl rfl rfl rfl rfl (by kernel_rfl) (by kernel_rfl) (by kernel_rfl) (ok_loadB (i := 1) (vs := [.int .i64 _]) ty3 rfl rfl rfl rfl (by simp)) ?_
         have q117 := (hX_u98.mono (hG102.trans hG108)).at (i := ((acts)[k]).slot.toNat) (by omega)
         refine match q117 with | ⟨_, he114, ⟨e_116, hi115⟩⟩ => ?_
         subst e_116
         refine WD.takeY 16 177 rfl rfl rfl rfl rfl rfl (by kernel_rfl) (by kernel_rfl) (by kernel_rfl) (ok_indexAddrO (i := ((acts)[k]).slot.toNat) sl30 ty3 (hX_u98.mono (hG102.trans hG108)) rfl rfl ⟨by omega, by omega⟩) ?_
         refine WD.anyG [17] (by kernel_rfl) rfl ⟨⟨_, rfl, .inr ⟨_, 177, _, _, rfl, rfl, rfl, rfl, rfl⟩, ?_⟩, trivial⟩
         refine W.ok (ok_loadO (vs := [.int .i64 _]) ty3 he114 (pmC (pmC (List.Perm.refl _))) rfl rfl rfl (by simp)) ?_
         refine W.nil ⟨Le.rfl, ((List.nil_sublist _).cons_cons _).cons_cons _, _, ((List.nil_sublist _).cons_cons _).cons_cons _, List.Sublist.refl _, ?_⟩
         refine WD.takeY 18 177 rfl rfl rfl rfl rfl rfl (by kernel_rfl) (by kernel_rfl) (by kernel_rfl) (ok_neq rfl rfl) ?_
         refine WD.takeY 19 175 rfl rfl rfl rfl rfl rfl (by kernel_rfl) (by kernel_rfl) (by kernel_rfl) (ok_pick_t rfl rfl) ?_
         refine WD.take 20 rfl rfl rfl (by kernel_rfl) (by kernel_rfl) (by kernel_rfl) (ok_pick_f rfl rfl) ?_
         refine WD.take 21 rfl rfl rfl (by kernel_rfl) (by kernel_rfl) (by kernel_rfl) (ok_mv) ?_
         refine WD.sp 190 rfl (fun h187 => ?_) (fun h187 => ?_)
         ·have p187 := nd_t h187
          exact absurd (hag2.get q100 (by omega)) p187
         ·have p187 := nd_f h187
          refine WD.takeY 22 190 rfl rfl rfl rfl rfl h187 (by kernel_rfl) (by kernel_rfl) (by kernel_rfl) (ok_mv) ?_
          refine WD.takeY 23 190 rfl rfl rfl rfl rfl h187 (by kernel_rfl) (by kernel_rfl) (by kernel_rfl) (ok_not rfl) ?_
          refine WD.takeY 24 190 rfl rfl rfl rfl rfl h187 (by kernel_rfl) (by kernel_rfl) (by kernel_rfl) (ok_mv) ?_
          refine WD.takeN 25 193 rfl rfl rfl rfl rfl rfl (by kernel_rfl) (by kernel_rfl) (by kernel_rfl) ?_
          refine WD.takeN 26 193 rfl rfl rfl rfl rfl rfl (by kernel_rfl) (by kernel_rfl) (by kernel_rfl) ?_
          refine WD.takeY 27 190 rfl rfl rfl rfl rfl h187 (by kernel_rfl) (by kernel_rfl) (by kernel_rfl) (ok_pick_f rfl rfl) ?_
          refine WD.take 28 rfl rfl rfl (by kernel_rfl) (by kernel_rfl) (by kernel_rfl) (ok_pick_f rfl h187) ?_
          refine WD.done (by kernel_rfl) (thn_n ?_)
          refine WC.cond_f rfl rfl ?_
          refine WC.skip (blk_n (thn_n ?_))
          have hR118 : ReR 3 4 62 bR G108 (X, u) ((bR, .cells (List.toArray [.slice saX_u98 (X).length scX_u98, .slice sau_u98 (u).length scu_u98]) 62 (0, 0)) :: (MX_u98 ++ Mu_u98)) := ⟨_, _, _, _, rfl, (hX_u98.mono (hG102.trans hG108)), (hu_u98.mono (hG102.trans hG108))⟩
          refine WC.perm (M' := ((b30, .cells (List.toArray [.int .i64 ((acts)[k]).kind, .int .i64 ((acts)[k]).slot, .int .i64 ((acts)[k]).x]) 56 (0, 0)) :: (((bR, .cells (List.toArray [.slice saX_u98 (X).length scX_u98, .slice sau_u98 (u).length scu_u98]) 62 (0, 0)) :: (MX_u98 ++ Mu_u98)) ++ (Ms88 ++ [])))) ((pmC (List.Perm.refl _)).symm.trans (((pmC ((pmF (List.Perm.refl _)).trans (List.Perm.refl _))).cons _).trans (List.Perm.refl _))) ?_
          refine WC.region ?_
          refine W.ok (ok_add rfl rfl (by omega)) ?_
          refine W.mv ?_
          refine W.sub ((List.Sublist.refl _).cons _) ?_
          refine W.nil (thn_n ?_)
          exact ⟨(((hG86.trans hG92).trans hG102).trans hG108), ((k + 1, c, u, X), ((bR, .cells (List.toArray [.slice saX_u98 (X).length scX_u98, .slice sau_u98 (u).length scu_u98]) 62 (0, 0)) :: (MX_u98 ++ Mu_u98)), Ms88), ⟨(by first | rfl | exact iv (by dsimp only; omega) | exact iv (by omega)), (by first | rfl | exact iv (by dsimp only; omega) | exact iv (by omega)), (by first | rfl | exact iv (by dsimp only; omega) | exact iv (by omega)), (by first | rfl | exact iv (by dsimp only; omega) | exact iv (by omega)), (by first | rfl | exact iv (by dsimp only; omega) | exact iv (by omega)), (by first | rfl | exact iv (by dsimp only; omega) | exact iv (by omega)), trivial⟩, ⟨rfl, (by exact hR118), (by exact (ArR.mono ((hG92.trans hG102).trans hG108) hR90)), by dsimp only; omega, hun, hag⟩, by dsimp only; omega⟩
        ·refine W.call (Mp := Ms88) (ogeti_f (ArR.mono hG92 hR90) _ q101) rfl (pmC (pmC (pmA (pmA (List.Perm.refl _))))) ?_
         intro v122 G119 Ms121 hG119 q120
         refine match q120 with | ⟨e_124, eeq120⟩ => ?_
         subst e_124
         have eeq120 := eeq120.symm
         subst eeq120
         refine W.perm (pmC (pmC (List.Perm.refl _))).symm ?_
         refine W.mv ?_
         refine W.ok (ok_extract rfl rfl) ?_
         refine W.ok (ok_extract rfl rfl) ?_
         refine W.as ?_
         refine W.as ?_
         refine W.nil (thn_n ?_)
         refine WC.seq ?_
         refine WC.drawW _ (((List.nil_sublist _).cons_cons _).cons_cons _) mix (by rintro _ _ _ _ ⟨h | h, _⟩ <;> cases h) ?_
         refine WD.take 0 rfl rfl rfl (by kernel_rfl) (by kernel_rfl) (by kernel_rfl) (ok_mv) ?_
         refine WD.take 1 rfl rfl rfl (by kernel_rfl) (by kernel_rfl) (by kernel_rfl) (ok_mv) ?_
         refine WD.take 2 rfl rfl rfl (by kernel_rfl) (by kernel_rfl) (by kernel_rfl) (ok_fieldB fd56_1 rfl) ?_
         refine WD.take 3 rfl rfl rfl (by kernel_rfl) (by kernel_rfl) (by kernel_rfl) (ok_loadB (i := 1) (vs := [.int .i64 _]) ty3 rfl rfl rfl rfl (by simp)) ?_
         refine WD.any [4] (by kernel_rfl) rfl ⟨⟨_, rfl, rfl, ?_⟩, trivial⟩
         refine W.call (Mp := ((bR, .cells (List.toArray [.slice saX_u98 (X).length scX_u98, .slice sau_u98 (u).length scu_u98]) 62 (0, 0)) :: (MX_u98 ++ Mu_u98))) (Mr := ((b30, .cells (List.toArray [.int .i64 ((acts)[k]).kind, .int .i64 ((acts)[k]).slot, .int .i64 ((acts)[k]).x]) 56 (0, 0)) :: (Ms88 ++ []))) (rhas_f (hX_u98.mono hG119) (hu_u98.mono hG119) _ q101) rfl (((pmC ((pmF (pmA (List.Perm.refl _))).trans (pmA (List.Perm.refl _)))).cons _).trans (List.Perm.refl _)) ?_
         intro v128 G125 Ms127 hG125 q126
         refine match q126 with | ⟨e_129, e_130⟩ => ?_
         subst e_129
         subst e_130
         refine W.perm (M' := ((bR, .cells (List.toArray [.slice saX_u98 (X).length scX_u98, .slice sau_u98 (u).length scu_u98]) 62 (0, 0)) :: ((b30, .cells (List.toArray [.int .i64 ((acts)[k]).kind, .int .i64 ((acts)[k]).slot, .int .i64 ((acts)[k]).x]) 56 (0, 0)) :: (MX_u98 ++ (Mu_u98 ++ (Ms88 ++ [])))))) (((pmC ((pmF (List.Perm.refl _)).trans (List.Perm.refl _))).cons _).trans (List.Perm.refl _)).symm ?_
         refine W.nil ⟨hG125, ((List.nil_sublist _).cons_cons _).cons_cons _, _, ((List.nil_sublist _).cons_cons _).cons_cons _, List.Sublist.refl _, ?_⟩
         refine WD.take 5 rfl rfl rfl (by kernel_rfl) (by kernel_rfl) (by kernel_rfl) (ok_neqB bo4 rfl rfl) ?_
         refine WD.take 6 rfl rfl rfl (by kernel_rfl) (by kernel_rfl) (by kernel_rfl) (ok_mv) ?_
         refine WD.takeY 7 175 rfl rfl rfl rfl rfl rfl (by kernel_rfl) (by kernel_rfl) (by kernel_rfl) (ok_mv) ?_
         refine WD.takeY 8 175 rfl rfl rfl rfl rfl rfl (by kernel_rfl) (by kernel_rfl) (by kernel_rfl) (ok_mv) ?_
         refine WD.takeN 9 177 rfl rfl rfl rfl rfl rfl (by kernel_rfl) (by kernel_rfl) (by kernel_rfl) ?_
         refine WD.takeN 10 177 rfl rfl rfl rfl rfl rfl (by kernel_rfl) (by kernel_rfl) (by kernel_rfl) ?_
         refine WD.takeN 11 177 rfl rfl rfl rfl rfl rfl (by kernel_rfl) (by kernel_rfl) (by kernel_rfl) ?_
         refine WD.takeN 12 177 rfl rfl rfl rfl rfl rfl (by kernel_rfl) (by kernel_rfl) (by kernel_rfl) ?_
         refine WD.takeN 13 177 rfl rfl rfl rfl rfl rfl (by kernel_rfl) (by kernel_rfl) (by kernel_rfl) ?_
         refine WD.takeN 14 177 rfl rfl rfl rfl rfl rfl (by kernel_rfl) (by kernel_rfl) (by kernel_rfl) ?_
         refine WD.takeN 15 177 rfl rfl rfl rfl rfl rfl (by kernel_rfl) (by kernel_rfl) (by kernel_rfl) ?_
         refine WD.takeN 16 177 rfl rfl rfl rfl rfl rfl (by kernel_rfl) (by kernel_rfl) (by kernel_rfl) ?_
         refine WD.takeN 17 177 rfl rfl rfl rfl rfl rfl (by kernel_rfl) (by kernel_rfl) (by kernel_rfl) ?_
         refine WD.takeN 18 177 rfl rfl rfl rfl rfl rfl (by kernel_rfl) (by kernel_rfl) (by kernel_rfl) ?_
         refine WD.takeY 19 175 rfl rfl rfl rfl rfl rfl (by kernel_rfl) (by kernel_rfl) (by kernel_rfl) (ok_pick_f rfl rfl) ?_
         refine WD.take 20 rfl rfl rfl (by kernel_rfl) (by kernel_rfl) (by kernel_rfl) (ok_pick_f rfl rfl) ?_
         refine WD.take 21 rfl rfl rfl (by kernel_rfl) (by kernel_rfl) (by kernel_rfl) (ok_mv) ?_
         refine WD.takeY 22 190 rfl rfl rfl rfl rfl rfl (by kernel_rfl) (by kernel_rfl) (by kernel_rfl) (ok_mv) ?_
         refine WD.takeY 23 190 rfl rfl rfl rfl rfl rfl (by kernel_rfl) (by kernel_rfl) (by kernel_rfl) (ok_not rfl) ?_
         refine WD.takeY 24 190 rfl rfl rfl rfl rfl rfl (by kernel_rfl) (by kernel_rfl) (by kernel_rfl) (ok_mv) ?_
         refine WD.takeY 25 193 rfl rfl rfl rfl rfl rfl (by kernel_rfl) (by kernel_rfl) (by kernel_rfl) (ok_mv) ?_
         refine WD.takeY 26 193 rfl rfl rfl rfl rfl rfl (by kernel_rfl) (by kernel_rfl) (by kernel_rfl) (ok_neq rfl rfl) ?_
         refine WD.takeY 27 190 rfl rfl rfl rfl rfl rfl (by kernel_rfl) (by kernel_rfl) (by kernel_rfl) (ok_pick_t rfl rfl) ?_
         refine WD.take 28 rfl rfl rfl (by kernel_rfl) (by kernel_rfl) (by kernel_rfl) (ok_pick_f rfl rfl) ?_
         refine WD.done (by kernel_rfl) (thn_n ?_)
         refine WC.cond_f rfl rfl ?_
         refine WC.skip (blk_n (thn_n ?_))
         have hR131 : ReR 3 4 62 bR G125 (X, u) ((bR, .cells (List.toArray [.slice saX_u98 (X).length scX_u98, .slice sau_u98 (u).length scu_u98]) 62 (0, 0)) :: (MX_u98 ++ Mu_u98)) := ⟨_, _, _, _, rfl, (hX_u98.mono (hG119.trans hG125)), (hu_u98.mono (hG119.trans hG125))⟩
         refine WC.perm (M' := ((b30, .cells (List.toArray [.int .i64 ((acts)[k]).kind, .int .i64 ((acts)[k]).slot, .int .i64 ((acts)[k]).x]) 56 (0, 0)) :: (((bR, .cells (List.toArray [.slice saX_u98 (X).length scX_u98, .slice sau_u98 (u).length scu_u98]) 62 (0, 0)) :: (MX_u98 ++ Mu_u98)) ++ (Ms88 ++ [])))) ((pmC (List.Perm.refl _)).symm.trans (((pmC ((pmF (List.Perm.refl _)).trans (List.Perm.refl _))).cons _).trans (List.Perm.refl _))) ?_
         refine WC.region ?_
         refine W.ok (ok_add rfl rfl (by omega)) ?_
         refine W.mv ?_
         refine W.sub ((List.Sublist.refl _).cons _) ?_
         refine W.nil (thn_n ?_)
         exact ⟨(((hG86.trans hG92).trans hG119).trans hG125), ((k + 1, c, u, X), ((bR, .cells (List.toArray [.slice saX_u98 (X).length scX_u98, .slice sau_u98 (u).length scu_u98]) 62 (0, 0)) :: (MX_u98 ++ Mu_u98)), Ms88), ⟨(by first | rfl | exact iv (by dsimp only; omega) | exact iv (by omega)), (by first | rfl | exact iv (by dsimp only; omega) | exact iv (by omega)), (by first | rfl | exact iv (by dsimp only; omega) | exact iv (by omega)), (by first | rfl | exact iv (by dsimp only; omega) | exact iv (by omega)), (by first | rfl | exact iv (by dsimp only; omega) | exact iv (by omega)), (by first | rfl | exact iv (by dsimp only; omega) | exact iv (by omega)), trivial⟩, ⟨rfl, (by exact hR131), (by exact (ArR.mono ((hG92.trans hG119).trans hG125) hR90)), by dsimp only; omega, hun, hag⟩, by dsimp only; omega⟩
      ·have p99 := of_decide_eq_false h99
       refine WC.seq ?_
       refine WC.region ?_
       refine W.ok (ok_eql rfl rfl) ?_
       refine W.as ?_
       refine W.nil (thn_n ?_)
       refine WC.cond (b := _) rfl (fun h129 => ?_) (fun h129 => ?_)
       ·have p129 := of_decide_eq_true h129
        refine WC.seq ?_
        refine WC.region ?_
        refine W.mv ?_
        refine W.ok (ok_fieldB fd56_1 rfl) ?_
        refine W.ok (ok_loadB (i := 0) (vs := [.int .i64 _]) ty3 rfl rfl rfl rfl (by simp)) ?_
        refine W.ok (ok_fieldB fd56_2 rfl) ?_
        refine W.ok (ok_loadB (i := 0) (vs := [.int .i64 _]) ty3 rfl rfl rfl rfl (by simp)) ?_
        have q132 := hasN_or u (((acts)[k]).slot)
        refine Or.elim q132 (fun q133 => ?_) (fun q134 => ?_)
        ·refine W.call (Mp := M_5) (oseti_t ho_5 _ _ (by assumption) q133) rfl (pmC (pmA (List.Perm.refl _))) ?_
         intro v138 G135 Ms137 hG135 q136
         refine match q136 with | ⟨e_140, hR139⟩ => ?_
         subst e_140
         refine W.perm (pmC (List.Perm.refl _)).symm ?_
         refine W.as ?_
         refine W.nil (thn_n ?_)
         refine WC.seq ?_
         refine WC.seq ?_
         refine WC.region ?_
         refine W.mv ?_
         refine W.ok (ok_eql rfl rfl) ?_
         refine W.mv ?_
         refine W.ok (ok_fieldB fd56_1 rfl) ?_
         refine W.ok (ok_loadB (i := 0) (vs := [.int .i64 _]) ty3 rfl rfl rfl rfl (by simp)) ?_
         refine W.call (Mp := M_7) (qhas_t (ReR.mono hG135 ho_7) _ q133) rfl (pmC (pmA (List.Perm.refl _))) ?_
         intro v144 G141 Ms143 hG141 q142
         refine match q142 with | ⟨e_146, eeq142⟩ => ?_
         subst e_146
         have eeq142 := eeq142.symm
         subst eeq142
         refine W.perm (pmC (List.Perm.refl _)).symm ?_
         refine W.ok (ok_neqB bo4 rfl rfl) ?_
         refine W.mv ?_
         refine W.yes (dj := 143) rfl rfl rfl ?_
         refine W.mv ?_
         refine W.yes (dj := 143) rfl rfl rfl ?_
         refine W.ok (ok_neq rfl rfl) ?_
         refine W.yes (dj := 143) rfl rfl rfl ?_
         refine W.mv ?_
         refine W.no (dj := 146) rfl rfl rfl ?_
         refine W.no (dj := 146) rfl rfl rfl ?_
         refine W.yes (dj := 143) rfl rfl rfl ?_
         refine W.ok (ok_pick_f rfl rfl) ?_
         refine W.ok (ok_pick_f rfl rfl) ?_
         refine W.nil (thn_n ?_)
         refine WC.cond_f rfl rfl ?_
         refine WC.skip (thn_n ?_)
         refine WC.seq ?_
         refine WC.region ?_
         refine W.mv ?_
         refine W.ok (ok_eql rfl rfl) ?_
         refine W.nil (thn_n ?_)
         refine WC.cond_t rfl rfl ?_
         have hil := hasN_lt q133
         have hXl := hag.2.1
         refine match (ReR.mono (hG135.trans hG141) ho_7) with | ⟨vX_u147, vu_u147, MX_u147, Mu_u147, eM_, hX_u147, hu_u147⟩ => ?_
         subst eM_
         refine WC.perm (M' := ((bR, .cells (List.toArray [vX_u147, vu_u147]) 62 (0, 0)) :: ((b30, .cells (List.toArray [.int .i64 ((acts)[k]).kind, .int .i64 ((acts)[k]).slot, .int .i64 ((acts)[k]).x]) 56 (0, 0)) :: (MX_u147 ++ (Mu_u147 ++ (Ms137 ++ [])))))) (pmD ((pmF (List.Perm.refl _)).cons _)).symm ?_
         dsimp only at hX_u147 hu_u147
         have hf_ := hX_u147.form
         obtain ⟨saX_u147, scX_u147, eV_⟩ := hf_
         subst eV_
         have hf_ := hu_u147.form
         obtain ⟨sau_u147, scu_u147, eV_⟩ := hf_
         subst eV_
         refine WC.drawW _ (((List.nil_sublist _).cons_cons _).cons_cons _) mix (by rintro _ _ _ _ ⟨h | h, _⟩ <;> cases h) ?_
         refine WD.take 0 rfl rfl rfl (by kernel_rfl) (by kernel_rfl) (by kernel_rfl) (ok_mv) ?_
         refine WD.take 1 rfl rfl rfl (by kernel_rfl) (by kernel_rfl) (by kernel_rfl) (ok_nilP rfl) ?_
         refine WD.take 2 rfl rfl rfl (by kernel_rfl) (by kernel_rfl) (by kernel_rfl) (ok_fieldB fd62_0 rfl) ?_
         refine WD.take 3 rfl rfl rfl (by kernel_rfl) (by kernel_rfl) (by kernel_rfl) (ok_loadB (i := 0) (vs := [.slice _ _ _]) ty30 rfl rfl rfl rfl (by simp)) ?_
         refine WD.take 4 rfl rfl rfl (by kernel_rfl) (by kernel_rfl) (by kernel_rfl) (ok_fieldB fd56_1 rfl) ?_
         refine WD.take 5 rfl rfl rfl (by kernel_rfl) (by kernel_rfl) (by kernel_rfl) (ok_loadB (i := 1) (vs := [.int .i64 _]) ty3 rfl rfl rfl rfl (by simp)) ?_
         refine WD.take 6 rfl rfl rfl (by kernel_rfl) (by kernel_rfl) (by kernel_rfl) (ok_fieldB fd56_2 rfl) ?_
         refine WD.take 7 rfl rfl rfl (by kernel_rfl) (by kernel_rfl) (by kernel_rfl) (ok_loadB (i := 1) (vs := [.int .i64 _]) ty3 rfl rfl rfl rfl (by simp)) ?_
         have q151 := hX_u147.at (i := ((acts)[k]).slot.toNat) (by omega)
         refine match q151 with | ⟨_, he148, ⟨e_150, hi149⟩⟩ => ?_
         subst e_150
         refine WD.take 8 rfl rfl rfl (by kernel_rfl) (by kernel_rfl) (by kernel_rfl) (ok_indexAddrO (i := ((acts)[k]).slot.toNat) sl30 ty3 hX_u147 rfl rfl ⟨by omega, by omega⟩) ?_
         refine WD.any [9] (by kernel_rfl) rfl ⟨⟨_, rfl, rfl, ?_⟩, trivial⟩
         refine W.storeO (i := ((acts)[k]).slot.toNat) (o := 0) (vs := [.int .i64 _]) (a' := ((acts)[k]).x) ty3 rfl rfl rfl rfl rfl (hX_u147) (pmC (pmC (List.Perm.refl _))) (by omega) (by decide) (fun cs h => by rw [h.1]; exact ⟨rfl, by assumption⟩) (fun Ms152 ho153 => ?_)
         refine W.perm (pmC (pmC (List.Perm.refl _))).symm ?_
         refine W.nil ⟨Le.rfl, ((List.nil_sublist _).cons_cons _).cons_cons _, _, ((List.nil_sublist _).cons_cons _).cons_cons _, List.Sublist.refl _, ?_⟩
         refine WD.done (by kernel_rfl) (blk_n (thn_n ?_))
         refine WC.seq ?_
         have hag2 : Agree (c.set (((acts)[k]).slot).toNat ((acts)[k]).x) u ((X).set (((acts)[k]).slot.toNat) ((acts)[k]).x) := hag.set1 ((acts)[k]).slot.toNat ((acts)[k]).x
         have hXl2 := hag2.2.1
         refine WC.region ?_
         refine W.mv ?_
         refine W.ok (ok_fieldB fd56_1 rfl) ?_
         refine W.ok (ok_loadB (i := 1) (vs := [.int .i64 _]) ty3 rfl rfl rfl rfl (by simp)) ?_
         have q154 := hasN_or u (((acts)[k]).slot)
         refine Or.elim q154 (fun q155 => ?_) (fun q156 => ?_)
         ·refine W.call (Mp := Ms137) (ogeti_t (ArR.mono hG141 hR139) _ q155) rfl (pmC (pmC (pmA (pmA (List.Perm.refl _))))) ?_
          intro v160 G157 Ms159 hG157 q158
          refine match q158 with | ⟨e_162, eeq158⟩ => ?_
          subst e_162
          have eeq158 := eeq158.symm
          subst eeq158
          refine W.perm (pmC (pmC (List.Perm.refl _))).symm ?_
          refine W.mv ?_
          refine W.ok (ok_extract rfl rfl) ?_
          refine W.ok (ok_extract rfl rfl) ?_
          refine W.as ?_
          refine W.as ?_
          refine W.nil (thn_n ?_)
          refine WC.seq ?_
          have hil := hasN_lt q155
          have hXl := hag.2.1
          refine WC.drawW _ (((List.nil_sublist _).cons_cons _).cons_cons _) mix (by rintro _ _ _ _ ⟨h | h, _⟩ <;> cases h) ?_
          refine WD.take 0 rfl rfl rfl (by kernel_rfl) (by kernel_rfl) (by kernel_rfl) (ok_mv) ?_
          refine WD.take 1 rfl rfl rfl (by kernel_rfl) (by kernel_rfl) (by kernel_rfl) (ok_mv) ?_
          refine WD.take 2 rfl rfl rfl (by kernel_rfl) (by kernel_rfl) (by kernel_rfl) (ok_fieldB fd56_1 rfl) ?_
          refine WD.take 3 rfl rfl rfl (by kernel_rfl) (by kernel_rfl) (by kernel_rfl) (ok_loadB (i := 1) (vs := [.int .i64 _]) ty3 rfl rfl rfl rfl (by simp)) ?_
          refine WD.any [4] (by kernel_rfl) rfl ⟨⟨_, rfl, rfl, ?_⟩, trivial⟩
          refine W.call (Mp := ((bR, .cells (List.toArray [.slice saX_u147 (X).length scX_u147, .slice sau_u147 (u).length scu_u147]) 62 (0, 0)) :: (Ms152 ++ Mu_u147))) (Mr := ((b30, .cells (List.toArray [.int .i64 ((acts)[k]).kind, .int .i64 ((acts)[k]).slot, .int .i64 ((acts)[k]).x]) 56 (0, 0)) :: (Ms137 ++ []))) (rhas_t (ho153.mono hG157) (hu_u147.mono hG157) _ q155) rfl (((pmC ((pmF (pmA (List.Perm.refl _))).trans (pmA (List.Perm.refl _)))).cons _).trans (List.Perm.refl _)) ?_
          intro v166 G163 Ms165 hG163 q164
          refine match q164 with | ⟨e_167, e_168⟩ => ?_
          subst e_167
          subst e_168
          refine W.perm (M' := ((bR, .cells (List.toArray [.slice saX_u147 (X).length scX_u147, .slice sau_u147 (u).length scu_u147]) 62 (0, 0)) :: ((b30, .cells (List.toArray [.int .i64 ((acts)[k]).kind, .int .i64 ((acts)[k]).slot, .int .i64 ((acts)[k]).x]) 56 (0, 0)) :: (Ms152 ++ (Mu_u147 ++ (Ms137 ++ [])))))) (((pmC ((pmF (List.Perm.refl _)).trans (List.Perm.refl _))).cons _).trans (List.Perm.refl _)).symm ?_
          refine W.nil ⟨hG163, ((List.nil_sublist _).cons_cons _).cons_cons _, _, ((List.nil_sublist _).cons_cons _).cons_cons _, List.Sublist.refl _, ?_⟩
          refine WD.take 5 rfl rfl rfl (by kernel_rfl) (by kernel_rfl) (by kernel_rfl) (ok_neqB bo4 rfl rfl) ?_
          refine WD.take 6 rfl rfl rfl (by kernel_rfl) (by kernel_rfl) (by kernel_rfl) (ok_mv) ?_
          refine WD.takeY 7 175 rfl rfl rfl rfl rfl rfl (by kernel_rfl) (by kernel_rfl) (by kernel_rfl) (ok_mv) ?_
          refine WD.takeY 8 175 rfl rfl rfl rfl rfl rfl (by kernel_rfl) (by kernel_rfl) (by kernel_rfl) (ok_mv) ?_
          refine WD.takeY 9 177 rfl rfl rfl rfl rfl rfl (by kernel_rfl) (by kernel_rfl) (by kernel_rfl) (ok_mv) ?_
          refine WD.takeY 10 177 rfl rfl rfl rfl rfl rfl (by kernel_rfl) (by kernel_rfl) (by kernel_rfl) (ok_mv) ?_
          refine WD.takeY 11 177 rfl rfl rfl rfl rfl rfl (by kernel_rfl) (by kernel_rfl) (by kernel_rfl) (ok_nilP rfl) ?_
          refine WD.takeY 12 177 rfl rfl rfl rfl rfl rfl (by kernel_rfl) (by kernel_rfl) (by kernel_rfl) (ok_fieldB fd62_0 rfl) ?_
          refine WD.takeY 13 177 rfl rfl rfl rfl rfl rfl (by kernel_rfl) (by kernel_rfl) (by kernel_rfl) (ok_loadB (i := 0) (vs := [.slice _ _ _]) ty30 rfl rfl rfl rfl (by simp)) ?_
          refine WD.takeY 14 177 rfl rfl rfl rfl rfl rfl (by kernel_rfl) (by kernel_rfl) (by kernel_rfl) (ok_fieldB fd56_1 rfl) ?_
          refine WD.takeY 15 177 rfl rfl rfl rfl rfl rfl (by kernel_rfl) (by kernel_rfl) (by kernel_rfl) (ok_loadB (i := 1) (vs := [.int .i64 _]) ty3 rfl rfl rfl rfl (by simp)) ?_
          have q172 := (ho153.mono (hG157.trans hG163)).at (i := ((acts)[k]).slot.toNat) (by omega)
          refine match q172 with | ⟨_, he169, ⟨e_171, hi170⟩⟩ => ?_
          subst e_171
          refine WD.takeY 16 177 rfl rfl rfl rfl rfl rfl (by kernel_rfl) (by kernel_rfl) (by kernel_rfl) (ok_indexAddrO (i := ((acts)[k]).slot.toNat) sl30 ty3 (ho153.mono (hG157.trans hG163)) rfl rfl ⟨by omega, by omega⟩) ?_
          refine WD.anyG [17] (by kernel_rfl) rfl ⟨⟨_, rfl, .inr ⟨_, 177, _, _, rfl, rfl, rfl, rfl, rfl⟩, ?_⟩, trivial⟩
          refine W.ok (ok_loadO (vs := [.int .i64 _]) ty3 he169 (pmC (pmC (List.Perm.refl _))) rfl rfl rfl (by simp)) ?_
          refine W.nil ⟨Le.rfl, ((List.nil_sublist _).cons_cons _).cons_cons _, _, ((List.nil_sublist _).cons_cons _).cons_cons _, List.Sublist.refl _, ?_⟩
          refine WD.takeY 18 177 rfl rfl rfl rfl rfl rfl (by kernel_rfl) (by kernel_rfl) (by kernel_rfl) (ok_neq rfl rfl) ?_
          refine WD.takeY 19 175 rfl rfl rfl rfl rfl rfl (by kernel_rfl) (by kernel_rfl) (by kernel_rfl) (ok_pick_t rfl rfl) ?_
          refine WD.take 20 rfl rfl rfl (by kernel_rfl) (by kernel_rfl) (by kernel_rfl) (ok_pick_f rfl rfl) ?_
          refine WD.take 21 rfl rfl rfl (by kernel_rfl) (by kernel_rfl) (by kernel_rfl) (ok_mv) ?_
          refine WD.sp 190 rfl (fun h187 => ?_) (fun h187 => ?_)
          ·have p187 := nd_t h187
           exact absurd (hag2.get q155 (by omega)) p187
          ·have p187 := nd_f h187
           refine WD.takeY 22 190 rfl rfl rfl rfl rfl h187 (by kernel_rfl) (by kernel_rfl) (by kernel_rfl) (ok_mv) ?_
           refine WD.takeY 23 190 rfl rfl rfl rfl rfl h187 (by kernel_rfl) (by kernel_rfl) (by kernel_rfl) (ok_not rfl) ?_
           refine WD.takeY 24 190 rfl rfl rfl rfl rfl h187 (by kernel_rfl) (by kernel_rfl) (by kernel_rfl) (ok_mv) ?_
           refine WD.takeN 25 193 rfl rfl rfl rfl rfl rfl (by kernel_rfl) (by kernel_rfl) (by kernel_rfl) ?_
           refine WD.takeN 26 193 rfl rfl rfl rfl rfl rfl (by kernel_rfl) (by kernel_rfl) (by kernel_rfl) ?_
           refine WD.takeY 27 190 rfl rfl rfl rfl rfl h187 (by kernel_rfl) (by kernel_rfl) (by kernel_rfl) (ok_pick_f rfl rfl) ?_
           refine WD.take 28 rfl rfl rfl (by kernel_rfl) (by kernel_rfl) (by kernel_rfl) (ok_pick_f rfl h187) ?_
           refine WD.done (by kernel_rfl) (thn_n ?_)
           refine WC.cond_f rfl rfl ?_
           refine WC.skip (blk_n (thn_n ?_))
           have hR173 : ReR 3 4 62 bR G163 (((X).set (((acts)[k]).slot.toNat) ((acts)[k]).x), u) ((bR, .cells (List.toArray [.slice saX_u147 (X).length scX_u147, .slice sau_u147 (u).length scu_u147]) 62 (0, 0)) :: (Ms152 ++ Mu_u147)) := ⟨_, _, _, _, rfl, (ho153.mono (hG157.trans hG163)), (hu_u147.mono (hG157.trans hG163))⟩
           refine WC.perm (M' := ((b30, .cells (List.toArray [.int .i64 ((acts)[k]).kind, .int .i64 ((acts)[k]).slot, .int .i64 ((acts)[k]).x]) 56 (0, 0)) :: (((bR, .cells (List.toArray [.slice saX_u147 (X).length scX_u147, .slice sau_u147 (u).length scu_u147]) 62 (0, 0)) :: (Ms152 ++ Mu_u147)) ++ (Ms137 ++ [])))) ((pmC (List.Perm.refl _)).symm.trans (((pmC ((pmF (List.Perm.refl _)).trans (List.Perm.refl _))).cons _).trans (List.Perm.refl _))) ?_
           refine WC.region ?_
           refine W.ok (ok_add rfl rfl (by omega)) ?_
           refine W.mv ?_
           refine W.sub ((List.Sublist.refl _).cons _) ?_
           refine W.nil (thn_n ?_)
           exact ⟨(((hG135.trans hG141).trans hG157).trans hG163), ((k + 1, (c.set (((acts)[k]).slot).toNat ((acts)[k]).x), u, ((X).set (((acts)[k]).slot.toNat) ((acts)[k]).x)), ((bR, .cells (List.toArray [.slice saX_u147 (X).length scX_u147, .slice sau_u147 (u).length scu_u147]) 62 (0, 0)) :: (Ms152 ++ Mu_u147)), Ms137), ⟨(by first | rfl | exact iv (by dsimp only; omega) | exact iv (by omega)), (by first | rfl | exact iv (by dsimp only; omega) | exact iv (by omega)), (by first | rfl | exact iv (by dsimp only; omega) | exact iv (by omega)), (by first | rfl | exact iv (by dsimp only; omega) | exact iv (by omega)), (by first | rfl | exact iv (by dsimp only; omega) | exact iv (by omega)), (by first | rfl | exact iv (by dsimp only; omega) | exact iv (by omega)), trivial⟩, ⟨rfl, (by exact hR173), (by exact (ArR.mono ((hG141.trans hG157).trans hG163) hR139)), by dsimp only; omega, hun, hag.set1 ((acts)[k]).slot.toNat ((acts)[k]).x⟩, by dsimp only; omega⟩
         ·refine W.call (Mp := Ms137) (ogeti_f (ArR.mono hG141 hR139) _ q156) rfl (pmC (pmC (pmA (pmA (List.Perm.refl _))))) ?_
          intro v177 G174 Ms176 hG174 q175
          refine match q175 with | ⟨e_179, eeq175⟩ => ?_
          subst e_179
          have eeq175 := eeq175.symm
          subst eeq175
          refine W.perm (pmC (pmC (List.Perm.refl _))).symm ?_
          refine W.mv ?_
          refine W.ok (ok_extract rfl rfl) ?_
          refine W.ok (ok_extract rfl rfl) ?_
          refine W.as ?_
          refine W.as ?_
          refine W.nil (thn_n ?_)
          refine WC.seq ?_
          refine WC.drawW _ (((List.nil_sublist _).cons_cons _).cons_cons _) mix (by rintro _ _ _ _ ⟨h | h, _⟩ <;> cases h) ?_
          refine WD.take 0 rfl rfl rfl (by kernel_rfl) (by kernel_rfl) (by kernel_rfl) (ok_mv) ?_
          refine WD.take 1 rfl rfl rfl (by kernel_rfl) (by kernel_rfl) (by kernel_rfl) (ok_mv) ?_
          refine WD.take 2 rfl rfl rfl (by kernel_rfl) (by kernel_rfl) (by kernel_rfl) (ok_fieldB fd56_1 rfl) ?_
          refine WD.take 3 rfl rfl rfl (by kernel_rfl) (by kernel_rfl) (by kernel_rfl) (ok_loadB (i := 1) (vs := [.int .i64 _]) ty3 rfl rfl rfl rfl (by simp)) ?_
          refine WD.any [4] (by kernel_rfl) rfl ⟨⟨_, rfl, rfl, ?_⟩, trivial⟩
          refine W.call (Mp := ((bR, .cells (List.toArray [.slice saX_u147 (X).length scX_u147, .slice sau_u147 (u).length scu_u147]) 62 (0, 0)) :: (Ms152 ++ Mu_u147))) (Mr := ((b30, .cells (List.toArray [.int .i64 ((acts)[k]).kind, .int .i64 ((acts)[k]).slot, .int .i64 ((acts)[k]).x]) 56 (0, 0)) :: (Ms137 ++ []))) (rhas_f (ho153.mono hG174) (hu_u147.mono hG174) _ q156) rfl (((pmC ((pmF (pmA (List.Perm.refl _))).trans (pmA (List.Perm.refl _)))).cons _).trans (List.Perm.refl _)) ?_
          intro v183 G180 Ms182 hG180 q181
          refine match q181 with | ⟨e_184, e_185⟩ => ?_
          subst e_184
          subst e_185
          refine W.perm (M' := ((bR, .cells (List.toArray [.slice saX_u147 (X).length scX_u147, .slice sau_u147 (u).length scu_u147]) 62 (0, 0)) :: ((b30, .cells (List.toArray [.int .i64 ((acts)[k]).kind, .int .i64 ((acts)[k]).slot, .int .i64 ((acts)[k]).x]) 56 (0, 0)) :: (Ms152 ++ (Mu_u147 ++ (Ms137 ++ [])))))) (((pmC ((pmF (List.Perm.refl _)).trans (List.Perm.refl _))).cons _).trans (List.Perm.refl _)).symm ?_
          refine W.nil ⟨hG180, ((List.nil_sublist _).cons_cons _).cons_cons _, _, ((List.nil_sublist _).cons_cons _).cons_cons _, List.Sublist.refl _, ?_⟩
          refine WD.take 5 rfl rfl rfl (by kernel_rfl) (by kernel_rfl) (by kernel_rfl) (ok_neqB bo4 rfl rfl) ?_
          refine WD.take 6 rfl rfl rfl (by kernel_rfl) (by kernel_rfl) (by kernel_rfl) (ok_mv) ?_
          refine WD.takeY 7 175 rfl rfl rfl rfl rfl rfl (by kernel_rfl) (by kernel_rfl) (by kernel_rfl) (ok_mv) ?_
          refine WD.takeY 8 175 rfl rfl rfl rfl rfl rfl (by kernel_rfl) (by kernel_rfl) (by kernel_rfl) (ok_mv) ?_
          refine WD.takeN 9 177 rfl rfl rfl rfl rfl rfl (by kernel_rfl) (by kernel_rfl) (by kernel_rfl) ?_
          refine WD.takeN 10 177 rfl rfl rfl rfl rfl rfl (by kernel_rfl) (by kernel_rfl) (by kernel_rfl) ?_
          refine WD.takeN 11 177 rfl rfl rfl rfl rfl rfl (by kernel_rfl) (by kernel_rfl) (by kernel_rfl) ?_
          refine WD.takeN 12 177 rfl rfl rfl rfl rfl rfl (by kernel_rfl) (by kernel_rfl) (by kernel_rfl) ?_
          refine WD.takeN 13 177 rfl rfl rfl rfl rfl rfl (by kernel_rfl) (by kernel_rfl) (by kernel_rfl) ?_
          refine WD.takeN 14 177 rfl rfl rfl rfl rfl rfl (by kernel_rfl) (by kernel_rfl) (by kernel_rfl) ?_
          refine WD.takeN 15 177 rfl rfl rfl rfl rfl rfl (by kernel_rfl) (by kernel_rfl) (by kernel_rfl) ?_
          refine WD.takeN 16 177 rfl rfl rfl rfl rfl rfl (by kernel_rfl) (by kernel_rfl) (by kernel_rfl) ?_
          refine WD.takeN 17 177 rfl rfl rfl rfl rfl rfl (by kernel_rfl) (by kernel_rfl) (by kernel_rfl) ?_
          refine WD.takeN 18 177 rfl rfl rfl rfl rfl rfl (by kernel_rfl) (by kernel_rfl) (by kernel_rfl) ?_
          refine WD.takeY 19 175 rfl rfl rfl rfl rfl rfl (by kernel_rfl) (by kernel_rfl) (by kernel_rfl) (ok_pick_f rfl rfl) ?_
          refine WD.take 20 rfl rfl rfl (by kernel_rfl) (by kernel_rfl) (by kernel_rfl) (ok_pick_f rfl rfl) ?_
          refine WD.take 21 rfl rfl rfl (by kernel_rfl) (by kernel_rfl) (by kernel_rfl) (ok_mv) ?_
          refine WD.takeY 22 190 rfl rfl rfl rfl rfl rfl (by kernel_rfl) (by kernel_rfl) (by kernel_rfl) (ok_mv) ?_
          refine WD.takeY 23 190 rfl rfl rfl rfl rfl rfl (by kernel_rfl) (by kernel_rfl) (by kernel_rfl) (ok_not rfl) ?_
          refine WD.takeY 24 190 rfl rfl rfl rfl rfl rfl (by kernel_rfl) (by kernel_rfl) (by kernel_rfl) (ok_mv) ?_
          refine WD.takeY 25 193 rfl rfl rfl rfl rfl rfl (by kernel_rfl) (by kernel_rfl) (by kernel_rfl) (ok_mv) ?_
          refine WD.takeY 26 193 rfl rfl rfl rfl rfl rfl (by kernel_rfl) (by kernel_rfl) (by kernel_rfl) (ok_neq rfl rfl) ?_
          refine WD.takeY 27 190 rfl rfl rfl rfl rfl rfl (by kernel_rfl) (by kernel_rfl) (by kernel_rfl) (ok_pick_t rfl rfl) ?_
          refine WD.take 28 rfl rfl rfl (by kernel_rfl) (by kernel_rfl) (by kernel_rfl) (ok_pick_f rfl rfl) ?_
          refine WD.done (by kernel_rfl) (thn_n ?_)
          refine WC.cond_f rfl rfl ?_
          refine WC.skip (blk_n (thn_n ?_))
          have hR186 : ReR 3 4 62 bR G180 (((X).set (((acts)[k]).slot.toNat) ((acts)[k]).x), u) ((bR, .cells (List.toArray [.slice saX_u147 (X).length scX_u147, .slice sau_u147 (u).length scu_u147]) 62 (0, 0)) :: (Ms152 ++ Mu_u147)) := ⟨_, _, _, _, rfl, (ho153.mono (hG174.trans hG180)), (hu_u147.mono (hG174.trans hG180))⟩
          refine WC.perm (M' := ((b30, .cells (List.toArray [.int .i64 ((acts)[k]).kind, .int .i64 ((acts)[k]).slot, .int .i64 ((acts)[k]).x]) 56 (0, 0)) :: (((bR, .cells (List.toArray [.slice saX_u147 (X).length scX_u147, .slice sau_u147 (u).length scu_u147]) 62 (0, 0)) :: (Ms152 ++ Mu_u147)) ++ (Ms137 ++ [])))) ((pmC (List.Perm.refl _)).symm.trans (((pmC ((pmF (List.Perm.refl _)).trans (List.Perm.refl _))).cons _).trans (List.Perm.refl _))) ?_
          refine WC.region ?_
          refine W.ok (ok_add rfl rfl (by omega)) ?_
          refine W.mv ?_
          refine W.sub ((List.Sublist.refl _).cons _) ?_
          refine W.nil (thn_n ?_)
          exact ⟨(((hG135.trans hG141).trans hG174).trans hG180), ((k + 1, (c.set (((acts)[k]).slot).toNat ((acts)[k]).x), u, ((X).set (((acts)[k]).slot.toNat) ((acts)[k]).x)), ((bR, .cells (List.toArray [.slice saX_u147 (X).length scX_u147, .slice sau_u147 (u).length scu_u147]) 62 (0, 0)) :: (Ms152 ++ Mu_u147)), Ms137), ⟨(by first | rfl | exact iv (by dsimp only; omega) | exact iv (by omega)), (by first | rfl | exact iv (by dsimp only; omega) | exact iv (by omega)), (by first | rfl | exact iv (by dsimp only; omega) | exact iv (by omega)), (by first | rfl | exact iv (by dsimp only; omega) | exact iv (by omega)), (by first | rfl | exact iv (by dsimp only; omega) | exact iv (by omega)), (by first | rfl | exact iv (by dsimp only; omega) | exact iv (by omega)), trivial⟩, ⟨rfl, (by exact hR186), (by exact (ArR.mono ((hG141.trans hG174).trans hG180) hR139)), by dsimp only; omega, hun, hag.set1 ((acts)[k]).slot.toNat ((acts)[k]).x⟩, by dsimp only; omega⟩
        ·refine W.call (Mp := M_5) (oseti_f ho_5 _ _ (by assumption) q134) rfl (pmC (pmA (List.Perm.refl _))) ?_
         intro v190 G187 Ms189 hG187 q188
         refine match q188 with | ⟨e_192, hR191⟩ => ?_
         subst e_192
         refine W.perm (pmC (List.Perm.refl _)).symm ?_
         refine W.as ?_
         refine W.nil (thn_n ?_)
         refine WC.seq ?_
         refine WC.seq ?_
         refine WC.region ?_
         refine W.mv ?_
         refine W.ok (ok_eql rfl rfl) ?_
         refine W.mv ?_
         refine W.ok (ok_fieldB fd56_1 rfl) ?_
         refine W.ok (ok_loadB (i := 0) (vs := [.int .i64 _]) ty3 rfl rfl rfl rfl (by simp)) ?_
         refine W.call (Mp := M_7) (qhas_f (ReR.mono hG187 ho_7) _ q134) rfl (pmC (pmA (List.Perm.refl _))) ?_
         intro v196 G193 Ms195 hG193 q194
         refine match q194 with | ⟨e_198, eeq194⟩ => ?_
         subst e_198
         have eeq194 := eeq194.symm
         subst eeq194
         refine W.perm (pmC (List.Perm.refl _)).symm ?_
         refine W.ok (ok_neqB bo4 rfl rfl) ?_
         refine W.mv ?_
         refine W.yes (dj := 143) rfl rfl rfl ?_
         refine W.mv ?_
         refine W.yes (dj := 143) rfl rfl rfl ?_
         refine W.ok (ok_neq rfl rfl) ?_
         refine W.yes (dj := 143) rfl rfl rfl ?_
         refine W.mv ?_
         refine W.yes (dj := 146) rfl rfl rfl ?_
         refine W.mv ?_
         refine W.yes (dj := 146) rfl rfl rfl ?_
         refine W.ok (ok_neq rfl rfl) ?_
         refine W.yes (dj := 143) rfl rfl rfl ?_
         refine W.ok (ok_pick_t rfl rfl) ?_
         refine W.ok (ok_pick_f rfl rfl) ?_
         refine W.nil (thn_n ?_)
         refine WC.cond_f rfl rfl ?_
         refine WC.skip (thn_n ?_)
         refine WC.seq ?_
         refine WC.region ?_
         refine W.mv ?_
         refine W.ok (ok_eql rfl rfl) ?_
         refine W.nil (thn_n ?_)
         refine WC.cond_f rfl rfl ?_
         refine WC.skip (blk_n (thn_n ?_))
         refine WC.seq ?_
         refine match (ReR.mono (hG187.trans hG193) ho_7) with | ⟨vX_u199, vu_u199, MX_u199, Mu_u199, eM_, hX_u199, hu_u199⟩ => ?_
         subst eM_
         refine WC.perm (M' := ((bR, .cells (List.toArray [vX_u199, vu_u199]) 62 (0, 0)) :: ((b30, .cells (List.toArray [.int .i64 ((acts)[k]).kind, .int .i64 ((acts)[k]).slot, .int .i64 ((acts)[k]).x]) 56 (0, 0)) :: (MX_u199 ++ (Mu_u199 ++ (Ms189 ++ [])))))) (pmD ((pmF (List.Perm.refl _)).cons _)).symm ?_
         dsimp only at hX_u199 hu_u199
         have hf_ := hX_u199.form
         obtain ⟨saX_u199, scX_u199, eV_⟩ := hf_
         subst eV_
         have hf_ := hu_u199.form
         obtain ⟨sau_u199, scu_u199, eV_⟩ := hf_
         subst eV_
         have hag2 : Agree c u X := hag
         have hXl2 := hag2.2.1
         refine WC.region ?_
         refine W.mv ?_
         refine W.ok (ok_fieldB fd56_1 rfl) ?_
         refine W.ok (ok_loadB (i := 1) (vs := [.int .i64 _]) ty3 rfl rfl rfl rfl (by simp)) ?_
         have q200 := hasN_or u (((acts)[k]).slot)
         refine Or.elim q200 (fun q201 => ?_) (fun q202 => ?_)
         ·refine W.call (Mp := Ms189) (ogeti_t (ArR.mono hG193 hR191) _ q201) rfl (pmC (pmC (pmA (pmA (List.Perm.refl _))))) ?_
          intro v206 G203 Ms205 hG203 q204
          refine match q204 with | ⟨e_208, eeq204⟩ => ?_
          subst e_208
          have eeq204 := eeq204.symm
          subst eeq204
          refine W.perm (pmC (pmC (List.Perm.refl _))).symm ?_
          refine W.mv ?_
          refine W.ok (ok_extract rfl rfl) ?_
          refine W.ok (ok_extract rfl rfl) ?_
          refine W.as ?_
          refine W.as ?_
          refine W.nil (thn_n ?_)
          refine WC.seq ?_
          have hil := hasN_lt q201
          have hXl := hag.2.1
          refine WC.drawW _ (((List.nil_sublist _).cons_cons _).cons_cons _) mix (by rintro _ _ _ _ ⟨h | h, _⟩ <;> cases h) ?_
          refine WD.take 0 rfl rfl rfl (by kernel_rfl) (by kernel_rfl) (by kernel_rfl) (ok_mv) ?_
          refine WD.take 1 rfl rfl rfl (by kernel_rfl) (by kernel_rfl) (by kernel_rfl) (ok_mv) ?_
          refine WD.take 2 rfl rfl rfl (by kernel_rfl) (by kernel_rfl) (by kernel_rfl) (ok_fieldB fd56_1 rfl) ?_
          refine WD.take 3 rfl rfl rfl (by kernel_rfl) (by kernel_rfl) (by kernel_rfl) (ok_loadB (i := 1) (vs := [.int .i64 _]) ty3 rfl rfl rfl rfl (by simp)) ?_
          refine WD.any [4] (by kernel_rfl) rfl ⟨⟨_, rfl, rfl, ?_⟩, trivial⟩
          refine W.call (Mp := ((bR, .cells (List.toArray [.slice saX_u199 (X).length scX_u199, .slice sau_u199 (u).length scu_u199]) 62 (0, 0)) :: (MX_u199 ++ Mu_u199))) (Mr := ((b30, .cells (List.toArray [.int .i64 ((acts)[k]).kind, .int .i64 ((acts)[k]).slot, .int .i64 ((acts)[k]).x]) 56 (0, 0)) :: (Ms189 ++ []))) (rhas_t (hX_u199.mono hG203) (hu_u199.mono hG203) _ q201) rfl (((pmC ((pmF (pmA (List.Perm.refl _))).trans (pmA (List.Perm.refl _)))).cons _).trans (List.Perm.refl _)) ?_
          intro v212 G209 Ms211 hG209 q210
          refine match q210 with | ⟨e_213, e_214⟩ => ?_
          subst e_213
          subst e_214
          refine W.perm (M' := ((bR, .cells (List.toArray [.slice saX_u199 (X).length scX_u199, .slice sau_u199 (u).length scu_u199]) 62 (0, 0)) :: ((b30, .cells (List.toArray [.int .i64 ((acts)[k]).kind, .int .i64 ((acts)[k]).slot, .int .i64 ((acts)[k]).x]) 56 (0, 0)) :: (MX_u199 ++ (Mu_u199 ++ (Ms189 ++ [])))))) (((pmC ((pmF (List.Perm.refl _)).trans (List.Perm.refl _))).cons _).trans (List.Perm.refl _)).symm ?_
          refine W.nil ⟨hG209, ((List.nil_sublist _).cons_cons _).cons_cons _, _, ((List.nil_sublist _).cons_cons _).cons_cons _, List.Sublist.refl _, ?_⟩
          refine WD.take 5 rfl rfl rfl (by kernel_rfl) (by kernel_rfl) (by kernel_rfl) (ok_neqB bo4 rfl rfl) ?_
          refine WD.take 6 rfl rfl rfl (by kernel_rfl) (by kernel_rfl) (by kernel_rfl) (ok_mv) ?_
          refine WD.takeY 7 175 rfl rfl rfl rfl rfl rfl (by kernel_rfl) (by kernel_rfl) (by kernel_rfl) (ok_mv) ?_
          refine WD.takeY 8 175 rfl rfl rfl rfl rfl rfl (by kernel_rfl) (by kernel_rfl) (by kernel_rfl) (ok_mv) ?_
          refine WD.takeY 9 177 rfl rfl rfl rfl rfl rfl (by kernel_rfl) (by kernel_rfl) (by kernel_rfl) (ok_mv) ?_
          refine WD.takeY 10 177 rfl rfl rfl rfl rfl rfl (by kernel_rfl) (by kernel_rfl) (by kernel_rfl) (ok_mv) ?_
          refine WD.takeY 11 177 rfl rfl rfl rfl rfl rfl (by kernel_rfl) (by kernel_rfl) (by kernel_rfl) (ok_nilP rfl) ?_
          refine WD.takeY 12 177 rfl rfl rfl rfl rfl rfl (by kernel_rfl) (by kernel_rfl) (by kernel_rfl) (ok_fieldB fd62_0 rfl) ?_
          refine WD.takeY 13 177 rfl rfl rfl rfl rfl rfl (by kernel_rfl) (by kernel_rfl) (by kernel_rfl) (ok_loadB (i := 0) (vs := [.slice _ _ _]) ty30 rfl rfl rfl rfl (by simp)) ?_
          refine WD.takeY 14 177 rfl rfl rfl rfl rfl rfl (by kernel_rfl) (by kernel_rfl) (by kernel_rfl) (ok_fieldB fd56_1 rfl) ?_
          refine WD.takeY 15 177 rfl rfl rfl rfl rfl rfl (by kernel_rfl) (by kernel_rfl) (by kernel_rfl) (ok_loadB (i := 1) (vs := [.int .i64 _]) ty3 rfl rfl rfl rfl (by simp)) ?_
          have q218 := (hX_u199.mono (hG203.trans hG209)).at (i := ((acts)[k]).slot.toNat) (by omega)
          refine match q218 with | ⟨_, he215, ⟨e_217, hi216⟩⟩ => ?_
          subst e_217
          refine WD.takeY 16 177 rfl rfl rfl rfl rfl rfl (by kernel_rfl) (by kernel_rfl) (by kernel_rfl) (ok_indexAddrO (i := ((acts)[k]).slot.toNat) sl30 ty3 (hX_u199.mono (hG203.trans hG209)) rfl rfl ⟨by omega, by omega⟩) ?_
          refine WD.anyG [17] (by kernel_rfl) rfl ⟨⟨_, rfl, .inr ⟨_, 177, _, _, rfl, rfl, rfl, rfl, rfl⟩, ?_⟩, trivial⟩
          refine W.ok (ok_loadO (vs := [.int .i64 _]) ty3 he215 (pmC (pmC (List.Perm.refl _))) rfl rfl rfl (by simp)) ?_
          refine W.nil ⟨Le.rfl, ((List.nil_sublist _).cons_cons _).cons_cons _, _, ((List.nil_sublist _).cons_cons _).cons_cons _, List.Sublist.refl _, ?_⟩
          refine WD.takeY 18 177 rfl rfl rfl rfl rfl rfl (by kernel_rfl) (by kernel_rfl) (by kernel_rfl) (ok_neq rfl rfl) ?_
          refine WD.takeY 19 175 rfl rfl rfl rfl rfl rfl (by kernel_rfl) (by kernel_rfl) (by kernel_rfl) (ok_pick_t rfl rfl) ?_
          refine WD.take 20 rfl rfl rfl (by kernel_rfl) (by kernel_rfl) (by kernel_rfl) (ok_pick_f rfl rfl) ?_
          refine WD.take 21 rfl rfl rfl (by kernel_rfl) (by kernel_rfl) (by kernel_rfl) (ok_mv) ?_
          refine WD.sp 190 rfl (fun h187 => ?_) (fun h187 => ?_)
          ·have p187 := nd_t h187
           exact absurd (hag2.get q201 (by omega)) p187
          ·have p187 := nd_f h187
           refine WD.takeY 22 190 rfl rfl rfl rfl rfl h187 (by kernel_rfl) (by kernel_rfl) (by kernel_rfl) (ok_mv) ?_
           refine WD.takeY 23 190 rfl rfl rfl rfl rfl h187 (by kernel_rfl) (by kernel_rfl) (by kernel_rfl) (ok_not rfl) ?_
           refine WD.takeY 24 190 rfl rfl rfl rfl rfl h187 (by kernel_rfl) (by kernel_rfl) (by kernel_rfl) (ok_mv) ?_
           refine WD.takeN 25 193 rfl rfl rfl rfl rfl rfl (by kernel_rfl) (by kernel_rfl) (by kernel_rfl) ?_
           refine WD.takeN 26 193 rfl rfl rfl rfl rfl rfl (by kernel_rfl) (by kernel_rfl) (by kernel_rfl) ?_
           refine WD.takeY 27 190 rfl rfl rfl rfl rfl h187 (by kernel_rfl) (by kernel_rfl) (by kernel_rfl) (ok_pick_f rfl rfl) ?_
           refine WD.take 28 rfl rfl rfl (by kernel_rfl) (by kernel_rfl) (by kernel_rfl) (ok_pick_f rfl h187) ?_
           refine WD.done (by kernel_rfl) (thn_n ?_)
           refine WC.cond_f rfl rfl ?_
           refine WC.skip (blk_n (thn_n ?_))
           have hR219 : ReR 3 4 62 bR G209 (X, u) ((bR, .cells (List.toArray [.slice saX_u199 (X).length scX_u199, .slice sau_u199 (u).length scu_u199]) 62 (0, 0)) :: (MX_u199 ++ Mu_u199)) := ⟨_, _, _, _, rfl, (hX_u199.mono (hG203.trans hG209)), (hu_u199.mono (hG203.trans hG209))⟩
           refine WC.perm (M' := ((b30, .cells (List.toArray [.int .i64 ((acts)[k]).kind, .int .i64 ((acts)[k]).slot, .int .i64 ((acts)[k]).x]) 56 (0, 0)) :: (((bR, .cells (List.toArray [.slice saX_u199 (X).length scX_u199, .slice sau_u199 (u).length scu_u199]) 62 (0, 0)) :: (MX_u199 ++ Mu_u199)) ++ (Ms189 ++ [])))) ((pmC (List.Perm.refl _)).symm.trans (((pmC ((pmF (List.Perm.refl _)).trans (List.Perm.refl _))).cons _).trans (List.Perm.refl _))) ?_
           refine WC.region ?_
           refine W.ok (ok_add rfl rfl (by omega)) ?_
           refine W.mv ?_
           refine W.sub ((List.Sublist.refl _).cons _) ?_
           refine W.nil (thn_n ?_)
           exact ⟨(((hG187.trans hG193).trans hG203).trans hG209), ((k + 1, c, u, X), ((bR, .cells (List.toArray [.slice saX_u199 (X).length scX_u199, .slice sau_u199 (u).length scu_u199]) 62 (0, 0)) :: (MX_u199 ++ Mu_u199)), Ms189), ⟨(by first | rfl | exact iv (by dsimp only; omega) | exact iv (by omega)), (by first | rfl | exact iv (by dsimp only; omega) | exact iv (by omega)), (by first | rfl | exact iv (by dsimp only; omega) | exact iv (by omega)), (by first | rfl | exact iv (by dsimp only; omega) | exact iv (by omega)), (by first | rfl | exact iv (by dsimp only; omega) | exact iv (by omega)), (by first | rfl | exact iv (by dsimp only; omega) | exact iv (by omega)), trivial⟩, ⟨rfl, (by exact hR219), (by exact (ArR.mono ((hG193.trans hG203).trans hG209) hR191)), by dsimp only; omega, hun, hag⟩, by dsimp only; omega⟩
         ·refine W.call (Mp := Ms189) (ogeti_f (ArR.mono hG193 hR191) _ q202) rfl (pmC (pmC (pmA (pmA (List.Perm.refl _))))) ?_
          intro v223 G220 Ms222 hG220 q221
          refine match q221 with | ⟨e_225, eeq221⟩ => ?_
          subst e_225
          have eeq221 := eeq221.symm
          subst eeq221
          refine W.perm (pmC (pmC (List.Perm.refl _))).symm ?_
          refine W.mv ?_
          refine W.ok (ok_extract rfl rfl) ?_
          refine W.ok (ok_extract rfl rfl) ?_
          refine W.as ?_
          refine W.as ?_
          refine W.nil (thn_n ?_)
          refine WC.seq ?_
          refine WC.drawW _ (((List.nil_sublist _).cons_cons _).cons_cons _) mix (by rintro _ _ _ _ ⟨h | h, _⟩ <;> cases h) ?_
          refine WD.take 0 rfl rfl rfl (by kernel_rfl) (by kernel_rfl) (by kernel_rfl) (ok_mv) ?_
          refine WD.take 1 rfl rfl rfl (by kernel_rfl) (by kernel_rfl) (by kernel_rfl) (ok_mv) ?_
          refine WD.take 2 rfl rfl rfl (by kernel_rfl) (by kernel_rfl) (by kernel_rfl) (ok_fieldB fd56_1 rfl) ?_
          refine WD.take 3 rfl rfl rfl (by kernel_rfl) (by kernel_rfl) (by kernel_rfl) (ok_loadB (i := 1) (vs := [.int .i64 _]) ty3 rfl rfl rfl rfl (by simp)) ?_
          refine WD.any [4] (by kernel_rfl) rfl ⟨⟨_, rfl, rfl, ?_⟩, trivial⟩
          refine W.call (Mp := ((bR, .cells (List.toArray [.slice saX_u199 (X).length scX_u199, .slice sau_u199 (u).length scu_u199]) 62 (0, 0)) :: (MX_u199 ++ Mu_u199))) (Mr := ((b30, .cells (List.toArray [.int .i64 ((acts)[k]).kind, .int .i64 ((acts)[k]).slot, .int .i64 ((acts)[k]).x]) 56 (0, 0)) :: (Ms189 ++ []))) (rhas_f (hX_u199.mono hG220) (hu_u199.mono hG220) _ q202) rfl (((pmC ((pmF (pmA (List.Perm.refl _))).trans (pmA (List.Perm.refl _)))).cons _).trans (List.Perm.refl _)) ?_
          intro v229 G226 Ms228 hG226 q227
          refine match q227 with | ⟨e_230, e_231⟩ => ?_
          subst e_230
          subst e_231
          refine W.perm (M' := ((bR, .cells (List.toArray [.slice saX_u199 (X).length scX_u199, .slice sau_u199 (u).length scu_u199]) 62 (0, 0)) :: ((b30, .cells (List.toArray [.int .i64 ((acts)[k]).kind, .int .i64 ((acts)[k]).slot, .int .i64 ((acts)[k]).x]) 56 (0, 0)) :: (MX_u199 ++ (Mu_u199 ++ (Ms189 ++ [])))))) (((pmC ((pmF (List.Perm.refl _)).trans (List.Perm.refl _))).cons _).trans (List.Perm.refl _)).symm ?_
          refine W.nil ⟨hG226, ((List.nil_sublist _).cons_cons _).cons_cons _, _, ((List.nil_sublist _).cons_cons _).cons_cons _, List.Sublist.refl _, ?_⟩
          refine WD.take 5 rfl rfl rfl (by kernel_rfl) (by kernel_rfl) (by kernel_rfl) (ok_neqB bo4 rfl rfl) ?_
          refine WD.take 6 rfl rfl rfl (by kernel_rfl) (by kernel_rfl) (by kernel_rfl) (ok_mv) ?_
          refine WD.takeY 7 175 rfl rfl rfl rfl rfl rfl (by kernel_rfl) (by kernel_rfl) (by kernel_rfl) (ok_mv) ?_
          refine WD.takeY 8 175 rfl rfl rfl rfl rfl rfl (by kernel_rfl) (by kernel_rfl) (by kernel_rfl) (ok_mv) ?_
          refine WD.takeN 9 177 rfl rfl rfl rfl rfl rfl (by kernel_rfl) (by kernel_rfl) (by kernel_rfl) ?_
          refine WD.takeN 10 177 rfl rfl rfl rfl rfl rfl (by kernel_rfl) (by kernel_rfl) (by kernel_rfl) ?_
          refine WD.takeN 11 177 rfl rfl rfl rfl rfl rfl (by kernel_rfl) (by kernel_rfl) (by kernel_rfl) ?_
          refine WD.takeN 12 177 rfl rfl rfl rfl rfl rfl (by kernel_rfl) (by kernel_rfl) (by kernel_rfl) ?_
          refine WD.takeN 13 177 rfl rfl rfl rfl rfl rfl (by kernel_rfl) (by kernel_rfl) (by kernel_rfl) ?_
          refine WD.takeN 14 177 rfl rfl rfl rfl rfl rfl (by kernel_rfl) (by kernel_rfl) (by kernel_rfl) ?_
          refine WD.takeN 15 177 rfl rfl rfl rfl rfl rfl (by kernel_rfl) (by kernel_rfl) (by kernel_rfl) ?_
          refine WD.takeN 16 177 rfl rfl rfl rfl rfl rfl (by kernel_rfl) (by kernel_rfl) (by kernel_rfl) ?_
          refine WD.takeN 17 177 rfl rfl rfl rfl rfl rfl (by kernel_rfl) (by kernel_rfl) (by kernel_rfl) ?_
          refine WD.takeN 18 177 rfl rfl rfl rfl rfl rfl (by kernel_rfl) (by kernel_rfl) (by kernel_rfl) ?_
          refine WD.takeY 19 175 rfl rfl rfl rfl rfl rfl (by kernel_rfl) (by kernel_rfl) (by kernel_rfl) (ok_pick_f rfl rfl) ?_
          refine WD.take 20 rfl rfl rfl (by kernel_rfl) (by kernel_rfl) (by kernel_rfl) (ok_pick_f rfl rfl) ?_
          refine WD.take 21 rfl rfl rfl (by kernel_rfl) (by kernel_rfl) (by kernel_rfl) (ok_mv) ?_
          refine WD.takeY 22 190 rfl rfl rfl rfl rfl rfl (by kernel_rfl) (by kernel_rfl) (by kernel_rfl) (ok_mv) ?_
          refine WD.takeY 23 190 rfl rfl rfl rfl rfl rfl (by kernel_rfl) (by kernel_rfl) (by kernel_rfl) (ok_not rfl) ?_
          refine WD.takeY 24 190 rfl rfl rfl rfl rfl rfl (by kernel_rfl) (by kernel_rfl) (by kernel_rfl) (ok_mv) ?_
          refine WD.takeY 25 193 rfl rfl rfl rfl rfl rfl (by kernel_rfl) (by kernel_rfl) (by kernel_rfl) (ok_mv) ?_
          refine WD.takeY 26 193 rfl rfl rfl rfl rfl rfl (by kernel_rfl) (by kernel_rfl) (by kernel_rfl) (ok_neq rfl rfl) ?_
          refine WD.takeY 27 190 rfl rfl rfl rfl rfl rfl (by kernel_rfl) (by kernel_rfl) (by kernel_rfl) (ok_pick_t rfl rfl) ?_
          refine WD.take 28 rfl rfl rfl (by kernel_rfl) (by kernel_rfl) (by kernel_rfl) (ok_pick_f rfl rfl) ?_
          refine WD.done (by kernel_rfl) (thn_n ?_)
          refine WC.cond_f rfl rfl ?_
          refine WC.skip (blk_n (thn_n ?_))
          have hR232 : ReR 3 4 62 bR G226 (X, u) ((bR, .cells (List.toArray [.slice saX_u199 (X).length scX_u199, .slice sau_u199 (u).length scu_u199]) 62 (0, 0)) :: (MX_u199 ++ Mu_u199)) := ⟨_, _, _, _, rfl, (hX_u199.mono (hG220.trans hG226)), (hu_u199.mono (hG220.trans hG226))⟩
          refine WC.perm (M' := ((b30, .cells (List.toArray [.int .i64 ((acts)[k]).kind, .int .i64 ((acts)[k]).slot, .int .i64 ((acts)[k]).x]) 56 (0, 0)) :: (((bR, .cells (List.toArray [.slice saX_u199 (X).length scX_u199, .slice sau_u199 (u).length scu_u199]) 62 (0, 0)) :: (MX_u199 ++ Mu_u199)) ++ (Ms189 ++ [])))) ((pmC (List.Perm.refl _)).symm.trans (((pmC ((pmF (List.Perm.refl _)).trans (List.Perm.refl _))).cons _).trans (List.Perm.refl _))) ?_
          refine WC.region ?_
          refine W.ok (ok_add rfl rfl (by omega)) ?_
          refine W.mv ?_
          refine W.sub ((List.Sublist.refl _).cons _) ?_
          refine W.nil (thn_n ?_)
          exact ⟨(((hG187.trans hG193).trans hG220).trans hG226), ((k + 1, c, u, X), ((bR, .cells (List.toArray [.slice saX_u199 (X).length scX_u199, .slice sau_u199 (u).length scu_u199]) 62 (0, 0)) :: (MX_u199 ++ Mu_u199)), Ms189), ⟨(by first | rfl | exact iv (by dsimp only; omega) | exact iv (by omega)), (by first | rfl | exact iv (by dsimp only; omega) | exact iv (by omega)), (by first | rfl | exact iv (by dsimp only; omega) | exact iv (by omega)), (by first | rfl | exact iv (by dsimp only; omega) | exact iv (by omega)), (by first | rfl | exact iv (by dsimp only; omega) | exact iv (by omega)), (by first | rfl | exact iv (by dsimp only; omega) | exact iv (by omega)), trivial⟩, ⟨rfl, (by exact hR232), (by exact (ArR.mono ((hG193.trans hG220).trans hG226) hR191)), by dsimp only; omega, hun, hag⟩, by dsimp only; omega⟩
       ·have p129 := of_decide_eq_false h129
        refine WC.seq ?_
        refine WC.region ?_
        refine W.mv ?_
        refine W.ok (ok_fieldB fd56_2 rfl) ?_
        refine W.ok (ok_loadB (i := 0) (vs := [.int .i64 _]) ty3 rfl rfl rfl rfl (by simp)) ?_
        have q233 := Decidable.em (firstN u < u.length)
        refine Or.elim q233 (fun q234 => ?_) (fun q235 => ?_)
        ·refine W.call (Mp := M_5) (oalloci_t ho_5 _ (by assumption) q234) rfl (pmC (pmA (List.Perm.refl _))) ?_
         intro v239 G236 Ms238 hG236 q237
         refine match q237 with | ⟨e_241, hR240⟩ => ?_
         subst e_241
         refine W.perm (pmC (List.Perm.refl _)).symm ?_
         refine W.mv ?_
         refine W.ok (ok_extract rfl rfl) ?_
         refine W.ok (ok_extract rfl rfl) ?_
         refine W.as ?_
         refine W.as ?_
         refine W.nil (thn_n ?_)
         refine WC.seq ?_
         refine WC.region ?_
         refine W.mv ?_
         refine W.ok (ok_fieldB fd56_2 rfl) ?_
         refine W.ok (ok_loadB (i := 0) (vs := [.int .i64 _]) ty3 rfl rfl rfl rfl (by simp)) ?_
         refine W.call (Mp := M_7) (qalloc_t (ReR.mono hG236 ho_7) hXu _ (by assumption) q234) rfl (pmC (pmA (List.Perm.refl _))) ?_
         intro v245 G242 Ms244 hG242 q243
         refine match q243 with | ⟨e_247, hR246⟩ => ?_
         subst e_247
         refine W.perm (pmC (List.Perm.refl _)).symm ?_
         refine W.as ?_
         refine W.nil (thn_n ?_)
         refine WC.seq ?_
         refine WC.region ?_
         refine W.mv ?_
         refine W.ok (ok_lss rfl rfl) ?_
         refine W.mv ?_
         refine W.sp 77 rfl (fun h76 => ?_) (fun h76 => ?_)
         ·have p76 := of_decide_eq_true h76
          exfalso; omega
         ·have p76 := of_decide_eq_false h76
          refine W.no (dj := 77) rfl rfl h76 ?_
          refine W.no (dj := 77) rfl rfl h76 ?_
          refine W.no (dj := 77) rfl rfl h76 ?_
          refine W.nou (dj := 80) rfl rfl ?_
          refine W.nou (dj := 80) rfl rfl ?_
          refine W.no (dj := 77) rfl rfl h76 ?_
          refine W.ok (ok_pick_f rfl h76) ?_
          refine W.mv ?_
          refine W.yes (dj := 85) rfl rfl rfl ?_
          refine W.mv ?_
          refine W.yes (dj := 85) rfl rfl rfl ?_
          refine W.ok (ok_geq rfl rfl) ?_
          refine W.yes (dj := 85) rfl rfl rfl ?_
          refine W.mv ?_
          refine W.sp 88 rfl (fun h87 => ?_) (fun h87 => ?_)
          ·have p87 := of_decide_eq_true h87
           refine W.yes (dj := 88) rfl rfl h87 ?_
           refine W.mv ?_
           refine W.yes (dj := 88) rfl rfl h87 ?_
           refine W.mv ?_
           refine W.yes (dj := 88) rfl rfl h87 ?_
           refine W.ok (ok_neq rfl rfl) ?_
           refine W.yes (dj := 88) rfl rfl h87 ?_
           refine W.mv ?_
           refine W.sp 92 rfl (fun h91 => ?_) (fun h91 => ?_)
           ·have p91 := nd_t h91
            exact absurd rfl p91
           ·have p91 := nd_f h91
            refine W.yes (dj := 92) rfl rfl h91 ?_
            refine W.mv ?_
            refine W.yes (dj := 92) rfl rfl h91 ?_
            refine W.ok (ok_neq rfl rfl) ?_
            refine W.yes (dj := 88) rfl rfl h87 ?_
            refine W.ok (ok_pick_f rfl h91) ?_
            refine W.yes (dj := 85) rfl rfl rfl ?_
            refine W.ok (ok_pick_t rfl h87) ?_
            refine W.ok (ok_pick_f rfl rfl) ?_
            refine W.nil (thn_n ?_)
            refine WC.cond_f rfl rfl ?_
            refine WC.skip (blk_n (thn_n ?_))
            refine WC.seq ?_
            refine match hR246 with | ⟨vX_u248, vu_u248, MX_u248, Mu_u248, eM_, hX_u248, hu_u248⟩ => ?_
            subst eM_
            refine WC.perm (M' := ((bR, .cells (List.toArray [vX_u248, vu_u248]) 62 (0, 0)) :: ((b30, .cells (List.toArray [.int .i64 ((acts)[k]).kind, .int .i64 ((acts)[k]).slot, .int .i64 ((acts)[k]).x]) 56 (0, 0)) :: (MX_u248 ++ (Mu_u248 ++ (Ms238 ++ [])))))) (pmD ((pmF (List.Perm.refl _)).cons _)).symm ?_
            dsimp only at hX_u248 hu_u248
            have hf_ := hX_u248.form
            obtain ⟨saX_u248, scX_u248, eV_⟩ := hf_
            subst eV_
            have hf_ := hu_u248.form
            obtain ⟨sau_u248, scu_u248, eV_⟩ := hf_
            subst eV_
            have hag2 : Agree (c.set (firstN u) ((acts)[k]).x) (u.set (firstN u) true) (X.set (firstN u) ((acts)[k]).x) := hag.set (firstN u) ((acts)[k]).x true
            have hXl2 := hag2.2.1
            refine WC.region ?_
            refine W.mv ?_
            refine W.ok (ok_fieldB fd56_1 rfl) ?_
            refine W.ok (ok_loadB (i := 1) (vs := [.int .i64 _]) ty3 rfl rfl rfl rfl (by simp)) ?_
            have q249 := hasN_or (u.set (firstN u) true) (((acts)[k]).slot)
            refine Or.elim q249 (fun q250 => ?_) (fun q251 => ?_)
            ·refine W.call (Mp := Ms238) (ogeti_t (ArR.mono hG242 hR240) _ q250) rfl (pmC (pmC (pmA (pmA (List.Perm.refl _))))) ?_
             intro v255 G252 Ms254 hG252 q253
             refine match q253 with | ⟨e_257, eeq253⟩ => ?_
             subst e_257
             have eeq253 := eeq253.symm
             subst eeq253
             refine W.perm (pmC (pmC (List.Perm.refl _))).symm ?_
             refine W.mv ?_
             refine W.ok (ok_extract rfl rfl) ?_
             refine W.ok (ok_extract rfl rfl) ?_
             refine W.as ?_
             refine W.as ?_
             refine W.nil (thn_n ?_)
             refine WC.seq ?_
             have hil := hasN_lt q250
             have hXl := hag.2.1
             refine WC.drawW _ (((List.nil_sublist _).cons_cons _).cons_cons _) mix (by rintro _ _ _ _ ⟨h | h, _⟩ <;> cases h) ?_
             refine WD.take 0 rfl rfl rfl (by kernel_rfl) (by kernel_rfl) (by kernel_rfl) (ok_mv) ?_
             refine WD.take 1 rfl rfl rfl (by kernel_rfl) (by kernel_rfl) (by kernel_rfl) (ok_mv) ?_
             refine WD.take 2 rfl rfl rfl (by kernel_rfl) (by kernel_rfl) (by kernel_rfl) (ok_fieldB fd56_1 rfl) ?_
             refine WD.take 3 rfl rfl rfl (by kernel_rfl) (by kernel_rfl) (by kernel_rfl) (ok_loadB (i := 1) (vs := [.int .i64 _]) ty3 rfl rfl rfl rfl (by simp)) ?_
             refine WD.any [4] (by kernel_rfl) rfl ⟨⟨_, rfl, rfl, ?_⟩, trivial⟩
             refine W.call (Mp := ((bR, .cells (List.toArray [.slice saX_u248 ((X.set (firstN u) ((acts)[k]).x)).length scX_u248, .slice sau_u248 ((u.set (firstN u) true)).length scu_u248]) 62 (0, 0)) :: (MX_u248 ++ Mu_u248))) (Mr := ((b30, .cells (List.toArray [.int .i64 ((acts)[k]).kind, .int .i64 ((acts)[k]).slot, .int .i64 ((acts)[k]).x]) 56 (0, 0)) :: (Ms238 ++ []))) (rhas_t (hX_u248.mono hG252) (hu_u248.mono hG252) _ q250) rfl (((pmC ((pmF (pmA (List.Perm.refl _))).trans (pmA (List.Perm.refl _)))).cons _).trans (List.Perm.refl _)) ?_
             intro v261 G258 Ms260 hG258 q259
             refine match q259 with | ⟨e_262, e_263⟩ => ?_
             subst e_262
             subst e_263
             refine W.perm (M' := ((bR, .cells (List.toArray [.slice saX_u248 ((X.set (firstN u) ((acts)[k]).x)).length scX_u248, .slice sau_u248 ((u.set (firstN u) true)).length scu_u248]) 62 (0, 0)) :: ((b30, .cells (List.toArray [.int .i64 ((acts)[k]).kind, .int .i64 ((acts)[k]).slot, .int .i64 ((acts)[k]).x]) 56 (0, 0)) :: (MX_u248 ++ (Mu_u248 ++ (Ms238 ++ [])))))) (((pmC ((pmF (List.Perm.refl _)).trans (List.Perm.refl _))).cons _).trans (List.Perm.refl _)).symm ?_
             refine W.nil ⟨hG258, ((List.nil_sublist _).cons_cons _).cons_cons _, _, ((List.nil_sublist _).cons_cons _).cons_cons _, List.Sublist.refl _, ?_⟩
             refine WD.take 5 rfl rfl rfl (by kernel_rfl) (by kernel_rfl) (by kernel_rfl) (ok_neqB bo4 rfl rfl) ?_
             refine WD.take 6 rfl rfl rfl (by kernel_rfl) (by kernel_rfl) (by kernel_rfl) (ok_mv) ?_
             refine WD.takeY 7 175 rfl rfl rfl rfl rfl rfl (by kernel_rfl) (by kernel_rfl) (by kernel_rfl) (ok_mv) ?_
             refine WD.takeY 8 175 rfl rfl rfl rfl rfl rfl (by kernel_rfl) (by kernel_rfl) (by kernel_rfl) (ok_mv) ?_
             refine WD.takeY 9 177 rfl rfl rfl rfl rfl rfl (by kernel_rfl) (by kernel_rfl) (by kernel_rfl) (ok_mv) ?_
             refine WD.takeY 10 177 rfl rfl rfl rfl rfl rfl (by kernel_rfl) (by kernel_rfl) (by kernel_rfl) (ok_mv) ?_
             refine WD.takeY 11 177 rfl rfl rfl rfl rfl rfl (by kernel_rfl) (by kernel_rfl) (by kernel_rfl) (ok_nilP rfl) ?_
             refine WD.takeY 12 177 rfl rfl rfl rfl rfl rfl (by kernel_rfl) (by kernel_rfl) (by kernel_rfl) (ok_fieldB fd62_0 rfl) ?_
             refine WD.takeY 13 177 rfl rfl rfl rfl rfl rfl (by kernel_rfl) (by kernel_rfl) (by kernel_rfl) (ok_loadB (i := 0) (vs := [.slice _ _ _]) ty30 rfl rfl rfl rfl (by simp)) ?_
             refine WD.takeY 14 177 rfl rfl rfl rfl rfl rfl (by kernel_rfl) (by kernel_rfl) (by kernel_rfl) (ok_fieldB fd56_1 rfl) ?_
             refine WD.takeY 15 177 rfl rfl rfl rfl rfl rfl (by kernel_rfl) (by kernel_rfl) (by kernel_rfl) (ok_loadB (i := 1) (vs := [.int .i64 _]) ty3 rfl rfl rfl rfl (by simp)) ?_
             have q267 := (hX_u248.mono (hG252.trans hG258)).at (i := ((acts)[k]).slot.toNat) (by omega)
             refine match q267 with | ⟨_, he264, ⟨e_266, hi265⟩⟩ => ?_
             subst e_266
             refine WD.takeY 16 177 rfl rfl rfl rfl rfl rfl (by kernel_rfl) (by kernel_rfl) (by kernel_rfl) (ok_indexAddrO (i := ((acts)[k]).slot.toNat) sl30 ty3 (hX_u248.mono (hG252.trans hG258)) rfl rfl ⟨by omega, by omega⟩) ?_
             refine WD.anyG [17] (by kernel_rfl) rfl ⟨⟨_, rfl, .inr ⟨_, 177, _, _, rfl, rfl, rfl, rfl, rfl⟩, ?_⟩, trivial⟩
             refine W.ok (ok_loadO (vs := [.int .i64 _]) ty3 he264 (pmC (pmC (List.Perm.refl _))) rfl rfl rfl (by simp)) ?_
             refine W.nil ⟨Le.rfl, ((List.nil_sublist _).cons_cons _).cons_cons _, _, ((List.nil_sublist _).cons_cons _).cons_cons _, List.Sublist.refl _, ?_⟩
             refine WD.takeY 18 177 rfl rfl rfl rfl rfl rfl (by kernel_rfl) (by kernel_rfl) (by kernel_rfl) (ok_neq rfl rfl) ?_
             refine WD.takeY 19 175 rfl rfl rfl rfl rfl rfl (by kernel_rfl) (by kernel_rfl) (by kernel_rfl) (ok_pick_t rfl rfl) ?_
             refine WD.take 20 rfl rfl rfl (by kernel_rfl) (by kernel_rfl) (by kernel_rfl) (ok_pick_f rfl rfl) ?_
             refine WD.take 21 rfl rfl rfl (by kernel_rfl) (by kernel_rfl) (by kernel_rfl) (ok_mv) ?_
             refine WD.sp 190 rfl (fun h187 => ?_) (fun h187 => ?_)
             ·have p187 := nd_t h187
              exact absurd (hag2.get q250 (by omega)) p187
             ·have p187 := nd_f h187
              refine WD.takeY 22 190 rfl rfl rfl rfl rfl h187 (by kernel_rfl) (by kernel_rfl) (by kernel_rfl) (ok_mv) ?_
              refine WD.takeY 23 190 rfl rfl rfl rfl rfl h187 (by kernel_rfl) (by kernel_rfl) (by kernel_rfl) (ok_not rfl) ?_
              refine WD.takeY 24 190 rfl rfl rfl rfl rfl h187 (by kernel_rfl) (by kernel_rfl) (by kernel_rfl) (ok_mv) ?_
              refine WD.takeN 25 193 rfl rfl rfl rfl rfl rfl (by kernel_rfl) (by kernel_rfl) (by kernel_rfl) ?_
              refine WD.takeN 26 193 rfl rfl rfl rfl rfl rfl (by kernel_rfl) (by kernel_rfl) (by kernel_rfl) ?_
              refine WD.takeY 27 190 rfl rfl rfl rfl rfl h187 (by kernel_rfl) (by kernel_rfl) (by kernel_rfl) (ok_pick_f rfl rfl) ?_
              refine WD.take 28 rfl rfl rfl (by kernel_rfl) (by kernel_rfl) (by kernel_rfl) (ok_pick_f rfl h187) ?_
              refine WD.done (by kernel_rfl) (thn_n ?_)
              refine WC.cond_f rfl rfl ?_
              refine WC.skip (blk_n (thn_n ?_))
              have hR268 : ReR 3 4 62 bR G258 ((X.set (firstN u) ((acts)[k]).x), (u.set (firstN u) true)) ((bR, .cells (List.toArray [.slice saX_u248 ((X.set (firstN u) ((acts)[k]).x)).length scX_u248, .slice sau_u248 ((u.set (firstN u) true)).length scu_u248]) 62 (0, 0)) :: (MX_u248 ++ Mu_u248)) := ⟨_, _, _, _, rfl, (hX_u248.mono (hG252.trans hG258)), (hu_u248.mono (hG252.trans hG258))⟩
              refine WC.perm (M' := ((b30, .cells (List.toArray [.int .i64 ((acts)[k]).kind, .int .i64 ((acts)[k]).slot, .int .i64 ((acts)[k]).x]) 56 (0, 0)) :: (((bR, .cells (List.toArray [.slice saX_u248 ((X.set (firstN u) ((acts)[k]).x)).length scX_u248, .slice sau_u248 ((u.set (firstN u) true)).length scu_u248]) 62 (0, 0)) :: (MX_u248 ++ Mu_u248)) ++ (Ms238 ++ [])))) ((pmC (List.Perm.refl _)).symm.trans (((pmC ((pmF (List.Perm.refl _)).trans (List.Perm.refl _))).cons _).trans (List.Perm.refl _))) ?_
              refine WC.region ?_
              refine W.ok (ok_add rfl rfl (by omega)) ?_
              refine W.mv ?_
              refine W.sub ((List.Sublist.refl _).cons _) ?_
              refine W.nil (thn_n ?_)
              exact ⟨(((hG236.trans hG242).trans hG252).trans hG258), ((k + 1, (c.set (firstN u) ((acts)[k]).x), (u.set (firstN u) true), (X.set (firstN u) ((acts)[k]).x)), ((bR, .cells (List.toArray [.slice saX_u248 ((X.set (firstN u) ((acts)[k]).x)).length scX_u248, .slice sau_u248 ((u.set (firstN u) true)).length scu_u248]) 62 (0, 0)) :: (MX_u248 ++ Mu_u248)), Ms238), ⟨(by first | rfl | exact iv (by dsimp only; omega) | exact iv (by omega)), (by first | rfl | exact iv (by dsimp only; omega) | exact iv (by omega)), (by first | rfl | exact iv (by dsimp only; omega) | exact iv (by omega)), (by first | rfl | exact iv (by dsimp only; omega) | exact iv (by omega)), (by first | rfl | exact iv (by dsimp only; omega) | exact iv (by omega)), (by first | rfl | exact iv (by dsimp only; omega) | exact iv (by omega)), trivial⟩, ⟨rfl, (by exact hR268), (by exact (ArR.mono ((hG242.trans hG252).trans hG258) hR240)), by dsimp only; omega, (by rw [List.length_set]; exact hun), hag.set (firstN u) ((acts)[k]).x true⟩, by dsimp only; omega⟩
            ·refine W.call (Mp := Ms238) (ogeti_f (ArR.mono hG242 hR240) _ q251) rfl (pmC (pmC (pmA (pmA (List.Perm.refl _))))) ?_
             intro v272 G269 Ms271 hG269 q270
             refine match q270 with | ⟨e_274, eeq270⟩ => ?_
             subst e_274
             have eeq270 := eeq270.symm
             subst eeq270
             refine W.perm (pmC (pmC (List.Perm.refl _))).symm ?_
             refine W.mv ?_
             refine W.ok (ok_extract rfl rfl) ?_
             refine W.ok (ok_extract rfl rfl) ?_
             refine W.as ?_
             refine W.as ?_
             refine W.nil (thn_n ?_)
             refine WC.seq ?_
             refine WC.drawW _ (((List.nil_sublist _).cons_cons _).cons_cons _) mix (by rintro _ _ _ _ ⟨h | h, _⟩ <;> cases h) ?_
             refine WD.take 0 rfl rfl rfl (by kernel_rfl) (by kernel_rfl) (by kernel_rfl) (ok_mv) ?_
             refine WD.take 1 rfl rfl rfl (by kernel_rfl) (by kernel_rfl) (by kernel_rfl) (ok_mv) ?_
             refine WD.take 2 rfl rfl rfl (by kernel_rfl) (by kernel_rfl) (by kernel_rfl) (ok_fieldB fd56_1 rfl) ?_
             refine WD.take 3 rfl rfl rfl (by kernel_rfl) (by kernel_rfl) (by kernel_rfl) (ok_loadB (i := 1) (vs := [.int .i64 _]) ty3 rfl rfl rfl rfl (by simp)) ?_
             refine WD.any [4] (by kernel_rfl) rfl ⟨⟨_, rfl, rfl, ?_⟩, trivial⟩
             refine W.call (Mp := ((bR, .cells (List.toArray [.slice saX_u248 ((X.set (firstN u) ((acts)[k]).x)).length scX_u248, .slice sau_u248 ((u.set (firstN u) true)).length scu_u248]) 62 (0, 0)) :: (MX_u248 ++ Mu_u248))) (Mr := ((b30, .cells (List.toArray [.int .i64 ((acts)[k]).kind, .int .i64 ((acts)[k]).slot, .int .i64 ((acts)[k]).x]) 56 (0, 0)) :: (Ms238 ++ []))) (rhas_f (hX_u248.mono hG269) (hu_u248.mono hG269) _ q251) rfl (((pmC ((pmF (pmA (List.Perm.refl _))).trans (pmA (List.Perm.refl _)))).cons _).trans (List.Perm.refl _)) ?_
             intro v278 G275 Ms277 hG275 q276
             refine match q276 with | ⟨e_279, e_280⟩ => ?_
             subst e_279
             subst e_280
             refine W.perm (M' := ((bR, .cells (List.toArray [.slice saX_u248 ((X.set (firstN u) ((acts)[k]).x)).length scX_u248, .slice sau_u248 ((u.set (firstN u) true)).length scu_u248]) 62 (0, 0)) :: ((b30, .cells (List.toArray [.int .i64 ((acts)[k]).kind, .int .i64 ((acts)[k]).slot, .int .i64 ((acts)[k]).x]) 56 (0, 0)) :: (MX_u248 ++ (Mu_u248 ++ (Ms238 ++ [])))))) (((pmC ((pmF (List.Perm.refl _)).trans (List.Perm.refl _))).cons _).trans (List.Perm.refl _)).symm ?_
             refine W.nil ⟨hG275, ((List.nil_sublist _).cons_cons _).cons_cons _, _, ((List.nil_sublist _).cons_cons _).cons_cons _, List.Sublist.refl _, ?_⟩
             refine WD.take 5 rfl rfl rfl (by kernel_rfl) (by kernel_rfl) (by kernel_rfl) (ok_neqB bo4 rfl rfl) ?_
             refine WD.take 6 rfl rfl rfl (by kernel_rfl) (by kernel_rfl) (by kernel_rfl) (ok_mv) ?_
             refine WD.takeY 7 175 rfl rfl rfl rfl rfl rfl (by kernel_rfl) (by kernel_rfl) (by kernel_rfl) (ok_mv) ?_
             refine WD.takeY 8 175 rfl rfl rfl rfl rfl rfl (by kernel_rfl) (by kernel_rfl) (by kernel_rfl) (ok_mv) ?_
             refine WD.takeN 9 177 rfl rfl rfl rfl rfl rfl (by kernel_rfl) (by kernel_rfl) (by kernel_rfl) ?_
             refine WD.takeN 10 177 rfl rfl rfl rfl rfl rfl (by kernel_rfl) (by kernel_rfl) (by kernel_rfl) ?_
             refine WD.takeN 11 177 rfl rfl rfl rfl rfl rfl (by kernel_rfl) (by kernel_rfl) (by kernel_rfl) ?_
             refine WD.takeN 12 177 rfl rfl rfl rfl rfl rfl (by kernel_rfl) (by kernel_rfl) (by kernel_rfl) ?_
             refine WD.takeN 13 177 rfl rfl rfl rfl rfl rfl (by kernel_rfl) (by kernel_rfl) (by kernel_rfl) ?_
             refine WD.takeN 14 177 rfl rfl rfl rfl rfl rfl (by kernel_rfl) (by kernel_rfl) (by kernel_rfl) ?_
             refine WD.takeN 15 177 rfl rfl rfl rfl rfl rfl (by kernel_rfl) (by kernel_rfl) (by kernel_rfl) ?_
             refine WD.takeN 16 177 rfl rfl rfl rfl rfl rfl (by kernel_rfl) (by kernel_rfl) (by kernel_rfl) ?_
             refine WD.takeN 17 177 rfl rfl rfl rfl rfl rfl (by kernel_rfl) (by kernel_rfl) (by kernel_rfl) ?_
             refine WD.takeN 18 177 rfl rfl rfl rfl rfl rfl (by kernel_rfl) (by kernel_rfl) (by kernel_rfl) ?_
             refine WD.takeY 19 175 rfl rfl rfl rfl rfl rfl (by kernel_rfl) (by kernel_rfl) (by kernel_rfl) (ok_pick_f rfl rfl) ?_
             refine WD.take 20 rfl rfl rfl (by kernel_rfl) (by kernel_rfl) (by kernel_rfl) (ok_pick_f rfl rfl) ?_
             refine WD.take 21 rfl rfl rfl (by kernel_rfl) (by kernel_rfl) (by kernel_rfl) (ok_mv) ?_
             refine WD.takeY 22 190 rfl rfl rfl rfl rfl rfl (by kernel_rfl) (by kernel_rfl) (by kernel_rfl) (ok_mv) ?_
             refine WD.takeY 23 190 rfl rfl rfl rfl rfl rfl (by kernel_rfl) (by kernel_rfl) (by kernel_rfl) (ok_not rfl) ?_
             refine WD.takeY 24 190 rfl rfl rfl rfl rfl rfl (by kernel_rfl) (by kernel_rfl) (by kernel_rfl) (ok_mv) ?_
             refine WD.takeY 25 193 rfl rfl rfl rfl rfl rfl (by kernel_rfl) (by kernel_rfl) (by kernel_rfl) (ok_mv) ?_
             refine WD.takeY 26 193 rfl rfl rfl rfl rfl rfl (by kernel_rfl) (by kernel_rfl) (by kernel_rfl) (ok_neq rfl rfl) ?_
             refine WD.takeY 27 190 rfl rfl rfl rfl rfl rfl (by kernel_rfl) (by kernel_rfl) (by kernel_rfl) (ok_pick_t rfl rfl) ?_
             refine WD.take 28 rfl rfl rfl (by kernel_rfl) (by kernel_rfl) (by kernel_rfl) (ok_pick_f rfl rfl) ?_
             refine WD.done (by kernel_rfl) (thn_n ?_)
             refine WC.cond_f rfl rfl ?_
             refine WC.skip (blk_n (thn_n ?_))
             have hR281 : ReR 3 4 62 bR G275 ((X.set (firstN u) ((acts)[k]).x), (u.set (firstN u) true)) ((bR, .cells (List.toArray [.slice saX_u248 ((X.set (firstN u) ((acts)[k]).x)).length scX_u248, .slice sau_u248 ((u.set (firstN u) true)).length scu_u248]) 62 (0, 0)) :: (MX_u248 ++ Mu_u248)) := ⟨_, _, _, _, rfl, (hX_u248.mono (hG269.trans hG275)), (hu_u248.mono (hG269.trans hG275))⟩
             refine WC.perm (M' := ((b30, .cells (List.toArray [.int .i64 ((acts)[k]).kind, .int .i64 ((acts)[k]).slot, .int .i64 ((acts)[k]).x]) 56 (0, 0)) :: (((bR, .cells (List.toArray [.slice saX_u248 ((X.set (firstN u) ((acts)[k]).x)).length scX_u248, .slice sau_u248 ((u.set (firstN u) true)).length scu_u248]) 62 (0, 0)) :: (MX_u248 ++ Mu_u248)) ++ (Ms238 ++ [])))) ((pmC (List.Perm.refl _)).symm.trans (((pmC ((pmF (List.Perm.refl _)).trans (List.Perm.refl _))).cons _).trans (List.Perm.refl _))) ?_
             refine WC.region ?_
             refine W.ok (ok_add rfl rfl (by omega)) ?_
             refine W.mv ?_
             refine W.sub ((List.Sublist.refl _).cons _) ?_
             refine W.nil (thn_n ?_)
             exact ⟨(((hG236.trans hG242).trans hG269).trans hG275), ((k + 1, (c.set (firstN u) ((acts)[k]).x), (u.set (firstN u) true), (X.set (firstN u) ((acts)[k]).x)), ((bR, .cells (List.toArray [.slice saX_u248 ((X.set (firstN u) ((acts)[k]).x)).length scX_u248, .slice sau_u248 ((u.set (firstN u) true)).length scu_u248]) 62 (0, 0)) :: (MX_u248 ++ Mu_u248)), Ms238), ⟨(by first | rfl | exact iv (by dsimp only; omega) | exact iv (by omega)), (by first | rfl | exact iv (by dsimp only; omega) | exact iv (by omega)), (by first | rfl | exact iv (by dsimp only; omega) | exact iv (by omega)), (by first | rfl | exact iv (by dsimp only; omega) | exact iv (by omega)), (by first | rfl | exact iv (by dsimp only; omega) | exact iv (by omega)), (by first | rfl | exact iv (by dsimp only; omega) | exact iv (by omega)), trivial⟩, ⟨rfl, (by exact hR281), (by exact (ArR.mono ((hG242.trans hG269).trans hG275) hR240)), by dsimp only; omega, (by rw [List.length_set]; exact hun), hag.set (firstN u) ((acts)[k]).x true⟩, by dsimp only; omega⟩
          ·have p87 := of_decide_eq_false h87
           exfalso; omega
        ·refine W.call (Mp := M_5) (oalloci_f ho_5 _ (by assumption) q235) rfl (pmC (pmA (List.Perm.refl _))) ?_
         intro v285 G282 Ms284 hG282 q283
         refine match q283 with | ⟨e_287, hR286⟩ => ?_
         subst e_287
         refine W.perm (pmC (List.Perm.refl _)).symm ?_
         refine W.mv ?_
         refine W.ok (ok_extract rfl rfl) ?_
         refine W.ok (ok_extract rfl rfl) ?_
         refine W.as ?_
         refine W.as ?_
         refine W.nil (thn_n ?_)
         refine WC.seq ?_
         refine WC.region ?_
         refine W.mv ?_
         refine W.ok (ok_fieldB fd56_2 rfl) ?_
         refine W.ok (ok_loadB (i := 0) (vs := [.int .i64 _]) ty3 rfl rfl rfl rfl (by simp)) ?_
         refine W.call (Mp := M_7) (qalloc_f (ReR.mono hG282 ho_7) hXu _ (by assumption) q235) rfl (pmC (pmA (List.Perm.refl _))) ?_
         intro v291 G288 Ms290 hG288 q289
         refine match q289 with | ⟨e_293, hR292⟩ => ?_
         subst e_293
         refine W.perm (pmC (List.Perm.refl _)).symm ?_
         refine W.as ?_
         refine W.nil (thn_n ?_)
         refine WC.seq ?_
         refine WC.region ?_
         refine W.mv ?_
         refine W.ok (ok_lss rfl rfl) ?_
         refine W.mv ?_
         refine W.sp 77 rfl (fun h76 => ?_) (fun h76 => ?_)
         ·have p76 := of_decide_eq_true h76
          refine W.yes (dj := 77) rfl rfl h76 ?_
          refine W.mv ?_
          refine W.yes (dj := 77) rfl rfl h76 ?_
          refine W.ok (ok_neq rfl rfl) ?_
          refine W.yes (dj := 77) rfl rfl h76 ?_
          refine W.mv ?_
          refine W.yes (dj := 80) rfl rfl rfl ?_
          refine W.mv ?_
          refine W.yes (dj := 80) rfl rfl rfl ?_
          refine W.ok (ok_neq rfl rfl) ?_
          refine W.yes (dj := 77) rfl rfl h76 ?_
          refine W.ok (ok_pick_f rfl rfl) ?_
          refine W.ok (ok_pick_t rfl h76) ?_
          refine W.mv ?_
          refine W.yes (dj := 85) rfl rfl rfl ?_
          refine W.mv ?_
          refine W.yes (dj := 85) rfl rfl rfl ?_
          refine W.ok (ok_geq rfl rfl) ?_
          refine W.yes (dj := 85) rfl rfl rfl ?_
          refine W.mv ?_
          refine W.sp 88 rfl (fun h87 => ?_) (fun h87 => ?_)
          ·have p87 := of_decide_eq_true h87
           exfalso; omega
          ·have p87 := of_decide_eq_false h87
           refine W.no (dj := 88) rfl rfl h87 ?_
           refine W.no (dj := 88) rfl rfl h87 ?_
           refine W.no (dj := 88) rfl rfl h87 ?_
           refine W.no (dj := 88) rfl rfl h87 ?_
           refine W.nou (dj := 92) rfl rfl ?_
           refine W.nou (dj := 92) rfl rfl ?_
           refine W.no (dj := 88) rfl rfl h87 ?_
           refine W.yes (dj := 85) rfl rfl rfl ?_
           refine W.ok (ok_pick_f rfl h87) ?_
           refine W.ok (ok_pick_f rfl rfl) ?_
           refine W.nil (thn_n ?_)
           refine WC.cond_f rfl rfl ?_
           refine WC.skip (blk_n (thn_n ?_))
           refine WC.seq ?_
           refine match hR292 with | ⟨vX_u294, vu_u294, MX_u294, Mu_u294, eM_, hX_u294, hu_u294⟩ => ?_
           subst eM_
           refine WC.perm (M' := ((bR, .cells (List.toArray [vX_u294, vu_u294]) 62 (0, 0)) :: ((b30, .cells (List.toArray [.int .i64 ((acts)[k]).kind, .int .i64 ((acts)[k]).slot, .int .i64 ((acts)[k]).x]) 56 (0, 0)) :: (MX_u294 ++ (Mu_u294 ++ (Ms284 ++ [])))))) (pmD ((pmF (List.Perm.refl _)).cons _)).symm ?_
           dsimp only at hX_u294 hu_u294
           have hf_ := hX_u294.form
           obtain ⟨saX_u294, scX_u294, eV_⟩ := hf_
           subst eV_
           have hf_ := hu_u294.form
           obtain ⟨sau_u294, scu_u294, eV_⟩ := hf_
           subst eV_
           have hag2 : Agree c u X := hag
           have hXl2 := hag2.2.1
           refine WC.region ?_
           refine W.mv ?_
           refine W.ok (ok_fieldB fd56_1 rfl) ?_
           refine W.ok (ok_loadB (i := 1) (vs := [.int .i64 _]) ty3 rfl rfl rfl rfl (by simp)) ?_
           have q295 := hasN_or u (((acts)[k]).slot)
           refine Or.elim q295 (fun q296 => ?_) (fun q297 => ?_)
           ·refine W.call (Mp := Ms284) (ogeti_t (ArR.mono hG288 hR286) _ q296) rfl (pmC (pmC (pmA (pmA (List.Perm.refl _))))) ?_
            intro v301 G298 Ms300 hG298 q299
            refine match q299 with | ⟨e_303, eeq299⟩ => ?_
            subst e_303
            have eeq299 := eeq299.symm
            subst eeq299
            refine W.perm (pmC (pmC (List.Perm.refl _))).symm ?_
            refine W.mv ?_
            refine W.ok (ok_extract rfl rfl) ?_
            refine W.ok (ok_extract rfl rfl) ?_
            refine W.as ?_
            refine W.as ?_
            refine W.nil (thn_n ?_)
            refine WC.seq ?_
            have hil := hasN_lt q296
            have hXl := hag.2.1
            refine WC.drawW _ (((List.nil_sublist _).cons_cons _).cons_cons _) mix (by rintro _ _ _ _ ⟨h | h, _⟩ <;> cases h) ?_
            refine WD.take 0 rfl rfl rfl (by kernel_rfl) (by kernel_rfl) (by kernel_rfl) (ok_mv) ?_
            refine WD.take 1 rfl rfl rfl (by kernel_rfl) (by kernel_rfl) (by kernel_rfl) (ok_mv) ?_
            refine WD.take 2 rfl rfl rfl (by kernel_rfl) (by kernel_rfl) (by kernel_rfl) (ok_fieldB fd56_1 rfl) ?_
            refine WD.take 3 rfl rfl rfl (by kernel_rfl) (by kernel_rfl) (by kernel_rfl) (ok_loadB (i := 1) (vs := [.int .i64 _]) ty3 rfl rfl rfl rfl (by simp)) ?_
            refine WD.any [4] (by kernel_rfl) rfl ⟨⟨_, rfl, rfl, ?_⟩, trivial⟩
            refine W.call (Mp := ((bR, .cells (List.toArray [.slice saX_u294 (X).length scX_u294, .slice sau_u294 (u).length scu_u294]) 62 (0, 0)) :: (MX_u294 ++ Mu_u294))) (Mr := ((b30, .cells (List.toArray [.int .i64 ((acts)[k]).kind, .int .i64 ((acts)[k]).slot, .int .i64 ((acts)[k]).x]) 56 (0, 0)) :: (Ms284 ++ []))) (rhas_t (hX_u294.mono hG298) (hu_u294.mono hG298) _ q296) rfl (((pmC ((pmF (pmA (List.Perm.refl _))).trans (pmA (List.Perm.refl _)))).cons _).trans (List.Perm.refl _)) ?_
            intro v307 G304 Ms306 hG304 q305
            refine match q305 with | ⟨e_308, e_309⟩ => ?_
            subst e_308
            subst e_309
            refine W.perm (M' := ((bR, .cells (List.toArray [.slice saX_u294 (X).length scX_u294, .slice sau_u294 (u).length scu_u294]) 62 (0, 0)) :: ((b30, .cells (List.toArray [.int .i64 ((acts)[k]).kind, .int .i64 ((acts)[k]).slot, .int .i64 ((acts)[k]).x]) 56 (0, 0)) :: (MX_u294 ++ (Mu_u294 ++ (Ms284 ++ [])))))) (((pmC ((pmF (List.Perm.refl _)).trans (List.Perm.refl _))).cons _).trans (List.Perm.refl _)).symm ?_
            refine W.nil ⟨hG304, ((List.nil_sublist _).cons_cons _).cons_cons _, _, ((List.nil_sublist _).cons_cons _).cons_cons _, List.Sublist.refl _, ?_⟩
            refine WD.take 5 rfl rfl rfl (by kernel_rfl) (by kernel_rfl) (by kernel_rfl) (ok_neqB bo4 rfl rfl) ?_
            refine WD.take 6 rfl rfl rfl (by kernel_rfl) (by kernel_rfl) (by kernel_rfl) (ok_mv) ?_
            refine WD.takeY 7 175 rfl rfl rfl rfl rfl rfl (by kernel_rfl) (by kernel_rfl) (by kernel_rfl) (ok_mv) ?_
            refine WD.takeY 8 175 rfl rfl rfl rfl rfl rfl (by kernel_rfl) (by kernel_rfl) (by kernel_rfl) (ok_mv) ?_
            refine WD.takeY 9 177 rfl rfl rfl rfl rfl rfl (by kernel_rfl) (by kernel_rfl) (by kernel_rfl) (ok_mv) ?_
            refine WD.takeY 10 177 rfl rfl rfl rfl rfl rfl (by kernel_rfl) (by kernel_rfl) (by kernel_rfl) (ok_mv) ?_
            refine WD.takeY 11 177 rfl rfl rfl rfl rfl rfl (by kernel_rfl) (by kernel_rfl) (by kernel_rfl) (ok_nilP rfl) ?_
            refine WD.takeY 12 177 rfl rfl rfl rfl rfl rfl (by kernel_rfl) (by kernel_rfl) (by kernel_rfl) (ok_fieldB fd62_0 rfl) ?_
            refine WD.takeY 13 177 rfl rfl rfl rfl rfl rfl (by kernel_rfl) (by kernel_rfl) (by kernel_rfl) (ok_loadB (i := 0) (vs := [.slice _ _ _]) ty30 rfl rfl rfl rfl (by simp)) ?_
            refine WD.takeY 14 177 rfl rfl rfl rfl rfl rfl (by kernel_rfl) (by kernel_rfl) (by kernel_rfl) (ok_fieldB fd56_1 rfl) ?_
            refine WD.takeY 15 177 rfl rfl rfl rfl rfl rfl (by kernel_rfl) (by kernel_rfl) (by kernel_rfl) (ok_loadB (i := 1) (vs := [.int .i64 _]) ty3 rfl rfl rfl rfl (by simp)) ?_
            have q313 := (hX_u294.mono (hG298.trans hG304)).at (i := ((acts)[k]).slot.toNat) (by omega)
            refine match q313 with | ⟨_, he310, ⟨e_312, hi311⟩⟩ => ?_
            subst e_312
            refine WD.takeY 16 177 rfl rfl rfl rfl rfl rfl (by kernel_rfl) (by kernel_rfl) (by kernel_rfl) (ok_indexAddrO (i := ((acts)[k]).slot.toNat) sl30 ty3 (hX_u294.mono (hG298.trans hG304)) rfl rfl ⟨by omega, by omega⟩) ?_
            refine WD.anyG [17] (by kernel_rfl) rfl ⟨⟨_, rfl, .inr ⟨_, 177, _, _, rfl, rfl, rfl, rfl, rfl⟩, ?_⟩, trivial⟩
            refine W.ok (ok_loadO (vs := [.int .i64 _]) ty3 he310 (pmC (pmC (List.Perm.refl _))) rfl rfl rfl (by simp)) ?_
            refine W.nil ⟨Le.rfl, ((List.nil_sublist _).cons_cons _).cons_cons _, _, ((List.nil_sublist _).cons_cons _).cons_cons _, List.Sublist.refl _, ?_⟩
            refine WD.takeY 18 177 rfl rfl rfl rfl rfl rfl (by kernel_rfl) (by kernel_rfl) (by kernel_rfl) (ok_neq rfl rfl) ?_
            refine WD.takeY 19 175 rfl rfl rfl rfl rfl rfl (by kernel_rfl) (by kernel_rfl) (by kernel_rfl) (ok_pick_t rfl rfl) ?_
            refine WD.take 20 rfl rfl rfl (by kernel_rfl) (by kernel_rfl) (by kernel_rfl) (ok_pick_f rfl rfl) ?_
            refine WD.take 21 rfl rfl rfl (by kernel_rfl) (by kernel_rfl) (by kernel_rfl) (ok_mv) ?_
            refine WD.sp 190 rfl (fun h187 => ?_) (fun h187 => ?_)
            ·have p187 := nd_t h187
             exact absurd (hag2.get q296 (by omega)) p187
            ·have p187 := nd_f h187
             refine WD.takeY 22 190 rfl rfl rfl rfl rfl h187 (by kernel_rfl) (by kernel_rfl) (by kernel_rfl) (ok_mv) ?_
             refine WD.takeY 23 190 rfl rfl rfl rfl rfl h187 (by kernel_rfl) (by kernel_rfl) (by kernel_rfl) (ok_not rfl) ?_
             refine WD.takeY 24 190 rfl rfl rfl rfl rfl h187 (by kernel_rfl) (by kernel_rfl) (by kernel_rfl) (ok_mv) ?_
             refine WD.takeN 25 193 rfl rfl rfl rfl rfl rfl (by kernel_rfl) (by kernel_rfl) (by kernel_rfl) ?_
             refine WD.takeN 26 193 rfl rfl rfl rfl rfl rfl (by kernel_rfl) (by kernel_rfl) (by kernel_rfl) ?_
             refine WD.takeY 27 190 rfl rfl rfl rfl rfl h187 (by kernel_rfl) (by kernel_rfl) (by kernel_rfl) (ok_pick_f rfl rfl) ?_
             refine WD.take 28 rfl rfl rfl (by kernel_rfl) (by kernel_rfl) (by kernel_rfl) (ok_pick_f rfl h187) ?_
             refine WD.done (by kernel_rfl) (thn_n ?_)
             refine WC.cond_f rfl rfl ?_
             refine WC.skip (blk_n (thn_n ?_))
             have hR314 : ReR 3 4 62 bR G304 (X, u) ((bR, .cells (List.toArray [.slice saX_u294 (X).length scX_u294, .slice sau_u294 (u).length scu_u294]) 62 (0, 0)) :: (MX_u294 ++ Mu_u294)) := ⟨_, _, _, _, rfl, (hX_u294.mono (hG298.trans hG304)), (hu_u294.mono (hG298.trans hG304))⟩
             refine WC.perm (M' := ((b30, .cells (List.toArray [.int .i64 ((acts)[k]).kind, .int .i64 ((acts)[k]).slot, .int .i64 ((acts)[k]).x]) 56 (0, 0)) :: (((bR, .cells (List.toArray [.slice saX_u294 (X).length scX_u294, .slice sau_u294 (u).length scu_u294]) 62 (0, 0)) :: (MX_u294 ++ Mu_u294)) ++ (Ms284 ++ [])))) ((pmC (List.Perm.refl _)).symm.trans (((pmC ((pmF (List.Perm.refl _)).trans (List.Perm.refl _))).cons _).trans (List.Perm.refl _))) ?_
             refine WC.region ?_
             refine W.ok (ok_add rfl rfl (by omega)) ?_
             refine W.mv ?_
             refine W.sub ((List.Sublist.refl _).cons _) ?_
             refine W.nil (thn_n ?_)
             exact ⟨(((hG282.trans hG288).trans hG298).trans hG304), ((k + 1, c, u, X), ((bR, .cells (List.toArray [.slice saX_u294 (X).length scX_u294, .slice sau_u294 (u).length scu_u294]) 62 (0, 0)) :: (MX_u294 ++ Mu_u294)), Ms284), ⟨(by first | rfl | exact iv (by dsimp only; omega) | exact iv (by omega)), (by first | rfl | exact iv (by dsimp only; omega) | exact iv (by omega)), (by first | rfl | exact iv (by dsimp only; omega) | exact iv (by omega)), (by first | rfl | exact iv (by dsimp only; omega) | exact iv (by omega)), (by first | rfl | exact iv (by dsimp only; omega) | exact iv (by omega)), (by first | rfl | exact iv (by dsimp only; omega) | exact iv (by omega)), trivial⟩, ⟨rfl, (by exact hR314), (by exact (ArR.mono ((hG288.trans hG298).trans hG304) hR286)), by dsimp only; omega, hun, hag⟩, by dsimp only; omega⟩
           ·refine W.call (Mp := Ms284) (ogeti_f (ArR.mono hG288 hR286) _ q297) rfl (pmC (pmC (pmA (pmA (List.Perm.refl _))))) ?_
            intro v318 G315 Ms317 hG315 q316
            refine match q316 with | ⟨e_320, eeq316⟩ => ?_
            subst e_320
            have eeq316 := eeq316.symm
            subst eeq316
            refine W.perm (pmC (pmC (List.Perm.refl _))).symm ?_
            refine W.mv ?_
            refine W.ok (ok_extract rfl rfl) ?_
            refine W.ok (ok_extract rfl rfl) ?_
            refine W.as ?_
            refine W.as ?_
            refine W.nil (thn_n ?_)
            refine WC.seq ?_
            refine WC.drawW _ (((List.nil_sublist _).cons_cons _).cons_cons _) mix (by rintro _ _ _ _ ⟨h | h, _⟩ <;> cases h) ?_
            refine WD.take 0 rfl rfl rfl (by kernel_rfl) (by kernel_rfl) (by kernel_rfl) (ok_mv) ?_
            refine WD.take 1 rfl rfl rfl (by kernel_rfl) (by kernel_rfl) (by kernel_rfl) (ok_mv) ?_
            refine WD.take 2 rfl rfl rfl (by kernel_rfl) (by kernel_rfl) (by kernel_rfl) (ok_fieldB fd56_1 rfl) ?_
            refine WD.take 3 rfl rfl rfl (by kernel_rfl) (by kernel_rfl) (by kernel_rfl) (ok_loadB (i := 1) (vs := [.int .i64 _]) ty3 rfl rfl rfl rfl (by simp)) ?_
            refine WD.any [4] (by kernel_rfl) rfl ⟨⟨_, rfl, rfl, ?_⟩, trivial⟩
            refine W.call (Mp := ((bR, .cells (List.toArray [.slice saX_u294 (X).length scX_u294, .slice sau_u294 (u).length scu_u294]) 62 (0, 0)) :: (MX_u294 ++ Mu_u294))) (Mr := ((b30, .cells (List.toArray [.int .i64 ((acts)[k]).kind, .int .i64 ((acts)[k]).slot, .int .i64 ((acts)[k]).x]) 56 (0, 0)) :: (Ms284 ++ []))) (rhas_f (hX_u294.mono hG315) (hu_u294.mono hG315) _ q297) rfl (((pmC ((pmF (pmA (List.Perm.refl _))).trans (pmA (List.Perm.refl _)))).cons _).trans (List.Perm.refl _)) ?_
            intro v324 G321 Ms323 hG321 q322
            refine match q322 with | ⟨e_325, e_326⟩ => ?_
            subst e_325
            subst e_326
            refine W.perm (M' := ((bR, .cells (List.toArray [.slice saX_u294 (X).length scX_u294, .slice sau_u294 (u).length scu_u294]) 62 (0, 0)) :: ((b30, .cells (List.toArray [.int .i64 ((acts)[k]).kind, .int .i64 ((acts)[k]).slot, .int .i64 ((acts)[k]).x]) 56 (0, 0)) :: (MX_u294 ++ (Mu_u294 ++ (Ms284 ++ [])))))) (((pmC ((pmF (List.Perm.refl _)).trans (List.Perm.refl _))).cons _).trans (List.Perm.refl _)).symm ?_
            refine W.nil ⟨hG321, ((List.nil_sublist _).cons_cons _).cons_cons _, _, ((List.nil_sublist _).cons_cons _).cons_cons _, List.Sublist.refl _, ?_⟩
            refine WD.take 5 rfl rfl rfl (by kernel_rfl) (by kernel_rfl) (by kernel_rfl) (ok_neqB bo4 rfl rfl) ?_
            refine WD.take 6 rfl rfl rfl (by kernel_rfl) (by kernel_rfl) (by kernel_rfl) (ok_mv) ?_
            refine WD.takeY 7 175 rfl rfl rfl rfl rfl rfl (by kernel_rfl) (by kernel_rfl) (by kernel_rfl) (ok_mv) ?_
            refine WD.takeY 8 175 rfl rfl rfl rfl rfl rfl (by kernel_rfl) (by kernel_rfl) (by kernel_rfl) (ok_mv) ?_
            refine WD.takeN 9 177 rfl rfl rfl rfl rfl rfl (by kernel_rfl) (by kernel_rfl) (by kernel_rfl) ?_
            refine WD.takeN 10 177 rfl rfl rfl rfl rfl rfl (by kernel_rfl) (by kernel_rfl) (by kernel_rfl) ?_
            refine WD.takeN 11 177 rfl rfl rfl rfl rfl rfl (by kernel_rfl) (by kernel_rfl) (by kernel_rfl) ?_
            refine WD.takeN 12 177 rfl rfl rfl rfl rfl rfl (by kernel_rfl) (by kernel_rfl) (by kernel_rfl) ?_
            refine WD.takeN 13 177 rfl rfl rfl rfl rfl rfl (by kernel_rfl) (by kernel_rfl) (by kernel_rfl) ?_
            refine WD.takeN 14 177 rfl rfl rfl rfl rfl rfl (by kernel_rfl) (by kernel_rfl) (by kernel_rfl) ?_
            refine WD.takeN 15 177 rfl rfl rfl rfl rfl rfl (by kernel_rfl) (by kernel_rfl) (by kernel_rfl) ?_
            refine WD.takeN 16 177 rfl rfl rfl rfl rfl rfl (by kernel_rfl) (by kernel_rfl) (by kernel_rfl) ?_
            refine WD.takeN 17 177 rfl rfl rfl rfl rfl rfl (by kernel_rfl) (by kernel_rfl) (by kernel_rfl) ?_
            refine WD.takeN 18 177 rfl rfl rfl rfl rfl rfl (by kernel_rfl) (by kernel_rfl) (by kernel_rfl) ?_
            refine WD.takeY 19 175 rfl rfl rfl rfl rfl rfl (by kernel_rfl) (by kernel_rfl) (by kernel_rfl) (ok_pick_f rfl rfl) ?_
            refine WD.take 20 rfl rfl rfl (by kernel_rfl) (by kernel_rfl) (by kernel_rfl) (ok_pick_f rfl rfl) ?_
            refine WD.take 21 rfl rfl rfl (by kernel_rfl) (by kernel_rfl) (by kernel_rfl) (ok_mv) ?_
            refine WD.takeY 22 190 rfl rfl rfl rfl rfl rfl (by kernel_rfl) (by kernel_rfl) (by kernel_rfl) (ok_mv) ?_
            refine WD.takeY 23 190 rfl rfl rfl rfl rfl rfl (by kernel_rfl) (by kernel_rfl) (by kernel_rfl) (ok_not rfl) ?_
            refine WD.takeY 24 190 rfl rfl rfl rfl rfl rfl (by kernel_rfl) (by kernel_rfl) (by kernel_rfl) (ok_mv) ?_
            refine WD.takeY 25 193 rfl rfl rfl rfl rfl rfl (by kernel_rfl) (by kernel_rfl) (by kernel_rfl) (ok_mv) ?_
            refine WD.takeY 26 193 rfl rfl rfl rfl rfl rfl (by kernel_rfl) (by kernel_rfl) (by kernel_rfl) (ok_neq rfl rfl) ?_
            refine WD.takeY 27 190 rfl rfl rfl rfl rfl rfl (by kernel_rfl) (by kernel_rfl) (by kernel_rfl) (ok_pick_t rfl rfl) ?_
            refine WD.take 28 rfl rfl rfl (by kernel_rfl) (by kernel_rfl) (by kernel_rfl) (ok_pick_f rfl rfl) ?_
            refine WD.done (by kernel_rfl) (thn_n ?_)
            refine WC.cond_f rfl rfl ?_
            refine WC.skip (blk_n (thn_n ?_))
            have hR327 : ReR 3 4 62 bR G321 (X, u) ((bR, .cells (List.toArray [.slice saX_u294 (X).length scX_u294, .slice sau_u294 (u).length scu_u294]) 62 (0, 0)) :: (MX_u294 ++ Mu_u294)) := ⟨_, _, _, _, rfl, (hX_u294.mono (hG315.trans hG321)), (hu_u294.mono (hG315.trans hG321))⟩
            refine WC.perm (M' := ((b30, .cells (List.toArray [.int .i64 ((acts)[k]).kind, .int .i64 ((acts)[k]).slot, .int .i64 ((acts)[k]).x]) 56 (0, 0)) :: (((bR, .cells (List.toArray [.slice saX_u294 (X).length scX_u294, .slice sau_u294 (u).length scu_u294]) 62 (0, 0)) :: (MX_u294 ++ Mu_u294)) ++ (Ms284 ++ [])))) ((pmC (List.Perm.refl _)).symm.trans (((pmC ((pmF (List.Perm.refl _)).trans (List.Perm.refl _))).cons _).trans (List.Perm.refl _))) ?_
            refine WC.region ?_
            refine W.ok (ok_add rfl rfl (by omega)) ?_
            refine W.mv ?_
            refine W.sub ((List.Sublist.refl _).cons _) ?_
            refine W.nil (thn_n ?_)
            exact ⟨(((hG282.trans hG288).trans hG315).trans hG321), ((k + 1, c, u, X), ((bR, .cells (List.toArray [.slice saX_u294 (X).length scX_u294, .slice sau_u294 (u).length scu_u294]) 62 (0, 0)) :: (MX_u294 ++ Mu_u294)), Ms284), ⟨(by first | rfl | exact iv (by dsimp only; omega) | exact iv (by omega)), (by first | rfl | exact iv (by dsimp only; omega) | exact iv (by omega)), (by first | rfl | exact iv (by dsimp only; omega) | exact iv (by omega)), (by first | rfl | exact iv (by dsimp only; omega) | exact iv (by omega)), (by first | rfl | exact iv (by dsimp only; omega) | exact iv (by omega)), (by first | rfl | exact iv (by dsimp only; omega) | exact iv (by omega)), trivial⟩, ⟨rfl, (by exact hR327), (by exact (ArR.mono ((hG288.trans hG315).trans hG321) hR286)), by dsimp only; omega, hun, hag⟩, by dsimp only; omega⟩
         ·have p76 := of_decide_eq_false h76
          exfalso; omega
     ·have p57 := of_decide_eq_false h57
      refine WC.exit (thn_x (thn_x (blk_h (thn_n ?_))))
      refine WC.seq ?_
      refine WC.region ?_
      refine W.mv ?_
      refine W.call (Mp := M_7) (qlist_fc ho_7 (by show u.length ≤ 4096; omega)) rfl (List.Perm.refl _) ?_
      intro v331 G328 Ms330 hG328 q329
      refine match q329 with | ⟨hR332, eeq329⟩ => ?_
      have eeq329 := eeq329.symm
      subst eeq329
      dsimp only at hR332
      have q334 := hR332.form
      refine match q334 with | ⟨sa_hR332, sc_hR332, e_333⟩ => ?_
      subst e_333
      refine W.as ?_
      refine W.nil (thn_n ?_)
      refine WC.seq ?_
      refine WC.region ?_
      refine W.mv ?_
      refine W.call (Mp := M_5) (olisti (ArR.mono hG328 ho_5)) rfl (pmA (List.Perm.refl _)) ?_
      intro v338 G335 Ms337 hG335 q336
      refine match q336 with | ⟨hR339, eeq336⟩ => ?_
      have eeq336 := eeq336.symm
      subst eeq336
      dsimp only at hR339
      have q341 := hR339.form
      refine match q341 with | ⟨sa_hR339, sc_hR339, e_340⟩ => ?_
      subst e_340
      refine W.mv ?_
      refine W.qcall ((ints_fc hR339 (hR332.mono hG335)).mono (fun v _ _ _ hv => hv.trans (congrArg Value.bool (decide_eq_true rfl)))) rfl ?_
      refine W.mv ?_
      refine W.yes (dj := 205) rfl rfl rfl ?_
      refine W.mv ?_
      refine W.yes (dj := 205) rfl rfl rfl ?_
      refine W.call (Mp := M_5) (ousedi (ArR.mono (hG328.trans hG335) ho_5)) rfl (List.Perm.refl _) ?_
      intro v345 G342 Ms344 hG342 q343
      refine match q343 with | ⟨e_347, eeq343⟩ => ?_
      subst e_347
      have eeq343 := eeq343.symm
      subst eeq343
      refine W.yes (dj := 205) rfl rfl rfl ?_
      refine W.mv ?_
      refine W.yes (dj := 205) rfl rfl rfl ?_
      refine W.ok (ok_len sl30 (hR332.mono (hG335.trans hG342)) rfl) ?_
      refine W.yes (dj := 205) rfl rfl rfl ?_
      refine W.ok (ok_eql rfl rfl) ?_
      refine W.ok (ok_pick_t rfl rfl) ?_
      refine W.mv ?_
      refine W.sp 212 rfl (fun h210 => ?_) (fun h210 => ?_)
      ·have p210 := of_decide_eq_true h210
       refine W.yes (dj := 212) rfl rfl h210 ?_
       refine W.mv ?_
       refine W.yes (dj := 212) rfl rfl h210 ?_
       refine W.call (Mp := M_5) (oroomi (ArR.mono ((hG328.trans hG335).trans hG342) ho_5)) rfl (List.Perm.refl _) ?_
       intro v351 G348 Ms350 hG348 q349
       refine match q349 with | ⟨e_353, eeq349⟩ => ?_
       subst e_353
       have eeq349 := eeq349.symm
       subst eeq349
       refine W.yes (dj := 212) rfl rfl h210 ?_
       refine W.mv ?_
       refine W.yes (dj := 212) rfl rfl h210 ?_
       refine W.mv ?_
       refine W.yes (dj := 212) rfl rfl h210 ?_
       refine W.ok (ok_len sl30 (hR332.mono ((hG335.trans hG342).trans hG348)) rfl) ?_
       refine W.yes (dj := 212) rfl rfl h210 ?_
       refine W.ok (ok_sub rfl rfl (by omega)) ?_
       refine W.yes (dj := 212) rfl rfl h210 ?_
       refine W.ok (ok_eql rfl rfl) ?_
       refine W.ok (ok_pick_t rfl h210) ?_
       refine W.mv ?_
       refine W.sp 221 rfl (fun h219 => ?_) (fun h219 => ?_)
       ·have p219 := of_decide_eq_true h219
        refine W.yes (dj := 221) rfl rfl h219 ?_
        refine W.qcall (awake11_fc) rfl ?_
        refine W.ok (ok_pick_t rfl h219) ?_
        refine W.as ?_
        refine W.nil (thn_n ?_)
        refine WC.ret ?_
        refine ⟨.inr rfl, [_], ⟨rfl, trivial⟩, [], List.nil_sublist _, ?_⟩
        rfl
       ·have p219 := of_decide_eq_false h219
        exfalso; try dsimp only at p219
        omega
      ·have p210 := of_decide_eq_false h210
       exact absurd rfl p210

end Go.Proofs.Ytjbbookmgohamaa
