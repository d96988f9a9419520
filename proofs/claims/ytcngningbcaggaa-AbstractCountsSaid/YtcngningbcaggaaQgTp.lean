/- Walks of searches in lists that need not be sorted, and of rows behind messages. -/
import Derived.Test.YtcngningbcaggaaQgQe
import Derived.Test.YtcngningbcaggaaQgWd
import Derived.Test.YtcngningbcaggaaQgWg
set_option maxRecDepth 100000
set_option maxHeartbeats 1600000
set_option linter.unusedVariables false
set_option linter.unusedSimpArgs false
set_option linter.unnecessarySimpa false
namespace Go.Proofs.Ytcngningbcaggaa
open Go Go.Fw Go.RowKit
attribute [local irreducible] Ok W WC
theorem bsearchB_fc {G : GH} {v_l : Value} {l : List Str} (h_l : SlR eStr G v_l l) (k : Str) :
    Fc Try.prog 85 [v_l, sV k.b] G [] (fun v _ _ => v = .tuple #[iV (((fbS l k : Nat) : Int)), .bool (hbS l k)]) := by
 obtain ⟨sa_l, sc_l, rfl⟩ := h_l.form
 have hlen := h_l.len47
 refine Fc.go [.tmp 4, .tmp 5] Try.func85 Try.ntmps85 rfl (fun w0 => (g9 22 ?_))
 refine WC.loop (X := Nat × Nat) (fun x => [(6, nt9 l.length), (7, nt9 x.1), (8, nt9 x.2), (0, lV sa_l l.length sc_l), (1, sV k.b)]) (fun x _ Ml => Ml = [] ∧ x.1 ≤ x.2 ∧ x.2 ≤ l.length ∧ bsQ (bsS l k) x.1 x.2 = fbS l k) (fun x => x.2 - x.1) (0, l.length) hs9 ?_ ?_
 ·exact ⟨rfl, by simp, by simp, rfl⟩
 rintro ⟨i, j⟩ gG1 G1 _ hG1 ⟨rfl, hi, hj, hb⟩
 dsimp only at hi hj hb
 refine g9 8 ?_
 refine WC.cd (fun h15 p15 => ?_) (fun h15 p15 => ?_)
 ·refine g9 8 ?_
  refine W.ok (ok_convU un3 un150 rfl om9) (W.ok (ok_shr1 rfl rfl om9) (W.ok (ok_convI un150 un3 rfl om9) (g9 7 ?_)))
  refine (h_l.mono hG1).a1 (i := (i + j) / 2) om9 (fun he2 => (W.ok (ok_indexAddr (i := (i + j) / 2) sl32 ty9 (h_l.mono hG1) rfl rfl ⟨by dsimp only; omega, om9⟩) (g9 2 ?_)))
  refine W.qcall (cmpless_fc _ _) rfl (g9 2 ?_)
  refine WC.cond rfl (fun h27 => ?_) (fun h27 => ?_)
  ·refine g9 7 ?_
   exact ⟨Le.rfl, ((i + j) / 2 + 1, j), hs9, ⟨rfl, by dsimp only; omega, by dsimp only; omega, (bsQ_t (q := bsS l k) (i := i) (j := j) om9 (by rw [bsS_at om9]; simpa using h27)).trans hb⟩, by dsimp only; omega⟩
  refine g9 6 ?_
  exact ⟨Le.rfl, (i, (i + j) / 2), hs9, ⟨rfl, by dsimp only; omega, by dsimp only; omega, (bsQ_f (q := bsS l k) (i := i) (j := j) om9 (by rw [bsS_at om9]; simpa using h27)).trans hb⟩, by dsimp only; omega⟩
 refine g9 12 ?_
 refine W.sd 35 (fun h34 p34 => ?_) (fun h34 p34 => ?_)
 ·refine g9 5 ?_
  refine (h_l.mono hG1).a1 (i := i) om9 (fun he5 => (g9 9 ?_))
  refine W.sd 42 (fun h41 p41 => ?_) (fun h41 p41 => ?_)
  ·refine g9 18 ?_
   have hlow : fbS l k = i := hb.symm.trans (bsQ_e om9)
   refine tup2 (by rw [hlow]) ?_
   unfold hbS
   rw [hlow]
   simp only [Str.b_inj] at p41
   rw [List.getElem?_eq_getElem om9]
   simp [p41]
  refine g9 5 ?_
  refine (h_l.mono hG1).a1 (i := i) om9 (fun he8 => (g9 4 ?_))
  refine W.qcall (sisnan_fc _) rfl (g9 15 ?_)
  have hlow : fbS l k = i := hb.symm.trans (bsQ_e om9)
  refine tup2 (by rw [hlow]) ?_
  unfold hbS
  rw [hlow]
  simp only [Str.b_inj] at p41
  rw [List.getElem?_eq_getElem om9]
  simp [p41]
 refine g9 24 ?_
 have hlow : fbS l k = i := hb.symm.trans (bsQ_e om9)
 refine tup2 (by rw [hlow]) ?_
 unfold hbS
 rw [hlow]
 rw [List.getElem?_eq_none om9] <;> simp

theorem brouteB_fc {G : GH} {v_l : Value} {l : List Str} (h_l : SlR eStr G v_l l) (k : Str) :
    Fc Try.prog 58 [v_l, sV k.b] G [] (fun v _ _ => v = iV (((rbS l k : Nat) : Int))) := by
 obtain ⟨sa_l, sc_l, rfl⟩ := h_l.form
 have hlo := fbS_le l k
 have hlen := h_l.len47
 refine Fc.go [.tmp 4] Try.func58 Try.ntmps58 rfl (fun w0 => (g9 9 ?_))
 refine W.qcall (bsearchB_fc h_l _) rfl (g9 13 ?_)
 refine WC.cond rfl (fun h10_1 => ?_) (fun h10_1 => ?_)
 ·refine g9 14 ?_
  exact iv (by have h9 : rbS l k = fbS l k + 1 := if_pos h10_1; omega)
 refine g9 10 ?_
 exact iv (by have h9 : rbS l k = fbS l k := if_neg (by simp [h10_1]); omega)

theorem bsfmB_fc {G : GH} {v_l : Value} {l : List Pair} (h_l : SlR ePair G v_l l) (k : Str) :
    Fc Try.prog 123 [v_l, sV k.b, .func (.func 124) #[] #[]] G [] (fun v _ _ => v = .tuple #[nt9 (fbP l k), .bool (hbP l k)]) := by
 obtain ⟨sa_l, sc_l, rfl⟩ := h_l.form
 have hlen := h_l.len47
 refine Fc.go [.tmp 6, .tmp 7] Try.func123 Try.ntmps123 rfl (fun w0 => (g9 22 ?_))
 refine WC.loop (X := Nat × Nat) (fun x => [(9, nt9 x.1), (10, nt9 x.2), (0, lV sa_l l.length sc_l), (1, sV k.b), (2, .func (.func 124) #[] #[]), (8, nt9 ((l).length))]) (fun x _ Ml => Ml = [] ∧ x.1 ≤ x.2 ∧ x.2 ≤ l.length ∧ bsQ (bsR l k) x.1 x.2 = fbP l k) (fun x => x.2 - x.1) (0, l.length) hs9 ?_ ?_
 ·exact ⟨rfl, by simp, by simp, rfl⟩
 rintro ⟨i, j⟩ gG11 G11 _ hG11 ⟨rfl, hi, hj, hb⟩
 dsimp only at hi hj hb
 refine g9 8 ?_
 refine WC.cd (fun h17 p17 => ?_) (fun h17 p17 => ?_)
 ·refine g9 8 ?_
  refine W.ok (ok_convU un3 un150 rfl om9) (W.ok (ok_shr1 rfl rfl om9) (W.ok (ok_convI un150 un3 rfl om9) (g9 8 ?_)))
  refine (h_l.mono hG11).a1 (i := (i + j) / 2) om9 (fun he12 => (W.ok (ok_indexAddr (i := (i + j) / 2) sl31 ty68 (h_l.mono hG11) rfl rfl ⟨by dsimp only; omega, om9⟩) (g9 2 ?_)))
  refine W.qcallV (fst := []) (caps := []) rfl (cl_m_fc _ _ _) rfl (g9 3 ?_)
  refine WC.cd (fun h31 p31 => ?_) (fun h31 p31 => ?_)
  ·refine g9 7 ?_
   exact ⟨Le.rfl, ((i + j) / 2 + 1, j), hs9, ⟨rfl, by dsimp only; omega, by dsimp only; omega, (bsQ_t (q := bsR l k) (i := i) (j := j) om9 (by rw [bsR_at om9]; exact cmpN_neg.1 p31)).trans hb⟩, by dsimp only; omega⟩
  refine g9 6 ?_
  exact ⟨Le.rfl, (i, (i + j) / 2), hs9, ⟨rfl, by dsimp only; omega, by dsimp only; omega, (bsQ_f (q := bsR l k) (i := i) (j := j) om9 (by rw [bsR_at om9]; exact cmpN_nn p31)).trans hb⟩, by dsimp only; omega⟩
 refine g9 12 ?_
 refine W.sd 39 (fun h38 p38 => ?_) (fun h38 p38 => ?_)
 ·refine g9 7 ?_
  refine (h_l.mono hG11).a1 (i := i) om9 (fun he15 => (g9 6 ?_))
  refine W.qcallV (fst := []) (caps := []) rfl (cl_m_fc _ _ _) rfl (g9 9 ?_)
  have hlow : fbP l k = i := hb.symm.trans (bsQ_e om9)
  refine tup2 (by rw [hlow]) ?_
  rw [hbP_i hlow]
  rw [cmpN_zero_d, decide_eq_true (p := i < l.length) om9, Bool.true_and, List.getElem?_eq_getElem om9]
  exact decide_eq_decide.2 ⟨fun e => congrArg some e, fun e => Option.some.inj e⟩
 refine g9 15 ?_
 have hlow : fbP l k = i := hb.symm.trans (bsQ_e om9)
 refine tup2 (by rw [hlow]) ?_
 rw [hbP_i hlow]
 rw [decide_eq_false (p := i < l.length) om9, Bool.false_and]

theorem findB_fc {G : GH} {v_l : Value} {l : List Pair} (h_l : SlR ePair G v_l l) (k : Str) :
    Fc Try.prog 105 [v_l, sV k.b] G [] (fun v _ _ => v = .tuple #[nt9 (fbP l k), .bool (hbP l k)]) := by
 obtain ⟨sa_l, sc_l, rfl⟩ := h_l.form
 refine Fc.go [.tmp 4, .tmp 5] Try.func105 Try.ntmps105 rfl (fun w0 => (g9 10 ?_))
 refine W.qcall (bsfmB_fc h_l k) rfl (g9 8 ?_)
 rfl

theorem mgetB_fc {G : GH} {v_l : Value} {l : List Pair} (h_l : SlR ePair G v_l l) (k : Str) :
    Fc Try.prog 86 [v_l, sV k.b] G [] (fun v _ _ => v = .tuple #[sV (Str.b ((gbP l k).getD Str.nil)), .bool ((gbP l k).isSome)]) := by
 obtain ⟨sa_l, sc_l, rfl⟩ := h_l.form
 have hlen := h_l.len47
 refine Fc.go [.tmp 4, .tmp 5] Try.func86 Try.ntmps86 rfl (fun w0 => (g9 10 ?_))
 refine W.qcall (findB_fc h_l _) rfl (g9 14 ?_)
 refine WC.cond rfl (fun h15 => ?_) (fun h15 => ?_)
 ·refine g9 9 ?_
  show Value.tuple #[Value.string _, Value.bool _] = _
  have e : gbP l k = none := gbP_f (by simpa using h15)
  rw [e]; rfl
 have hs : hbP l k = true := by simpa using h15
 obtain ⟨q1, q2⟩ := hbP_at hs
 have hv := gbP_t hs q1
 refine g9 6 ?_
 refine h_l.a1 (i := fbP l k) (q1) (fun he18 => (W.ok (ok_indexAddr (i := fbP l k) sl31 ty68 h_l rfl rfl ⟨om9, q1⟩) (g9 8 ?_)))
 show Value.tuple #[Value.string _, Value.bool _] = _
 rw [hv]; rfl

theorem mwithB_fc {G : GH} {v_l : Value} {l : List Pair} (h_l : SlR ePair G v_l l) (k : Str) (ek : Int) (ev : Str) (hR : RB l) (hn : l.length ≤ 1000000) (he : ev.b.size ≤ 1048576) :
    Fc Try.prog 119 [v_l, sV k.b, .agg #[iV ek, sV ev.b]] G [] (fun v G' M' => M' = [] ∧ ∃ u0, v = u0 ∧ SlR ePair G' u0 (withB l k (⟨ek, ev⟩ : Eff))) := by
 obtain ⟨sa_l, sc_l, rfl⟩ := h_l.form
 have hl := h_l.len47
 have hgv := hR.get k
 have hfl := fbP_le l k
 refine Fc.go [.tmp 6] Try.func119 Try.ntmps119 rfl (fun w0 => (g9 2 ?_))
 refine W.box (L := [iV _, sV _]) rfl rfl (fun b21 => (g9 7 ?_))
 refine W.qcall (findB_fc h_l _) rfl (g9 18 ?_)
 refine WC.cond rfl (fun h16_1 => ?_) (fun h16_1 => ?_)
 ·have hs1 : hbP l k = true := h16_1
  obtain ⟨q1, q2⟩ := hbP_at hs1
  have hvk := gbP_t hs1 q1
  refine g9 3 ?_
  refine h_l.a1 (i := fbP l k) (q1) (fun he22 => (W.ok (ok_indexAddr (i := fbP l k) sl31 ty68 h_l rfl rfl ⟨om9, q1⟩) (g9 8 ?_)))
  refine W.call (Mp := []) (clonepo_fc h_l) rfl pr9 ?_
  rintro v26 G25 Ms27 hG25 ho28
  refine W.perm (pmC pr9).symm (g9 9 ?_)
  refine W.qcall (eapply_fc ek ev (hbP l k) l[fbP l k].val om9 (by rw [hvk] at hgv; simpa using Nat.le_trans hgv (by decide))) rfl (g9 12 ?_)
  refine W.sp 36 rfl (fun h31_0 => ?_) (fun h31_0 => ?_)
  ·have hap : Eff.apply (⟨ek, ev⟩ : Eff) (gbP l k) = some ((Eff.apply (⟨ek, ev⟩ : Eff) (optS (hbP l k) l[fbP l k].val)).getD Str.nil) := by
     rw [hs1, hvk] at *; simp only [optS, if_true] at *; exact isSome_getD h31_0
   refine g9 11 ?_
   refine ho28.a1 (i := fbP l k) (q1) (fun he29 => (W.ok (ok_indexAddrO (i := fbP l k) sl31 ty68 ho28 rfl rfl ⟨om9, q1⟩) (g9 1 ?_)))
   refine W.storeO (i := fbP l k) (o := 1) (vs := sc9) (a' := ⟨l[fbP l k].key, (((Eff.apply (⟨ek, ev⟩ : Eff) (optS (hbP l k) l[fbP l k].val))).getD Str.nil)⟩) ty9 rfl rfl rfl rfl rfl (ho28) (pmC pr9) om9 (by decide) (fun cs h => by rw [h]; rfl) (fun Ms32 ho33 => (W.perm (pmC pr9).symm (g9 9 ?_)))
   refine WC.giveO ho33 (pmC pr9) (fun G34 hG34 hv34 => (g9 2 ?_))
   refine ⟨rfl, _, rfl, ?_⟩
   · have h := hv34; rw [withB_set hs1 q1 q2 hap] at h; exact h
  have hap : Eff.apply (⟨ek, ev⟩ : Eff) (gbP l k) = none := by
    rw [hs1, hvk] at *; simp only [optS, if_true] at *; simpa using h31_0
  refine g9 24 ?_
  refine W.ok (Ok.int (n := ((fbP l k + 1 : Nat) : Int)) (ok_add rfl rfl om9) om9) (W.call (Mp := Ms27) (delp_fc ho28 _ _ (by first | assumption | omega)) rfl (pmC pr9) ?_)
  rintro v36 G35 Ms37 hG35 ho38
  refine W.perm (pmC pr9).symm (g9 10 ?_)
  refine WC.giveO ho38 (pmC pr9) (fun G39 hG39 hv39 => (g9 2 ?_))
  refine ⟨rfl, _, rfl, ?_⟩
  · have h := hv39; rw [withB_del hs1 hap] at h; exact h
 have hn0 : hbP l k = false := h16_1
 have hnn := gbP_f hn0
 refine g9 5 ?_
 refine W.call (Mp := []) (clonepo_fc h_l) rfl pr9 ?_
 rintro v41 G40 Ms42 hG40 ho43
 refine W.perm (pmC pr9).symm (g9 9 ?_)
 refine W.qcall (eapply_fc ek ev (hbP l k) Str.nil om9 (by show (ByteArray.mk #[]).size ≤ _; decide)) rfl (g9 12 ?_)
 refine W.sp 36 rfl (fun h31_0 => ?_) (fun h31_0 => ?_)
 ·have hap : Eff.apply (⟨ek, ev⟩ : Eff) (gbP l k) = some ((Eff.apply (⟨ek, ev⟩ : Eff) (optS (hbP l k) Str.nil)).getD Str.nil) := by
    rw [hn0, hnn] at *; simp only [optS] at *; exact isSome_getD h31_0
  refine g9 19 ?_
  refine W.ok (ok_build (L := [sV _, sV _]) pl68 zr68 rfl rfl rfl) (W.litO (e := ePair) (l := [⟨k, (((Eff.apply (⟨ek, ev⟩ : Eff) (optS (hbP l k) Str.nil))).getD Str.nil)⟩]) (css := [[sV _, sV _]]) sl31 ty68 zr68 rfl rfl rfl rfl rfl rfl ⟨rfl, trivial⟩ (fun v44 Ms45 ho46 => (W.perm (pmC pr9).symm (W.call (Mp := Ms42 ++ Ms45) (insp_fc ho43 _ ho46 (by first | assumption | omega) (by first | assumption | omega | simp) (by first | assumption | omega | (simp; omega))) rfl ((List.Perm.of_eq (List.append_assoc _ _ _)).trans ((List.Perm.append_left _ (pmC pr9)).trans (pmC (pmA pr9)))) ?_))))
  rintro v48 G47 Ms49 hG47 ho50
  refine W.perm (pmC pr9).symm (g9 10 ?_)
  refine WC.giveO ho50 (pmC pr9) (fun G51 hG51 hv51 => (g9 2 ?_))
  refine ⟨rfl, _, rfl, ?_⟩
  · have h := hv51; rw [withB_ins hn0 hap] at h; exact h
 have hap : Eff.apply (⟨ek, ev⟩ : Eff) (gbP l k) = none := by
   rw [hn0, hnn] at *; simp only [optS] at *; simpa using h31_0
 refine g9 29 ?_
 refine WC.giveO ho43 (pmC pr9) (fun G52 hG52 hv52 => (g9 2 ?_))
 refine ⟨rfl, _, rfl, ?_⟩
 · have h := hv52; rw [withB_not hn0 hap] at h; exact h

theorem mtakeB_fc {G : GH} {v_l : Value} {l : List Pair} (h_l : SlR ePair G v_l l) (ms : Int) (mk : Int) (mkey : Str) (mhi : Str) (mo : Bool) (mv : Str) (hR : RB l) (hn : l.length ≤ 1000000) (hk : mkey.b.size ≤ 4000 ∧ mhi.b.size ≤ 4000 ∧ mv.b.size ≤ 4000) :
    Fc Try.prog 98 [v_l, .agg #[iV ms, iV mk, sV mkey.b, sV mhi.b, .bool mo, sV mv.b]] G [] (fun v G' M' => M' = [] ∧ ∃ u0, v = u0 ∧ SlR ePair G' u0 (takeB l (⟨ms, mk, mkey, mhi, mo, mv⟩ : Msg))) := by
 obtain ⟨sa_l, sc_l, rfl⟩ := h_l.form
 obtain ⟨hk1, hk2, hk3⟩ := hk
 have hl := h_l.len47
 have hov := on_valB (m := (⟨ms, mk, mkey, mhi, mo, mv⟩ : Msg)) mkey hk3
 refine Fc.go [.tmp 4] Try.func98 Try.ntmps98 rfl (fun w0 => (g9 2 ?_))
 refine W.box (L := [iV _, iV _, sV _, sV _, .bool _, sV _]) rfl rfl (fun b53 => (g9 11 ?_))
 refine WC.cd (fun h7 p7 => ?_) (fun h7 p7 => ?_)
 ·refine g9 4 ?_
  refine W.qcall (mspan_fc _ _ _ _ _ _ (by first | assumption | omega | (dsimp only; omega))) rfl (W.cS (mwithout_fc h_l (Msg.span (⟨ms, mk, mkey, mhi, mo, mv⟩ : Msg)).lo (Msg.span (⟨ms, mk, mkey, mhi, mo, mv⟩ : Msg)).hi (Msg.span (⟨ms, mk, mkey, mhi, mo, mv⟩ : Msg)).opn) rfl (fun sa_hv55 sc_hv55 G54 hG54 hv55 => (g9 6 ?_)))
  refine ⟨rfl, _, rfl, ?_⟩
  · have h := hv55; rw [takeB, if_pos p7]; exact h
 refine g9 3 ?_
 refine WC.dw sr9.k9 (d9 [0, 1, 2, 3, 4, 5] ?_)
 refine WD.a1 6 rfl (W.qcall (mon_fc ms mk mkey mhi mo mv mkey om9) rfl (W.nn (WD.a1 7 rfl (W.cS (mwithB_fc h_l mkey (Msg.on (⟨ms, mk, mkey, mhi, mo, mv⟩ : Msg) mkey).kind (Msg.on (⟨ms, mk, mkey, mhi, mo, mv⟩ : Msg) mkey).val hR hn om9) rfl (fun sa_hv62 sc_hv62 G61 hG61 hv62 => (W.nn (d9 [8] ?_)))))))
 refine g9 4 ?_
 refine ⟨rfl, _, rfl, ?_⟩
 · have h := hv62; rw [takeB, if_neg p7]; exact h

theorem mfoldB_fc {G : GH} {v_l : Value} {l : List Pair} (h_l : SlR ePair G v_l l) {v_ms : Value} {ms : List Msg} (h_ms : SlR eMsg G v_ms ms) (hR : RB l) (hn : l.length + ms.length ≤ 1000000) (hm : MB ms) :
    Fc Try.prog 77 [v_l, v_ms] G [] (fun v G' M' => M' = [] ∧ ∃ u0, v = u0 ∧ SlR ePair G' u0 (foldB l ms)) := by
 obtain ⟨sa_l, sc_l, rfl⟩ := h_l.form
 obtain ⟨sa_ms, sc_ms, rfl⟩ := h_ms.form
 have hl := h_l.len47
 have hlm := h_ms.len47
 refine Fc.go [.tmp 4] Try.func77 Try.ntmps77 rfl (fun w0 => (g9 8 ?_))
 refine W.cS (clonep_fc h_l) rfl (fun sa_hv69 sc_hv69 G68 hG68 hv69 => (g9 12 ?_))
 refine WC.loop (X := (Nat) × Value) (fun k => [(12, nt9 k.1), (10, lV sa_ms ms.length sc_ms), (11, nt9 ((ms).length)), (5, k.2)]) (fun k G Ml => Ml = [] ∧ SlR ePair G k.2 (foldB l (ms.take k.1)) ∧ k.1 ≤ ms.length) (fun k => ms.length - k.1) (0, lV sa_hv69 ((l)).length sc_hv69) hs9 ?_ ?_
 ·exact ⟨rfl, (by simpa [foldB] using hv69), om9⟩
 rintro ⟨k, v_5⟩ gG75 G75 _ hG75 ⟨rfl, ho_5, hk⟩
 try dsimp only at ho_5 hk
 have hPk := RB.fold hR (hm.take k)
 have hnk := foldB_len (l := l) (ms := ms.take k)
 have hkl : (ms.take k).length ≤ k := by simp; omega
 refine WC.fr (f := setL gG75 [(12, nt9 k), (10, lV sa_ms ms.length sc_ms), (11, nt9 ((ms).length)), (5, v_5)]) rfl (g9 6 ?_)
 refine WC.cd (fun h13 p13 => ?_) (fun h13 p13 => ?_)
 ·refine g9 6 ?_
  refine (h_ms.mono (hG68.trans hG75)).a2 (i := k) om9 (fun he76 hm77 => (g9 2 ?_))
  refine W.alloc zr90 (fun b81 => (g9 6 ?_))
  refine W.cS (mtakeB_fc ho_5 ms[k].stamp ms[k].kind ms[k].key ms[k].hi ms[k].opn ms[k].val hPk om9 (hm _ (List.getElem_mem _))) rfl (fun sa_hv83 sc_hv83 G82 hG82 hv83 => (g9 7 ?_))
  refine W.sub (sr9.cons _) (g9 2 ?_)
  exact ⟨hG82, (k + 1, lV sa_hv83 (takeB (foldB l (ms.take k)) ms[k]).length sc_hv83), hs9, ⟨rfl, (by have h := hv83; rw [foldB_succ om9]; exact h), om9⟩, om9⟩
 refine g9 13 ?_
 refine ⟨rfl, _, rfl, ?_⟩
 · have h := ho_5; rw [List.take_of_length_le om9] at h; exact h

theorem mviewB_fc {G : GH} {v_l : Value} {l : List Pair} (h_l : SlR ePair G v_l l) (slo : Str) (shi : Str) (so : Bool) {v_ms : Value} {ms : List Msg} (h_ms : SlR eMsg G v_ms ms) (hR : RB l) (hn : l.length + ms.length ≤ 1000000) (hm : MB ms) (hs : slo.b.size ≤ 4000 ∧ shi.b.size ≤ 4000) :
    Fc Try.prog 54 [v_l, .agg #[sV slo.b, sV shi.b, .bool so], v_ms] G [] (fun v G' M' => M' = [] ∧ ∃ u0, v = u0 ∧ SlR ePair G' u0 (foldB (l.filter fun p => Span.has ⟨slo, shi, so⟩ p.key) (clips ⟨slo, shi, so⟩ ms))) := by
 obtain ⟨sa_l, sc_l, rfl⟩ := h_l.form
 obtain ⟨sa_ms, sc_ms, rfl⟩ := h_ms.form
 have hPf := hR.filter (fun p => Span.has ⟨slo, shi, so⟩ p.key)
 have hcm : MB (clips ⟨slo, shi, so⟩ ms) := clips_szs (n := 4000) hm hs
 have hcl : (clips ⟨slo, shi, so⟩ ms).length ≤ ms.length := clips_le
 have hfl := List.length_filter_le (fun p : Pair => Span.has ⟨slo, shi, so⟩ p.key) l
 have hks : ∀ m ∈ ms, m.key.b.size < 140737488355328 := fun m h => by have := (hm m h).1; omega
 refine Fc.go [.tmp 6] Try.func54 Try.ntmps54 rfl (fun w0 => (g9 2 ?_))
 refine W.box (L := [sV _, sV _, .bool _]) rfl rfl (fun b89 => (g9 4 ?_))
 refine WC.dw sr9.k9 (d9 [0, 1, 3, 4] ?_)
 refine WD.a1 2 rfl (W.cS (within_fc h_l _ _ _ (by first | assumption | omega | (simp; omega) | (exact PairsR.fold (by assumption) (by assumption)))) rfl (fun sa_hv91 sc_hv91 G90 hG90 hv91 => (W.nn (WD.a1 5 rfl (W.cS (bclips_fc (h_ms.mono hG90) slo shi so hks) rfl (fun sa_hv98 sc_hv98 G97 hG97 hv98 => (W.nn (WD.a1 6 rfl (W.cS (mfoldB_fc (hv91.mono hG97) hv98 hPf om9 hcm) rfl (fun sa_hv105 sc_hv105 G104 hG104 hv105 => (W.nn (d9 [7] ?_))))))))))))
 refine g9 4 ?_
 refine ⟨rfl, _, rfl, ?_⟩
 · exact hv105

theorem bufonB_fc {G : GH} {v_l : Value} {l : List Msg} (h_l : SlR eMsg G v_l l) (key : Str) (hm : MB l) :
    Fc Try.prog 88 [v_l, sV key.b] G [] (fun v _ _ => v = .agg (List.toArray ((onsN l key).cells))) := by
 obtain ⟨sa_l, sc_l, rfl⟩ := h_l.form
 have hl := h_l.len47
 refine Fc.go [.cell 4 136] Try.func88 Try.ntmps88 rfl (fun w0 => (g9 2 ?_))
 refine W.alloc zr136 (fun b111 => (g9 11 ?_))
 refine WC.loop (X := Nat) (fun k => [(9, nt9 k), (4, pt9 b111), (1, sV key.b), (7, lV sa_l l.length sc_l), (8, nt9 ((l).length))]) (fun k _ Ml => Ml = [(b111, ce9 136 [iV (onsN (l.take k) key).kind, sV (onsN (l.take k) key).val.b])] ∧ k ≤ l.length) (fun k => l.length - k) 0 hs9 ?_ ?_
 ·exact ⟨rfl, om9⟩
 rintro k gG112 G112 _ hG112 ⟨rfl, hk⟩
 have hon := onsN_valB key (hm.take k)
 refine g9 6 ?_
 refine WC.cd (fun h10 p10 => ?_) (fun h10 p10 => ?_)
 ·refine g9 6 ?_
  refine (h_l.mono hG112).a2 (i := k) om9 (fun he113 hm114 => (g9 2 ?_))
  refine W.alloc zr90 (fun b118 => (g9 3 ?_))
  refine WC.dw ((sr9.cons _).k9) (d9 [1, 2] ?_)
  refine WD.any [0, 3] (by kernel_rfl) rfl ⟨WD.ap ?_, WD.ap ?_, trivial⟩
  ·refine g9 1 ?_
   refine W.nn (WD.a1 3 rfl (W.qcall (mon_fc _ _ _ _ _ _ _ (by have := (hm _ (List.getElem_mem (by omega : k < l.length))).1; omega)) rfl (W.nn (WD.a1 4 rfl (W.qcall (ethen_fc (onsN (l.take k) key).kind (onsN (l.take k) key).val (Msg.on l[k] key).kind (Msg.on l[k] key).val om9 (by have := on_valB key (hm _ (List.getElem_mem (by omega : k < l.length))).2.2; omega)) rfl (W.nn (d9 [5] ?_)))))))
   refine WD.done (by kernel_rfl) (blk_n (thn_n (g9 3 ?_)))
   refine W.sub (sr9.cons _) (g9 2 ?_)
   exact ⟨Le.rfl, k + 1, hs9, ⟨(by rw [onsN_succ _ om9]; rfl), om9⟩, om9⟩
  refine W.qcall (mon_fc _ _ _ _ _ _ _ (by have := (hm _ (List.getElem_mem (by omega : k < l.length))).1; omega)) rfl (W.nn (WD.a1 0 rfl (g9 1 ?_)))
  refine W.nn (WD.a1 4 rfl (W.qcall (ethen_fc (onsN (l.take k) key).kind (onsN (l.take k) key).val (Msg.on l[k] key).kind (Msg.on l[k] key).val om9 (by have := on_valB key (hm _ (List.getElem_mem (by omega : k < l.length))).2.2; omega)) rfl (W.nn (d9 [5] ?_))))
  refine WD.done (by kernel_rfl) (blk_n (thn_n (g9 3 ?_)))
  refine W.sub (sr9.cons _) (g9 2 ?_)
  exact ⟨Le.rfl, k + 1, hs9, ⟨(by rw [onsN_succ _ om9]; rfl), om9⟩, om9⟩
 refine g9 13 ?_
 refine congrArg (fun l => Value.agg (List.toArray l)) ?_
 show [Value.int _ _, Value.string _] = _
 rw [List.take_of_length_le om9]; rfl

theorem mergetB_fc {G : GH} {v_l : Value} {l : List Pair} (h_l : SlR ePair G v_l l) (k : Str) {v_ms : Value} {ms : List Msg} (h_ms : SlR eMsg G v_ms ms) (hR : RB l) (hm : MB ms) :
    Fc Try.prog 59 [v_l, sV k.b, v_ms] G [] (fun v _ _ => v = .tuple #[sV (Str.b ((Eff.apply (onsN ms k) (gbP l k)).getD Str.nil)), .bool ((Eff.apply (onsN ms k) (gbP l k)).isSome)]) := by
 obtain ⟨sa_l, sc_l, rfl⟩ := h_l.form
 obtain ⟨sa_ms, sc_ms, rfl⟩ := h_ms.form
 have hgv := hR.get k
 have hov := onsN_valB k hm
 have hos := optS_get (gbP l k)
 refine Fc.go [.tmp 6, .tmp 7] Try.func59 Try.ntmps59 rfl (fun w0 => (g9 10 ?_))
 refine W.qcall (mgetB_fc h_l _) rfl (g9 11 ?_)
 refine W.qcall (bufonB_fc h_ms _ (by assumption)) rfl (g9 2 ?_)
 refine W.qcall (eapply_fc (onsN ms k).kind (onsN ms k).val (gbP l k).isSome ((gbP l k).getD Str.nil) om9 om9) rfl (g9 14 ?_)
 refine WC.cond rfl (fun h28 => ?_) (fun h28 => ?_)
 ·refine g9 9 ?_
  show Value.tuple #[Value.string _, Value.bool _] = _
  have hx : Eff.apply (⟨(onsN ms k).kind, (onsN ms k).val⟩ : Eff) (optS (gbP l k).isSome ((gbP l k).getD Str.nil)) = Eff.apply (onsN ms k) (gbP l k) := by rw [hos]
  rw [hx] at h28
  have e : Eff.apply (onsN ms k) (gbP l k) = none := by simpa using h28
  rw [e]; rfl
 refine g9 11 ?_
 show Value.tuple #[Value.string _, Value.bool _] = _
 have hx : Eff.apply (⟨(onsN ms k).kind, (onsN ms k).val⟩ : Eff) (optS (gbP l k).isSome ((gbP l k).getD Str.nil)) = Eff.apply (onsN ms k) (gbP l k) := by rw [hos]
 rw [hx] at h28
 have e : (Eff.apply (onsN ms k) (gbP l k)).isSome = true := by simpa using h28
 rw [hx, e]

end Go.Proofs.Ytcngningbcaggaa
