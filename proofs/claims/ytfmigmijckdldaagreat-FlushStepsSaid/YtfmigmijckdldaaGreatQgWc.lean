/- Walks of functions that change maps. -/
import Derived.Test.YtfmigmijckdldaaGreatQgW5
set_option maxRecDepth 100000
set_option maxHeartbeats 1600000
set_option linter.unusedVariables false
set_option linter.unusedSimpArgs false
set_option linter.unnecessarySimpa false
namespace Go.Proofs.YtfmigmijckdldaaGreat
open Go Go.Fw Go.RowKit
attribute [local irreducible] Ok W WC
theorem clonepo_fc {G : GH} {v_a : Value} {a : List Pair} (h_a : SlR ePair G v_a a) :
    Fc Tryz.prog 100 [v_a] G [] (fun v G' M' => OwnR ePair 92 G' v (a) M') := by
 obtain ⟨sa_a, sc_a, rfl⟩ := h_a.form
 have ha := h_a.bytes
 refine Fc.go [.tmp 2] Tryz.func100 Tryz.ntmps100 rfl (fun w0 => (g9 9 ?_))
 refine W.ok (ok_eqlNil sl42 rfl rfl) (g9 2 ?_)
 refine WC.cond rfl (fun h4 => ?_) (fun h4 => ?_)
 ·have hn := SlR.isNone h_a h4
  subst hn
  refine g9 8 ?_
  exact OwnR.nil
 refine g9 4 ?_
 refine W.lit0 (e := ePair) sl42 ty92 zr92 rfl (fun v1 Ms2 ho3 => (W.mv (W.app (e := ePair) sl42 ty92 zr92 rfl by92 rfl rfl (ho3) (h_a) pr9 (by simpa using ha) (fun v4 Ms5 ho6 => (g9 4 ?_)))))
 refine ⟨.inr rfl, [_], ⟨rfl, trivial⟩, Ms5, List.sublist_append_left _ _, ?_⟩
 have h := ho6
 rw [List.nil_append] at h
 exact h

theorem mwith_fc {G : GH} {v_l : Value} {l : List Pair} (h_l : SlR ePair G v_l l) (k : Str) (ek : Int) (ev : Str) (hP : PairsR l) (hn : l.length ≤ 1000000) (he : ev.b.size ≤ 1048576) :
    Fc Tryz.prog 172 [v_l, sV k.b, .agg #[iV ek, sV ev.b]] G [] (fun v G' M' => M' = [] ∧ ∃ u0, v = u0 ∧ SlR ePair G' u0 (withN l k (⟨ek, ev⟩ : Eff))) := by
 obtain ⟨sa_l, sc_l, rfl⟩ := h_l.form
 have hl := h_l.len47
 have hgv := hP.val k
 have hr := hP.srt
 have hh := hr.has k
 have hfl := fndN_le l k
 refine Fc.go [.tmp 6] Tryz.func172 Tryz.ntmps172 rfl (fun w0 => (g9 2 ?_))
 refine W.box (L := [iV _, sV _]) rfl rfl (fun b7 => (g9 7 ?_))
 refine W.qcall (find_fc h_l _ (by assumption)) rfl (g9 18 ?_)
 refine WC.cond rfl (fun h16_1 => ?_) (fun h16_1 => ?_)
 ·have hs1 : (getN l k).isSome = true := h16_1
  obtain ⟨q1, q2⟩ := odt (hh.symm.trans hs1)
  have hvk := hr.val q1 q2
  refine g9 3 ?_
  refine h_l.a1 (i := fndN l k) (q1) (fun he8 => (W.ok (ok_indexAddr (i := fndN l k) sl42 ty92 h_l rfl rfl ⟨om9, q1⟩) (g9 8 ?_)))
  refine W.call (Mp := []) (clonepo_fc h_l) rfl pr9 ?_
  rintro v12 G11 Ms13 hG11 ho14
  refine W.perm (pmC pr9).symm (g9 9 ?_)
  refine W.qcall (eapply_fc ek ev (getN l k).isSome l[fndN l k].val om9 (by rw [hvk] at hgv; simpa using Nat.le_trans hgv (by decide))) rfl (g9 12 ?_)
  refine W.sp 36 rfl (fun h31_0 => ?_) (fun h31_0 => ?_)
  ·have hap : Eff.apply (⟨ek, ev⟩ : Eff) (getN l k) = some ((Eff.apply (⟨ek, ev⟩ : Eff) (optS (getN l k).isSome l[fndN l k].val)).getD Str.nil) := by
     rw [hs1, hvk] at *; simp only [optS, if_true] at *; exact isSome_getD h31_0
   refine g9 11 ?_
   refine ho14.a1 (i := fndN l k) (q1) (fun he15 => (W.ok (ok_indexAddrO (i := fndN l k) sl42 ty92 ho14 rfl rfl ⟨om9, q1⟩) (g9 1 ?_)))
   refine W.storeO (i := fndN l k) (o := 1) (vs := sc9) (a' := ⟨l[fndN l k].key, (((Eff.apply (⟨ek, ev⟩ : Eff) (optS (getN l k).isSome l[fndN l k].val))).getD Str.nil)⟩) ty9 rfl rfl rfl rfl rfl (ho14) (pmC pr9) om9 (by decide) (fun cs h => by rw [h]; rfl) (fun Ms18 ho19 => (W.perm (pmC pr9).symm (g9 9 ?_)))
   refine WC.giveO ho19 (pmC pr9) (fun G20 hG20 hv20 => (g9 2 ?_))
   refine ⟨rfl, _, rfl, ?_⟩
   · have h := hv20; rw [with_set hr q1 q2 hap] at h; exact h
  have hap : Eff.apply (⟨ek, ev⟩ : Eff) (getN l k) = none := by
    rw [hs1, hvk] at *; simp only [optS, if_true] at *; simpa using h31_0
  refine g9 24 ?_
  refine W.ok (Ok.int (n := ((fndN l k + 1 : Nat) : Int)) (ok_add rfl rfl om9) om9) (W.call (Mp := Ms13) (delp_fc ho14 _ _ (by first | assumption | omega)) rfl (pmC pr9) ?_)
  rintro v22 G21 Ms23 hG21 ho24
  refine W.perm (pmC pr9).symm (g9 10 ?_)
  refine WC.giveO ho24 (pmC pr9) (fun G25 hG25 hv25 => (g9 2 ?_))
  refine ⟨rfl, _, rfl, ?_⟩
  · have h := hv25; rw [with_del hr q1 q2 hap] at h; exact h
 have hn0 : (getN l k).isSome = false := h16_1
 have hnn : getN l k = none := by simpa using hn0
 refine g9 5 ?_
 refine W.call (Mp := []) (clonepo_fc h_l) rfl pr9 ?_
 rintro v27 G26 Ms28 hG26 ho29
 refine W.perm (pmC pr9).symm (g9 9 ?_)
 refine W.qcall (eapply_fc ek ev (getN l k).isSome Str.nil om9 (by show (ByteArray.mk #[]).size ≤ _; decide)) rfl (g9 12 ?_)
 refine W.sp 36 rfl (fun h31_0 => ?_) (fun h31_0 => ?_)
 ·have hap : Eff.apply (⟨ek, ev⟩ : Eff) (getN l k) = some ((Eff.apply (⟨ek, ev⟩ : Eff) (optS (getN l k).isSome Str.nil)).getD Str.nil) := by
    rw [hn0, hnn] at *; simp only [optS] at *; exact isSome_getD h31_0
  refine g9 19 ?_
  refine W.ok (ok_build (L := [sV _, sV _]) pl92 zr92 rfl rfl rfl) (W.litO (e := ePair) (l := [⟨k, (((Eff.apply (⟨ek, ev⟩ : Eff) (optS (getN l k).isSome Str.nil))).getD Str.nil)⟩]) (css := [[sV _, sV _]]) sl42 ty92 zr92 rfl rfl rfl rfl rfl rfl ⟨rfl, trivial⟩ (fun v30 Ms31 ho32 => (W.perm (pmC pr9).symm (W.call (Mp := Ms28 ++ Ms31) (insp_fc ho29 _ ho32 (by first | assumption | omega) (by first | assumption | omega | simp) (by first | assumption | omega | (simp; omega))) rfl ((List.Perm.of_eq (List.append_assoc _ _ _)).trans ((List.Perm.append_left _ (pmC pr9)).trans (pmC (pmA pr9)))) ?_))))
  rintro v34 G33 Ms35 hG33 ho36
  refine W.perm (pmC pr9).symm (g9 10 ?_)
  refine WC.giveO ho36 (pmC pr9) (fun G37 hG37 hv37 => (g9 2 ?_))
  refine ⟨rfl, _, rfl, ?_⟩
  · have h := hv37; rw [with_ins hr hn0 hap] at h; exact h
 have hap : Eff.apply (⟨ek, ev⟩ : Eff) (getN l k) = none := by
   rw [hn0, hnn] at *; simp only [optS] at *; simpa using h31_0
 refine g9 29 ?_
 refine WC.giveO ho29 (pmC pr9) (fun G38 hG38 hv38 => (g9 2 ?_))
 refine ⟨rfl, _, rfl, ?_⟩
 · have h := hv38; rw [with_not hr hn0 hap] at h; exact h

end Go.Proofs.YtfmigmijckdldaaGreat
namespace Go.Proofs.YtfmigmijckdldaaGreat
open Go Go.Fw Go.RowKit
attribute [local irreducible] Ok W WC
theorem rwith_fc {G : GH} {v_l : Value} {l : List Pair} (h_l : SlR ePair G v_l l) (k : Str) (ek : Int) (ev : Str) (hP : PairsR l) (hn : l.length ≤ 1000000) (he : ev.b.size ≤ 1048576) :
    Fc Tryz.prog 138 [v_l, sV k.b, .agg #[iV ek, sV ev.b]] G [] (fun v G' M' => M' = [] ∧ ∃ u0, v = u0 ∧ SlR ePair G' u0 (withN l k (⟨ek, ev⟩ : Eff))) := by
 obtain ⟨sa_l, sc_l, rfl⟩ := h_l.form
 have hl := h_l.len47
 have hgv := hP.val k
 refine Fc.go [.tmp 6] Tryz.func138 Tryz.ntmps138 rfl (fun w0 => (g9 2 ?_))
 refine W.box (L := [iV _, sV _]) rfl rfl (fun b1 => (g9 15 ?_))
 refine WC.loop (X := (Nat) × Value × MH) (fun i => [(8, nt9 i.1), (5, pt9 b1), (0, lV sa_l l.length sc_l), (1, sV k.b), (7, i.2.1)]) (fun i G Ml => Ml = ((b1, ce9 187 [iV ek, sV ev.b]) :: (i.2.2 ++ [])) ∧ OwnR ePair 92 G i.2.1 (List.filter (fun p : Pair => p.key.lt k) (l.take i.1)) i.2.2 ∧ i.1 ≤ l.length) (fun i => l.length - i.1) (0, lV none 0 0, ([] : MH)) hs9 ?_ ?_
 ·exact ⟨rfl, (by simpa using OwnR.nil), om9⟩
 rintro ⟨i, v_7, M_7⟩ gG2 G2 _ hG2 ⟨rfl, ho_7, hi⟩
 try dsimp only at ho_7 hi
 have hfl := filt_le (fun p : Pair => p.key.lt k) l i
 refine WC.fr (f := setL gG2 [(8, nt9 i), (5, pt9 b1), (0, lV sa_l l.length sc_l), (1, sV k.b), (7, v_7)]) rfl (g9 9 ?_)
 refine WC.cd (fun h17 p17 => ?_) (fun h17 p17 => ?_)
 ·refine g9 8 ?_
  refine (h_l.mono hG2).a1 (i := i) om9 (fun he3 => (g9 4 ?_))
  refine W.qcall (less_fc _ _) rfl (g9 2 ?_)
  refine WC.cond rfl (fun h26 => ?_) (fun h26 => ?_)
  ·refine g9 4 ?_
   refine (h_l.mono hG2).a1 (i := i) om9 (fun he6 => (g9 2 ?_))
   refine W.lit (e := ePair) (l := [((l)[i])]) (css := [[sV _, sV _]]) sl42 ty92 zr92 rfl rfl rfl rfl rfl rfl ⟨rfl, trivial⟩ (fun bl9 G9 hG9 hv9 => (W.app (e := ePair) sl42 ty92 zr92 rfl by92 rfl rfl ((ho_7.mono hG9)) (hv9) (pmC pr9) (by show (_ + 1) * 32 ≤ _; (try simp only [List.length_append] at *); omega) (fun v10 Ms11 ho12 => (W.perm (pmC pr9).symm (g9 10 ?_)))))
   exact ⟨hG9, (i + 1, v10, Ms11), hs9, ⟨rfl, (by have h := ho12; rw [filt_t (p := (fun p : Pair => p.key.lt k)) om9 (by simpa using h26)]; exact h), om9⟩, om9⟩
  refine g9 9 ?_
  exact ⟨Le.rfl, (i + 1, v_7, M_7), hs9, ⟨rfl, (by have h := ho_7; rw [filt_f (p := (fun p : Pair => p.key.lt k)) om9 (by simpa using h26)]; exact h), om9⟩, om9⟩
 refine g9 9 ?_
 refine W.qcall (rget_fc (h_l.mono hG2) _) rfl (g9 12 ?_)
 refine W.qcall (rapply_fc _ _ _ _ (by first | assumption | omega | (dsimp only; omega) | (simp; omega)) (by first | assumption | omega | (dsimp only; omega) | (simp; omega))) rfl (g9 13 ?_)
 refine WC.cond rfl (fun h44_0 => ?_) (fun h44_0 => ?_)
 ·refine g9 4 ?_
  refine W.ok (ok_build (L := [sV _, sV _]) pl92 zr92 rfl rfl rfl) (W.lit (e := ePair) (l := [⟨k, (((Eff.apply (⟨(ek), (ev)⟩ : Eff) (optS (((getN (l) (k)).isSome)) (((getN (l) (k)).getD Str.nil))))).getD Str.nil)⟩]) (css := [[sV _, sV _]]) sl42 ty92 zr92 rfl rfl rfl rfl rfl rfl ⟨rfl, trivial⟩ (fun bl13 G13 hG13 hv13 => (W.app (e := ePair) sl42 ty92 zr92 rfl by92 rfl rfl ((ho_7.mono hG13)) (hv13) (pmC pr9) (by show (_ + 1) * 32 ≤ _; (try simp only [List.length_append] at *); omega) (fun v14 Ms15 ho16 => (W.perm (pmC pr9).symm (g9 10 ?_))))))
  refine WC.loop (X := (Nat) × Value × MH) (fun i => [(13, nt9 i.1), (0, lV sa_l l.length sc_l), (1, sV k.b), (7, i.2.1)]) (fun i G Ml => Ml = ((b1, ce9 187 [iV ek, sV ev.b]) :: (i.2.2 ++ [])) ∧ OwnR ePair 92 G i.2.1 ((List.filter (fun p : Pair => p.key.lt k) l ++ midN (Eff.apply (⟨ek, ev⟩ : Eff) (getN l k)) k) ++ List.filter (fun p : Pair => k.lt p.key) (l.take i.1)) i.2.2 ∧ i.1 ≤ l.length) (fun i => l.length - i.1) (0, v14, Ms15) hs9 ?_ ?_
  ·exact ⟨rfl, (by have h := ho16; rw [List.take_of_length_le om9] at h; have hs := h44_0; rw [optS_get] at hs; rw [midN_some hs]; rw [optS_get] at h; simpa using h), om9⟩
  rintro ⟨i, v_7, M_7⟩ gG17 G17 _ hG17 ⟨rfl, ho_7, hi⟩
  try dsimp only at ho_7 hi
  have hfl := filt_le (fun p : Pair => k.lt p.key) l i
  have hfl2 := List.length_filter_le (fun p : Pair => p.key.lt k) l
  have hml := midN_le (Eff.apply (⟨ek, ev⟩ : Eff) (getN l k)) k
  refine WC.fr (f := setL gG17 [(13, nt9 i), (0, lV sa_l l.length sc_l), (1, sV k.b), (7, v_7)]) rfl (g9 9 ?_)
  refine WC.cd (fun h57 p57 => ?_) (fun h57 p57 => ?_)
  ·refine g9 9 ?_
   refine (h_l.mono ((hG2.trans hG13).trans hG17)).a1 (i := i) om9 (fun he18 => (g9 3 ?_))
   refine W.qcall (less_fc _ _) rfl (g9 2 ?_)
   refine WC.cond rfl (fun h66 => ?_) (fun h66 => ?_)
   ·refine g9 4 ?_
    refine (h_l.mono ((hG2.trans hG13).trans hG17)).a1 (i := i) om9 (fun he21 => (g9 2 ?_))
    refine W.lit (e := ePair) (l := [((l)[i])]) (css := [[sV _, sV _]]) sl42 ty92 zr92 rfl rfl rfl rfl rfl rfl ⟨rfl, trivial⟩ (fun bl24 G24 hG24 hv24 => (W.app (e := ePair) sl42 ty92 zr92 rfl by92 rfl rfl ((ho_7.mono hG24)) (hv24) (pmC pr9) (by show (_ + 1) * 32 ≤ _; (try simp only [List.length_append] at *); omega) (fun v25 Ms26 ho27 => (W.perm (pmC pr9).symm (g9 10 ?_)))))
    exact ⟨hG24, (i + 1, v25, Ms26), hs9, ⟨rfl, (by have h := ho27; rw [filt_t (p := (fun p : Pair => k.lt p.key)) om9 (by simpa using h66), ← List.append_assoc]; exact h), om9⟩, om9⟩
   refine g9 9 ?_
   exact ⟨Le.rfl, (i + 1, v_7, M_7), hs9, ⟨rfl, (by have h := ho_7; rw [filt_f (p := (fun p : Pair => k.lt p.key)) om9 (by simpa using h66)]; exact h), om9⟩, om9⟩
  refine g9 11 ?_
  refine WC.giveO ho_7 (pmC pr9) (fun G28 hG28 hv28 => (g9 2 ?_))
  refine ⟨rfl, _, rfl, ?_⟩
  · have h := hv28; rw [List.take_of_length_le om9, ← withN_mid] at h; exact h
 refine g9 9 ?_
 refine WC.loop (X := (Nat) × Value × MH) (fun i => [(13, nt9 i.1), (0, lV sa_l l.length sc_l), (1, sV k.b), (7, i.2.1)]) (fun i G Ml => Ml = ((b1, ce9 187 [iV ek, sV ev.b]) :: (i.2.2 ++ [])) ∧ OwnR ePair 92 G i.2.1 ((List.filter (fun p : Pair => p.key.lt k) l ++ midN (Eff.apply (⟨ek, ev⟩ : Eff) (getN l k)) k) ++ List.filter (fun p : Pair => k.lt p.key) (l.take i.1)) i.2.2 ∧ i.1 ≤ l.length) (fun i => l.length - i.1) (0, v_7, M_7) hs9 ?_ ?_
 ·exact ⟨rfl, (by have h := ho_7; rw [List.take_of_length_le om9] at h; have hs := h44_0; rw [optS_get] at hs; rw [midN_none hs]; simpa using h), om9⟩
 rintro ⟨i, v_7, M_7⟩ gG29 G29 _ hG29 ⟨rfl, ho_7, hi⟩
 try dsimp only at ho_7 hi
 have hfl := filt_le (fun p : Pair => k.lt p.key) l i
 have hfl2 := List.length_filter_le (fun p : Pair => p.key.lt k) l
 have hml := midN_le (Eff.apply (⟨ek, ev⟩ : Eff) (getN l k)) k
 refine WC.fr (f := setL gG29 [(13, nt9 i), (0, lV sa_l l.length sc_l), (1, sV k.b), (7, v_7)]) rfl (g9 9 ?_)
 refine WC.cd (fun h57 p57 => ?_) (fun h57 p57 => ?_)
 ·refine g9 9 ?_
  refine (h_l.mono (hG2.trans hG29)).a1 (i := i) om9 (fun he30 => (g9 3 ?_))
  refine W.qcall (less_fc _ _) rfl (g9 2 ?_)
  refine WC.cond rfl (fun h66 => ?_) (fun h66 => ?_)
  ·refine g9 4 ?_
   refine (h_l.mono (hG2.trans hG29)).a1 (i := i) om9 (fun he33 => (g9 2 ?_))
   refine W.lit (e := ePair) (l := [((l)[i])]) (css := [[sV _, sV _]]) sl42 ty92 zr92 rfl rfl rfl rfl rfl rfl ⟨rfl, trivial⟩ (fun bl36 G36 hG36 hv36 => (W.app (e := ePair) sl42 ty92 zr92 rfl by92 rfl rfl ((ho_7.mono hG36)) (hv36) (pmC pr9) (by show (_ + 1) * 32 ≤ _; (try simp only [List.length_append] at *); omega) (fun v37 Ms38 ho39 => (W.perm (pmC pr9).symm (g9 10 ?_)))))
   exact ⟨hG36, (i + 1, v37, Ms38), hs9, ⟨rfl, (by have h := ho39; rw [filt_t (p := (fun p : Pair => k.lt p.key)) om9 (by simpa using h66), ← List.append_assoc]; exact h), om9⟩, om9⟩
  refine g9 9 ?_
  exact ⟨Le.rfl, (i + 1, v_7, M_7), hs9, ⟨rfl, (by have h := ho_7; rw [filt_f (p := (fun p : Pair => k.lt p.key)) om9 (by simpa using h66)]; exact h), om9⟩, om9⟩
 refine g9 11 ?_
 refine WC.giveO ho_7 (pmC pr9) (fun G40 hG40 hv40 => (g9 2 ?_))
 refine ⟨rfl, _, rfl, ?_⟩
 · have h := hv40; rw [List.take_of_length_le om9, ← withN_mid] at h; exact h

end Go.Proofs.YtfmigmijckdldaaGreat
namespace Go.Proofs.YtfmigmijckdldaaGreat
open Go Go.Fw Go.RowKit
attribute [local irreducible] Ok W WC
theorem mright_fc {G : GH} (ms : Int) (mk : Int) (mkey : Str) (mhi : Str) (mo : Bool) (mv : Str) :
    Fc Tryz.prog 140 [.agg #[iV ms, iV mk, sV mkey.b, sV mhi.b, .bool mo, sV mv.b]] G [] (fun v _ _ => v = .bool (decide (Msg.R (⟨ms, mk, mkey, mhi, mo, mv⟩ : Msg)))) := by
 have h1 := mkey.le
 have h2 := mv.le
 have h3 := mhi.le
 refine Fc.go [.tmp 2] Tryz.func140 Tryz.ntmps140 rfl (fun w0 => (g9 2 ?_))
 refine W.box (L := [iV _, iV _, sV _, sV _, .bool _, sV _]) rfl rfl (fun b1 => (g9 10 ?_))
 refine W.sd 6 (fun h5 p5 => ?_) (fun h5 p5 => ?_)
 ·refine g9 28 ?_
  refine congrArg Value.bool ?_
  rw [Bool.eq_iff_iff, decide_eq_true_iff]
  simp only [Msg.R]
  first | (simp_all [← Str.b_inj, Str.nil]; done) | (simp_all [← Str.b_inj, Str.nil]; omega)
 refine g9 10 ?_
 refine W.sd 12 (fun h10 p10 => ?_) (fun h10 p10 => ?_)
 ·refine g9 22 ?_
  refine congrArg Value.bool ?_
  rw [Bool.eq_iff_iff, decide_eq_true_iff]
  simp only [Msg.R]
  first | (simp_all [← Str.b_inj, Str.nil]; done) | (simp_all [← Str.b_inj, Str.nil]; omega)
 refine g9 10 ?_
 refine W.sd 18 (fun h16 p16 => ?_) (fun h16 p16 => ?_)
 ·refine g9 16 ?_
  refine congrArg Value.bool ?_
  rw [Bool.eq_iff_iff, decide_eq_true_iff]
  simp only [Msg.R]
  first | (simp_all [← Str.b_inj, Str.nil]; done) | (simp_all [← Str.b_inj, Str.nil]; omega)
 refine g9 11 ?_
 refine WC.cd (fun h22 p22 => ?_) (fun h22 p22 => ?_)
 ·refine g9 8 ?_
  refine congrArg Value.bool ?_
  rw [Bool.eq_iff_iff, decide_eq_true_iff]
  simp only [Msg.R]
  first | (simp_all [← Str.b_inj, Str.nil]; done) | (simp_all [← Str.b_inj, Str.nil]; omega)
 refine g9 10 ?_
 refine WC.cd (fun h26 p26 => ?_) (fun h26 p26 => ?_)
 ·refine g9 6 ?_
  refine W.sd 30 (fun h29 p29 => ?_) (fun h29 p29 => ?_)
  ·refine g9 8 ?_
   refine W.sp 34 rfl (fun h33 => ?_) (fun h33 => ?_)
   ·refine g9 10 ?_
    refine W.qcall (rspan_fc _ _ _ _ _ _ (by first | assumption | omega | (dsimp only; omega))) rfl (g9 1 ?_)
    refine W.qcall (empty_fc _ _ _) rfl (g9 9 ?_)
    refine congrArg Value.bool ?_
    rw [Bool.eq_iff_iff, decide_eq_true_iff]
    simp only [Msg.R]
    first | (simp_all [← Str.b_inj, Str.nil]; done) | (simp_all [← Str.b_inj, Str.nil]; omega)
   refine g9 10 ?_
   refine W.sd 40 (fun h37 p37 => ?_) (fun h37 p37 => ?_)
   ·refine g9 3 ?_
    refine W.qcall (rspan_fc _ _ _ _ _ _ (by first | assumption | omega | (dsimp only; omega))) rfl (g9 1 ?_)
    refine W.qcall (empty_fc _ _ _) rfl (g9 9 ?_)
    refine congrArg Value.bool ?_
    rw [Bool.eq_iff_iff, decide_eq_true_iff]
    simp only [Msg.R]
    first | (simp_all [← Str.b_inj, Str.nil]; done) | (simp_all [← Str.b_inj, Str.nil]; omega)
   refine g9 11 ?_
   refine congrArg Value.bool ?_
   rw [Bool.eq_iff_iff, decide_eq_true_iff]
   simp only [Msg.R]
   first | (simp_all [← Str.b_inj, Str.nil]; done) | (simp_all [← Str.b_inj, Str.nil]; omega)
  refine g9 21 ?_
  refine congrArg Value.bool ?_
  rw [Bool.eq_iff_iff, decide_eq_true_iff]
  simp only [Msg.R]
  first | (simp_all [← Str.b_inj, Str.nil]; done) | (simp_all [← Str.b_inj, Str.nil]; omega)
 refine g9 8 ?_
 refine W.sd 49 (fun h48 p48 => ?_) (fun h48 p48 => ?_)
 ·refine g9 8 ?_
  refine W.sp 54 rfl (fun h52 => ?_) (fun h52 => ?_)
  ·refine g9 8 ?_
   refine W.sd 58 (fun h57 p57 => ?_) (fun h57 p57 => ?_)
   ·refine g9 23 ?_
    refine congrArg Value.bool ?_
    rw [Bool.eq_iff_iff, decide_eq_true_iff]
    simp only [Msg.R]
    first | (simp_all [← Str.b_inj, Str.nil]; done) | (simp_all [← Str.b_inj, Str.nil]; omega)
   refine g9 10 ?_
   refine W.sd 63 (fun h61 p61 => ?_) (fun h61 p61 => ?_)
   ·refine g9 16 ?_
    refine congrArg Value.bool ?_
    rw [Bool.eq_iff_iff, decide_eq_true_iff]
    simp only [Msg.R]
    first | (simp_all [← Str.b_inj, Str.nil]; done) | (simp_all [← Str.b_inj, Str.nil]; omega)
   refine g9 8 ?_
   refine W.sd 67 (fun h66 p66 => ?_) (fun h66 p66 => ?_)
   ·refine g9 16 ?_
    refine congrArg Value.bool ?_
    rw [Bool.eq_iff_iff, decide_eq_true_iff]
    simp only [Msg.R]
    first | (simp_all [← Str.b_inj, Str.nil]; done) | (simp_all [← Str.b_inj, Str.nil]; omega)
   refine g9 13 ?_
   refine congrArg Value.bool ?_
   rw [Bool.eq_iff_iff, decide_eq_true_iff]
   simp only [Msg.R]
   first | (simp_all [← Str.b_inj, Str.nil]; done) | (simp_all [← Str.b_inj, Str.nil]; omega)
  refine g9 24 ?_
  refine congrArg Value.bool ?_
  rw [Bool.eq_iff_iff, decide_eq_true_iff]
  simp only [Msg.R]
  first | (simp_all [← Str.b_inj, Str.nil]; done) | (simp_all [← Str.b_inj, Str.nil]; omega)
 refine g9 29 ?_
 refine congrArg Value.bool ?_
 rw [Bool.eq_iff_iff, decide_eq_true_iff]
 simp only [Msg.R]
 first | (simp_all [← Str.b_inj, Str.nil]; done) | (simp_all [← Str.b_inj, Str.nil]; omega)

theorem mall_fc {G : GH} {v_l : Value} {l : List Msg} (h_l : SlR eMsg G v_l l) :
    Fc Tryz.prog 120 [v_l] G [] (fun v _ _ => v = .bool (decide (MsgsR l))) := by
 obtain ⟨sa_l, sc_l, rfl⟩ := h_l.form
 have hl := h_l.len47
 refine Fc.go [.tmp 2] Tryz.func120 Tryz.ntmps120 rfl (fun w0 => (g9 12 ?_))
 refine WC.loop (X := Nat) (fun k => [(3, nt9 k), (0, lV sa_l l.length sc_l)]) (fun k _ Ml => Ml = [] ∧ ∀ i (h : i < l.length), i < k → l[i].R ∧ (0 < i → (l[i - 1]'om9).stamp < l[i].stamp)) (fun k => l.length - k) 0 hs9 ?_ ?_
 ·exact ⟨rfl, fun i _ h => by omega⟩
 rintro k gG2 G2 _ hG2 ⟨rfl, hk⟩
 refine g9 9 ?_
 refine WC.cd (fun h7 p7 => ?_) (fun h7 p7 => ?_)
 ·refine g9 8 ?_
  refine (h_l.mono hG2).a2 (i := k) om9 (fun he3 hm4 => (g9 2 ?_))
  refine W.qcall (mright_fc _ _ _ _ _ _) rfl (g9 2 ?_)
  refine W.sp 16 rfl (fun h15 => ?_) (fun h15 => ?_)
  ·refine g9 32 ?_
   refine congrArg Value.bool ?_
   exact (decide_eq_false fun h => by obtain ⟨q1, q2⟩ := h k om9; first | (have := q2 om9; omega) | (simp [q1] at h15)).symm
  refine g9 6 ?_
  refine W.sd 19 (fun h18 p18 => ?_) (fun h18 p18 => ?_)
  ·refine g9 5 ?_
   refine (h_l.mono hG2).a2 (i := k) om9 (fun he8 hm9 => (g9 12 ?_))
   refine (h_l.mono hG2).a2 (i := k - 1) om9 (fun he13 hm14 => (W.ok (ok_indexAddr (i := k - 1) sl51 ty90 (h_l.mono hG2) rfl rfl ⟨om9, om9⟩) (g9 11 ?_)))
   refine WC.cd (fun h31 p31 => ?_) (fun h31 p31 => ?_)
   ·refine g9 12 ?_
    refine congrArg Value.bool ?_
    exact (decide_eq_false fun h => by obtain ⟨q1, q2⟩ := h k om9; first | (have := q2 om9; omega) | (simp [q1] at h15)).symm
   refine g9 9 ?_
   exact ⟨Le.rfl, k + 1, hs9, ⟨rfl, fun i h hi => by
      by_cases e : i = k
      · subst e; exact ⟨by simpa using h15, fun h0 => by omega⟩
      · exact hk i h om9⟩, om9⟩
  refine g9 27 ?_
  exact ⟨Le.rfl, k + 1, hs9, ⟨rfl, fun i h hi => by
      by_cases e : i = k
      · subst e; exact ⟨by simpa using h15, fun h0 => by omega⟩
      · exact hk i h om9⟩, om9⟩
 refine g9 12 ?_
 refine congrArg Value.bool ?_
 exact (decide_eq_true fun i h => hk i h om9).symm

theorem msizes_fc {G : GH} {v_l : Value} {l : List Msg} (h_l : SlR eMsg G v_l l) (hs : ∀ m ∈ l, m.key.b.size ≤ 16 ∧ m.val.b.size ≤ 16) :
    Fc Tryz.prog 116 [v_l] G [] (fun v _ _ => v = iV (sizesN l)) := by
 obtain ⟨sa_l, sc_l, rfl⟩ := h_l.form
 have hl := h_l.len47
 refine Fc.go [.tmp 2] Tryz.func116 Tryz.ntmps116 rfl (fun w0 => (g9 17 ?_))
 refine WC.loop (X := Nat) (fun k => [(3, iV (sizesN (l.take k))), (4, nt9 k), (0, lV sa_l l.length sc_l)]) (fun k _ Ml => Ml = [] ∧ k ≤ l.length ∧ 0 ≤ sizesN (l.take k) ∧ sizesN (l.take k) ≤ 36 * k) (fun k => l.length - k) 0 hs9 ?_ ?_
 ·exact ⟨rfl, om9, by simp [sizesN], by simp [sizesN]⟩
 rintro k gG18 G18 _ hG18 ⟨rfl, hk, h0, h36⟩
 refine g9 9 ?_
 refine WC.cd (fun h8 p8 => ?_) (fun h8 p8 => ?_)
 ·have hz := sizes_succ (l := l) (k := k) om9
  have hz2 := size_36 (hs l[k] (List.getElem_mem _))
  have he : Msg.size ⟨l[k].stamp, l[k].kind, l[k].key, l[k].hi, l[k].opn, l[k].val⟩ = l[k].size := rfl
  refine g9 8 ?_
  refine (h_l.mono hG18).a2 (i := k) om9 (fun he19 hm20 => (g9 2 ?_))
  refine W.qcall (msize_fc _ _ _ _ _ _) rfl (g9 11 ?_)
  exact ⟨Le.rfl, k + 1, ⟨(iv om9), eqv, eqv, trivial⟩, ⟨rfl, om9, om9, om9⟩, om9⟩
 refine g9 13 ?_
 refine congrArg (Value.int .i64) ?_
 rw [List.take_of_length_le om9]

end Go.Proofs.YtfmigmijckdldaaGreat
namespace Go.Proofs.YtfmigmijckdldaaGreat
open Go Go.Fw Go.RowKit
attribute [local irreducible] Ok W WC
theorem mwithout_fc {G : GH} {v_l : Value} {l : List Pair} (h_l : SlR ePair G v_l l) (slo : Str) (shi : Str) (so : Bool) :
    Fc Tryz.prog 171 [v_l, .agg #[sV slo.b, sV shi.b, .bool so]] G [] (fun v G' M' => M' = [] ∧ ∃ u0, v = u0 ∧ SlR ePair G' u0 (l.filter (fun p : Pair => !Span.has ⟨slo, shi, so⟩ p.key))) := by
 obtain ⟨sa_l, sc_l, rfl⟩ := h_l.form
 refine Fc.go [.tmp 4] Tryz.func171 Tryz.ntmps171 rfl (fun w0 => (g9 2 ?_))
 refine W.box (L := [sV _, sV _, .bool _]) rfl rfl (fun b1 => (g9 6 ?_))
 refine W.call (Mp := []) (clonepo_fc h_l) rfl pr9 ?_
 rintro v3 G2 Ms4 hG2 ho5
 refine W.perm (pmC pr9).symm (W.giveB (b := b1) (L := [sV _, sV _, .bool _]) pr9 (fun G6 hG6 hc6 => (W.ok (ok_makeFn (fst := []) (caps := [.tmp 3]) (vs := []) (ws := [pt9 b1]) rfl rfl) (W.call (Mp := Ms4) (dfp_fc (ho5.mono hG6) _ _ _ hc6) rfl pr9 ?_))))
 rintro v8 G7 Ms9 hG7 ho10
 refine g9 3 ?_
 refine WC.giveO ho10 pr9 (fun G11 hG11 hv11 => (g9 2 ?_))
 refine ⟨rfl, _, rfl, ?_⟩
 · exact hv11

theorem mtake_fc {G : GH} {v_l : Value} {l : List Pair} (h_l : SlR ePair G v_l l) (ms : Int) (mk : Int) (mkey : Str) (mhi : Str) (mo : Bool) (mv : Str) (hP : PairsR l) (hn : l.length ≤ 1000000) (hk : Msg.fit (⟨ms, mk, mkey, mhi, mo, mv⟩ : Msg)) :
    Fc Tryz.prog 161 [v_l, .agg #[iV ms, iV mk, sV mkey.b, sV mhi.b, .bool mo, sV mv.b]] G [] (fun v G' M' => M' = [] ∧ ∃ u0, v = u0 ∧ SlR ePair G' u0 (takeN l (⟨ms, mk, mkey, mhi, mo, mv⟩ : Msg))) := by
 obtain ⟨sa_l, sc_l, rfl⟩ := h_l.form
 obtain ⟨hk1, hk2, hk3⟩ := hk
 dsimp only at hk1 hk2 hk3
 have hl := h_l.len47
 have hov := on_val (m := (⟨ms, mk, mkey, mhi, mo, mv⟩ : Msg)) mkey hk3
 refine Fc.go [.tmp 4] Tryz.func161 Tryz.ntmps161 rfl (fun w0 => (g9 2 ?_))
 refine W.box (L := [iV _, iV _, sV _, sV _, .bool _, sV _]) rfl rfl (fun b12 => (g9 11 ?_))
 refine WC.cd (fun h7 p7 => ?_) (fun h7 p7 => ?_)
 ·refine g9 4 ?_
  refine W.qcall (mspan_fc _ _ _ _ _ _ (by first | assumption | omega | (dsimp only; omega))) rfl (W.cS (mwithout_fc h_l (Msg.span (⟨ms, mk, mkey, mhi, mo, mv⟩ : Msg)).lo (Msg.span (⟨ms, mk, mkey, mhi, mo, mv⟩ : Msg)).hi (Msg.span (⟨ms, mk, mkey, mhi, mo, mv⟩ : Msg)).opn) rfl (fun sa_hv14 sc_hv14 G13 hG13 hv14 => (g9 6 ?_)))
  refine ⟨rfl, _, rfl, ?_⟩
  · have h := hv14; rw [takeN, if_pos p7]; exact h
 refine g9 3 ?_
 refine WC.dw sr9.k9 (d9 [0, 1, 2, 3, 4, 5] ?_)
 refine WD.a1 6 rfl (W.qcall (mon_fc ms mk mkey mhi mo mv mkey om9) rfl (W.nn (WD.a1 7 rfl (W.cS (mwith_fc h_l mkey (Msg.on (⟨ms, mk, mkey, mhi, mo, mv⟩ : Msg) mkey).kind (Msg.on (⟨ms, mk, mkey, mhi, mo, mv⟩ : Msg) mkey).val hP hn om9) rfl (fun sa_hv21 sc_hv21 G20 hG20 hv21 => (W.nn (d9 [8] ?_)))))))
 refine g9 4 ?_
 refine ⟨rfl, _, rfl, ?_⟩
 · have h := hv21; rw [takeN, if_neg p7]; exact h

theorem rtakeF_fc {G : GH} {v_l : Value} {l : List Pair} (h_l : SlR ePair G v_l l) (ms : Int) (mk : Int) (mkey : Str) (mhi : Str) (mo : Bool) (mv : Str) (hP : PairsR l) (hn : l.length ≤ 1000000) (hk : Msg.fit (⟨ms, mk, mkey, mhi, mo, mv⟩ : Msg)) :
    Fc Tryz.prog 117 [v_l, .agg #[iV ms, iV mk, sV mkey.b, sV mhi.b, .bool mo, sV mv.b]] G [] (fun v G' M' => M' = [] ∧ ∃ u0, v = u0 ∧ SlR ePair G' u0 (takeN l (⟨ms, mk, mkey, mhi, mo, mv⟩ : Msg))) := by
 obtain ⟨sa_l, sc_l, rfl⟩ := h_l.form
 obtain ⟨hk1, hk2, hk3⟩ := hk
 dsimp only at hk1 hk2 hk3
 have hl := h_l.len47
 have hov := on_val (m := (⟨ms, mk, mkey, mhi, mo, mv⟩ : Msg)) mkey hk3
 refine Fc.go [.tmp 4] Tryz.func117 Tryz.ntmps117 rfl (fun w0 => (g9 2 ?_))
 refine W.box (L := [iV _, iV _, sV _, sV _, .bool _, sV _]) rfl rfl (fun b27 => (g9 11 ?_))
 refine WC.cn (fun h9 p9 => ?_) (fun h9 p9 => ?_)
 ·refine WC.seq (WC.dw sr9.k9 (d9 [0, 1, 2, 3, 4, 5] ?_))
  refine WD.a1 6 rfl (W.qcall (ron_fc ms mk mkey mhi mo mv mkey om9) rfl (W.nn (WD.a1 7 rfl (W.cS (rwith_fc h_l mkey (Msg.on (⟨ms, mk, mkey, mhi, mo, mv⟩ : Msg) mkey).kind (Msg.on (⟨ms, mk, mkey, mhi, mo, mv⟩ : Msg) mkey).val hP hn om9) rfl (fun sa_hv29 sc_hv29 G28 hG28 hv29 => (W.nn (d9 [8] ?_)))))))
  refine g9 5 ?_
  refine ⟨rfl, _, rfl, ?_⟩
  · have h := hv29; rw [takeN, if_neg (by simpa using h9)]; exact h
 refine g9 14 ?_
 refine WC.loop (X := (Nat) × Value × MH) (fun i => [(6, nt9 i.1), (3, pt9 b27), (0, lV sa_l l.length sc_l), (5, i.2.1)]) (fun i G Ml => Ml = ((b27, ce9 90 [iV ms, iV mk, sV mkey.b, sV mhi.b, .bool mo, sV mv.b]) :: (i.2.2 ++ [])) ∧ OwnR ePair 92 G i.2.1 (List.filter (fun p : Pair => !(Msg.span (⟨ms, mk, mkey, mhi, mo, mv⟩ : Msg)).has p.key) (l.take i.1)) i.2.2 ∧ i.1 ≤ l.length) (fun i => l.length - i.1) (0, lV none 0 0, ([] : MH)) hs9 ?_ ?_
 ·exact ⟨rfl, (by simpa using OwnR.nil), om9⟩
 rintro ⟨i, v_5, M_5⟩ gG35 G35 _ hG35 ⟨rfl, ho_5, hi⟩
 try dsimp only at ho_5 hi
 have hfl := filt_le (fun p : Pair => !(Msg.span (⟨ms, mk, mkey, mhi, mo, mv⟩ : Msg)).has p.key) l i
 refine WC.fr (f := setL gG35 [(6, nt9 i), (3, pt9 b27), (0, lV sa_l l.length sc_l), (5, v_5)]) rfl (g9 9 ?_)
 refine WC.cd (fun h21 p21 => ?_) (fun h21 p21 => ?_)
 ·refine g9 7 ?_
  refine W.qcall (rspan_fc _ _ _ _ _ _ (by first | assumption | omega | (dsimp only; omega))) rfl (g9 2 ?_)
  refine (h_l.mono hG35).a1 (i := i) om9 (fun he36 => (g9 3 ?_))
  refine W.qcall (has_fc _ _ _ _) rfl (g9 3 ?_)
  refine WC.cond rfl (fun h32 => ?_) (fun h32 => ?_)
  ·refine g9 4 ?_
   refine (h_l.mono hG35).a1 (i := i) om9 (fun he39 => (g9 2 ?_))
   refine W.lit (e := ePair) (l := [((l)[i])]) (css := [[sV _, sV _]]) sl42 ty92 zr92 rfl rfl rfl rfl rfl rfl ⟨rfl, trivial⟩ (fun bl42 G42 hG42 hv42 => (W.app (e := ePair) sl42 ty92 zr92 rfl by92 rfl rfl ((ho_5.mono hG42)) (hv42) (pmC pr9) (by show (_ + 1) * 32 ≤ _; (try simp only [List.length_append] at *); omega) (fun v43 Ms44 ho45 => (W.perm (pmC pr9).symm (g9 10 ?_)))))
   exact ⟨hG42, (i + 1, v43, Ms44), hs9, ⟨rfl, (by have h := ho45; rw [filt_t (p := (fun p : Pair => !(Msg.span (⟨ms, mk, mkey, mhi, mo, mv⟩ : Msg)).has p.key)) om9 (by simpa using h32)]; exact h), om9⟩, om9⟩
  refine g9 9 ?_
  exact ⟨Le.rfl, (i + 1, v_5, M_5), hs9, ⟨rfl, (by have h := ho_5; rw [filt_f (p := (fun p : Pair => !(Msg.span (⟨ms, mk, mkey, mhi, mo, mv⟩ : Msg)).has p.key)) om9 (by simpa using h32)]; exact h), om9⟩, om9⟩
 refine g9 11 ?_
 refine WC.giveO ho_5 (pmC pr9) (fun G46 hG46 hv46 => (g9 2 ?_))
 refine ⟨rfl, _, rfl, ?_⟩
 · have h := hv46; rw [List.take_of_length_le om9] at h; rw [takeN, if_pos (by simpa using h9)]; exact h

theorem rfoldF_fc {G : GH} {v_l : Value} {l : List Pair} (h_l : SlR ePair G v_l l) {v_ms : Value} {ms : List Msg} (h_ms : SlR eMsg G v_ms ms) (hP : PairsR l) (hn : l.length + ms.length ≤ 1000000) (hm : ∀ m ∈ ms, m.fit) :
    Fc Tryz.prog 81 [v_l, v_ms] G [] (fun v G' M' => M' = [] ∧ ∃ u0, v = u0 ∧ SlR ePair G' u0 (foldN l ms)) := by
 obtain ⟨sa_l, sc_l, rfl⟩ := h_l.form
 obtain ⟨sa_ms, sc_ms, rfl⟩ := h_ms.form
 have hl := h_l.len47
 have hlm := h_ms.len47
 refine Fc.go [.tmp 4] Tryz.func81 Tryz.ntmps81 rfl (fun w0 => (g9 7 ?_))
 refine W.lit0 (e := ePair) sl42 ty92 zr92 rfl (fun v47 Ms48 ho49 => (W.mv (W.app (e := ePair) sl42 ty92 zr92 rfl by92 rfl rfl (ho49) (h_l) pr9 (by show (0 + _) * 32 ≤ _; omega) (fun v50 Ms51 ho52 => (g9 10 ?_)))))
 refine WC.giveO (ho52) pr9 (fun G53 hG53 hv53 => ?_)
 refine WC.loop (X := (Nat) × Value) (fun k => [(6, nt9 k.1), (1, lV sa_ms ms.length sc_ms), (5, k.2)]) (fun k G Ml => Ml = [] ∧ SlR ePair G k.2 (foldN l (ms.take k.1)) ∧ k.1 ≤ ms.length) (fun k => ms.length - k.1) (0, v50) hs9 ?_ ?_
 ·exact ⟨rfl, (by simpa [foldN] using hv53), om9⟩
 rintro ⟨k, v_5⟩ gG54 G54 _ hG54 ⟨rfl, ho_5, hk⟩
 try dsimp only at ho_5 hk
 have hPk := PairsR.foldF (ms := ms.take k) hP (fun m h => hm m (List.mem_of_mem_take h))
 have hnk := fold_lenF (ms := ms.take k) hP (fun m h => hm m (List.mem_of_mem_take h))
 have hkl : (ms.take k).length ≤ k := by simp; omega
 refine WC.fr (f := setL gG54 [(6, nt9 k), (1, lV sa_ms ms.length sc_ms), (5, v_5)]) rfl (g9 9 ?_)
 refine WC.cd (fun h13 p13 => ?_) (fun h13 p13 => ?_)
 ·refine g9 8 ?_
  refine (h_ms.mono (hG53.trans hG54)).a2 (i := k) om9 (fun he55 hm56 => (g9 2 ?_))
  refine W.cS (rtakeF_fc ho_5 ms[k].stamp ms[k].kind ms[k].key ms[k].hi ms[k].opn ms[k].val hPk om9 (hm _ (List.getElem_mem _))) rfl (fun sa_hv61 sc_hv61 G60 hG60 hv61 => (g9 10 ?_))
  exact ⟨hG60, (k + 1, lV sa_hv61 (takeN (foldN l (ms.take k)) ms[k]).length sc_hv61), hs9, ⟨rfl, (by have h := hv61; rw [foldN_succ om9]; exact h), om9⟩, om9⟩
 refine g9 13 ?_
 refine ⟨rfl, _, rfl, ?_⟩
 · have h := ho_5; rw [List.take_of_length_le om9] at h; exact h

end Go.Proofs.YtfmigmijckdldaaGreat
