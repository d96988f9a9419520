/- Walks of functions that change maps. -/
import Derived.Test.YthmkpaoolhcibaaDoorW7
import Derived.Test.YthmkpaoolhcibaaDoorWa
import Derived.Test.YthmkpaoolhcibaaDoorWb
import Derived.Test.YthmkpaoolhcibaaDoorW2
import Derived.Test.YthmkpaoolhcibaaDoorMi
namespace Go.Proofs.YthmkpaoolhcibaaDoor
open Go Go.Fw Go.RowKit
set_option maxRecDepth 100000
set_option maxHeartbeats 1600000
set_option linter.unusedVariables false
set_option linter.unusedSimpArgs false
set_option linter.unnecessarySimpa false
theorem clonepo_fc {G : GH} {v_a : Value} {a : List Pair} (h_a : SlR ePair G v_a a) :
    Fc Tryd.prog 26 [v_a] G [] (fun v G' M' => OwnR ePair 45 G' v (a) M') := by
 obtain ⟨sa_a, sc_a, rfl⟩ := h_a.form
 have ha := h_a.bytes
 refine Fc.intro (rs := [.tmp 2]) cl26 Tryd.func26 rfl Tryd.ntmps26 rfl rfl (fun w0 => ?_)
 refine WC.seq ?_
 refine WC.region ?_
 refine W.as ?_
 refine W.nil (thn_n ?_)
 refine WC.seq ?_
 refine WC.seq ?_
 refine WC.region ?_
 refine W.mv ?_
 refine W.ok (ok_eqlNil sl25 rfl rfl) ?_
 refine W.nil (thn_n ?_)
 refine WC.cond (b := _) rfl (fun h4 => ?_) (fun h4 => ?_)
 ·have hn := SlR.isNone h_a h4
  subst hn
  refine WC.seq ?_
  refine WC.region ?_
  refine W.as ?_
  refine W.nil (thn_n ?_)
  refine WC.ret (thn_r ?_)
  refine ⟨.inr rfl, [_], ⟨rfl, trivial⟩, [], List.nil_sublist _, ?_⟩
  exact OwnR.nil
 ·refine WC.skip (thn_n ?_)
  refine WC.seq ?_
  refine WC.region ?_
  refine W.lit0 (e := ePair) sl25 ty45 zr45 rfl (fun v1 Ms2 ho3 => ?_)
  refine W.mv ?_
  refine W.app (e := ePair) sl25 ty45 zr45 rfl by45 rfl rfl (ho3) (h_a) (List.Perm.refl _) (by simpa using ha) (fun v4 Ms5 ho6 => ?_)
  refine W.as ?_
  refine W.nil (thn_n ?_)
  refine WC.ret ?_
  refine ⟨.inr rfl, [_], ⟨rfl, trivial⟩, Ms5, List.sublist_append_left _ _, ?_⟩
  have h := ho6
  rw [List.nil_append] at h
  exact h

theorem mwith_fc {G : GH} {v_l : Value} {l : List Pair} (h_l : SlR ePair G v_l l) (k : Str) (ek : Int) (ev : Str) (hP : PairsR l) (hn : l.length ≤ 1000000) (he : ev.b.size ≤ 1048576) :
    Fc Tryd.prog 55 [v_l, .string k.b, .agg #[.int .i64 ek, .string ev.b]] G [] (fun v G' M' => M' = [] ∧ ∃ u0, v = u0 ∧ SlR ePair G' u0 (withN l k (⟨ek, ev⟩ : Eff))) := by
 obtain ⟨sa_l, sc_l, rfl⟩ := h_l.form
 have hl := h_l.len47
 have hgv := hP.val k
 have hr := hP.srt
 have hh := hr.has k
 have hfl := fndN_le l k
 refine Fc.intro (rs := [.tmp 6]) cl55 Tryd.func55 rfl Tryd.ntmps55 rfl rfl (fun w0 => ?_)
 refine WC.seq ?_
 refine WC.region ?_
 refine W.box (L := [.int .i64 _, .string _]) rfl rfl (fun b7 => ?_)
 refine W.as ?_
 refine W.nil (thn_n ?_)
 refine WC.seq ?_
 refine WC.region ?_
 refine W.mv ?_
 refine W.mv ?_
 refine W.qcall (find_fc h_l _ (by assumption)) rfl ?_
 refine W.mv ?_
 refine W.ok (ok_extract rfl rfl) ?_
 refine W.ok (ok_extract rfl rfl) ?_
 refine W.as ?_
 refine W.as ?_
 refine W.nil (thn_n ?_)
 refine WC.seq ?_
 refine WC.region ?_
 refine W.as ?_
 refine W.nil (thn_n ?_)
 refine WC.seq ?_
 refine WC.seq ?_
 refine WC.region ?_
 refine W.mv ?_
 refine W.nil (thn_n ?_)
 refine WC.cond (b := _) rfl (fun h16_1 => ?_) (fun h16_1 => ?_)
 ·have hs1 : (getN l k).isSome = true := h16_1
  obtain ⟨q1, q2⟩ := of_decide_eq_true (hh.symm.trans hs1)
  have hvk := hr.val q1 q2
  refine WC.region ?_
  refine W.mv ?_
  refine W.mv ?_
  have q10 := h_l.at (i := fndN l k) (q1)
  refine match q10 with | ⟨_, he8, e_9⟩ => ?_
  subst e_9
  refine W.ok (ok_indexAddr (i := fndN l k) sl25 ty45 h_l rfl rfl ⟨by omega, q1⟩) ?_
  refine W.ok (ok_fieldE fd45_1 rfl he8.form) ?_
  refine W.ok (ok_loadE (vs := [.string _]) ty9 he8 rfl rfl rfl (by simp)) ?_
  refine W.as ?_
  refine W.nil (thn_n ?_)
  refine WC.seq ?_
  refine WC.region ?_
  refine W.mv ?_
  refine W.call (Mp := []) (clonepo_fc h_l) rfl (List.Perm.refl _) ?_
  rintro v12 G11 Ms13 hG11 ho14
  refine W.perm (pmC (List.Perm.refl _)).symm ?_
  refine W.as ?_
  refine W.nil (thn_n ?_)
  refine WC.seq ?_
  refine WC.seq ?_
  refine WC.region ?_
  refine W.ok (ok_loadB (i := 0) (vs := [.int .i64 _, .string _]) ty86 rfl rfl rfl rfl (by simp)) ?_
  refine W.mv ?_
  refine W.mv ?_
  refine W.qcall (eapply_fc ek ev (getN l k).isSome l[fndN l k].val (by omega) (by rw [hvk] at hgv; simpa using Nat.le_trans hgv (by decide))) rfl ?_
  refine W.mv ?_
  refine W.ok (ok_extract rfl rfl) ?_
  refine W.ok (ok_extract rfl rfl) ?_
  refine W.as ?_
  refine W.as ?_
  refine W.nil (thn_n ?_)
  refine WC.block ?_
  refine WC.seq ?_
  refine WC.region ?_
  refine W.mv ?_
  refine W.mv ?_
  refine W.sp 36 rfl (fun h31_0 => ?_) (fun h31_0 => ?_)
  ·have hap : Eff.apply (⟨ek, ev⟩ : Eff) (getN l k) = some ((Eff.apply (⟨ek, ev⟩ : Eff) (optS (getN l k).isSome l[fndN l k].val)).getD Str.nil) := by
     rw [hs1, hvk] at *; simp only [optS, if_true] at *; exact isSome_getD h31_0
   refine W.yes (dj := 36) rfl rfl h31_0 ?_
   refine W.mv ?_
   refine W.ok (ok_pick_t rfl h31_0) ?_
   refine W.as ?_
   refine W.nil (thn_n ?_)
   refine WC.cond_t rfl h16_1 ?_
   refine WC.region ?_
   refine W.mv ?_
   refine W.mv ?_
   refine W.mv ?_
   have q17 := ho14.at (i := fndN l k) (q1)
   refine match q17 with | ⟨_, he15, e_16⟩ => ?_
   subst e_16
   refine W.ok (ok_indexAddrO (i := fndN l k) sl25 ty45 ho14 rfl rfl ⟨by omega, q1⟩) ?_
   refine W.ok (ok_fieldE fd45_1 rfl he15.form) ?_
   refine W.storeO (i := fndN l k) (o := 1) (vs := [.string _]) (a' := ⟨l[fndN l k].key, (((Eff.apply (⟨ek, ev⟩ : Eff) (optS (getN l k).isSome l[fndN l k].val))).getD Str.nil)⟩) ty9 rfl rfl rfl rfl rfl (ho14) (pmC (List.Perm.refl _)) (by omega) (by decide) (fun cs h => by rw [h]; rfl) (fun Ms18 ho19 => ?_)
   refine W.perm (pmC (List.Perm.refl _)).symm ?_
   refine W.nil (blk_n (thn_n ?_))
   refine WC.seq ?_
   refine WC.region ?_
   refine W.mv ?_
   refine W.as ?_
   refine W.nil (thn_n ?_)
   refine WC.giveO ho19 (pmC (List.Perm.refl _)) (fun G20 hG20 hv20 => ?_)
   refine WC.ret ?_
   refine ⟨.inr rfl, [_], ⟨rfl, trivial⟩, [], List.nil_sublist _, ?_⟩
   refine ⟨rfl, _, rfl, ?_⟩
   · have h := hv20; rw [with_set hr q1 q2 hap] at h; exact h
  ·have hap : Eff.apply (⟨ek, ev⟩ : Eff) (getN l k) = none := by
     rw [hs1, hvk] at *; simp only [optS, if_true] at *; simpa using h31_0
   refine W.no (dj := 36) rfl rfl h31_0 ?_
   refine W.ok (ok_pick_f rfl h31_0) ?_
   refine W.as ?_
   refine W.nil (thn_n ?_)
   refine WC.cond_f rfl rfl ?_
   refine WC.seq ?_
   refine WC.region ?_
   refine W.mv ?_
   refine W.as ?_
   refine W.nil (thn_n ?_)
   refine WC.cond_f rfl h31_0 ?_
   refine WC.seq ?_
   refine WC.region ?_
   refine W.mv ?_
   refine W.as ?_
   refine W.nil (thn_n ?_)
   refine WC.cond_t rfl h16_1 ?_
   refine WC.region ?_
   refine W.mv ?_
   refine W.mv ?_
   refine W.mv ?_
   refine W.ok (Ok.int (n := ((fndN l k + 1 : Nat) : Int)) (ok_add rfl rfl (by omega)) (by omega)) ?_
   refine W.call (Mp := Ms13) (delp_fc ho14 _ _ (by first | assumption | omega)) rfl (pmC (List.Perm.refl _)) ?_
   rintro v22 G21 Ms23 hG21 ho24
   refine W.perm (pmC (List.Perm.refl _)).symm ?_
   refine W.as ?_
   refine W.nil (blk_n (thn_n ?_))
   refine WC.seq ?_
   refine WC.region ?_
   refine W.mv ?_
   refine W.as ?_
   refine W.nil (thn_n ?_)
   refine WC.giveO ho24 (pmC (List.Perm.refl _)) (fun G25 hG25 hv25 => ?_)
   refine WC.ret ?_
   refine ⟨.inr rfl, [_], ⟨rfl, trivial⟩, [], List.nil_sublist _, ?_⟩
   refine ⟨rfl, _, rfl, ?_⟩
   · have h := hv25; rw [with_del hr q1 q2 hap] at h; exact h
 ·have hn0 : (getN l k).isSome = false := h16_1
  have hnn : getN l k = none := by simpa using hn0
  refine WC.skip (thn_n ?_)
  refine WC.seq ?_
  refine WC.region ?_
  refine W.mv ?_
  refine W.call (Mp := []) (clonepo_fc h_l) rfl (List.Perm.refl _) ?_
  rintro v27 G26 Ms28 hG26 ho29
  refine W.perm (pmC (List.Perm.refl _)).symm ?_
  refine W.as ?_
  refine W.nil (thn_n ?_)
  refine WC.seq ?_
  refine WC.seq ?_
  refine WC.region ?_
  refine W.ok (ok_loadB (i := 0) (vs := [.int .i64 _, .string _]) ty86 rfl rfl rfl rfl (by simp)) ?_
  refine W.mv ?_
  refine W.mv ?_
  refine W.qcall (eapply_fc ek ev (getN l k).isSome Str.nil (by omega) (by show (ByteArray.mk #[]).size ≤ _; decide)) rfl ?_
  refine W.mv ?_
  refine W.ok (ok_extract rfl rfl) ?_
  refine W.ok (ok_extract rfl rfl) ?_
  refine W.as ?_
  refine W.as ?_
  refine W.nil (thn_n ?_)
  refine WC.block ?_
  refine WC.seq ?_
  refine WC.region ?_
  refine W.mv ?_
  refine W.mv ?_
  refine W.sp 36 rfl (fun h31_0 => ?_) (fun h31_0 => ?_)
  ·have hap : Eff.apply (⟨ek, ev⟩ : Eff) (getN l k) = some ((Eff.apply (⟨ek, ev⟩ : Eff) (optS (getN l k).isSome Str.nil)).getD Str.nil) := by
     rw [hn0, hnn] at *; simp only [optS] at *; exact isSome_getD h31_0
   refine W.yes (dj := 36) rfl rfl h31_0 ?_
   refine W.mv ?_
   refine W.ok (ok_pick_t rfl h31_0) ?_
   refine W.as ?_
   refine W.nil (thn_n ?_)
   refine WC.cond_f rfl h16_1 ?_
   refine WC.seq ?_
   refine WC.region ?_
   refine W.mv ?_
   refine W.as ?_
   refine W.nil (thn_n ?_)
   refine WC.cond_t rfl h31_0 ?_
   refine WC.region ?_
   refine W.mv ?_
   refine W.mv ?_
   refine W.mv ?_
   refine W.mv ?_
   refine W.ok (ok_build (L := [.string _, .string _]) pl45 zr45 rfl rfl rfl) ?_
   refine W.litO (e := ePair) (l := [⟨k, (((Eff.apply (⟨ek, ev⟩ : Eff) (optS (getN l k).isSome Str.nil))).getD Str.nil)⟩]) (css := [[.string _, .string _]]) sl25 ty45 zr45 rfl rfl rfl rfl rfl rfl ⟨rfl, trivial⟩ (fun v30 Ms31 ho32 => ?_)
   refine W.perm (pmC (List.Perm.refl _)).symm ?_
   refine W.call (Mp := Ms28 ++ Ms31) (insp_fc ho29 _ ho32 (by first | assumption | omega) (by first | assumption | omega | simp) (by first | assumption | omega | (simp; omega))) rfl ((List.Perm.of_eq (List.append_assoc _ _ _)).trans ((List.Perm.append_left _ (pmC (List.Perm.refl _))).trans (pmC (pmA (List.Perm.refl _))))) ?_
   rintro v34 G33 Ms35 hG33 ho36
   refine W.perm (pmC (List.Perm.refl _)).symm ?_
   refine W.as ?_
   refine W.nil (blk_n (thn_n ?_))
   refine WC.seq ?_
   refine WC.region ?_
   refine W.mv ?_
   refine W.as ?_
   refine W.nil (thn_n ?_)
   refine WC.giveO ho36 (pmC (List.Perm.refl _)) (fun G37 hG37 hv37 => ?_)
   refine WC.ret ?_
   refine ⟨.inr rfl, [_], ⟨rfl, trivial⟩, [], List.nil_sublist _, ?_⟩
   refine ⟨rfl, _, rfl, ?_⟩
   · have h := hv37; rw [with_ins hr hn0 hap] at h; exact h
  ·have hap : Eff.apply (⟨ek, ev⟩ : Eff) (getN l k) = none := by
     rw [hn0, hnn] at *; simp only [optS] at *; simpa using h31_0
   refine W.no (dj := 36) rfl rfl h31_0 ?_
   refine W.ok (ok_pick_f rfl h31_0) ?_
   refine W.as ?_
   refine W.nil (thn_n ?_)
   refine WC.cond_f rfl rfl ?_
   refine WC.seq ?_
   refine WC.region ?_
   refine W.mv ?_
   refine W.as ?_
   refine W.nil (thn_n ?_)
   refine WC.cond_f rfl h31_0 ?_
   refine WC.seq ?_
   refine WC.region ?_
   refine W.mv ?_
   refine W.as ?_
   refine W.nil (thn_n ?_)
   refine WC.cond_f rfl h16_1 ?_
   refine WC.skip (blk_n (thn_n ?_))
   refine WC.seq ?_
   refine WC.region ?_
   refine W.mv ?_
   refine W.as ?_
   refine W.nil (thn_n ?_)
   refine WC.giveO ho29 (pmC (List.Perm.refl _)) (fun G38 hG38 hv38 => ?_)
   refine WC.ret ?_
   refine ⟨.inr rfl, [_], ⟨rfl, trivial⟩, [], List.nil_sublist _, ?_⟩
   refine ⟨rfl, _, rfl, ?_⟩
   · have h := hv38; rw [with_not hr hn0 hap] at h; exact h

end Go.Proofs.YthmkpaoolhcibaaDoor
