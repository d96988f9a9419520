/- Walks of slices.Insert and slices.Delete at rows. -/
import Derived.Test.YtemoalimclnfkaaGreatQjW7
set_option maxRecDepth 100000
set_option maxHeartbeats 1600000
set_option linter.unusedVariables false
set_option linter.unusedSimpArgs false
set_option linter.unnecessarySimpa false
namespace Go.Proofs.YtemoalimclnfkaaGreat
open Go Go.Fw Go.RowKit
attribute [local irreducible] Ok W WC
theorem insp_fc {G : GH} {v_s : Value} {s : List Pair} {Ms_s : MH} (h_s : OwnR ePair 84 G v_s s Ms_s) (i : Nat) {v_u : Value} {u : List Pair} {Ms_u : MH} (h_u : OwnR ePair 84 G v_u u Ms_u) (hi : i ≤ s.length) (hu : 0 < u.length) (hw : (s.length + u.length) * 32 ≤ 140737488355328) :
    Fc Tryz.prog 118 [v_s, nt9 i, v_u] G (Ms_s ++ Ms_u) (fun v G' M' => OwnR ePair 84 G' v ((s.take i ++ u) ++ s.drop i) M') := by
 have hs := h_s.len47
 have hul := h_u.len47
 have hcs := h_s.cap_le
 refine Fc.go [.tmp 6] Tryz.func118 Tryz.ntmps118 rfl (fun w0 => (WC.perm (M' := (Ms_s ++ (Ms_u ++ []))) (by simp) (g9 9 ?_)))
 refine W.ok (ok_sliceO (i) (s.length) sl31 ty84 h_s rfl ⟨_, _, rfl, om9⟩ rfl ⟨om9, .inl om9⟩) (g9 16 ?_)
 refine WC.cd (fun h16 p16 => ?_) (fun h16 p16 => ?_)
 ·exact absurd p16 om9
 refine g9 17 ?_
 refine WC.cd (fun h22 p22 => ?_) (fun h22 p22 => ?_)
 ·refine g9 4 ?_
  refine W.giveO h_u (pmA pr9) (fun G1 hG1 hv1 => ?_)
  have q3 := hv1.form
  refine match q3 with | ⟨_, _, e_2⟩ => ?_
  subst e_2
  refine W.app (e := ePair) sl31 ty84 zr84 rfl by84 rfl rfl ((h_s.mono hG1)) (hv1) pr9 (hw) (fun v4 Ms5 ho6 => (g9 5 ?_))
  refine ⟨.inr rfl, [_], ⟨rfl, trivial⟩, Ms5, List.sublist_append_left _ _, ?_⟩
  have h := ho6
  rw [show (s.take i ++ u) ++ s.drop i = s ++ u from by rw [List.take_of_length_le om9, List.drop_eq_nil_of_le om9, List.append_nil]]
  exact h
 refine g9 7 ?_
 refine W.ok (Ok.int (n := ((s.length + u.length : Nat) : Int)) (ok_add rfl rfl om9) om9) (W.mv ?_)
 have q7 := h_s.capForm
 refine match q7 with | ⟨ac30, hcf30⟩ => ?_
 refine W.ok (ok_capO (c := capV v_s) sl31 hcf30) (g9 3 ?_)
 refine WC.cd (fun h31 p31 => ?_) (fun h31 p31 => ?_)
 ·refine g9 4 ?_
  refine W.ok (ok_sliceO (0) (i) sl31 ty84 h_s rfl rfl ⟨_, _, rfl, om9⟩ ⟨om9, .inl om9⟩) (g9 2 ?_)
  refine W.ok (Ok.int (n := ((s.length + u.length : Nat) : Int)) (ok_add rfl rfl om9) om9) (W.mv (W.ok (Ok.int (n := ((s.length + u.length - i : Nat) : Int)) (ok_sub rfl rfl om9) om9) (W.appZ (e := ePair) (i := i) (c := s.length + u.length - i) sl31 ty84 zr84 rfl by84 Tryz.underlying3 h_s pr9 rfl rfl om9 om9 om9 om9 (by rw [show i + (s.length + u.length - i) = s.length + u.length from by omega]; exact hw) rfl (fun v40 Ms40 hp40 => (g9 7 ?_)))))
  refine W.ok (ok_sliceP (i) (i + (s.length + u.length - i)) sl31 ty84 hp40 rfl ⟨_, _, rfl, om9⟩ rfl ⟨om9, by have := OwnP.cap_le hp40; omega⟩) (W.mv (W.copyP (i) (by simp; omega) sl31 ty84 hp40 pr9 (Src.ofOwn0 h_u (pmA (pmA pr9)) om9) rfl rfl om9 om9 (fun z45 Ms45 hp45 => (g9 3 ?_))))
  refine WC.dw sn9 (d9 [0, 1, 2] ?_)
  refine WD.tk 3 rfl (Ok.int (n := ((i + u.length : Nat) : Int)) (ok_add rfl rfl om9) om9) (WD.tk 4 rfl (ok_sliceP (i + u.length) (i + (s.length + u.length - i)) sl31 ty84 hp45 rfl ⟨_, _, rfl, om9⟩ rfl ⟨om9, by have := OwnP.cap_le hp45; omega⟩) (d9 [5, 6] ?_))
  refine WD.tk 7 rfl (ok_sliceO (i) (s.length) sl31 ty84 h_s rfl ⟨_, _, rfl, om9⟩ rfl ⟨om9, .inl om9⟩) (WD.a1 8 rfl (W.copyP (i + u.length) (by simp; omega) sl31 ty84 hp45 pr9 (Src.ofOwn (lo := i) h_s (pmA pr9) om9 om9) rfl rfl (by simp; omega) om9 (fun z54 Ms54 hp54 => (W.nn (g9 10 ?_)))))
  refine ⟨.inr rfl, [_], ⟨rfl, trivial⟩, Ms54, List.sublist_append_left _ _, ?_⟩
  have h := (hp54.own' (by simp; omega))
  rw [List.append_nil] at h
  exact h
 refine g9 7 ?_
 refine W.ok (Ok.int (n := ((s.length + u.length : Nat) : Int)) (ok_add rfl rfl om9) om9) (W.ok (ok_sliceO 0 (s.length + u.length) sl31 ty84 h_s rfl rfl ⟨_, _, rfl, om9⟩ ⟨om9, .inr om9⟩) ?_)
 have hp60 := OwnP.extend (m := u.length) (OwnR.open h_s om9) om9 hw om9
 refine g9 10 ?_
 refine W.ok (Ok.int (n := ((i + u.length : Nat) : Int)) (ok_add rfl rfl om9) om9) (W.ok (ok_sliceP (i + u.length) (s.length + u.length) sl31 ty84 hp60 rfl ⟨_, _, rfl, om9⟩ rfl ⟨om9, by have := OwnP.cap_le hp60; omega⟩) ?_)
 have hc67 := OwnP.cap_le hp60
 refine W.ok (ok_overlaps (fn := Tryz.f133) (tR := 4) (lo := i + u.length) (hi := s.length + u.length) Tryz.func133 (by kernel_rfl) (by kernel_rfl) (by kernel_rfl) (by kernel_rfl) sl31 ty84 h_u hp60 ((List.Perm.append_left _ pr9).trans (pmA pr9)) om9 om9 rfl rfl rfl) (g9 5 ?_)
 refine WC.dw sn9 (d9 [0, 1, 2] ?_)
 refine WD.tk 3 rfl (Ok.int (n := ((i + u.length : Nat) : Int)) (ok_add rfl rfl om9) om9) (WD.tk 4 rfl (ok_sliceP (i + u.length) (s.length + u.length) sl31 ty84 hp60 rfl ⟨_, _, rfl, om9⟩ rfl ⟨om9, by have := OwnP.cap_le hp60; omega⟩) (d9 [5, 6] ?_))
 refine WD.tk 7 rfl (ok_sliceP (i) (s.length + u.length) sl31 ty84 hp60 rfl ⟨_, _, rfl, om9⟩ rfl ⟨om9, by have := OwnP.cap_le hp60; omega⟩) (WD.a1 8 rfl (W.copyShift (i := i) sl31 ty84 hp60 pr9 rfl rfl om9 (fun z77 Ms77 hp77 => (W.nn (g9 6 ?_)))))
 refine W.ok (ok_sliceP (i) (s.length + u.length) sl31 ty84 hp77 rfl ⟨_, _, rfl, om9⟩ rfl ⟨om9, by have := OwnP.cap_le hp77; omega⟩) (W.mv (W.copyP (i) (by simp; omega) sl31 ty84 hp77 pr9 (Src.ofOwn0 h_u (pmA pr9) om9) rfl rfl om9 om9 (fun z82 Ms82 hp82 => (g9 10 ?_))))
 refine ⟨.inr rfl, [_], ⟨rfl, trivial⟩, Ms82, List.sublist_append_left _ _, ?_⟩
 exact (hp82.own' om9)

theorem delp_fc {G : GH} {v_s : Value} {s : List Pair} {Ms_s : MH} (h_s : OwnR ePair 84 G v_s s Ms_s) (i : Nat) (j : Nat) (hij : i < j ∧ j ≤ s.length) :
    Fc Tryz.prog 119 [v_s, nt9 i, nt9 j] G Ms_s (fun v G' M' => OwnR ePair 84 G' v (s.take i ++ s.drop j) M') := by
 have hs := h_s.len47
 obtain ⟨hij1, hij2⟩ := hij
 refine Fc.go [.tmp 6] Tryz.func119 Tryz.ntmps119 rfl (fun w0 => (WC.perm (M' := (Ms_s ++ [])) (by simp) (g9 12 ?_)))
 have q8 := h_s.capForm
 refine match q8 with | ⟨ac13, hcf13⟩ => ?_
 have hcl13 := h_s.cap_le
 refine W.okx (ok_slice3 i j s.length sl31 ty84 hcf13 ⟨_, _, rfl, om9⟩ ⟨_, _, rfl, om9⟩ ⟨_, _, rfl, om9⟩ ⟨om9, om9, om9⟩) (fun u13 => (g9 10 ?_))
 refine WC.cd (fun h16 p16 => ?_) (fun h16 p16 => ?_)
 ·exact absurd p16 om9
 refine g9 10 ?_
 refine WC.dw sn9 (d9 [0, 1] ?_)
 refine WD.tk 2 rfl (ok_sliceO (0) (i) sl31 ty84 h_s rfl rfl ⟨_, _, rfl, om9⟩ ⟨om9, .inl om9⟩) (d9 [3, 4] ?_)
 refine WD.tk 5 rfl (ok_sliceO (j) (s.length) sl31 ty84 h_s rfl ⟨_, _, rfl, om9⟩ rfl ⟨om9, .inl om9⟩) (WD.a1 6 rfl (W.appDel (e := ePair) (i := i) (j := j) sl31 ty84 zr84 rfl h_s pr9 rfl rfl om9 om9 om9 (fun v26 Ms26 ho26 hc26 hf26 => (W.nn (d9 [7] ?_)))))
 refine g9 8 ?_
 have hl31 : (s.take i ++ s.drop j).length = i + (s.length - j) := by simp; omega
 refine W.ok (ok_sliceO (s.take i ++ s.drop j).length s.length sl31 ty84 ho26 rfl ⟨_, _, rfl, om9⟩ ⟨_, _, rfl, om9⟩ ⟨om9, .inr om9⟩) (W.clearT (e := ePair) (lo := (s.take i ++ s.drop j).length) (hi := s.length) sl31 ty84 zr84 rfl rfl ho26 pr9 rfl om9 hc26 hf26 om9 (fun Ms31 ho31 => (g9 9 ?_)))
 refine ⟨.inr rfl, [_], ⟨rfl, trivial⟩, Ms31, List.sublist_append_left _ _, ?_⟩
 exact ho31

theorem clonepo_fc {G : GH} {v_a : Value} {a : List Pair} (h_a : SlR ePair G v_a a) :
    Fc Tryz.prog 47 [v_a] G [] (fun v G' M' => OwnR ePair 84 G' v (a) M') := by
 obtain ⟨sa_a, sc_a, rfl⟩ := h_a.form
 have ha := h_a.bytes
 refine Fc.go [.tmp 2] Tryz.func47 Tryz.ntmps47 rfl (fun w0 => (g9 9 ?_))
 refine W.ok (ok_eqlNil sl31 rfl rfl) (g9 2 ?_)
 refine WC.cond rfl (fun h4 => ?_) (fun h4 => ?_)
 ·have hn := SlR.isNone h_a h4
  subst hn
  refine g9 8 ?_
  exact OwnR.nil
 refine g9 4 ?_
 refine W.lit0 (e := ePair) sl31 ty84 zr84 rfl (fun v1 Ms2 ho3 => (W.mv (W.app (e := ePair) sl31 ty84 zr84 rfl by84 rfl rfl (ho3) (h_a) pr9 (by simpa using ha) (fun v4 Ms5 ho6 => (g9 4 ?_)))))
 refine ⟨.inr rfl, [_], ⟨rfl, trivial⟩, Ms5, List.sublist_append_left _ _, ?_⟩
 have h := ho6
 rw [List.nil_append] at h
 exact h

theorem mwith_fc {G : GH} {v_l : Value} {l : List Pair} (h_l : SlR ePair G v_l l) (k : Str) (ek : Int) (ev : Str) (hP : PairsR l) (hn : l.length ≤ 1000000) (he : ev.b.size ≤ 1048576) :
    Fc Tryz.prog 98 [v_l, sV k.b, .agg #[iV ek, sV ev.b]] G [] (fun v G' M' => M' = [] ∧ ∃ u0, v = u0 ∧ SlR ePair G' u0 (withN l k (⟨ek, ev⟩ : Eff))) := by
 obtain ⟨sa_l, sc_l, rfl⟩ := h_l.form
 have hl := h_l.len47
 have hgv := hP.val k
 have hr := hP.srt
 have hh := hr.has k
 have hfl := fndN_le l k
 refine Fc.go [.tmp 6] Tryz.func98 Tryz.ntmps98 rfl (fun w0 => (g9 2 ?_))
 refine W.box (L := [iV _, sV _]) rfl rfl (fun b7 => (g9 7 ?_))
 refine W.qcall (find_fc h_l _ (by assumption)) rfl (g9 18 ?_)
 refine WC.cond rfl (fun h16_1 => ?_) (fun h16_1 => ?_)
 ·have hs1 : (getN l k).isSome = true := h16_1
  obtain ⟨q1, q2⟩ := odt (hh.symm.trans hs1)
  have hvk := hr.val q1 q2
  refine g9 3 ?_
  refine h_l.a1 (i := fndN l k) (q1) (fun he8 => (W.ok (ok_indexAddr (i := fndN l k) sl31 ty84 h_l rfl rfl ⟨om9, q1⟩) (g9 8 ?_)))
  refine W.call (Mp := []) (clonepo_fc h_l) rfl pr9 ?_
  rintro v12 G11 Ms13 hG11 ho14
  refine W.perm (pmC pr9).symm (g9 9 ?_)
  refine W.qcall (eapply_fc ek ev (getN l k).isSome l[fndN l k].val om9 (by rw [hvk] at hgv; simpa using Nat.le_trans hgv (by decide))) rfl (g9 12 ?_)
  refine W.sp 36 rfl (fun h31_0 => ?_) (fun h31_0 => ?_)
  ·have hap : Eff.apply (⟨ek, ev⟩ : Eff) (getN l k) = some ((Eff.apply (⟨ek, ev⟩ : Eff) (optS (getN l k).isSome l[fndN l k].val)).getD Str.nil) := by
     rw [hs1, hvk] at *; simp only [optS, if_true] at *; exact isSome_getD h31_0
   refine g9 11 ?_
   refine ho14.a1 (i := fndN l k) (q1) (fun he15 => (W.ok (ok_indexAddrO (i := fndN l k) sl31 ty84 ho14 rfl rfl ⟨om9, q1⟩) (g9 1 ?_)))
   refine W.storeO (i := fndN l k) (o := 1) (vs := sc9) (a' := ⟨l[fndN l k].key, (((Eff.apply (⟨ek, ev⟩ : Eff) (optS (getN l k).isSome l[fndN l k].val))).getD Str.nil)⟩) ty9 rfl rfl rfl rfl rfl (ho14) (pmC pr9) om9 (by decide) (fun cs h => by rw [h]; rfl) (fun Ms18 ho19 => (W.perm (pmC pr9).symm (g9 9 ?_)))
   refine WC.giveO ho19 (pmC pr9) (fun G20 hG20 hv20 => (g9 2 ?_))
   refine ⟨rfl, _, rfl, ?_⟩
   · have h := hv20; rw [with_set hr q1 q2 hap] at h; exact h
  have hap : Eff.apply (⟨ek, ev⟩ : Eff) (getN l k) = none := by
    rw [hs1, hvk] at *; simp only [optS, if_true] at *; simpa using h31_0
  refine g9 24 ?_
  refine W.ok (Ok.int (n := ((fndN l k + 1 : Nat) : Int)) (ok_add rfl rfl om9) om9) (W.call (Mp := Ms13) (delp_fc ho14 _ _ (by first | assumption | omega)) rfl (pmC pr9) ?_)
  rintro v22 G21 Ms23 hG21 ho24
  refine W.perm (pmC pr9).symm (g9 10 ?_)
  refine WC.giveO ho24 (pmC pr9) (fun G25 hG25 hv25 => (g9 2 ?_))
  refine ⟨rfl, _, rfl, ?_⟩
  · have h := hv25; rw [with_del hr q1 q2 hap] at h; exact h
 have hn0 : (getN l k).isSome = false := h16_1
 have hnn : getN l k = none := by simpa using hn0
 refine g9 5 ?_
 refine W.call (Mp := []) (clonepo_fc h_l) rfl pr9 ?_
 rintro v27 G26 Ms28 hG26 ho29
 refine W.perm (pmC pr9).symm (g9 9 ?_)
 refine W.qcall (eapply_fc ek ev (getN l k).isSome Str.nil om9 (by show (ByteArray.mk #[]).size ≤ _; decide)) rfl (g9 12 ?_)
 refine W.sp 36 rfl (fun h31_0 => ?_) (fun h31_0 => ?_)
 ·have hap : Eff.apply (⟨ek, ev⟩ : Eff) (getN l k) = some ((Eff.apply (⟨ek, ev⟩ : Eff) (optS (getN l k).isSome Str.nil)).getD Str.nil) := by
    rw [hn0, hnn] at *; simp only [optS] at *; exact isSome_getD h31_0
  refine g9 19 ?_
  refine W.ok (ok_build (L := [sV _, sV _]) pl84 zr84 rfl rfl rfl) (W.litO (e := ePair) (l := [⟨k, (((Eff.apply (⟨ek, ev⟩ : Eff) (optS (getN l k).isSome Str.nil))).getD Str.nil)⟩]) (css := [[sV _, sV _]]) sl31 ty84 zr84 rfl rfl rfl rfl rfl rfl ⟨rfl, trivial⟩ (fun v30 Ms31 ho32 => (W.perm (pmC pr9).symm (W.call (Mp := Ms28 ++ Ms31) (insp_fc ho29 _ ho32 (by first | assumption | omega) (by first | assumption | omega | simp) (by first | assumption | omega | (simp; omega))) rfl ((List.Perm.of_eq (List.append_assoc _ _ _)).trans ((List.Perm.append_left _ (pmC pr9)).trans (pmC (pmA pr9)))) ?_))))
  rintro v34 G33 Ms35 hG33 ho36
  refine W.perm (pmC pr9).symm (g9 10 ?_)
  refine WC.giveO ho36 (pmC pr9) (fun G37 hG37 hv37 => (g9 2 ?_))
  refine ⟨rfl, _, rfl, ?_⟩
  · have h := hv37; rw [with_ins hr hn0 hap] at h; exact h
 have hap : Eff.apply (⟨ek, ev⟩ : Eff) (getN l k) = none := by
   rw [hn0, hnn] at *; simp only [optS] at *; simpa using h31_0
 refine g9 29 ?_
 refine WC.giveO ho29 (pmC pr9) (fun G38 hG38 hv38 => (g9 2 ?_))
 refine ⟨rfl, _, rfl, ?_⟩
 · have h := hv38; rw [with_not hr hn0 hap] at h; exact h

theorem erows_fc {G : GH} (ek : Int) (ev : Str) :
    Fc Tryz.prog 104 [.agg #[iV ek, sV ev.b]] G [] (fun v _ _ => v = .bool (decide (ek = 1) || decide (ek = 2))) := by
 refine Fc.go [.tmp 2] Tryz.func104 Tryz.ntmps104 rfl (fun w0 => (g9 2 ?_))
 refine W.box (L := [iV _, sV _]) rfl rfl (fun b1 => (g9 9 ?_))
 refine W.sd 6 (fun h5 p5 => ?_) (fun h5 p5 => ?_)
 ·refine g9 9 ?_
  refine congrArg Value.bool ?_
  simp_all
 refine g9 12 ?_
 refine congrArg Value.bool ?_
 simp_all

theorem rowfits_fc {G : GH} {v_l : Value} {l : List Pair} (h_l : SlR ePair G v_l l) (k : Str) (ek : Int) (ev : Str) (n : Int) (hr : Srt l) :
    Fc Tryz.prog 74 [v_l, sV k.b, .agg #[iV ek, sV ev.b], iV n] G [] (fun v _ _ => v = .bool (fitsN l k (⟨ek, ev⟩ : Eff) n)) := by
 obtain ⟨sa_l, sc_l, rfl⟩ := h_l.form
 refine Fc.go [.tmp 8] Tryz.func74 Tryz.ntmps74 rfl (fun w0 => (g9 2 ?_))
 refine W.box (L := [iV _, sV _]) rfl rfl (fun b2 => (g9 7 ?_))
 refine W.qcall (rfind_fc h_l _ (by assumption)) rfl (g9 11 ?_)
 refine W.sp 18 rfl (fun h14_1 => ?_) (fun h14_1 => ?_)
 ·refine g9 15 ?_
  refine congrArg Value.bool ?_
  simp_all [fitsN]
 refine g9 3 ?_
 refine W.qcall (erows_fc _ _) rfl (g9 4 ?_)
 refine W.sp 23 rfl (fun h21 => ?_) (fun h21 => ?_)
 ·refine g9 10 ?_
  refine congrArg Value.bool ?_
  simp_all [fitsN]
 refine g9 14 ?_
 refine congrArg Value.bool ?_
 simp_all [fitsN]

theorem common_fc {G : GH} (a : Str) (b : Str) :
    Fc Tryz.prog 139 [sV a.b, sV b.b] G [] (fun v _ _ => v = nt9 (commonN a b)) := by
 have ha := a.le
 have hb := b.le
 refine Fc.go [.tmp 4] Tryz.func139 Tryz.ntmps139 rfl (fun w0 => (g9 12 ?_))
 refine WC.loop (X := Nat) (fun k => [(5, nt9 k), (0, sV a.b), (1, sV b.b)]) (fun k _ Ml => Ml = [] ∧ k ≤ a.b.size ∧ k ≤ b.b.size ∧ ∀ i, i < k → a.b[i]? = b.b[i]?) (fun k => a.b.size - k) 0 hs9 ?_ ?_
 ·exact ⟨rfl, om9, om9, fun i hi => by omega⟩
 rintro k gG1 G1 _ hG1 ⟨rfl, hk1, hk2, hk3⟩
 refine g9 8 ?_
 refine W.ok (ok_mini rfl rfl) (g9 2 ?_)
 refine W.sd 13 (fun h12 p12 => ?_) (fun h12 p12 => ?_)
 ·refine g9 5 ?_
  refine W.ok (ok_indexS (i := k) st9 rfl rfl ⟨om9, om9⟩) (g9 5 ?_)
  refine W.ok (ok_indexS (i := k) st9 rfl rfl ⟨om9, om9⟩) (g9 5 ?_)
  refine WC.cd (fun h20 p20 => ?_) (fun h20 p20 => ?_)
  ·refine g9 10 ?_
   exact ⟨Le.rfl, k + 1, hs9, ⟨rfl, om9, om9, same_succ hk3 om9 om9 p20⟩, om9⟩
  refine g9 13 ?_
  refine congrArg (Value.int .i64) ?_
  exact congrArg Nat.cast (commonN_ne' hk3 om9 om9 p20).symm
 refine g9 24 ?_
 refine congrArg (Value.int .i64) ?_
 exact congrArg Nat.cast (commonN_end hk1 hk2 hk3 om9).symm

theorem between_fc {G : GH} (a : Str) (b : Str) :
    Fc Tryz.prog 125 [sV a.b, sV b.b] G [] (fun v _ _ => v = .tuple #[sV (Str.b ((betweenN a b).1)), .bool ((betweenN a b).2)]) := by
 have ha := a.le
 have hb := b.le
 refine Fc.go [.tmp 4, .tmp 5] Tryz.func125 Tryz.ntmps125 rfl (fun w0 => (g9 11 ?_))
 refine W.ok (ok_geqS rfl rfl) (g9 2 ?_)
 refine WC.cond rfl (fun h8 => ?_) (fun h8 => ?_)
 ·refine g9 9 ?_
  show Value.tuple #[Value.string _, Value.bool _] = _
  rw [betweenN_f (by simpa [Str.lt] using h8)]; rfl
 have hlt : a.lt b = true := by simpa [Str.lt] using h8
 have hcm := common_lt hlt
 have hcl := commonN_le a b
 refine g9 7 ?_
 refine W.qcall (common_fc _ _) rfl (g9 1 ?_)
 refine W.ok (ok_sliceS (0) (commonN a b + 1) st9 rfl rfl ⟨_, _, rfl, om9⟩ ⟨om9, om9⟩) (g9 6 ?_)
 show Value.tuple #[Value.string _, Value.bool _] = _
 rw [betweenN_t hlt]

theorem rowsh_fc {G : GH} {v_l : Value} {l : List Pair} (h_l : SlR ePair G v_l l) :
    Fc Tryz.prog 106 [v_l] G [] (fun v G' M' => M' = [] ∧ ∃ r : List Pair × List Pair × Str × Bool, r = rowsN l ∧ ∃ u0 u1, v = .tuple #[u0, u1, sV (Str.b (r.2.2.1)), .bool (r.2.2.2)] ∧ SlR ePair G' u0 (r.1) ∧ SlR ePair G' u1 (r.2.1)) := by
 obtain ⟨sa_l, sc_l, rfl⟩ := h_l.form
 have hl := h_l.len47
 have hlb : l.length * 32 ≤ 140737488355328 := h_l.bytes
 refine Fc.go [.tmp 2, .tmp 3, .tmp 4, .tmp 5] Tryz.func106 Tryz.ntmps106 rfl (fun w0 => (g9 16 ?_))
 refine WC.cd (fun h9 p9 => ?_) (fun h9 p9 => ?_)
 ·refine g9 11 ?_
  refine ⟨rfl, _, (rowsN_f om9).symm, _, _, rfl, ?_, ?_⟩
  · exact SlR.nil
  exact SlR.nil
 refine g9 7 ?_
 refine W.ok (ok_quo' rfl rfl om9 om9 om9) (g9 8 ?_)
 refine h_l.a1 (i := (l.length + 1) / 2 - 1) om9 (fun he2 => (W.ok (ok_indexAddr (i := (l.length + 1) / 2 - 1) sl31 ty84 h_l rfl rfl ⟨om9, om9⟩) (g9 4 ?_)))
 refine h_l.a1 (i := (l.length + 1) / 2) om9 (fun he5 => (W.ok (ok_indexAddr (i := (l.length + 1) / 2) sl31 ty84 h_l rfl rfl ⟨om9, om9⟩) (g9 2 ?_)))
 refine W.qcall (between_fc _ _) rfl (g9 7 ?_)
 refine WC.dw sr9 (d9 [0, 1] ?_)
 have hs8 := SlR.slice h_l (lo := 0) (hi := (l.length + 1) / 2) om9 om9
 refine WD.tk 2 rfl (ok_slice (0) ((l.length + 1) / 2) sl31 ty84 h_l rfl rfl ⟨_, _, rfl, om9⟩ ⟨om9, om9⟩) (d9 [4, 5] ?_)
 have hs9 := SlR.slice h_l (lo := (l.length + 1) / 2) (hi := l.length) om9 om9
 refine WD.tk 6 rfl (ok_slice ((l.length + 1) / 2) (l.length) sl31 ty84 h_l rfl ⟨_, _, rfl, om9⟩ rfl ⟨om9, om9⟩) (d9 [8] ?_)
 refine WD.a1 3 rfl (W.cS (clonep_fc hs8) rfl (fun sa_hv11 sc_hv11 G10 hG10 hv11 => (W.nn (WD.a1 7 rfl (W.cS (clonep_fc (hs9.mono hG10)) rfl (fun sa_hv18 sc_hv18 G17 hG17 hv18 => (W.nn (d9 [9, 10, 11, 12] ?_))))))))
 refine g9 4 ?_
 refine ⟨rfl, _, (rowsN_t om9).symm, _, _, rfl, ?_, ?_⟩
 · exact SlR.cast ((hv11.mono hG17)) (by simp)
 exact SlR.cast (hv18) (by simp)

theorem growp_fc {G : GH} (n : Nat) (hb : n * 32 ≤ 140737488355328) :
    Fc Tryz.prog 147 [lV none 0 0, nt9 n] G [] (fun v G' M' => OwnR ePair 84 G' v ([]) M') := by
 refine Fc.go [.tmp 4] Tryz.func147 Tryz.ntmps147 rfl (fun w0 => (g9 12 ?_))
 refine WC.cd (fun h6 p6 => ?_) (fun h6 p6 => ?_)
 ·exact absurd p6 om9
 refine g9 7 ?_
 refine W.ok (ok_capNil sl31 rfl) (W.mv (W.ok (ok_len (e := ePair) sl31 SlR.nil rfl) (W.ok (ok_sub rfl rfl (by simp)) (W.ok (ok_sub rfl rfl (by simp; omega)) (g9 9 ?_)))))
 refine WC.cd (fun h16 p16 => ?_) (fun h16 p16 => ?_)
 ·refine g9 3 ?_
  refine W.ok (ok_capNil sl31 rfl) (W.ok (ok_sliceNil sl31 ty84 rfl rfl) (W.mv (W.appMake (e := ePair) (n := n) sl31 ty84 zr84 rfl by84 Tryz.underlying3 rfl (iv (by simp)) (by simp at p16; omega) hb rfl (fun b_1 c_1 Ms_1 ho_1 => (W.mv (W.ok (ok_len (e := ePair) sl31 SlR.nil rfl) (W.ok (ok_slice0 sl31 ty84 rfl rfl) (g9 10 ?_))))))))
  refine ⟨.inr rfl, [_], ⟨rfl, trivial⟩, Ms_1, List.sublist_append_left _ _, ?_⟩
  exact ho_1
 refine g9 10 ?_
 exact OwnR.nil

theorem concatp_fc {G : GH} {v_l : Value} {l : List (List Pair)} (h_l : SlR (eSl ePair) G v_l l) (hb : l.flatten.length * 32 ≤ 140737488355328) :
    Fc Tryz.prog 135 [v_l] G [] (fun v G' M' => M' = [] ∧ ∃ u0, v = u0 ∧ SlR ePair G' u0 (l.flatten)) := by
 obtain ⟨sa_l, sc_l, rfl⟩ := h_l.form
 have hl := h_l.len47
 refine Fc.go [.tmp 2] Tryz.func135 Tryz.ntmps135 rfl (fun w0 => (g9 19 ?_))
 refine WC.loop (X := Nat) (fun j => [(3, nt9 ((l.take j).flatten.length)), (9, lV sa_l l.length sc_l), (10, nt9 l.length), (11, nt9 j), (0, lV sa_l l.length sc_l)]) (fun j _ Ml => Ml = [] ∧ j ≤ l.length) (fun j => l.length - j) 0 ⟨rfl, eqv, eqv, eqv, eqv, trivial⟩ ?_ ?_
 ·exact ⟨rfl, om9⟩
 rintro j gG24 G24 _ hG24 ⟨rfl, hj⟩
 have hlj := flat_le l j
 have hlj2 := flat_le l (j + 1)
 refine g9 6 ?_
 refine WC.cd (fun h12 p12 => ?_) (fun h12 p12 => ?_)
 ·have hjl := flat_len (l := l) (j := j) om9
  refine g9 6 ?_
  have q28 := (h_l.mono hG24).at (i := j) om9
  refine match q28 with | ⟨_, he25, ⟨_, e_27, hs26⟩⟩ => ?_
  subst e_27
  obtain ⟨sa_hs26, sc_hs26, rfl⟩ := hs26.form
  refine g9 20 ?_
  refine WC.cd (fun h20 p20 => ?_) (fun h20 p20 => ?_)
  ·exact absurd p20 om9
  refine g9 8 ?_
  exact ⟨Le.rfl, j + 1, ⟨(iv (by rw [flat_len om9]; omega)), eqv, eqv, eqv, eqv, trivial⟩, ⟨rfl, om9⟩, om9⟩
 refine g9 8 ?_
 refine W.call (Mp := []) (growp_fc _ (by rw [flat_all om9]; omega)) rfl pr9 ?_
 rintro v30 G29 Ms31 hG29 ho32
 refine g9 12 ?_
 refine WC.loop (X := (Nat) × Value × MH) (fun i => [(25, lV sa_l l.length sc_l), (26, nt9 l.length), (27, nt9 i.1), (6, i.2.1)]) (fun i G Ml => Ml = (i.2.2 ++ []) ∧ OwnR ePair 84 G i.2.1 ((l.take i.1).flatten) i.2.2 ∧ i.1 ≤ l.length) (fun i => l.length - i.1) (0, v30, Ms31) hs9 ?_ ?_
 ·exact ⟨rfl, (by simpa using ho32), om9⟩
 rintro ⟨i, v_6, M_6⟩ gG33 G33 _ hG33 ⟨rfl, ho_6, hi⟩
 try dsimp only at ho_6 hi
 have hli := flat_le l i
 have hli2 := flat_le l (i + 1)
 refine WC.fr (f := setL gG33 [(25, lV sa_l l.length sc_l), (26, nt9 l.length), (27, nt9 i), (6, v_6)]) rfl (g9 6 ?_)
 refine WC.cd (fun h28 p28 => ?_) (fun h28 p28 => ?_)
 ·have hil := flat_len (l := l) (j := i) om9
  refine g9 6 ?_
  have q37 := (h_l.mono ((hG24.trans hG29).trans hG33)).at (i := i) om9
  refine match q37 with | ⟨_, he34, ⟨_, e_36, hs35⟩⟩ => ?_
  subst e_36
  obtain ⟨sa_hs35, sc_hs35, rfl⟩ := hs35.form
  refine g9 8 ?_
  refine W.app (e := ePair) sl31 ty84 zr84 rfl by84 rfl rfl (ho_6) (hs35) pr9 (by show ((l.take i).flatten.length + l[i].length) * 32 ≤ 140737488355328; omega) (fun v38 Ms39 ho40 => (g9 9 ?_))
  exact ⟨Le.rfl, (i + 1, v38, Ms39), hs9, ⟨rfl, (by have h := ho40; rw [flat_succ om9]; exact h), om9⟩, om9⟩
 refine g9 11 ?_
 refine WC.giveO ho_6 pr9 (fun G41 hG41 hv41 => (g9 2 ?_))
 refine ⟨rfl, _, rfl, ?_⟩
 · have h := hv41; rw [flat_all om9] at h; exact h

theorem rowsjoin_fc {G : GH} {v_a : Value} {a : List Pair} (h_a : SlR ePair G v_a a) {v_b : Value} {b : List Pair} (h_b : SlR ePair G v_b b) (hb : (a.length + b.length) * 32 ≤ 140737488355328) :
    Fc Tryz.prog 120 [v_a, v_b] G [] (fun v G' M' => M' = [] ∧ ∃ u0, v = u0 ∧ SlR ePair G' u0 (a ++ b)) := by
 obtain ⟨sa_a, sc_a, rfl⟩ := h_a.form
 obtain ⟨sa_b, sc_b, rfl⟩ := h_b.form
 refine Fc.go [.tmp 4] Tryz.func120 Tryz.ntmps120 rfl (fun w0 => (g9 9 ?_))
 refine W.lit (e := (eSl ePair)) (l := [a, b]) (css := [[lV _ _ _], [lV _ _ _]]) sl195 ty31 zr31 rfl rfl rfl rfl rfl rfl ⟨⟨_, rfl, h_a⟩, ⟨_, rfl, h_b⟩, trivial⟩ (fun bl42 G42 hG42 hv42 => (W.cS (concatp_fc hv42 (by simp; omega)) rfl (fun sa_hv44 sc_hv44 G43 hG43 hv44 => (g9 5 ?_))))
 refine ⟨rfl, _, rfl, ?_⟩
 · exact SlR.cast (hv44) (by simp)

end Go.Proofs.YtemoalimclnfkaaGreat
