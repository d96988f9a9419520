/- Walks of pivots and children with one more, or one fewer. -/
import Derived.Test.YtfmigmijckdldaaGreatQgU2
set_option maxRecDepth 100000
set_option maxHeartbeats 1600000
set_option linter.unusedVariables false
set_option linter.unusedSimpArgs false
set_option linter.unnecessarySimpa false
namespace Go.Proofs.YtfmigmijckdldaaGreat
open Go Go.Fw Go.RowKit
attribute [local irreducible] Ok W WC
theorem inss_fc {G : GH} {v_s : Value} {s : List Str} {Ms_s : MH} (h_s : OwnR eStr 9 G v_s s Ms_s) (i : Nat) {v_u : Value} {u : List Str} {Ms_u : MH} (h_u : OwnR eStr 9 G v_u u Ms_u) (hi : i ≤ s.length) (hu : 0 < u.length) (hw : (s.length + u.length) * 16 ≤ 140737488355328) :
    Fc Tryz.prog 146 [v_s, nt9 i, v_u] G (Ms_s ++ Ms_u) (fun v G' M' => OwnR eStr 9 G' v ((s.take i ++ u) ++ s.drop i) M') := by
 have hs := h_s.len47
 have hul := h_u.len47
 have hcs := h_s.cap_le
 refine Fc.go [.tmp 6] Tryz.func146 Tryz.ntmps146 rfl (fun w0 => (WC.perm (M' := (Ms_s ++ (Ms_u ++ []))) (by simp) (g9 9 ?_)))
 refine W.ok (ok_sliceO (i) (s.length) sl49 ty9 h_s rfl ⟨_, _, rfl, om9⟩ rfl ⟨om9, .inl om9⟩) (g9 16 ?_)
 refine WC.cd (fun h16 p16 => ?_) (fun h16 p16 => ?_)
 ·exact absurd p16 om9
 refine g9 17 ?_
 refine WC.cd (fun h22 p22 => ?_) (fun h22 p22 => ?_)
 ·refine g9 4 ?_
  refine W.giveO h_u (pmA pr9) (fun G1 hG1 hv1 => ?_)
  have q3 := hv1.form
  refine match q3 with | ⟨_, _, e_2⟩ => ?_
  subst e_2
  refine W.app (e := eStr) sl49 ty9 zr9 rfl by9 rfl rfl ((h_s.mono hG1)) (hv1) pr9 (hw) (fun v4 Ms5 ho6 => (g9 5 ?_))
  refine ⟨.inr rfl, [_], ⟨rfl, trivial⟩, Ms5, List.sublist_append_left _ _, ?_⟩
  have h := ho6
  rw [show (s.take i ++ u) ++ s.drop i = s ++ u from by rw [List.take_of_length_le om9, List.drop_eq_nil_of_le om9, List.append_nil]]
  exact h
 refine g9 7 ?_
 refine W.ok (Ok.int (n := ((s.length + u.length : Nat) : Int)) (ok_add rfl rfl om9) om9) (W.mv ?_)
 have q7 := h_s.capForm
 refine match q7 with | ⟨ac30, hcf30⟩ => ?_
 refine W.ok (ok_capO (c := capV v_s) sl49 hcf30) (g9 3 ?_)
 refine WC.cd (fun h31 p31 => ?_) (fun h31 p31 => ?_)
 ·refine g9 4 ?_
  refine W.ok (ok_sliceO (0) (i) sl49 ty9 h_s rfl rfl ⟨_, _, rfl, om9⟩ ⟨om9, .inl om9⟩) (g9 2 ?_)
  refine W.ok (Ok.int (n := ((s.length + u.length : Nat) : Int)) (ok_add rfl rfl om9) om9) (W.mv (W.ok (Ok.int (n := ((s.length + u.length - i : Nat) : Int)) (ok_sub rfl rfl om9) om9) (W.appZ (e := eStr) (i := i) (c := s.length + u.length - i) sl49 ty9 zr9 rfl by9 Tryz.underlying3 h_s pr9 rfl rfl om9 om9 om9 om9 (by rw [show i + (s.length + u.length - i) = s.length + u.length from by omega]; exact hw) rfl (fun v40 Ms40 hp40 => (g9 7 ?_)))))
  refine W.ok (ok_sliceP (i) (i + (s.length + u.length - i)) sl49 ty9 hp40 rfl ⟨_, _, rfl, om9⟩ rfl ⟨om9, by have := OwnP.cap_le hp40; omega⟩) (W.mv (W.copyP (i) (by simp; omega) sl49 ty9 hp40 pr9 (Src.ofOwn0 h_u (pmA (pmA pr9)) om9) rfl rfl om9 om9 (fun z45 Ms45 hp45 => (g9 3 ?_))))
  refine WC.dw sn9 (d9 [0, 1, 2] ?_)
  refine WD.tk 3 rfl (Ok.int (n := ((i + u.length : Nat) : Int)) (ok_add rfl rfl om9) om9) (WD.tk 4 rfl (ok_sliceP (i + u.length) (i + (s.length + u.length - i)) sl49 ty9 hp45 rfl ⟨_, _, rfl, om9⟩ rfl ⟨om9, by have := OwnP.cap_le hp45; omega⟩) (d9 [5, 6] ?_))
  refine WD.tk 7 rfl (ok_sliceO (i) (s.length) sl49 ty9 h_s rfl ⟨_, _, rfl, om9⟩ rfl ⟨om9, .inl om9⟩) (WD.a1 8 rfl (W.copyP (i + u.length) (by simp; omega) sl49 ty9 hp45 pr9 (Src.ofOwn (lo := i) h_s (pmA pr9) om9 om9) rfl rfl (by simp; omega) om9 (fun z54 Ms54 hp54 => (W.nn (g9 10 ?_)))))
  refine ⟨.inr rfl, [_], ⟨rfl, trivial⟩, Ms54, List.sublist_append_left _ _, ?_⟩
  have h := (hp54.own' (by simp; omega))
  rw [List.append_nil] at h
  exact h
 refine g9 7 ?_
 refine W.ok (Ok.int (n := ((s.length + u.length : Nat) : Int)) (ok_add rfl rfl om9) om9) (W.ok (ok_sliceO 0 (s.length + u.length) sl49 ty9 h_s rfl rfl ⟨_, _, rfl, om9⟩ ⟨om9, .inr om9⟩) ?_)
 have hp60 := OwnP.extend (m := u.length) (OwnR.open h_s om9) om9 hw om9
 refine g9 10 ?_
 refine W.ok (Ok.int (n := ((i + u.length : Nat) : Int)) (ok_add rfl rfl om9) om9) (W.ok (ok_sliceP (i + u.length) (s.length + u.length) sl49 ty9 hp60 rfl ⟨_, _, rfl, om9⟩ rfl ⟨om9, by have := OwnP.cap_le hp60; omega⟩) ?_)
 have hc67 := OwnP.cap_le hp60
 refine W.ok (ok_overlaps (fn := Tryz.f156) (tR := 4) (lo := i + u.length) (hi := s.length + u.length) Tryz.func156 (by kernel_rfl) (by kernel_rfl) (by kernel_rfl) (by kernel_rfl) sl49 ty9 h_u hp60 ((List.Perm.append_left _ pr9).trans (pmA pr9)) om9 om9 rfl rfl rfl) (g9 5 ?_)
 refine WC.dw sn9 (d9 [0, 1, 2] ?_)
 refine WD.tk 3 rfl (Ok.int (n := ((i + u.length : Nat) : Int)) (ok_add rfl rfl om9) om9) (WD.tk 4 rfl (ok_sliceP (i + u.length) (s.length + u.length) sl49 ty9 hp60 rfl ⟨_, _, rfl, om9⟩ rfl ⟨om9, by have := OwnP.cap_le hp60; omega⟩) (d9 [5, 6] ?_))
 refine WD.tk 7 rfl (ok_sliceP (i) (s.length + u.length) sl49 ty9 hp60 rfl ⟨_, _, rfl, om9⟩ rfl ⟨om9, by have := OwnP.cap_le hp60; omega⟩) (WD.a1 8 rfl (W.copyShift (i := i) sl49 ty9 hp60 pr9 rfl rfl om9 (fun z77 Ms77 hp77 => (W.nn (g9 6 ?_)))))
 refine W.ok (ok_sliceP (i) (s.length + u.length) sl49 ty9 hp77 rfl ⟨_, _, rfl, om9⟩ rfl ⟨om9, by have := OwnP.cap_le hp77; omega⟩) (W.mv (W.copyP (i) (by simp; omega) sl49 ty9 hp77 pr9 (Src.ofOwn0 h_u (pmA pr9) om9) rfl rfl om9 om9 (fun z82 Ms82 hp82 => (g9 10 ?_))))
 refine ⟨.inr rfl, [_], ⟨rfl, trivial⟩, Ms82, List.sublist_append_left _ _, ?_⟩
 exact (hp82.own' om9)

theorem insi_fc {G : GH} {v_s : Value} {s : List Int} {Ms_s : MH} (h_s : OwnR eInt 3 G v_s s Ms_s) (i : Nat) {v_u : Value} {u : List Int} {Ms_u : MH} (h_u : OwnR eInt 3 G v_u u Ms_u) (hi : i ≤ s.length) (hu : 0 < u.length) (hw : (s.length + u.length) * 8 ≤ 140737488355328) :
    Fc Tryz.prog 147 [v_s, nt9 i, v_u] G (Ms_s ++ Ms_u) (fun v G' M' => OwnR eInt 3 G' v ((s.take i ++ u) ++ s.drop i) M') := by
 have hs := h_s.len47
 have hul := h_u.len47
 have hcs := h_s.cap_le
 refine Fc.go [.tmp 6] Tryz.func147 Tryz.ntmps147 rfl (fun w0 => (WC.perm (M' := (Ms_s ++ (Ms_u ++ []))) (by simp) (g9 9 ?_)))
 refine W.ok (ok_sliceO (i) (s.length) sl50 ty3 h_s rfl ⟨_, _, rfl, om9⟩ rfl ⟨om9, .inl om9⟩) (g9 16 ?_)
 refine WC.cd (fun h16 p16 => ?_) (fun h16 p16 => ?_)
 ·exact absurd p16 om9
 refine g9 17 ?_
 refine WC.cd (fun h22 p22 => ?_) (fun h22 p22 => ?_)
 ·refine g9 4 ?_
  refine W.giveO h_u (pmA pr9) (fun G8 hG8 hv8 => ?_)
  have q10 := hv8.form
  refine match q10 with | ⟨_, _, e_9⟩ => ?_
  subst e_9
  refine W.app (e := eInt) sl50 ty3 zr3 rfl by3 rfl rfl ((h_s.mono hG8)) (hv8) pr9 (hw) (fun v11 Ms12 ho13 => (g9 5 ?_))
  refine ⟨.inr rfl, [_], ⟨rfl, trivial⟩, Ms12, List.sublist_append_left _ _, ?_⟩
  have h := ho13
  rw [show (s.take i ++ u) ++ s.drop i = s ++ u from by rw [List.take_of_length_le om9, List.drop_eq_nil_of_le om9, List.append_nil]]
  exact h
 refine g9 7 ?_
 refine W.ok (Ok.int (n := ((s.length + u.length : Nat) : Int)) (ok_add rfl rfl om9) om9) (W.mv ?_)
 have q14 := h_s.capForm
 refine match q14 with | ⟨ac30, hcf30⟩ => ?_
 refine W.ok (ok_capO (c := capV v_s) sl50 hcf30) (g9 3 ?_)
 refine WC.cd (fun h31 p31 => ?_) (fun h31 p31 => ?_)
 ·refine g9 4 ?_
  refine W.ok (ok_sliceO (0) (i) sl50 ty3 h_s rfl rfl ⟨_, _, rfl, om9⟩ ⟨om9, .inl om9⟩) (g9 2 ?_)
  refine W.ok (Ok.int (n := ((s.length + u.length : Nat) : Int)) (ok_add rfl rfl om9) om9) (W.mv (W.ok (Ok.int (n := ((s.length + u.length - i : Nat) : Int)) (ok_sub rfl rfl om9) om9) (W.appZ (e := eInt) (i := i) (c := s.length + u.length - i) sl50 ty3 zr3 rfl by3 Tryz.underlying3 h_s pr9 rfl rfl om9 om9 om9 om9 (by rw [show i + (s.length + u.length - i) = s.length + u.length from by omega]; exact hw) rfl (fun v40 Ms40 hp40 => (g9 7 ?_)))))
  refine W.ok (ok_sliceP (i) (i + (s.length + u.length - i)) sl50 ty3 hp40 rfl ⟨_, _, rfl, om9⟩ rfl ⟨om9, by have := OwnP.cap_le hp40; omega⟩) (W.mv (W.copyP (i) (by simp; omega) sl50 ty3 hp40 pr9 (Src.ofOwn0 h_u (pmA (pmA pr9)) om9) rfl rfl om9 om9 (fun z45 Ms45 hp45 => (g9 3 ?_))))
  refine WC.dw sn9 (d9 [0, 1, 2] ?_)
  refine WD.tk 3 rfl (Ok.int (n := ((i + u.length : Nat) : Int)) (ok_add rfl rfl om9) om9) (WD.tk 4 rfl (ok_sliceP (i + u.length) (i + (s.length + u.length - i)) sl50 ty3 hp45 rfl ⟨_, _, rfl, om9⟩ rfl ⟨om9, by have := OwnP.cap_le hp45; omega⟩) (d9 [5, 6] ?_))
  refine WD.tk 7 rfl (ok_sliceO (i) (s.length) sl50 ty3 h_s rfl ⟨_, _, rfl, om9⟩ rfl ⟨om9, .inl om9⟩) (WD.a1 8 rfl (W.copyP (i + u.length) (by simp; omega) sl50 ty3 hp45 pr9 (Src.ofOwn (lo := i) h_s (pmA pr9) om9 om9) rfl rfl (by simp; omega) om9 (fun z54 Ms54 hp54 => (W.nn (g9 10 ?_)))))
  refine ⟨.inr rfl, [_], ⟨rfl, trivial⟩, Ms54, List.sublist_append_left _ _, ?_⟩
  have h := (hp54.own' (by simp; omega))
  rw [List.append_nil] at h
  exact h
 refine g9 7 ?_
 refine W.ok (Ok.int (n := ((s.length + u.length : Nat) : Int)) (ok_add rfl rfl om9) om9) (W.ok (ok_sliceO 0 (s.length + u.length) sl50 ty3 h_s rfl rfl ⟨_, _, rfl, om9⟩ ⟨om9, .inr om9⟩) ?_)
 have hp60 := OwnP.extend (m := u.length) (OwnR.open h_s om9) om9 hw om9
 refine g9 10 ?_
 refine W.ok (Ok.int (n := ((i + u.length : Nat) : Int)) (ok_add rfl rfl om9) om9) (W.ok (ok_sliceP (i + u.length) (s.length + u.length) sl50 ty3 hp60 rfl ⟨_, _, rfl, om9⟩ rfl ⟨om9, by have := OwnP.cap_le hp60; omega⟩) ?_)
 have hc67 := OwnP.cap_le hp60
 refine W.ok (ok_overlaps (fn := Tryz.f158) (tR := 4) (lo := i + u.length) (hi := s.length + u.length) Tryz.func158 (by kernel_rfl) (by kernel_rfl) (by kernel_rfl) (by kernel_rfl) sl50 ty3 h_u hp60 ((List.Perm.append_left _ pr9).trans (pmA pr9)) om9 om9 rfl rfl rfl) (g9 5 ?_)
 refine WC.dw sn9 (d9 [0, 1, 2] ?_)
 refine WD.tk 3 rfl (Ok.int (n := ((i + u.length : Nat) : Int)) (ok_add rfl rfl om9) om9) (WD.tk 4 rfl (ok_sliceP (i + u.length) (s.length + u.length) sl50 ty3 hp60 rfl ⟨_, _, rfl, om9⟩ rfl ⟨om9, by have := OwnP.cap_le hp60; omega⟩) (d9 [5, 6] ?_))
 refine WD.tk 7 rfl (ok_sliceP (i) (s.length + u.length) sl50 ty3 hp60 rfl ⟨_, _, rfl, om9⟩ rfl ⟨om9, by have := OwnP.cap_le hp60; omega⟩) (WD.a1 8 rfl (W.copyShift (i := i) sl50 ty3 hp60 pr9 rfl rfl om9 (fun z77 Ms77 hp77 => (W.nn (g9 6 ?_)))))
 refine W.ok (ok_sliceP (i) (s.length + u.length) sl50 ty3 hp77 rfl ⟨_, _, rfl, om9⟩ rfl ⟨om9, by have := OwnP.cap_le hp77; omega⟩) (W.mv (W.copyP (i) (by simp; omega) sl50 ty3 hp77 pr9 (Src.ofOwn0 h_u (pmA pr9) om9) rfl rfl om9 om9 (fun z82 Ms82 hp82 => (g9 10 ?_))))
 refine ⟨.inr rfl, [_], ⟨rfl, trivial⟩, Ms82, List.sublist_append_left _ _, ?_⟩
 exact (hp82.own' om9)

theorem clonesO_fc {G : GH} {v_a : Value} {a : List Str} (h_a : SlR eStr G v_a a) :
    Fc Tryz.prog 97 [v_a] G [] (fun v G' M' => OwnR eStr 9 G' v (a) M') := by
 obtain ⟨sa_a, sc_a, rfl⟩ := h_a.form
 have ha := h_a.bytes
 refine Fc.go [.tmp 2] Tryz.func97 Tryz.ntmps97 rfl (fun w0 => (g9 9 ?_))
 refine W.ok (ok_eqlNil sl49 rfl rfl) (g9 2 ?_)
 refine WC.cond rfl (fun h4 => ?_) (fun h4 => ?_)
 ·have hn := SlR.isNone h_a h4
  subst hn
  refine g9 8 ?_
  exact OwnR.nil
 refine g9 4 ?_
 refine W.lit0 (e := eStr) sl49 ty9 zr9 rfl (fun v15 Ms16 ho17 => (W.mv (W.app (e := eStr) sl49 ty9 zr9 rfl by9 rfl rfl (ho17) (h_a) pr9 (by simpa using ha) (fun v18 Ms19 ho20 => (g9 4 ?_)))))
 refine ⟨.inr rfl, [_], ⟨rfl, trivial⟩, Ms19, List.sublist_append_left _ _, ?_⟩
 have h := ho20
 rw [List.nil_append] at h
 exact h

theorem cloneiO_fc {G : GH} {v_a : Value} {a : List Int} (h_a : SlR eInt G v_a a) :
    Fc Tryz.prog 98 [v_a] G [] (fun v G' M' => OwnR eInt 3 G' v (a) M') := by
 obtain ⟨sa_a, sc_a, rfl⟩ := h_a.form
 have ha := h_a.bytes
 refine Fc.go [.tmp 2] Tryz.func98 Tryz.ntmps98 rfl (fun w0 => (g9 9 ?_))
 refine W.ok (ok_eqlNil sl50 rfl rfl) (g9 2 ?_)
 refine WC.cond rfl (fun h4 => ?_) (fun h4 => ?_)
 ·have hn := SlR.isNone h_a h4
  subst hn
  refine g9 8 ?_
  exact OwnR.nil
 refine g9 4 ?_
 refine W.lit0 (e := eInt) sl50 ty3 zr3 rfl (fun v21 Ms22 ho23 => (W.mv (W.app (e := eInt) sl50 ty3 zr3 rfl by3 rfl rfl (ho23) (h_a) pr9 (by simpa using ha) (fun v24 Ms25 ho26 => (g9 4 ?_)))))
 refine ⟨.inr rfl, [_], ⟨rfl, trivial⟩, Ms25, List.sublist_append_left _ _, ?_⟩
 have h := ho26
 rw [List.nil_append] at h
 exact h

theorem bins_fc {G : GH} {v_p : Value} {p : List Str} (h_p : SlR eStr G v_p p) {v_c : Value} {c : List Int} (h_c : SlR eInt G v_c c) (i : Nat) (k : Str) (nv : Int) (hb1 : (p.length + 1) * 16 ≤ 140737488355328) (hb2 : (c.length + 1) * 8 ≤ 140737488355328) (hi : i64 ((i : Nat) : Int)) (hv : i64 nv) :
    Fc Tryz.prog 132 [v_p, v_c, nt9 i, sV k.b, iV nv] G [] (fun v G' M' => M' = [] ∧ ∃ r : List Str × List Int, r = binsN p c i k nv ∧ ∃ u0 u1, v = .tuple #[u0, u1] ∧ SlR eStr G' u0 (r.1) ∧ SlR eInt G' u1 (r.2)) := by
 obtain ⟨sa_p, sc_p, rfl⟩ := h_p.form
 obtain ⟨sa_c, sc_c, rfl⟩ := h_c.form
 have hp := h_p.len47
 have hc := h_c.len47
 have hv1 := hv.1
 have hv2 := hv.2
 refine Fc.go [.tmp 10, .tmp 11] Tryz.func132 Tryz.ntmps132 rfl (fun w0 => (g9 10 ?_))
 refine W.qcall (brange_fc h_p _ (by first | assumption | exact ⟨om9, om9⟩)) rfl (W.alloc zr55 (fun b28 => (g9 9 ?_)))
 refine W.sd 18 (fun h17 p17 => ?_) (fun h17 p17 => ?_)
 ·exfalso; omega
 refine g9 10 ?_
 refine W.sd 24 (fun h22 p22 => ?_) (fun h22 p22 => ?_)
 ·refine g9 23 ?_
  refine ⟨rfl, _, (binsN_0 (.inl om9)).symm, _, _, rfl, ?_, ?_⟩
  · exact SlR.nil
  exact SlR.nil
 refine g9 5 ?_
 refine W.qcall (spanhas_fc _ _ _ _) rfl (g9 4 ?_)
 refine W.sp 30 rfl (fun h28 => ?_) (fun h28 => ?_)
 ·refine g9 17 ?_
  refine ⟨rfl, _, (binsN_0 (.inr (.inl (by simpa using h28)))).symm, _, _, rfl, ?_, ?_⟩
  · exact SlR.nil
  exact SlR.nil
 refine g9 11 ?_
 refine WC.cd (fun h34 p34 => ?_) (fun h34 p34 => ?_)
 ·refine g9 9 ?_
  refine ⟨rfl, _, (binsN_0 (.inr (.inr (Str.ext' p34)))).symm, _, _, rfl, ?_, ?_⟩
  · exact SlR.nil
  exact SlR.nil
 have hin := range_in (p := p) (i := i) (k := k) (by simpa using h28)
 have hb := binsN_1 (p := p) (c := c) (i := i) (k := k) (v := nv) om9 (by simpa using h28) (fun e => p34 (congrArg Str.b e))
 refine g9 5 ?_
 refine W.call (Mp := []) (clonesO_fc h_p) rfl pr9 ?_
 rintro v30 G29 Ms31 hG29 ho32
 refine W.perm (pmC pr9).symm (g9 2 ?_)
 refine W.litO (e := eStr) (l := [_]) (css := [[sV _]]) sl49 ty9 zr9 rfl rfl rfl rfl rfl rfl ⟨rfl, trivial⟩ (fun v33 Ms34 ho35 => (W.perm (pmC pr9).symm (W.call (Mp := Ms31 ++ Ms34) (inss_fc ho32 _ ho35 (by first | assumption | omega) (by first | assumption | omega | simp) (by first | assumption | omega | (simp; omega))) rfl ((List.Perm.of_eq (List.append_assoc _ _ _)).trans ((List.Perm.append_left _ (pmC pr9)).trans (pmC (pmA pr9)))) ?_)))
 rintro v37 G36 Ms38 hG36 ho39
 refine W.perm (pmC pr9).symm (W.mv (W.call (Mp := []) (cloneiO_fc (h_c.mono lec)) rfl pr9 ?_))
 rintro v41 G40 Ms42 hG40 ho43
 refine W.perm (pmC pr9).symm (W.mv (W.ok (Ok.int (n := ((i + 1 : Nat) : Int)) (ok_add rfl rfl om9) om9) (W.mv (W.litO (e := eInt) (l := [_]) (css := [[iV _]]) sl50 ty3 zr3 rfl rfl rfl rfl rfl rfl ⟨⟨rfl, om9, om9⟩, trivial⟩ (fun v44 Ms45 ho46 => (W.perm (pmC pr9).symm (W.call (Mp := Ms42 ++ Ms45) (insi_fc ho43 _ ho46 (by first | assumption | omega) (by first | assumption | omega | simp) (by first | assumption | omega | (simp; omega))) rfl ((List.Perm.of_eq (List.append_assoc _ _ _)).trans ((List.Perm.append_left _ (pmC pr9)).trans (pmC (pmA pr9)))) ?_)))))))
 rintro v48 G47 Ms49 hG47 ho50
 refine W.perm (pmC pr9).symm (g9 4 ?_)
 refine WC.giveO (ho39.mono lec) (pmC (pmA pr9)) (fun G51 hG51 hv51 => (WC.giveO (ho50.mono hG51) (pmC pr9) (fun G52 hG52 hv52 => (g9 2 ?_))))
 refine ⟨rfl, _, hb.symm, _, _, rfl, ?_, ?_⟩
 · exact (hv51.mono hG52)
 exact hv52

theorem cutO_fc {G : GH} {v_l : Value} {l : List Str} (h_l : SlR eStr G v_l l) (i : Nat) (j : Nat) (hij : i ≤ j ∧ j ≤ l.length) :
    Fc Tryz.prog 113 [v_l, nt9 i, nt9 j] G [] (fun v G' M' => OwnR eStr 9 G' v ((l.take j).drop i) M') := by
 obtain ⟨sa_l, sc_l, rfl⟩ := h_l.form
 have hl := h_l.len47
 have hlb : l.length * 16 ≤ 140737488355328 := h_l.bytes
 obtain ⟨hi, hj⟩ := hij
 refine Fc.go [.tmp 6] Tryz.func113 Tryz.ntmps113 rfl (fun w0 => (g9 7 ?_))
 refine W.lit0 (e := eStr) sl49 ty9 zr9 rfl (fun v53 Ms54 ho55 => (g9 3 ?_))
 have hs56 := SlR.slice h_l (lo := i) (hi := j) om9 om9
 refine W.ok (ok_slice (i) (j) sl49 ty9 h_l rfl ⟨_, _, rfl, om9⟩ ⟨_, _, rfl, om9⟩ ⟨om9, om9⟩) (W.app (e := eStr) sl49 ty9 zr9 rfl by9 rfl rfl (ho55) (hs56) pr9 (by show (0 + ((l.take j).drop i).length) * 16 ≤ _; simp; omega) (fun v57 Ms58 ho59 => (g9 4 ?_)))
 refine ⟨.inr rfl, [_], ⟨rfl, trivial⟩, Ms58, List.sublist_append_left _ _, ?_⟩
 exact ho59

theorem partO_fc {G : GH} {v_l : Value} {l : List Int} (h_l : SlR eInt G v_l l) (i : Nat) (j : Nat) (hij : i ≤ j ∧ j ≤ l.length) :
    Fc Tryz.prog 114 [v_l, nt9 i, nt9 j] G [] (fun v G' M' => OwnR eInt 3 G' v ((l.take j).drop i) M') := by
 obtain ⟨sa_l, sc_l, rfl⟩ := h_l.form
 have hl := h_l.len47
 have hlb : l.length * 8 ≤ 140737488355328 := h_l.bytes
 obtain ⟨hi, hj⟩ := hij
 refine Fc.go [.tmp 6] Tryz.func114 Tryz.ntmps114 rfl (fun w0 => (g9 7 ?_))
 refine W.lit0 (e := eInt) sl50 ty3 zr3 rfl (fun v60 Ms61 ho62 => (g9 3 ?_))
 have hs63 := SlR.slice h_l (lo := i) (hi := j) om9 om9
 refine W.ok (ok_slice (i) (j) sl50 ty3 h_l rfl ⟨_, _, rfl, om9⟩ ⟨_, _, rfl, om9⟩ ⟨om9, om9⟩) (W.app (e := eInt) sl50 ty3 zr3 rfl by3 rfl rfl (ho62) (hs63) pr9 (by show (0 + ((l.take j).drop i).length) * 8 ≤ _; simp; omega) (fun v64 Ms65 ho66 => (g9 4 ?_)))
 refine ⟨.inr rfl, [_], ⟨rfl, trivial⟩, Ms65, List.sublist_append_left _ _, ?_⟩
 exact ho66

end Go.Proofs.YtfmigmijckdldaaGreat

namespace Go.Fw
def adoptN (n : Nd) (i : Nat) (k : Str) (v : Int) : Nd × Bool :=
 if n.level = 0 ∨ (binsN n.pivots n.kids i k v).2.length = 0 then (Nd.zero, false)
 else ({ n with pivots := (binsN n.pivots n.kids i k v).1, kids := (binsN n.pivots n.kids i k v).2 }, true)
theorem adoptN_0 {n : Nd} {i : Nat} {k : Str} {v : Int} (h : n.level = 0 ∨ (binsN n.pivots n.kids i k v).2.length = 0) : adoptN n i k v = (Nd.zero, false) := if_pos h
theorem adoptN_2 {n : Nd} {i : Nat} {k : Str} {v : Int} (h1 : ¬ n.level = 0) (h2 : ¬ (binsN n.pivots n.kids i k v).2.length = 0) : adoptN n i k v = ({ n with pivots := (binsN n.pivots n.kids i k v).1, kids := (binsN n.pivots n.kids i k v).2 }, true) := if_neg (by rintro (h | h); exact h1 h; exact h2 h)
theorem bins_0 {p : List Str} {c : List Int} {i : Nat} {k : Str} {v : Int} (h : c.length ≤ i ∨ (rangeN p (i : Int)).has k = false ∨ k = (rangeN p (i : Int)).lo) : (binsN p c i k v).2.length = 0 := by rw [binsN_0 h]; rfl
theorem has_out {p : List Str} {i : Nat} {k : Str} (h : p.length < i) : (rangeN p (i : Int)).has k = false := by
 cases h2 : (rangeN p (i : Int)).has k
 ·rfl
 ·have := range_in h2; omega
theorem adoptN_1 {n : Nd} {i : Nat} {k : Str} {v : Int} (h1 : ¬ n.level = 0) (h2 : ¬ n.kids.length ≤ i) (h3 : (rangeN n.pivots (i : Int)).has k = true) (h4 : ¬ k = (rangeN n.pivots (i : Int)).lo) :
  adoptN n i k v = ({ n with pivots := (n.pivots.take i ++ [k]) ++ n.pivots.drop i, kids := (n.kids.take (i + 1) ++ [v]) ++ n.kids.drop (i + 1) }, true) := by
 have e := binsN_1 (v := v) h2 h3 h4
 rw [adoptN_2 h1 (by rw [e]; simp), e]
end Go.Fw
namespace Go.Proofs.YtfmigmijckdldaaGreat
open Go Go.Fw Go.RowKit
attribute [local irreducible] Ok W WC
theorem clones_fc {G : GH} {v_a : Value} {a : List Str} (h_a : SlR eStr G v_a a) :
    Fc Tryz.prog 97 [v_a] G [] (fun v G' M' => M' = [] ∧ ∃ u0, v = u0 ∧ SlR eStr G' u0 (a)) := by
 obtain ⟨sa_a, sc_a, rfl⟩ := h_a.form
 have ha := h_a.bytes
 refine Fc.go [.tmp 2] Tryz.func97 Tryz.ntmps97 rfl (fun w0 => (g9 9 ?_))
 refine W.ok (ok_eqlNil sl49 rfl rfl) (g9 2 ?_)
 refine WC.cond rfl (fun h4 => ?_) (fun h4 => ?_)
 ·have hn := SlR.isNone h_a h4
  subst hn
  refine g9 8 ?_
  refine ⟨rfl, _, rfl, ?_⟩
  · exact SlR.nil
 refine g9 4 ?_
 refine W.lit0 (e := eStr) sl49 ty9 zr9 rfl (fun v1 Ms2 ho3 => (W.mv (W.app (e := eStr) sl49 ty9 zr9 rfl by9 rfl rfl (ho3) (h_a) pr9 (by simpa using ha) (fun v4 Ms5 ho6 => (g9 3 ?_)))))
 refine WC.giveO ho6 pr9 (fun G7 hG7 hv7 => (g9 2 ?_))
 refine ⟨rfl, _, rfl, ?_⟩
 · exact hv7

theorem clonei_fc {G : GH} {v_a : Value} {a : List Int} (h_a : SlR eInt G v_a a) :
    Fc Tryz.prog 98 [v_a] G [] (fun v G' M' => M' = [] ∧ ∃ u0, v = u0 ∧ SlR eInt G' u0 (a)) := by
 obtain ⟨sa_a, sc_a, rfl⟩ := h_a.form
 have ha := h_a.bytes
 refine Fc.go [.tmp 2] Tryz.func98 Tryz.ntmps98 rfl (fun w0 => (g9 9 ?_))
 refine W.ok (ok_eqlNil sl50 rfl rfl) (g9 2 ?_)
 refine WC.cond rfl (fun h4 => ?_) (fun h4 => ?_)
 ·have hn := SlR.isNone h_a h4
  subst hn
  refine g9 8 ?_
  refine ⟨rfl, _, rfl, ?_⟩
  · exact SlR.nil
 refine g9 4 ?_
 refine W.lit0 (e := eInt) sl50 ty3 zr3 rfl (fun v8 Ms9 ho10 => (W.mv (W.app (e := eInt) sl50 ty3 zr3 rfl by3 rfl rfl (ho10) (h_a) pr9 (by simpa using ha) (fun v11 Ms12 ho13 => (g9 3 ?_)))))
 refine WC.giveO ho13 pr9 (fun G14 hG14 hv14 => (g9 2 ?_))
 refine ⟨rfl, _, rfl, ?_⟩
 · exact hv14

theorem ncopy_fc {G : GH} {cs_a : List Value} {a : Nd} (h_a : NodeC G cs_a a) :
    Fc Tryz.prog 62 [.agg (List.toArray cs_a)] G [] (fun v G' M' => M' = [] ∧ ∃ u0, v = .agg (List.toArray u0) ∧ NodeC G' u0 (a)) := by
 obtain ⟨_, _, _, _, _, _, _, _, rfl, hp_a, hk_a, hm_a, hr_a, hok_a⟩ := h_a
 refine Fc.go [.cell 2 53] Tryz.func62 Tryz.ntmps62 rfl (fun w0 => (g9 2 ?_))
 refine W.box (L := [iV _, iV _, lV _ _ _, lV _ _ _, sV _, .bool _, iV _, iV _, lV _ _ _, lV _ _ _]) rfl rfl (fun b15 => (W.alloc zr53 (fun b16 => (g9 3 ?_))))
 refine WC.dw ((sr9.cons _).k9) (d9 [0, 3] ?_)
 refine WD.any [1, 4] (by kernel_rfl) rfl ⟨WD.ap ?_, WD.ap ?_, trivial⟩
 ·refine g9 1 ?_
  refine W.nn ?_
  refine WD.any [2, 4] (by kernel_rfl) rfl ⟨WD.ap ?_, WD.ap ?_, trivial⟩
  ·refine W.cS (clones_fc hp_a) rfl (fun sa_hv18 sc_hv18 G17 hG17 hv18 => (W.nn (WD.a1 4 rfl (g9 1 ?_))))
   refine W.nn (d9 [6] ?_)
   refine WD.a1 5 rfl (W.cS (clonei_fc (hk_a.mono hG17)) rfl (fun sa_hv25 sc_hv25 G24 hG24 hv25 => (W.nn (d9 [7, 8, 9] ?_))))
   refine g9 3 ?_
   refine WC.dw ((sr9.cons _).k9) (d9 [0, 3] ?_)
   refine WD.any [1, 4] (by kernel_rfl) rfl ⟨WD.ap ?_, WD.ap ?_, trivial⟩
   ·refine g9 1 ?_
    refine W.nn ?_
    refine WD.any [2, 4] (by kernel_rfl) rfl ⟨WD.ap ?_, WD.ap ?_, trivial⟩
    ·refine W.cS (clonem_fc (hm_a.mono lec)) rfl (fun sa_hv32 sc_hv32 G31 hG31 hv32 => (W.nn (WD.a1 4 rfl (g9 1 ?_))))
     refine W.nn (d9 [6] ?_)
     refine WD.a1 5 rfl (W.cS (clonep_fc (hr_a.mono lec)) rfl (fun sa_hv39 sc_hv39 G38 hG38 hv39 => (W.nn (d9 [7, 8, 9] ?_))))
     refine g9 10 ?_
     refine ⟨rfl, _, rfl, ?_⟩
     · exact ⟨_, _, _, _, _, _, _, _, rfl, (hv18.mono lec), (hv25.mono lec), (hv32.mono hG38), hv39, (by assumption)⟩
    refine g9 1 ?_
    refine W.nn (WD.a1 2 rfl (W.cS (clonem_fc (hm_a.mono lec)) rfl (fun sa_hv46 sc_hv46 G45 hG45 hv46 => (W.nn (d9 [6] ?_)))))
    refine WD.a1 5 rfl (W.cS (clonep_fc (hr_a.mono lec)) rfl (fun sa_hv53 sc_hv53 G52 hG52 hv53 => (W.nn (d9 [7, 8, 9] ?_))))
    refine g9 10 ?_
    refine ⟨rfl, _, rfl, ?_⟩
    · exact ⟨_, _, _, _, _, _, _, _, rfl, (hv18.mono lec), (hv25.mono lec), (hv46.mono hG52), hv53, (by assumption)⟩
   refine g9 1 ?_
   refine W.nn (WD.a1 1 rfl (g9 1 ?_))
   refine W.nn (WD.a1 2 rfl (W.cS (clonem_fc (hm_a.mono lec)) rfl (fun sa_hv60 sc_hv60 G59 hG59 hv60 => (W.nn (d9 [6] ?_)))))
   refine WD.a1 5 rfl (W.cS (clonep_fc (hr_a.mono lec)) rfl (fun sa_hv67 sc_hv67 G66 hG66 hv67 => (W.nn (d9 [7, 8, 9] ?_))))
   refine g9 10 ?_
   refine ⟨rfl, _, rfl, ?_⟩
   · exact ⟨_, _, _, _, _, _, _, _, rfl, (hv18.mono lec), (hv25.mono lec), (hv60.mono hG66), hv67, (by assumption)⟩
  refine g9 1 ?_
  refine W.nn (WD.a1 2 rfl (W.cS (clones_fc hp_a) rfl (fun sa_hv74 sc_hv74 G73 hG73 hv74 => (W.nn (d9 [6] ?_)))))
  refine WD.a1 5 rfl (W.cS (clonei_fc (hk_a.mono hG73)) rfl (fun sa_hv81 sc_hv81 G80 hG80 hv81 => (W.nn (d9 [7, 8, 9] ?_))))
  refine g9 3 ?_
  refine WC.dw ((sr9.cons _).k9) (d9 [0, 3] ?_)
  refine WD.any [1, 4] (by kernel_rfl) rfl ⟨WD.ap ?_, WD.ap ?_, trivial⟩
  ·refine g9 1 ?_
   refine W.nn ?_
   refine WD.any [2, 4] (by kernel_rfl) rfl ⟨WD.ap ?_, WD.ap ?_, trivial⟩
   ·refine W.cS (clonem_fc (hm_a.mono lec)) rfl (fun sa_hv88 sc_hv88 G87 hG87 hv88 => (W.nn (WD.a1 4 rfl (g9 1 ?_))))
    refine W.nn (d9 [6] ?_)
    refine WD.a1 5 rfl (W.cS (clonep_fc (hr_a.mono lec)) rfl (fun sa_hv95 sc_hv95 G94 hG94 hv95 => (W.nn (d9 [7, 8, 9] ?_))))
    refine g9 10 ?_
    refine ⟨rfl, _, rfl, ?_⟩
    · exact ⟨_, _, _, _, _, _, _, _, rfl, (hv74.mono lec), (hv81.mono lec), (hv88.mono hG94), hv95, (by assumption)⟩
   refine g9 1 ?_
   refine W.nn (WD.a1 2 rfl (W.cS (clonem_fc (hm_a.mono lec)) rfl (fun sa_hv102 sc_hv102 G101 hG101 hv102 => (W.nn (d9 [6] ?_)))))
   refine WD.a1 5 rfl (W.cS (clonep_fc (hr_a.mono lec)) rfl (fun sa_hv109 sc_hv109 G108 hG108 hv109 => (W.nn (d9 [7, 8, 9] ?_))))
   refine g9 10 ?_
   refine ⟨rfl, _, rfl, ?_⟩
   · exact ⟨_, _, _, _, _, _, _, _, rfl, (hv74.mono lec), (hv81.mono lec), (hv102.mono hG108), hv109, (by assumption)⟩
  refine g9 1 ?_
  refine W.nn (WD.a1 1 rfl (g9 1 ?_))
  refine W.nn (WD.a1 2 rfl (W.cS (clonem_fc (hm_a.mono lec)) rfl (fun sa_hv116 sc_hv116 G115 hG115 hv116 => (W.nn (d9 [6] ?_)))))
  refine WD.a1 5 rfl (W.cS (clonep_fc (hr_a.mono lec)) rfl (fun sa_hv123 sc_hv123 G122 hG122 hv123 => (W.nn (d9 [7, 8, 9] ?_))))
  refine g9 10 ?_
  refine ⟨rfl, _, rfl, ?_⟩
  · exact ⟨_, _, _, _, _, _, _, _, rfl, (hv74.mono lec), (hv81.mono lec), (hv116.mono hG122), hv123, (by assumption)⟩
 refine g9 1 ?_
 refine W.nn (WD.a1 1 rfl (g9 1 ?_))
 refine W.nn (WD.a1 2 rfl (W.cS (clones_fc hp_a) rfl (fun sa_hv130 sc_hv130 G129 hG129 hv130 => (W.nn (d9 [6] ?_)))))
 refine WD.a1 5 rfl (W.cS (clonei_fc (hk_a.mono hG129)) rfl (fun sa_hv137 sc_hv137 G136 hG136 hv137 => (W.nn (d9 [7, 8, 9] ?_))))
 refine g9 3 ?_
 refine WC.dw ((sr9.cons _).k9) (d9 [0, 3] ?_)
 refine WD.any [1, 4] (by kernel_rfl) rfl ⟨WD.ap ?_, WD.ap ?_, trivial⟩
 ·refine g9 1 ?_
  refine W.nn ?_
  refine WD.any [2, 4] (by kernel_rfl) rfl ⟨WD.ap ?_, WD.ap ?_, trivial⟩
  ·refine W.cS (clonem_fc (hm_a.mono lec)) rfl (fun sa_hv144 sc_hv144 G143 hG143 hv144 => (W.nn (WD.a1 4 rfl (g9 1 ?_))))
   refine W.nn (d9 [6] ?_)
   refine WD.a1 5 rfl (W.cS (clonep_fc (hr_a.mono lec)) rfl (fun sa_hv151 sc_hv151 G150 hG150 hv151 => (W.nn (d9 [7, 8, 9] ?_))))
   refine g9 10 ?_
   refine ⟨rfl, _, rfl, ?_⟩
   · exact ⟨_, _, _, _, _, _, _, _, rfl, (hv130.mono lec), (hv137.mono lec), (hv144.mono hG150), hv151, (by assumption)⟩
  refine g9 1 ?_
  refine W.nn (WD.a1 2 rfl (W.cS (clonem_fc (hm_a.mono lec)) rfl (fun sa_hv158 sc_hv158 G157 hG157 hv158 => (W.nn (d9 [6] ?_)))))
  refine WD.a1 5 rfl (W.cS (clonep_fc (hr_a.mono lec)) rfl (fun sa_hv165 sc_hv165 G164 hG164 hv165 => (W.nn (d9 [7, 8, 9] ?_))))
  refine g9 10 ?_
  refine ⟨rfl, _, rfl, ?_⟩
  · exact ⟨_, _, _, _, _, _, _, _, rfl, (hv130.mono lec), (hv137.mono lec), (hv158.mono hG164), hv165, (by assumption)⟩
 refine g9 1 ?_
 refine W.nn (WD.a1 1 rfl (g9 1 ?_))
 refine W.nn (WD.a1 2 rfl (W.cS (clonem_fc (hm_a.mono lec)) rfl (fun sa_hv172 sc_hv172 G171 hG171 hv172 => (W.nn (d9 [6] ?_)))))
 refine WD.a1 5 rfl (W.cS (clonep_fc (hr_a.mono lec)) rfl (fun sa_hv179 sc_hv179 G178 hG178 hv179 => (W.nn (d9 [7, 8, 9] ?_))))
 refine g9 10 ?_
 refine ⟨rfl, _, rfl, ?_⟩
 · exact ⟨_, _, _, _, _, _, _, _, rfl, (hv130.mono lec), (hv137.mono lec), (hv172.mono hG178), hv179, (by assumption)⟩

theorem canat_fc {G : GH} {cs_n : List Value} {n : Nd} (h_n : NodeC G cs_n n) (i : Nat) (k : Str) (nv : Int) (hz : n.pivots.length ≤ 1000000 ∧ n.kids.length ≤ 1000000) (hi : i64 ((i : Nat) : Int)) (hv : i64 nv) :
    Fc Tryz.prog 105 [.agg (List.toArray cs_n), nt9 i, sV k.b, iV nv] G [] (fun v G' M' => M' = [] ∧ ∃ r : Nd × Bool, r = adoptN n i k nv ∧ ∃ u0, v = .tuple #[.agg (List.toArray u0), .bool (r.2)] ∧ NodeC G' u0 (r.1)) := by
 obtain ⟨_, _, _, _, _, _, _, _, rfl, hp_n, hk_n, hm_n, hr_n, hok_n⟩ := h_n
 have h1 := hp_n.len47
 have h2 := hk_n.len47
 have h3 := hm_n.len47
 have h4 := hr_n.len47
 obtain ⟨hz1, hz2⟩ := hz
 have hv1 := hv.1
 have hv2 := hv.2
 have hi1 := hi.1
 have hi2 := hi.2
 have b1 : n.pivots.length * 16 ≤ 140737488355328 := hp_n.bytes
 have b2 : n.kids.length * 8 ≤ 140737488355328 := hk_n.bytes
 refine Fc.go [.cell 8 53, .tmp 9] Tryz.func105 Tryz.ntmps105 rfl (fun w0 => (g9 2 ?_))
 refine W.box (L := [iV _, iV _, lV _ _ _, lV _ _ _, sV _, .bool _, iV _, iV _, lV _ _ _, lV _ _ _]) rfl rfl (fun b200 => (W.alloc zr53 (fun b201 => (g9 11 ?_))))
 refine WC.cd (fun h15 p15 => ?_) (fun h15 p15 => ?_)
 ·refine g9 2 ?_
  refine W.ok (ok_build (L := [iV _, iV _, lV _ _ _, lV _ _ _, sV _, .bool _, iV _, iV _, lV _ _ _, lV _ _ _]) pl53 zr53 rfl rfl rfl) (g9 7 ?_)
  refine ⟨rfl, _, (adoptN_0 (.inl p15)).symm, _, rfl, ?_⟩
  · exact ⟨_, _, _, _, _, _, _, _, rfl, SlR.nil, SlR.nil, SlR.nil, SlR.nil, Nd.zero_ok⟩
 refine g9 11 ?_
 refine W.call (Mp := []) (bins_fc hp_n hk_n _ _ _ (by first | assumption | omega | (simp; omega)) (by first | assumption | omega | (simp; omega)) (by first | assumption | exact ⟨om9, om9⟩) (by assumption)) rfl pr9 ?_
 intro _ G202 _ hG202 q205
 refine match q205 with | ⟨e_206, _, e_207, _, _, e_208, hv203, hv204⟩ => ?_
 subst e_206
 subst e_207
 subst e_208
 have q210 := hv203.form
 refine match q210 with | ⟨sa_hv203, sc_hv203, e_209⟩ => ?_
 subst e_209
 have q212 := hv204.form
 refine match q212 with | ⟨sa_hv204, sc_hv204, e_211⟩ => ?_
 subst e_211
 refine g9 15 ?_
 refine WC.cd (fun h30 p30 => ?_) (fun h30 p30 => ?_)
 ·refine g9 2 ?_
  refine W.ok (ok_build (L := [iV _, iV _, lV _ _ _, lV _ _ _, sV _, .bool _, iV _, iV _, lV _ _ _, lV _ _ _]) pl53 zr53 rfl rfl rfl) (g9 7 ?_)
  refine ⟨rfl, _, (adoptN_0 (.inr om9)).symm, _, rfl, ?_⟩
  · exact ⟨_, _, _, _, _, _, _, _, rfl, SlR.nil, SlR.nil, SlR.nil, SlR.nil, Nd.zero_ok⟩
 refine g9 5 ?_
 refine W.cN (ncopy_fc (nm9 hG202 hp_n hk_n hm_n hr_n hok_n)) rfl (fun _ _ _ _ _ _ _ _ G213 hG213 hp_hv214 hk_hv214 hm_hv214 hr_hv214 hok_hv214 => (W.alloc zr53 (fun b219 => (g9 22 ?_))))
 refine ⟨rfl, _, (adoptN_2 p15 om9).symm, _, rfl, ?_⟩
 · exact ⟨_, _, _, _, _, _, _, _, rfl, (hv203.mono hG213), (hv204.mono hG213), hm_hv214, hr_hv214, hok_n⟩

theorem ranat_fc {G : GH} {cs_n : List Value} {n : Nd} (h_n : NodeC G cs_n n) (i : Nat) (k : Str) (nv : Int) (hz : n.pivots.length ≤ 1000000 ∧ n.kids.length ≤ 1000000) (hi : i64 ((i : Nat) : Int)) (hv : i64 nv) :
    Fc Tryz.prog 79 [.agg (List.toArray cs_n), nt9 i, sV k.b, iV nv] G [] (fun v G' M' => M' = [] ∧ ∃ r : Nd × Bool, r = adoptN n i k nv ∧ ∃ u0, v = .tuple #[.agg (List.toArray u0), .bool (r.2)] ∧ NodeC G' u0 (r.1)) := by
 obtain ⟨_, _, _, _, _, _, _, _, rfl, hp_n, hk_n, hm_n, hr_n, hok_n⟩ := h_n
 have h1 := hp_n.len47
 have h2 := hk_n.len47
 have h3 := hm_n.len47
 have h4 := hr_n.len47
 obtain ⟨hz1, hz2⟩ := hz
 have hv1 := hv.1
 have hv2 := hv.2
 have hi1 := hi.1
 have hi2 := hi.2
 have b1 : n.pivots.length * 16 ≤ 140737488355328 := hp_n.bytes
 have b2 : n.kids.length * 8 ≤ 140737488355328 := hk_n.bytes
 refine Fc.go [.cell 8 53, .tmp 9] Tryz.func79 Tryz.ntmps79 rfl (fun w0 => (g9 2 ?_))
 refine W.box (L := [iV _, iV _, lV _ _ _, lV _ _ _, sV _, .bool _, iV _, iV _, lV _ _ _, lV _ _ _]) rfl rfl (fun b220 => (W.alloc zr53 (fun b221 => (g9 8 ?_))))
 refine W.qcall (rrange_fc hp_n _ (by first | assumption | exact ⟨om9, om9⟩)) rfl (W.alloc zr55 (fun b222 => (g9 10 ?_)))
 refine W.sd 19 (fun h18 p18 => ?_) (fun h18 p18 => ?_)
 ·refine g9 34 ?_
  refine W.ok (ok_build (L := [iV _, iV _, lV _ _ _, lV _ _ _, sV _, .bool _, iV _, iV _, lV _ _ _, lV _ _ _]) pl53 zr53 rfl rfl rfl) (g9 7 ?_)
  refine ⟨rfl, _, (adoptN_0 (.inl p18)).symm, _, rfl, ?_⟩
  · exact ⟨_, _, _, _, _, _, _, _, rfl, SlR.nil, SlR.nil, SlR.nil, SlR.nil, Nd.zero_ok⟩
 refine g9 6 ?_
 refine W.sd 23 (fun h21 p21 => ?_) (fun h21 p21 => ?_)
 ·exfalso; omega
 refine g9 12 ?_
 refine W.sd 30 (fun h28 p28 => ?_) (fun h28 p28 => ?_)
 ·refine g9 23 ?_
  refine W.ok (ok_build (L := [iV _, iV _, lV _ _ _, lV _ _ _, sV _, .bool _, iV _, iV _, lV _ _ _, lV _ _ _]) pl53 zr53 rfl rfl rfl) (g9 7 ?_)
  refine ⟨rfl, _, (adoptN_0 (.inr (bins_0 (.inl om9)))).symm, _, rfl, ?_⟩
  · exact ⟨_, _, _, _, _, _, _, _, rfl, SlR.nil, SlR.nil, SlR.nil, SlR.nil, Nd.zero_ok⟩
 refine g9 12 ?_
 refine W.sd 37 (fun h35 p35 => ?_) (fun h35 p35 => ?_)
 ·refine g9 16 ?_
  refine W.ok (ok_build (L := [iV _, iV _, lV _ _ _, lV _ _ _, sV _, .bool _, iV _, iV _, lV _ _ _, lV _ _ _]) pl53 zr53 rfl rfl rfl) (g9 7 ?_)
  refine ⟨rfl, _, (adoptN_0 (.inr (bins_0 (.inr (.inl (has_out om9)))))).symm, _, rfl, ?_⟩
  · exact ⟨_, _, _, _, _, _, _, _, rfl, SlR.nil, SlR.nil, SlR.nil, SlR.nil, Nd.zero_ok⟩
 refine g9 5 ?_
 refine W.qcall (has_fc _ _ _ _) rfl (g9 4 ?_)
 refine W.sp 43 rfl (fun h41 => ?_) (fun h41 => ?_)
 ·refine g9 10 ?_
  refine W.ok (ok_build (L := [iV _, iV _, lV _ _ _, lV _ _ _, sV _, .bool _, iV _, iV _, lV _ _ _, lV _ _ _]) pl53 zr53 rfl rfl rfl) (g9 7 ?_)
  refine ⟨rfl, _, (adoptN_0 (.inr (bins_0 (.inr (.inl (by simpa using h41)))))).symm, _, rfl, ?_⟩
  · exact ⟨_, _, _, _, _, _, _, _, rfl, SlR.nil, SlR.nil, SlR.nil, SlR.nil, Nd.zero_ok⟩
 refine g9 11 ?_
 refine WC.cd (fun h47 p47 => ?_) (fun h47 p47 => ?_)
 ·refine g9 2 ?_
  refine W.ok (ok_build (L := [iV _, iV _, lV _ _ _, lV _ _ _, sV _, .bool _, iV _, iV _, lV _ _ _, lV _ _ _]) pl53 zr53 rfl rfl rfl) (g9 7 ?_)
  refine ⟨rfl, _, (adoptN_0 (.inr (bins_0 (.inr (.inr (Str.ext' p47)))))).symm, _, rfl, ?_⟩
  · exact ⟨_, _, _, _, _, _, _, _, rfl, SlR.nil, SlR.nil, SlR.nil, SlR.nil, Nd.zero_ok⟩
 refine g9 5 ?_
 refine W.alloc zr53 (fun b223 => (g9 4 ?_))
 refine WC.dw (((sr9.k9.k9).k9).cons _) (d9 [0, 1, 2, 4, 7, 8, 9] ?_)
 have hs224 := SlR.slice hp_n (lo := i) (hi := n.pivots.length) om9 om9
 refine WD.tk 10 rfl (ok_slice (i) (n.pivots.length) sl49 ty9 hp_n rfl ⟨_, _, rfl, om9⟩ rfl ⟨om9, om9⟩) ?_
 refine WD.any [3, 5] (by kernel_rfl) rfl ⟨WD.ap ?_, WD.ap ?_, trivial⟩
 ·refine W.call (Mp := []) (cutO_fc hp_n 0 _ ⟨om9, om9⟩) rfl pr9 ?_
  rintro v226 G225 Ms227 hG225 ho228
  refine W.perm (pmC (pmC (pmC (pmC pr9)))).symm (W.nn (WD.a1 5 rfl (W.lit (e := eStr) (l := [_]) (css := [[sV _]]) sl49 ty9 zr9 rfl rfl rfl rfl rfl rfl ⟨rfl, trivial⟩ (fun bl229 G229 hG229 hv229 => (W.nn (WD.a1 6 rfl (W.app (e := eStr) sl49 ty9 zr9 rfl by9 rfl rfl ((ho228.mono hG229)) (hv229) (pmC (pmC (pmC (pmC pr9)))) (by simp only [List.length_append, List.length_drop, List.length_take, List.length_cons, List.length_nil] at *; show (_ + _) * 16 ≤ _; first | omega | (simp; done) | (simp; omega)) (fun v230 Ms231 ho232 => (W.perm (pmC (pmC (pmC (pmC pr9)))).symm (W.nn (WD.a1 11 rfl (W.app (e := eStr) sl49 ty9 zr9 rfl by9 rfl rfl (ho232) ((hs224.mono lec)) (pmC (pmC (pmC (pmC pr9)))) (by simp only [List.length_append, List.length_drop, List.length_take, List.length_cons, List.length_nil] at *; show (_ + _) * 16 ≤ _; first | omega | (simp; done) | (simp; omega)) (fun v233 Ms234 ho235 => (W.perm (pmC (pmC (pmC (pmC pr9)))).symm (W.nn (d9 [12] ?_))))))))))))))))
  refine WD.a1 13 rfl (W.giveO ho235 (pmC (pmC (pmC (pmC pr9)))) (fun G236 hG236 hv236 => ?_))
  have hc237 := SlR.cast hv236 (l' := (n.pivots.take i ++ [k]) ++ n.pivots.drop i) (by simp)
  have q239 := hc237.form
  refine match q239 with | ⟨_, _, e_238⟩ => ?_
  subst e_238
  refine g9 1 ?_
  refine W.nn (g9 3 ?_)
  refine WC.dw (((sr9.k9.k9).k9).cons _) (d9 [0, 1, 2] ?_)
  refine WD.tk 3 rfl (Ok.int (n := ((i + 1 : Nat) : Int)) (ok_add rfl rfl om9) om9) (d9 [5, 8, 9, 10] ?_)
  refine WD.tk 11 rfl (Ok.int (n := ((i + 1 : Nat) : Int)) (ok_add rfl rfl om9) om9) ?_
  have hs240 := SlR.slice (hk_n.mono ((hG225.trans hG229).trans hG236)) (lo := i + 1) (hi := n.kids.length) om9 om9
  refine WD.tk 12 rfl (ok_slice (i + 1) (n.kids.length) sl50 ty3 (hk_n.mono lec) rfl ⟨_, _, rfl, om9⟩ rfl ⟨om9, om9⟩) ?_
  refine WD.any [4, 6] (by kernel_rfl) rfl ⟨WD.ap ?_, WD.ap ?_, trivial⟩
  ·refine W.call (Mp := []) (partO_fc (hk_n.mono lec) 0 _ ⟨om9, om9⟩) rfl pr9 ?_
   rintro v242 G241 Ms243 hG241 ho244
   refine W.perm (pmC (pmC (pmC (pmC pr9)))).symm (W.nn (WD.a1 6 rfl (W.lit (e := eInt) (l := [_]) (css := [[iV _]]) sl50 ty3 zr3 rfl rfl rfl rfl rfl rfl ⟨⟨rfl, om9, om9⟩, trivial⟩ (fun bl245 G245 hG245 hv245 => (W.nn (WD.a1 7 rfl (W.app (e := eInt) sl50 ty3 zr3 rfl by3 rfl rfl ((ho244.mono hG245)) (hv245) (pmC (pmC (pmC (pmC pr9)))) (by simp only [List.length_append, List.length_drop, List.length_take, List.length_cons, List.length_nil] at *; show (_ + _) * 8 ≤ _; first | omega | (simp; done) | (simp; omega)) (fun v246 Ms247 ho248 => (W.perm (pmC (pmC (pmC (pmC pr9)))).symm (W.nn (WD.a1 13 rfl (W.app (e := eInt) sl50 ty3 zr3 rfl by3 rfl rfl (ho248) ((hs240.mono lec)) (pmC (pmC (pmC (pmC pr9)))) (by simp only [List.length_append, List.length_drop, List.length_take, List.length_cons, List.length_nil] at *; show (_ + _) * 8 ≤ _; first | omega | (simp; done) | (simp; omega)) (fun v249 Ms250 ho251 => (W.perm (pmC (pmC (pmC (pmC pr9)))).symm (W.nn (d9 [14] ?_))))))))))))))))
   refine WD.a1 15 rfl (W.giveO ho251 (pmC (pmC (pmC (pmC pr9)))) (fun G252 hG252 hv252 => ?_))
   have hc253 := SlR.cast hv252 (l' := (n.kids.take (i + 1) ++ [nv]) ++ n.kids.drop (i + 1)) (by simp)
   have q255 := hc253.form
   refine match q255 with | ⟨_, _, e_254⟩ => ?_
   subst e_254
   refine g9 1 ?_
   refine W.nn (g9 11 ?_)
   refine ⟨rfl, _, (adoptN_1 p18 om9 (by simpa using h41) (fun e => p47 (congrArg Str.b e))).symm, _, rfl, ?_⟩
   · exact ⟨_, _, _, _, _, _, _, _, rfl, (hc237.mono lec), hc253, (hm_n.mono lec), (hr_n.mono lec), hok_n⟩
  refine W.lit (e := eInt) (l := [_]) (css := [[iV _]]) sl50 ty3 zr3 rfl rfl rfl rfl rfl rfl ⟨⟨rfl, om9, om9⟩, trivial⟩ (fun bl256 G256 hG256 hv256 => (W.nn (WD.a1 4 rfl (W.call (Mp := []) (partO_fc (hk_n.mono lec) 0 _ ⟨om9, om9⟩) rfl pr9 ?_))))
  rintro v258 G257 Ms259 hG257 ho260
  refine W.perm (pmC (pmC (pmC (pmC pr9)))).symm (W.nn (WD.a1 7 rfl (W.app (e := eInt) sl50 ty3 zr3 rfl by3 rfl rfl (ho260) ((hv256.mono hG257)) (pmC (pmC (pmC (pmC pr9)))) (by simp only [List.length_append, List.length_drop, List.length_take, List.length_cons, List.length_nil] at *; show (_ + _) * 8 ≤ _; first | omega | (simp; done) | (simp; omega)) (fun v261 Ms262 ho263 => (W.perm (pmC (pmC (pmC (pmC pr9)))).symm (W.nn (WD.a1 13 rfl (W.app (e := eInt) sl50 ty3 zr3 rfl by3 rfl rfl (ho263) ((hs240.mono lec)) (pmC (pmC (pmC (pmC pr9)))) (by simp only [List.length_append, List.length_drop, List.length_take, List.length_cons, List.length_nil] at *; show (_ + _) * 8 ≤ _; first | omega | (simp; done) | (simp; omega)) (fun v264 Ms265 ho266 => (W.perm (pmC (pmC (pmC (pmC pr9)))).symm (W.nn (d9 [14] ?_))))))))))))
  refine WD.a1 15 rfl (W.giveO ho266 (pmC (pmC (pmC (pmC pr9)))) (fun G267 hG267 hv267 => ?_))
  have hc268 := SlR.cast hv267 (l' := (n.kids.take (i + 1) ++ [nv]) ++ n.kids.drop (i + 1)) (by simp)
  have q270 := hc268.form
  refine match q270 with | ⟨_, _, e_269⟩ => ?_
  subst e_269
  refine g9 1 ?_
  refine W.nn (g9 11 ?_)
  refine ⟨rfl, _, (adoptN_1 p18 om9 (by simpa using h41) (fun e => p47 (congrArg Str.b e))).symm, _, rfl, ?_⟩
  · exact ⟨_, _, _, _, _, _, _, _, rfl, (hc237.mono lec), hc268, (hm_n.mono lec), (hr_n.mono lec), hok_n⟩
 refine W.lit (e := eStr) (l := [_]) (css := [[sV _]]) sl49 ty9 zr9 rfl rfl rfl rfl rfl rfl ⟨rfl, trivial⟩ (fun bl271 G271 hG271 hv271 => (W.nn (WD.a1 3 rfl (W.call (Mp := []) (cutO_fc (hp_n.mono hG271) 0 _ ⟨om9, om9⟩) rfl pr9 ?_))))
 rintro v273 G272 Ms274 hG272 ho275
 refine W.perm (pmC (pmC (pmC (pmC pr9)))).symm (W.nn (WD.a1 6 rfl (W.app (e := eStr) sl49 ty9 zr9 rfl by9 rfl rfl (ho275) ((hv271.mono hG272)) (pmC (pmC (pmC (pmC pr9)))) (by simp only [List.length_append, List.length_drop, List.length_take, List.length_cons, List.length_nil] at *; show (_ + _) * 16 ≤ _; first | omega | (simp; done) | (simp; omega)) (fun v276 Ms277 ho278 => (W.perm (pmC (pmC (pmC (pmC pr9)))).symm (W.nn (WD.a1 11 rfl (W.app (e := eStr) sl49 ty9 zr9 rfl by9 rfl rfl (ho278) ((hs224.mono lec)) (pmC (pmC (pmC (pmC pr9)))) (by simp only [List.length_append, List.length_drop, List.length_take, List.length_cons, List.length_nil] at *; show (_ + _) * 16 ≤ _; first | omega | (simp; done) | (simp; omega)) (fun v279 Ms280 ho281 => (W.perm (pmC (pmC (pmC (pmC pr9)))).symm (W.nn (d9 [12] ?_))))))))))))
 refine WD.a1 13 rfl (W.giveO ho281 (pmC (pmC (pmC (pmC pr9)))) (fun G282 hG282 hv282 => ?_))
 have hc283 := SlR.cast hv282 (l' := (n.pivots.take i ++ [k]) ++ n.pivots.drop i) (by simp)
 have q285 := hc283.form
 refine match q285 with | ⟨_, _, e_284⟩ => ?_
 subst e_284
 refine g9 1 ?_
 refine W.nn (g9 3 ?_)
 refine WC.dw (((sr9.k9.k9).k9).cons _) (d9 [0, 1, 2] ?_)
 refine WD.tk 3 rfl (Ok.int (n := ((i + 1 : Nat) : Int)) (ok_add rfl rfl om9) om9) (d9 [5, 8, 9, 10] ?_)
 refine WD.tk 11 rfl (Ok.int (n := ((i + 1 : Nat) : Int)) (ok_add rfl rfl om9) om9) ?_
 have hs286 := SlR.slice (hk_n.mono ((hG271.trans hG272).trans hG282)) (lo := i + 1) (hi := n.kids.length) om9 om9
 refine WD.tk 12 rfl (ok_slice (i + 1) (n.kids.length) sl50 ty3 (hk_n.mono lec) rfl ⟨_, _, rfl, om9⟩ rfl ⟨om9, om9⟩) ?_
 refine WD.any [4, 6] (by kernel_rfl) rfl ⟨WD.ap ?_, WD.ap ?_, trivial⟩
 ·refine W.call (Mp := []) (partO_fc (hk_n.mono lec) 0 _ ⟨om9, om9⟩) rfl pr9 ?_
  rintro v288 G287 Ms289 hG287 ho290
  refine W.perm (pmC (pmC (pmC (pmC pr9)))).symm (W.nn (WD.a1 6 rfl (W.lit (e := eInt) (l := [_]) (css := [[iV _]]) sl50 ty3 zr3 rfl rfl rfl rfl rfl rfl ⟨⟨rfl, om9, om9⟩, trivial⟩ (fun bl291 G291 hG291 hv291 => (W.nn (WD.a1 7 rfl (W.app (e := eInt) sl50 ty3 zr3 rfl by3 rfl rfl ((ho290.mono hG291)) (hv291) (pmC (pmC (pmC (pmC pr9)))) (by simp only [List.length_append, List.length_drop, List.length_take, List.length_cons, List.length_nil] at *; show (_ + _) * 8 ≤ _; first | omega | (simp; done) | (simp; omega)) (fun v292 Ms293 ho294 => (W.perm (pmC (pmC (pmC (pmC pr9)))).symm (W.nn (WD.a1 13 rfl (W.app (e := eInt) sl50 ty3 zr3 rfl by3 rfl rfl (ho294) ((hs286.mono lec)) (pmC (pmC (pmC (pmC pr9)))) (by simp only [List.length_append, List.length_drop, List.length_take, List.length_cons, List.length_nil] at *; show (_ + _) * 8 ≤ _; first | omega | (simp; done) | (simp; omega)) (fun v295 Ms296 ho297 => (W.perm (pmC (pmC (pmC (pmC pr9)))).symm (W.nn (d9 [14] ?_))))))))))))))))
  refine WD.a1 15 rfl (W.giveO ho297 (pmC (pmC (pmC (pmC pr9)))) (fun G298 hG298 hv298 => ?_))
  have hc299 := SlR.cast hv298 (l' := (n.kids.take (i + 1) ++ [nv]) ++ n.kids.drop (i + 1)) (by simp)
  have q301 := hc299.form
  refine match q301 with | ⟨_, _, e_300⟩ => ?_
  subst e_300
  refine g9 1 ?_
  refine W.nn (g9 11 ?_)
  refine ⟨rfl, _, (adoptN_1 p18 om9 (by simpa using h41) (fun e => p47 (congrArg Str.b e))).symm, _, rfl, ?_⟩
  · exact ⟨_, _, _, _, _, _, _, _, rfl, (hc283.mono lec), hc299, (hm_n.mono lec), (hr_n.mono lec), hok_n⟩
 refine W.lit (e := eInt) (l := [_]) (css := [[iV _]]) sl50 ty3 zr3 rfl rfl rfl rfl rfl rfl ⟨⟨rfl, om9, om9⟩, trivial⟩ (fun bl302 G302 hG302 hv302 => (W.nn (WD.a1 4 rfl (W.call (Mp := []) (partO_fc (hk_n.mono lec) 0 _ ⟨om9, om9⟩) rfl pr9 ?_))))
 rintro v304 G303 Ms305 hG303 ho306
 refine W.perm (pmC (pmC (pmC (pmC pr9)))).symm (W.nn (WD.a1 7 rfl (W.app (e := eInt) sl50 ty3 zr3 rfl by3 rfl rfl (ho306) ((hv302.mono hG303)) (pmC (pmC (pmC (pmC pr9)))) (by simp only [List.length_append, List.length_drop, List.length_take, List.length_cons, List.length_nil] at *; show (_ + _) * 8 ≤ _; first | omega | (simp; done) | (simp; omega)) (fun v307 Ms308 ho309 => (W.perm (pmC (pmC (pmC (pmC pr9)))).symm (W.nn (WD.a1 13 rfl (W.app (e := eInt) sl50 ty3 zr3 rfl by3 rfl rfl (ho309) ((hs286.mono lec)) (pmC (pmC (pmC (pmC pr9)))) (by simp only [List.length_append, List.length_drop, List.length_take, List.length_cons, List.length_nil] at *; show (_ + _) * 8 ≤ _; first | omega | (simp; done) | (simp; omega)) (fun v310 Ms311 ho312 => (W.perm (pmC (pmC (pmC (pmC pr9)))).symm (W.nn (d9 [14] ?_))))))))))))
 refine WD.a1 15 rfl (W.giveO ho312 (pmC (pmC (pmC (pmC pr9)))) (fun G313 hG313 hv313 => ?_))
 have hc314 := SlR.cast hv313 (l' := (n.kids.take (i + 1) ++ [nv]) ++ n.kids.drop (i + 1)) (by simp)
 have q316 := hc314.form
 refine match q316 with | ⟨_, _, e_315⟩ => ?_
 subst e_315
 refine g9 1 ?_
 refine W.nn (g9 11 ?_)
 refine ⟨rfl, _, (adoptN_1 p18 om9 (by simpa using h41) (fun e => p47 (congrArg Str.b e))).symm, _, rfl, ?_⟩
 · exact ⟨_, _, _, _, _, _, _, _, rfl, (hc283.mono lec), hc314, (hm_n.mono lec), (hr_n.mono lec), hok_n⟩

end Go.Proofs.YtfmigmijckdldaaGreat
