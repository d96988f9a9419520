/- Walks of pivots and children with one more, or one fewer. -/
import Derived.Test.YtemoalimclnfkaaGreatQjWb
set_option maxRecDepth 100000
set_option maxHeartbeats 1600000
set_option linter.unusedVariables false
set_option linter.unusedSimpArgs false
set_option linter.unnecessarySimpa false
namespace Go.Proofs.YtemoalimclnfkaaGreat
open Go Go.Fw Go.RowKit
attribute [local irreducible] Ok W WC
theorem inss_fc {G : GH} {v_s : Value} {s : List Str} {Ms_s : MH} (h_s : OwnR eStr 9 G v_s s Ms_s) (i : Nat) {v_u : Value} {u : List Str} {Ms_u : MH} (h_u : OwnR eStr 9 G v_u u Ms_u) (hi : i ≤ s.length) (hu : 0 < u.length) (hw : (s.length + u.length) * 16 ≤ 140737488355328) :
    Fc Tryz.prog 126 [v_s, nt9 i, v_u] G (Ms_s ++ Ms_u) (fun v G' M' => OwnR eStr 9 G' v ((s.take i ++ u) ++ s.drop i) M') := by
 have hs := h_s.len47
 have hul := h_u.len47
 have hcs := h_s.cap_le
 refine Fc.go [.tmp 6] Tryz.func126 Tryz.ntmps126 rfl (fun w0 => (WC.perm (M' := (Ms_s ++ (Ms_u ++ []))) (by simp) (g9 9 ?_)))
 refine W.ok (ok_sliceO (i) (s.length) sl54 ty9 h_s rfl ⟨_, _, rfl, om9⟩ rfl ⟨om9, .inl om9⟩) (g9 16 ?_)
 refine WC.cd (fun h16 p16 => ?_) (fun h16 p16 => ?_)
 ·exact absurd p16 om9
 refine g9 17 ?_
 refine WC.cd (fun h22 p22 => ?_) (fun h22 p22 => ?_)
 ·refine g9 4 ?_
  refine W.giveO h_u (pmA pr9) (fun G1 hG1 hv1 => ?_)
  have q3 := hv1.form
  refine match q3 with | ⟨_, _, e_2⟩ => ?_
  subst e_2
  refine W.app (e := eStr) sl54 ty9 zr9 rfl by9 rfl rfl ((h_s.mono hG1)) (hv1) pr9 (hw) (fun v4 Ms5 ho6 => (g9 5 ?_))
  refine ⟨.inr rfl, [_], ⟨rfl, trivial⟩, Ms5, List.sublist_append_left _ _, ?_⟩
  have h := ho6
  rw [show (s.take i ++ u) ++ s.drop i = s ++ u from by rw [List.take_of_length_le om9, List.drop_eq_nil_of_le om9, List.append_nil]]
  exact h
 refine g9 7 ?_
 refine W.ok (Ok.int (n := ((s.length + u.length : Nat) : Int)) (ok_add rfl rfl om9) om9) (W.mv ?_)
 have q7 := h_s.capForm
 refine match q7 with | ⟨ac30, hcf30⟩ => ?_
 refine W.ok (ok_capO (c := capV v_s) sl54 hcf30) (g9 3 ?_)
 refine WC.cd (fun h31 p31 => ?_) (fun h31 p31 => ?_)
 ·refine g9 4 ?_
  refine W.ok (ok_sliceO (0) (i) sl54 ty9 h_s rfl rfl ⟨_, _, rfl, om9⟩ ⟨om9, .inl om9⟩) (g9 2 ?_)
  refine W.ok (Ok.int (n := ((s.length + u.length : Nat) : Int)) (ok_add rfl rfl om9) om9) (W.mv (W.ok (Ok.int (n := ((s.length + u.length - i : Nat) : Int)) (ok_sub rfl rfl om9) om9) (W.appZ (e := eStr) (i := i) (c := s.length + u.length - i) sl54 ty9 zr9 rfl by9 Tryz.underlying3 h_s pr9 rfl rfl om9 om9 om9 om9 (by rw [show i + (s.length + u.length - i) = s.length + u.length from by omega]; exact hw) rfl (fun v40 Ms40 hp40 => (g9 7 ?_)))))
  refine W.ok (ok_sliceP (i) (i + (s.length + u.length - i)) sl54 ty9 hp40 rfl ⟨_, _, rfl, om9⟩ rfl ⟨om9, by have := OwnP.cap_le hp40; omega⟩) (W.mv (W.copyP (i) (by simp; omega) sl54 ty9 hp40 pr9 (Src.ofOwn0 h_u (pmA (pmA pr9)) om9) rfl rfl om9 om9 (fun z45 Ms45 hp45 => (g9 3 ?_))))
  refine WC.dw sn9 (d9 [0, 1, 2] ?_)
  refine WD.tk 3 rfl (Ok.int (n := ((i + u.length : Nat) : Int)) (ok_add rfl rfl om9) om9) (WD.tk 4 rfl (ok_sliceP (i + u.length) (i + (s.length + u.length - i)) sl54 ty9 hp45 rfl ⟨_, _, rfl, om9⟩ rfl ⟨om9, by have := OwnP.cap_le hp45; omega⟩) (d9 [5, 6] ?_))
  refine WD.tk 7 rfl (ok_sliceO (i) (s.length) sl54 ty9 h_s rfl ⟨_, _, rfl, om9⟩ rfl ⟨om9, .inl om9⟩) (WD.a1 8 rfl (W.copyP (i + u.length) (by simp; omega) sl54 ty9 hp45 pr9 (Src.ofOwn (lo := i) h_s (pmA pr9) om9 om9) rfl rfl (by simp; omega) om9 (fun z54 Ms54 hp54 => (W.nn (g9 10 ?_)))))
  refine ⟨.inr rfl, [_], ⟨rfl, trivial⟩, Ms54, List.sublist_append_left _ _, ?_⟩
  have h := (hp54.own' (by simp; omega))
  rw [List.append_nil] at h
  exact h
 refine g9 7 ?_
 refine W.ok (Ok.int (n := ((s.length + u.length : Nat) : Int)) (ok_add rfl rfl om9) om9) (W.ok (ok_sliceO 0 (s.length + u.length) sl54 ty9 h_s rfl rfl ⟨_, _, rfl, om9⟩ ⟨om9, .inr om9⟩) ?_)
 have hp60 := OwnP.extend (m := u.length) (OwnR.open h_s om9) om9 hw om9
 refine g9 10 ?_
 refine W.ok (Ok.int (n := ((i + u.length : Nat) : Int)) (ok_add rfl rfl om9) om9) (W.ok (ok_sliceP (i + u.length) (s.length + u.length) sl54 ty9 hp60 rfl ⟨_, _, rfl, om9⟩ rfl ⟨om9, by have := OwnP.cap_le hp60; omega⟩) ?_)
 have hc67 := OwnP.cap_le hp60
 refine W.ok (ok_overlaps (fn := Tryz.f140) (tR := 4) (lo := i + u.length) (hi := s.length + u.length) Tryz.func140 (by kernel_rfl) (by kernel_rfl) (by kernel_rfl) (by kernel_rfl) sl54 ty9 h_u hp60 ((List.Perm.append_left _ pr9).trans (pmA pr9)) om9 om9 rfl rfl rfl) (g9 5 ?_)
 refine WC.dw sn9 (d9 [0, 1, 2] ?_)
 refine WD.tk 3 rfl (Ok.int (n := ((i + u.length : Nat) : Int)) (ok_add rfl rfl om9) om9) (WD.tk 4 rfl (ok_sliceP (i + u.length) (s.length + u.length) sl54 ty9 hp60 rfl ⟨_, _, rfl, om9⟩ rfl ⟨om9, by have := OwnP.cap_le hp60; omega⟩) (d9 [5, 6] ?_))
 refine WD.tk 7 rfl (ok_sliceP (i) (s.length + u.length) sl54 ty9 hp60 rfl ⟨_, _, rfl, om9⟩ rfl ⟨om9, by have := OwnP.cap_le hp60; omega⟩) (WD.a1 8 rfl (W.copyShift (i := i) sl54 ty9 hp60 pr9 rfl rfl om9 (fun z77 Ms77 hp77 => (W.nn (g9 6 ?_)))))
 refine W.ok (ok_sliceP (i) (s.length + u.length) sl54 ty9 hp77 rfl ⟨_, _, rfl, om9⟩ rfl ⟨om9, by have := OwnP.cap_le hp77; omega⟩) (W.mv (W.copyP (i) (by simp; omega) sl54 ty9 hp77 pr9 (Src.ofOwn0 h_u (pmA pr9) om9) rfl rfl om9 om9 (fun z82 Ms82 hp82 => (g9 10 ?_))))
 refine ⟨.inr rfl, [_], ⟨rfl, trivial⟩, Ms82, List.sublist_append_left _ _, ?_⟩
 exact (hp82.own' om9)

theorem insi_fc {G : GH} {v_s : Value} {s : List Int} {Ms_s : MH} (h_s : OwnR eInt 3 G v_s s Ms_s) (i : Nat) {v_u : Value} {u : List Int} {Ms_u : MH} (h_u : OwnR eInt 3 G v_u u Ms_u) (hi : i ≤ s.length) (hu : 0 < u.length) (hw : (s.length + u.length) * 8 ≤ 140737488355328) :
    Fc Tryz.prog 127 [v_s, nt9 i, v_u] G (Ms_s ++ Ms_u) (fun v G' M' => OwnR eInt 3 G' v ((s.take i ++ u) ++ s.drop i) M') := by
 have hs := h_s.len47
 have hul := h_u.len47
 have hcs := h_s.cap_le
 refine Fc.go [.tmp 6] Tryz.func127 Tryz.ntmps127 rfl (fun w0 => (WC.perm (M' := (Ms_s ++ (Ms_u ++ []))) (by simp) (g9 9 ?_)))
 refine W.ok (ok_sliceO (i) (s.length) sl55 ty3 h_s rfl ⟨_, _, rfl, om9⟩ rfl ⟨om9, .inl om9⟩) (g9 16 ?_)
 refine WC.cd (fun h16 p16 => ?_) (fun h16 p16 => ?_)
 ·exact absurd p16 om9
 refine g9 17 ?_
 refine WC.cd (fun h22 p22 => ?_) (fun h22 p22 => ?_)
 ·refine g9 4 ?_
  refine W.giveO h_u (pmA pr9) (fun G8 hG8 hv8 => ?_)
  have q10 := hv8.form
  refine match q10 with | ⟨_, _, e_9⟩ => ?_
  subst e_9
  refine W.app (e := eInt) sl55 ty3 zr3 rfl by3 rfl rfl ((h_s.mono hG8)) (hv8) pr9 (hw) (fun v11 Ms12 ho13 => (g9 5 ?_))
  refine ⟨.inr rfl, [_], ⟨rfl, trivial⟩, Ms12, List.sublist_append_left _ _, ?_⟩
  have h := ho13
  rw [show (s.take i ++ u) ++ s.drop i = s ++ u from by rw [List.take_of_length_le om9, List.drop_eq_nil_of_le om9, List.append_nil]]
  exact h
 refine g9 7 ?_
 refine W.ok (Ok.int (n := ((s.length + u.length : Nat) : Int)) (ok_add rfl rfl om9) om9) (W.mv ?_)
 have q14 := h_s.capForm
 refine match q14 with | ⟨ac30, hcf30⟩ => ?_
 refine W.ok (ok_capO (c := capV v_s) sl55 hcf30) (g9 3 ?_)
 refine WC.cd (fun h31 p31 => ?_) (fun h31 p31 => ?_)
 ·refine g9 4 ?_
  refine W.ok (ok_sliceO (0) (i) sl55 ty3 h_s rfl rfl ⟨_, _, rfl, om9⟩ ⟨om9, .inl om9⟩) (g9 2 ?_)
  refine W.ok (Ok.int (n := ((s.length + u.length : Nat) : Int)) (ok_add rfl rfl om9) om9) (W.mv (W.ok (Ok.int (n := ((s.length + u.length - i : Nat) : Int)) (ok_sub rfl rfl om9) om9) (W.appZ (e := eInt) (i := i) (c := s.length + u.length - i) sl55 ty3 zr3 rfl by3 Tryz.underlying3 h_s pr9 rfl rfl om9 om9 om9 om9 (by rw [show i + (s.length + u.length - i) = s.length + u.length from by omega]; exact hw) rfl (fun v40 Ms40 hp40 => (g9 7 ?_)))))
  refine W.ok (ok_sliceP (i) (i + (s.length + u.length - i)) sl55 ty3 hp40 rfl ⟨_, _, rfl, om9⟩ rfl ⟨om9, by have := OwnP.cap_le hp40; omega⟩) (W.mv (W.copyP (i) (by simp; omega) sl55 ty3 hp40 pr9 (Src.ofOwn0 h_u (pmA (pmA pr9)) om9) rfl rfl om9 om9 (fun z45 Ms45 hp45 => (g9 3 ?_))))
  refine WC.dw sn9 (d9 [0, 1, 2] ?_)
  refine WD.tk 3 rfl (Ok.int (n := ((i + u.length : Nat) : Int)) (ok_add rfl rfl om9) om9) (WD.tk 4 rfl (ok_sliceP (i + u.length) (i + (s.length + u.length - i)) sl55 ty3 hp45 rfl ⟨_, _, rfl, om9⟩ rfl ⟨om9, by have := OwnP.cap_le hp45; omega⟩) (d9 [5, 6] ?_))
  refine WD.tk 7 rfl (ok_sliceO (i) (s.length) sl55 ty3 h_s rfl ⟨_, _, rfl, om9⟩ rfl ⟨om9, .inl om9⟩) (WD.a1 8 rfl (W.copyP (i + u.length) (by simp; omega) sl55 ty3 hp45 pr9 (Src.ofOwn (lo := i) h_s (pmA pr9) om9 om9) rfl rfl (by simp; omega) om9 (fun z54 Ms54 hp54 => (W.nn (g9 10 ?_)))))
  refine ⟨.inr rfl, [_], ⟨rfl, trivial⟩, Ms54, List.sublist_append_left _ _, ?_⟩
  have h := (hp54.own' (by simp; omega))
  rw [List.append_nil] at h
  exact h
 refine g9 7 ?_
 refine W.ok (Ok.int (n := ((s.length + u.length : Nat) : Int)) (ok_add rfl rfl om9) om9) (W.ok (ok_sliceO 0 (s.length + u.length) sl55 ty3 h_s rfl rfl ⟨_, _, rfl, om9⟩ ⟨om9, .inr om9⟩) ?_)
 have hp60 := OwnP.extend (m := u.length) (OwnR.open h_s om9) om9 hw om9
 refine g9 10 ?_
 refine W.ok (Ok.int (n := ((i + u.length : Nat) : Int)) (ok_add rfl rfl om9) om9) (W.ok (ok_sliceP (i + u.length) (s.length + u.length) sl55 ty3 hp60 rfl ⟨_, _, rfl, om9⟩ rfl ⟨om9, by have := OwnP.cap_le hp60; omega⟩) ?_)
 have hc67 := OwnP.cap_le hp60
 refine W.ok (ok_overlaps (fn := Tryz.f142) (tR := 4) (lo := i + u.length) (hi := s.length + u.length) Tryz.func142 (by kernel_rfl) (by kernel_rfl) (by kernel_rfl) (by kernel_rfl) sl55 ty3 h_u hp60 ((List.Perm.append_left _ pr9).trans (pmA pr9)) om9 om9 rfl rfl rfl) (g9 5 ?_)
 refine WC.dw sn9 (d9 [0, 1, 2] ?_)
 refine WD.tk 3 rfl (Ok.int (n := ((i + u.length : Nat) : Int)) (ok_add rfl rfl om9) om9) (WD.tk 4 rfl (ok_sliceP (i + u.length) (s.length + u.length) sl55 ty3 hp60 rfl ⟨_, _, rfl, om9⟩ rfl ⟨om9, by have := OwnP.cap_le hp60; omega⟩) (d9 [5, 6] ?_))
 refine WD.tk 7 rfl (ok_sliceP (i) (s.length + u.length) sl55 ty3 hp60 rfl ⟨_, _, rfl, om9⟩ rfl ⟨om9, by have := OwnP.cap_le hp60; omega⟩) (WD.a1 8 rfl (W.copyShift (i := i) sl55 ty3 hp60 pr9 rfl rfl om9 (fun z77 Ms77 hp77 => (W.nn (g9 6 ?_)))))
 refine W.ok (ok_sliceP (i) (s.length + u.length) sl55 ty3 hp77 rfl ⟨_, _, rfl, om9⟩ rfl ⟨om9, by have := OwnP.cap_le hp77; omega⟩) (W.mv (W.copyP (i) (by simp; omega) sl55 ty3 hp77 pr9 (Src.ofOwn0 h_u (pmA pr9) om9) rfl rfl om9 om9 (fun z82 Ms82 hp82 => (g9 10 ?_))))
 refine ⟨.inr rfl, [_], ⟨rfl, trivial⟩, Ms82, List.sublist_append_left _ _, ?_⟩
 exact (hp82.own' om9)

theorem dels_fc {G : GH} {v_s : Value} {s : List Str} {Ms_s : MH} (h_s : OwnR eStr 9 G v_s s Ms_s) (i : Nat) (j : Nat) (hij : i < j ∧ j ≤ s.length) :
    Fc Tryz.prog 148 [v_s, nt9 i, nt9 j] G Ms_s (fun v G' M' => OwnR eStr 9 G' v (s.take i ++ s.drop j) M') := by
 have hs := h_s.len47
 obtain ⟨hij1, hij2⟩ := hij
 refine Fc.go [.tmp 6] Tryz.func148 Tryz.ntmps148 rfl (fun w0 => (WC.perm (M' := (Ms_s ++ [])) (by simp) (g9 12 ?_)))
 have q15 := h_s.capForm
 refine match q15 with | ⟨ac13, hcf13⟩ => ?_
 have hcl13 := h_s.cap_le
 refine W.okx (ok_slice3 i j s.length sl54 ty9 hcf13 ⟨_, _, rfl, om9⟩ ⟨_, _, rfl, om9⟩ ⟨_, _, rfl, om9⟩ ⟨om9, om9, om9⟩) (fun u13 => (g9 10 ?_))
 refine WC.cd (fun h16 p16 => ?_) (fun h16 p16 => ?_)
 ·exact absurd p16 om9
 refine g9 10 ?_
 refine WC.dw sn9 (d9 [0, 1] ?_)
 refine WD.tk 2 rfl (ok_sliceO (0) (i) sl54 ty9 h_s rfl rfl ⟨_, _, rfl, om9⟩ ⟨om9, .inl om9⟩) (d9 [3, 4] ?_)
 refine WD.tk 5 rfl (ok_sliceO (j) (s.length) sl54 ty9 h_s rfl ⟨_, _, rfl, om9⟩ rfl ⟨om9, .inl om9⟩) (WD.a1 6 rfl (W.appDel (e := eStr) (i := i) (j := j) sl54 ty9 zr9 rfl h_s pr9 rfl rfl om9 om9 om9 (fun v26 Ms26 ho26 hc26 hf26 => (W.nn (d9 [7] ?_)))))
 refine g9 8 ?_
 have hl31 : (s.take i ++ s.drop j).length = i + (s.length - j) := by simp; omega
 refine W.ok (ok_sliceO (s.take i ++ s.drop j).length s.length sl54 ty9 ho26 rfl ⟨_, _, rfl, om9⟩ ⟨_, _, rfl, om9⟩ ⟨om9, .inr om9⟩) (W.clearT (e := eStr) (lo := (s.take i ++ s.drop j).length) (hi := s.length) sl54 ty9 zr9 rfl rfl ho26 pr9 rfl om9 hc26 hf26 om9 (fun Ms31 ho31 => (g9 9 ?_)))
 refine ⟨.inr rfl, [_], ⟨rfl, trivial⟩, Ms31, List.sublist_append_left _ _, ?_⟩
 exact ho31

theorem deli_fc {G : GH} {v_s : Value} {s : List Int} {Ms_s : MH} (h_s : OwnR eInt 3 G v_s s Ms_s) (i : Nat) (j : Nat) (hij : i < j ∧ j ≤ s.length) :
    Fc Tryz.prog 149 [v_s, nt9 i, nt9 j] G Ms_s (fun v G' M' => OwnR eInt 3 G' v (s.take i ++ s.drop j) M') := by
 have hs := h_s.len47
 obtain ⟨hij1, hij2⟩ := hij
 refine Fc.go [.tmp 6] Tryz.func149 Tryz.ntmps149 rfl (fun w0 => (WC.perm (M' := (Ms_s ++ [])) (by simp) (g9 12 ?_)))
 have q16 := h_s.capForm
 refine match q16 with | ⟨ac13, hcf13⟩ => ?_
 have hcl13 := h_s.cap_le
 refine W.okx (ok_slice3 i j s.length sl55 ty3 hcf13 ⟨_, _, rfl, om9⟩ ⟨_, _, rfl, om9⟩ ⟨_, _, rfl, om9⟩ ⟨om9, om9, om9⟩) (fun u13 => (g9 10 ?_))
 refine WC.cd (fun h16 p16 => ?_) (fun h16 p16 => ?_)
 ·exact absurd p16 om9
 refine g9 10 ?_
 refine WC.dw sn9 (d9 [0, 1] ?_)
 refine WD.tk 2 rfl (ok_sliceO (0) (i) sl55 ty3 h_s rfl rfl ⟨_, _, rfl, om9⟩ ⟨om9, .inl om9⟩) (d9 [3, 4] ?_)
 refine WD.tk 5 rfl (ok_sliceO (j) (s.length) sl55 ty3 h_s rfl ⟨_, _, rfl, om9⟩ rfl ⟨om9, .inl om9⟩) (WD.a1 6 rfl (W.appDel (e := eInt) (i := i) (j := j) sl55 ty3 zr3 rfl h_s pr9 rfl rfl om9 om9 om9 (fun v26 Ms26 ho26 hc26 hf26 => (W.nn (d9 [7] ?_)))))
 refine g9 8 ?_
 have hl31 : (s.take i ++ s.drop j).length = i + (s.length - j) := by simp; omega
 refine W.ok (ok_sliceO (s.take i ++ s.drop j).length s.length sl55 ty3 ho26 rfl ⟨_, _, rfl, om9⟩ ⟨_, _, rfl, om9⟩ ⟨om9, .inr om9⟩) (W.clearT (e := eInt) (lo := (s.take i ++ s.drop j).length) (hi := s.length) sl55 ty3 zr3 rfl rfl ho26 pr9 rfl om9 hc26 hf26 om9 (fun Ms31 ho31 => (g9 9 ?_)))
 refine ⟨.inr rfl, [_], ⟨rfl, trivial⟩, Ms31, List.sublist_append_left _ _, ?_⟩
 exact ho31

theorem clonesO_fc {G : GH} {v_a : Value} {a : List Str} (h_a : SlR eStr G v_a a) :
    Fc Tryz.prog 45 [v_a] G [] (fun v G' M' => OwnR eStr 9 G' v (a) M') := by
 obtain ⟨sa_a, sc_a, rfl⟩ := h_a.form
 have ha := h_a.bytes
 refine Fc.go [.tmp 2] Tryz.func45 Tryz.ntmps45 rfl (fun w0 => (g9 9 ?_))
 refine W.ok (ok_eqlNil sl54 rfl rfl) (g9 2 ?_)
 refine WC.cond rfl (fun h4 => ?_) (fun h4 => ?_)
 ·have hn := SlR.isNone h_a h4
  subst hn
  refine g9 8 ?_
  exact OwnR.nil
 refine g9 4 ?_
 refine W.lit0 (e := eStr) sl54 ty9 zr9 rfl (fun v17 Ms18 ho19 => (W.mv (W.app (e := eStr) sl54 ty9 zr9 rfl by9 rfl rfl (ho19) (h_a) pr9 (by simpa using ha) (fun v20 Ms21 ho22 => (g9 4 ?_)))))
 refine ⟨.inr rfl, [_], ⟨rfl, trivial⟩, Ms21, List.sublist_append_left _ _, ?_⟩
 have h := ho22
 rw [List.nil_append] at h
 exact h

theorem cloneiO_fc {G : GH} {v_a : Value} {a : List Int} (h_a : SlR eInt G v_a a) :
    Fc Tryz.prog 46 [v_a] G [] (fun v G' M' => OwnR eInt 3 G' v (a) M') := by
 obtain ⟨sa_a, sc_a, rfl⟩ := h_a.form
 have ha := h_a.bytes
 refine Fc.go [.tmp 2] Tryz.func46 Tryz.ntmps46 rfl (fun w0 => (g9 9 ?_))
 refine W.ok (ok_eqlNil sl55 rfl rfl) (g9 2 ?_)
 refine WC.cond rfl (fun h4 => ?_) (fun h4 => ?_)
 ·have hn := SlR.isNone h_a h4
  subst hn
  refine g9 8 ?_
  exact OwnR.nil
 refine g9 4 ?_
 refine W.lit0 (e := eInt) sl55 ty3 zr3 rfl (fun v23 Ms24 ho25 => (W.mv (W.app (e := eInt) sl55 ty3 zr3 rfl by3 rfl rfl (ho25) (h_a) pr9 (by simpa using ha) (fun v26 Ms27 ho28 => (g9 4 ?_)))))
 refine ⟨.inr rfl, [_], ⟨rfl, trivial⟩, Ms27, List.sublist_append_left _ _, ?_⟩
 have h := ho28
 rw [List.nil_append] at h
 exact h

theorem grows_fc {G : GH} (n : Nat) (hb : n * 16 ≤ 140737488355328) :
    Fc Tryz.prog 150 [lV none 0 0, nt9 n] G [] (fun v G' M' => OwnR eStr 9 G' v ([]) M') := by
 refine Fc.go [.tmp 4] Tryz.func150 Tryz.ntmps150 rfl (fun w0 => (g9 12 ?_))
 refine WC.cd (fun h6 p6 => ?_) (fun h6 p6 => ?_)
 ·exact absurd p6 om9
 refine g9 7 ?_
 refine W.ok (ok_capNil sl54 rfl) (W.mv (W.ok (ok_len (e := eStr) sl54 SlR.nil rfl) (W.ok (ok_sub rfl rfl (by simp)) (W.ok (ok_sub rfl rfl (by simp; omega)) (g9 9 ?_)))))
 refine WC.cd (fun h16 p16 => ?_) (fun h16 p16 => ?_)
 ·refine g9 3 ?_
  refine W.ok (ok_capNil sl54 rfl) (W.ok (ok_sliceNil sl54 ty9 rfl rfl) (W.mv (W.appMake (e := eStr) (n := n) sl54 ty9 zr9 rfl by9 Tryz.underlying3 rfl (iv (by simp)) (by simp at p16; omega) hb rfl (fun b_1 c_1 Ms_1 ho_1 => (W.mv (W.ok (ok_len (e := eStr) sl54 SlR.nil rfl) (W.ok (ok_slice0 sl54 ty9 rfl rfl) (g9 10 ?_))))))))
  refine ⟨.inr rfl, [_], ⟨rfl, trivial⟩, Ms_1, List.sublist_append_left _ _, ?_⟩
  exact ho_1
 refine g9 10 ?_
 exact OwnR.nil

theorem growi_fc {G : GH} (n : Nat) (hb : n * 8 ≤ 140737488355328) :
    Fc Tryz.prog 151 [lV none 0 0, nt9 n] G [] (fun v G' M' => OwnR eInt 3 G' v ([]) M') := by
 refine Fc.go [.tmp 4] Tryz.func151 Tryz.ntmps151 rfl (fun w0 => (g9 12 ?_))
 refine WC.cd (fun h6 p6 => ?_) (fun h6 p6 => ?_)
 ·exact absurd p6 om9
 refine g9 7 ?_
 refine W.ok (ok_capNil sl55 rfl) (W.mv (W.ok (ok_len (e := eInt) sl55 SlR.nil rfl) (W.ok (ok_sub rfl rfl (by simp)) (W.ok (ok_sub rfl rfl (by simp; omega)) (g9 9 ?_)))))
 refine WC.cd (fun h16 p16 => ?_) (fun h16 p16 => ?_)
 ·refine g9 3 ?_
  refine W.ok (ok_capNil sl55 rfl) (W.ok (ok_sliceNil sl55 ty3 rfl rfl) (W.mv (W.appMake (e := eInt) (n := n) sl55 ty3 zr3 rfl by3 Tryz.underlying3 rfl (iv (by simp)) (by simp at p16; omega) hb rfl (fun b_1 c_1 Ms_1 ho_1 => (W.mv (W.ok (ok_len (e := eInt) sl55 SlR.nil rfl) (W.ok (ok_slice0 sl55 ty3 rfl rfl) (g9 10 ?_))))))))
  refine ⟨.inr rfl, [_], ⟨rfl, trivial⟩, Ms_1, List.sublist_append_left _ _, ?_⟩
  exact ho_1
 refine g9 10 ?_
 exact OwnR.nil

theorem concatsO_fc {G : GH} {v_l : Value} {l : List (List Str)} (h_l : SlR (eSl eStr) G v_l l) (hb : l.flatten.length * 16 ≤ 140737488355328) :
    Fc Tryz.prog 137 [v_l] G [] (fun v G' M' => OwnR eStr 9 G' v (l.flatten) M') := by
 obtain ⟨sa_l, sc_l, rfl⟩ := h_l.form
 have hl := h_l.len47
 refine Fc.go [.tmp 2] Tryz.func137 Tryz.ntmps137 rfl (fun w0 => (g9 19 ?_))
 refine WC.loop (X := Nat) (fun j => [(3, nt9 ((l.take j).flatten.length)), (9, lV sa_l l.length sc_l), (10, nt9 l.length), (11, nt9 j), (0, lV sa_l l.length sc_l)]) (fun j _ Ml => Ml = [] ∧ j ≤ l.length) (fun j => l.length - j) 0 ⟨rfl, eqv, eqv, eqv, eqv, trivial⟩ ?_ ?_
 ·exact ⟨rfl, om9⟩
 rintro j gG1 G1 _ hG1 ⟨rfl, hj⟩
 have hlj := flat_le l j
 have hlj2 := flat_le l (j + 1)
 refine g9 6 ?_
 refine WC.cd (fun h12 p12 => ?_) (fun h12 p12 => ?_)
 ·have hjl := flat_len (l := l) (j := j) om9
  refine g9 6 ?_
  have q5 := (h_l.mono hG1).at (i := j) om9
  refine match q5 with | ⟨_, he2, ⟨_, e_4, hs3⟩⟩ => ?_
  subst e_4
  obtain ⟨sa_hs3, sc_hs3, rfl⟩ := hs3.form
  refine g9 20 ?_
  refine WC.cd (fun h20 p20 => ?_) (fun h20 p20 => ?_)
  ·exact absurd p20 om9
  refine g9 8 ?_
  exact ⟨Le.rfl, j + 1, ⟨(iv (by rw [flat_len om9]; omega)), eqv, eqv, eqv, eqv, trivial⟩, ⟨rfl, om9⟩, om9⟩
 refine g9 8 ?_
 refine W.call (Mp := []) (grows_fc _ (by rw [flat_all om9]; omega)) rfl pr9 ?_
 rintro v7 G6 Ms8 hG6 ho9
 refine g9 12 ?_
 refine WC.loop (X := (Nat) × Value × MH) (fun i => [(25, lV sa_l l.length sc_l), (26, nt9 l.length), (27, nt9 i.1), (6, i.2.1)]) (fun i G Ml => Ml = (i.2.2 ++ []) ∧ OwnR eStr 9 G i.2.1 ((l.take i.1).flatten) i.2.2 ∧ i.1 ≤ l.length) (fun i => l.length - i.1) (0, v7, Ms8) hs9 ?_ ?_
 ·exact ⟨rfl, (by simpa using ho9), om9⟩
 rintro ⟨i, v_6, M_6⟩ gG10 G10 _ hG10 ⟨rfl, ho_6, hi⟩
 try dsimp only at ho_6 hi
 have hli := flat_le l i
 have hli2 := flat_le l (i + 1)
 refine WC.fr (f := setL gG10 [(25, lV sa_l l.length sc_l), (26, nt9 l.length), (27, nt9 i), (6, v_6)]) rfl (g9 6 ?_)
 refine WC.cd (fun h28 p28 => ?_) (fun h28 p28 => ?_)
 ·have hil := flat_len (l := l) (j := i) om9
  refine g9 6 ?_
  have q14 := (h_l.mono ((hG1.trans hG6).trans hG10)).at (i := i) om9
  refine match q14 with | ⟨_, he11, ⟨_, e_13, hs12⟩⟩ => ?_
  subst e_13
  obtain ⟨sa_hs12, sc_hs12, rfl⟩ := hs12.form
  refine g9 8 ?_
  refine W.app (e := eStr) sl54 ty9 zr9 rfl by9 rfl rfl (ho_6) (hs12) pr9 (by show ((l.take i).flatten.length + l[i].length) * 16 ≤ 140737488355328; omega) (fun v15 Ms16 ho17 => (g9 9 ?_))
  exact ⟨Le.rfl, (i + 1, v15, Ms16), hs9, ⟨rfl, (by have h := ho17; rw [flat_succ om9]; exact h), om9⟩, om9⟩
 refine g9 12 ?_
 refine ⟨.inr rfl, [_], ⟨rfl, trivial⟩, M_6, List.sublist_append_left _ _, ?_⟩
 have h := ho_6; rw [flat_all om9] at h; exact h

theorem concati_fc {G : GH} {v_l : Value} {l : List (List Int)} (h_l : SlR (eSl eInt) G v_l l) (hb : l.flatten.length * 8 ≤ 140737488355328) :
    Fc Tryz.prog 138 [v_l] G [] (fun v G' M' => M' = [] ∧ ∃ u0, v = u0 ∧ SlR eInt G' u0 (l.flatten)) := by
 obtain ⟨sa_l, sc_l, rfl⟩ := h_l.form
 have hl := h_l.len47
 refine Fc.go [.tmp 2] Tryz.func138 Tryz.ntmps138 rfl (fun w0 => (g9 19 ?_))
 refine WC.loop (X := Nat) (fun j => [(3, nt9 ((l.take j).flatten.length)), (9, lV sa_l l.length sc_l), (10, nt9 l.length), (11, nt9 j), (0, lV sa_l l.length sc_l)]) (fun j _ Ml => Ml = [] ∧ j ≤ l.length) (fun j => l.length - j) 0 ⟨rfl, eqv, eqv, eqv, eqv, trivial⟩ ?_ ?_
 ·exact ⟨rfl, om9⟩
 rintro j gG18 G18 _ hG18 ⟨rfl, hj⟩
 have hlj := flat_le l j
 have hlj2 := flat_le l (j + 1)
 refine g9 6 ?_
 refine WC.cd (fun h12 p12 => ?_) (fun h12 p12 => ?_)
 ·have hjl := flat_len (l := l) (j := j) om9
  refine g9 6 ?_
  have q22 := (h_l.mono hG18).at (i := j) om9
  refine match q22 with | ⟨_, he19, ⟨_, e_21, hs20⟩⟩ => ?_
  subst e_21
  obtain ⟨sa_hs20, sc_hs20, rfl⟩ := hs20.form
  refine g9 20 ?_
  refine WC.cd (fun h20 p20 => ?_) (fun h20 p20 => ?_)
  ·exact absurd p20 om9
  refine g9 8 ?_
  exact ⟨Le.rfl, j + 1, ⟨(iv (by rw [flat_len om9]; omega)), eqv, eqv, eqv, eqv, trivial⟩, ⟨rfl, om9⟩, om9⟩
 refine g9 8 ?_
 refine W.call (Mp := []) (growi_fc _ (by rw [flat_all om9]; omega)) rfl pr9 ?_
 rintro v24 G23 Ms25 hG23 ho26
 refine g9 12 ?_
 refine WC.loop (X := (Nat) × Value × MH) (fun i => [(25, lV sa_l l.length sc_l), (26, nt9 l.length), (27, nt9 i.1), (6, i.2.1)]) (fun i G Ml => Ml = (i.2.2 ++ []) ∧ OwnR eInt 3 G i.2.1 ((l.take i.1).flatten) i.2.2 ∧ i.1 ≤ l.length) (fun i => l.length - i.1) (0, v24, Ms25) hs9 ?_ ?_
 ·exact ⟨rfl, (by simpa using ho26), om9⟩
 rintro ⟨i, v_6, M_6⟩ gG27 G27 _ hG27 ⟨rfl, ho_6, hi⟩
 try dsimp only at ho_6 hi
 have hli := flat_le l i
 have hli2 := flat_le l (i + 1)
 refine WC.fr (f := setL gG27 [(25, lV sa_l l.length sc_l), (26, nt9 l.length), (27, nt9 i), (6, v_6)]) rfl (g9 6 ?_)
 refine WC.cd (fun h28 p28 => ?_) (fun h28 p28 => ?_)
 ·have hil := flat_len (l := l) (j := i) om9
  refine g9 6 ?_
  have q31 := (h_l.mono ((hG18.trans hG23).trans hG27)).at (i := i) om9
  refine match q31 with | ⟨_, he28, ⟨_, e_30, hs29⟩⟩ => ?_
  subst e_30
  obtain ⟨sa_hs29, sc_hs29, rfl⟩ := hs29.form
  refine g9 8 ?_
  refine W.app (e := eInt) sl55 ty3 zr3 rfl by3 rfl rfl (ho_6) (hs29) pr9 (by show ((l.take i).flatten.length + l[i].length) * 8 ≤ 140737488355328; omega) (fun v32 Ms33 ho34 => (g9 9 ?_))
  exact ⟨Le.rfl, (i + 1, v32, Ms33), hs9, ⟨rfl, (by have h := ho34; rw [flat_succ om9]; exact h), om9⟩, om9⟩
 refine g9 11 ?_
 refine WC.giveO ho_6 pr9 (fun G35 hG35 hv35 => (g9 2 ?_))
 refine ⟨rfl, _, rfl, ?_⟩
 · have h := hv35; rw [flat_all om9] at h; exact h

theorem binsO_fc {G : GH} {v_p : Value} {p : List Str} (h_p : SlR eStr G v_p p) {v_c : Value} {c : List Int} (h_c : SlR eInt G v_c c) (i : Nat) (k : Str) (nv : Int) (hb1 : (p.length + 1) * 16 ≤ 140737488355328) (hb2 : (c.length + 1) * 8 ≤ 140737488355328) (hi : i < c.length) (hh : (rangeN p (i : Int)).has k = true) (hl : k ≠ (rangeN p (i : Int)).lo) (hv : i64 nv) :
    Fc Tryz.prog 107 [v_p, v_c, nt9 i, sV k.b, iV nv] G [] (fun v G' M' => ∃ vp vk, v = .tuple #[vp, vk] ∧ OwnR eStr 9 G' vp (p.take i ++ ([k] ++ p.drop i)) M' ∧ SlR eInt G' vk (c.take (i + 1) ++ ([nv] ++ c.drop (i + 1)))) := by
 obtain ⟨sa_p, sc_p, rfl⟩ := h_p.form
 obtain ⟨sa_c, sc_c, rfl⟩ := h_c.form
 have hp := h_p.len47
 have hc := h_c.len47
 have hin := range_in hh
 have hv1 := hv.1
 have hv2 := hv.2
 have hi9 : i64 ((i : Nat) : Int) := ⟨om9, om9⟩
 refine Fc.go [.tmp 10, .tmp 11] Tryz.func107 Tryz.ntmps107 rfl (fun w0 => (g9 10 ?_))
 refine W.qcall (brange_fc h_p _ (by first | assumption | exact ⟨om9, om9⟩)) rfl (W.alloc zr74 (fun b36 => (g9 9 ?_)))
 refine W.sd 18 (fun h17 p17 => ?_) (fun h17 p17 => ?_)
 ·exfalso; omega
 refine g9 10 ?_
 refine W.sd 24 (fun h22 p22 => ?_) (fun h22 p22 => ?_)
 ·exfalso; omega
 refine g9 5 ?_
 refine W.qcall (spanhas_fc _ _ _ _) rfl (g9 4 ?_)
 refine W.sp 30 rfl (fun h28 => ?_) (fun h28 => ?_)
 ·exact absurd hh (by simpa using h28)
 refine g9 11 ?_
 refine WC.cd (fun h34 p34 => ?_) (fun h34 p34 => ?_)
 ·exact absurd (Str.ext' p34) hl
 refine g9 3 ?_
 refine WC.sub (sr9.cons _) (g9 2 ?_)
 refine W.call (Mp := []) (clonesO_fc h_p) rfl pr9 ?_
 rintro v38 G37 Ms39 hG37 ho40
 refine g9 2 ?_
 refine W.litO (e := eStr) (l := [_]) (css := [[sV _]]) sl54 ty9 zr9 rfl rfl rfl rfl rfl rfl ⟨rfl, trivial⟩ (fun v41 Ms42 ho43 => (W.call (Mp := Ms39 ++ Ms42) (inss_fc ho40 _ ho43 (by first | assumption | omega) (by first | assumption | omega | simp) (by first | assumption | omega | (simp; omega))) rfl ((List.Perm.of_eq (List.append_assoc _ _ _)).trans ((List.Perm.append_left _ pr9).trans (pmA pr9))) ?_))
 rintro v45 G44 Ms46 hG44 ho47
 refine W.mv (W.call (Mp := []) (cloneiO_fc (h_c.mono lec)) rfl pr9 ?_)
 rintro v49 G48 Ms50 hG48 ho51
 refine W.mv (W.ok (Ok.int (n := ((i + 1 : Nat) : Int)) (ok_add rfl rfl om9) om9) (W.mv (W.litO (e := eInt) (l := [_]) (css := [[iV _]]) sl55 ty3 zr3 rfl rfl rfl rfl rfl rfl ⟨⟨rfl, om9, om9⟩, trivial⟩ (fun v52 Ms53 ho54 => (W.call (Mp := Ms50 ++ Ms53) (insi_fc ho51 _ ho54 (by first | assumption | omega) (by first | assumption | omega | simp) (by first | assumption | omega | (simp; omega))) rfl ((List.Perm.of_eq (List.append_assoc _ _ _)).trans ((List.Perm.append_left _ pr9).trans (pmA pr9))) ?_)))))
 rintro v56 G55 Ms57 hG55 ho58
 refine g9 4 ?_
 refine WC.perm (M' := (Ms46 ++ (Ms57 ++ []))) ((List.Perm.append_left _ pr9).trans (pmA pr9)) (WC.giveO ho58 (pmA pr9) (fun G59 hG59 hv59 => (WC.ret ?_)))
 refine ⟨.inr rfl, [_, _], ⟨rfl, rfl, trivial⟩, Ms46, List.sublist_append_left _ _, ?_⟩
 have h1 := (ho47.mono ((hG48.trans hG55).trans hG59))
 have h2 := hv59
 rw [List.append_assoc] at h1 h2
 exact ⟨_, _, rfl, h1, h2⟩

theorem bremO_fc {G : GH} {v_p : Value} {p : List Str} (h_p : SlR eStr G v_p p) {v_c : Value} {c : List Int} (h_c : SlR eInt G v_c c) (i : Nat) (hi : 1 ≤ i ∧ i < c.length ∧ i ≤ p.length) :
    Fc Tryz.prog 136 [v_p, v_c, nt9 i] G [] (fun v G' M' => ∃ vp vk, v = .tuple #[vp, vk] ∧ OwnR eStr 9 G' vp (p.take (i - 1) ++ p.drop i) M' ∧ SlR eInt G' vk (c.take i ++ c.drop (i + 1))) := by
 obtain ⟨sa_p, sc_p, rfl⟩ := h_p.form
 obtain ⟨sa_c, sc_c, rfl⟩ := h_c.form
 have hp := h_p.len47
 have hc := h_c.len47
 refine Fc.go [.tmp 6, .tmp 7] Tryz.func136 Tryz.ntmps136 rfl (fun w0 => (g9 12 ?_))
 refine W.sd 10 (fun h9 p9 => ?_) (fun h9 p9 => ?_)
 ·exfalso; omega
 refine g9 10 ?_
 refine W.sd 16 (fun h14 p14 => ?_) (fun h14 p14 => ?_)
 ·exfalso; omega
 refine g9 11 ?_
 refine WC.cd (fun h20 p20 => ?_) (fun h20 p20 => ?_)
 ·exfalso; omega
 refine g9 5 ?_
 refine W.call (Mp := []) (clonesO_fc h_p) rfl pr9 ?_
 rintro v61 G60 Ms62 hG60 ho63
 refine W.mv (W.ok (Ok.int (n := ((i - 1 : Nat) : Int)) (ok_sub rfl rfl om9) om9) (W.mv (W.call (Mp := Ms62) (dels_fc ho63 _ _ (by first | assumption | omega)) rfl pr9 ?_)))
 rintro v65 G64 Ms66 hG64 ho67
 refine W.mv (W.call (Mp := []) (cloneiO_fc (h_c.mono lec)) rfl pr9 ?_)
 rintro v69 G68 Ms70 hG68 ho71
 refine g9 2 ?_
 refine W.ok (Ok.int (n := ((i + 1 : Nat) : Int)) (ok_add rfl rfl om9) om9) (W.call (Mp := Ms70) (deli_fc ho71 _ _ (by first | assumption | omega)) rfl pr9 ?_)
 rintro v73 G72 Ms74 hG72 ho75
 refine g9 4 ?_
 refine WC.perm (M' := (Ms66 ++ (Ms74 ++ []))) ((List.Perm.append_left _ pr9).trans (pmA pr9)) (WC.giveO ho75 (pmA pr9) (fun G76 hG76 hv76 => (WC.ret ?_)))
 refine ⟨.inr rfl, [_, _], ⟨rfl, rfl, trivial⟩, Ms66, List.sublist_append_left _ _, ?_⟩
 exact ⟨_, _, rfl, (ho67.mono lec), hv76⟩

theorem bhalveO_fc {G : GH} {v_p : Value} {p : List Str} (h_p : SlR eStr G v_p p) {v_c : Value} {c : List Int} (h_c : SlR eInt G v_c c) (hc4 : 4 ≤ c.length ∧ p.length + 1 = c.length) :
    Fc Tryz.prog 108 [v_p, v_c] G [] (fun v G' M' => ∃ vp vk vq vl Mp Mq, ∃ K : Str, M' = Mp ++ Mq ∧ v = .tuple #[vp, vk, sV K.b, vq, vl, .bool true] ∧ K = p.getD (((c.length + 1) / 2) - 1) Str.nil ∧ OwnR eStr 9 G' vp (p.take (((c.length + 1) / 2) - 1)) Mp ∧ SlR eInt G' vk (c.take ((c.length + 1) / 2)) ∧ OwnR eStr 9 G' vq (p.drop ((c.length + 1) / 2)) Mq ∧ SlR eInt G' vl (c.drop ((c.length + 1) / 2))) := by
 obtain ⟨sa_p, sc_p, rfl⟩ := h_p.form
 obtain ⟨sa_c, sc_c, rfl⟩ := h_c.form
 have hp := h_p.len47
 have hc := h_c.len47
 refine Fc.go [.tmp 4, .tmp 5, .tmp 6, .tmp 7, .tmp 8, .tmp 9] Tryz.func108 Tryz.ntmps108 rfl (fun w0 => (g9 17 ?_))
 refine W.sd 14 (fun h13 p13 => ?_) (fun h13 p13 => ?_)
 ·exfalso; omega
 refine g9 15 ?_
 refine WC.cn (fun h20 p20 => ?_) (fun h20 p20 => ?_)
 ·exfalso; omega
 refine g9 7 ?_
 refine W.ok (ok_quo' rfl rfl om9 om9 om9) (g9 4 ?_)
 refine WC.dw sr9 (d9 [0, 1, 2] ?_)
 have hs77 := SlR.slice h_p (lo := 0) (hi := ((c.length + 1) / 2) - 1) om9 om9
 refine WD.tk 3 rfl (ok_slice (0) (((c.length + 1) / 2) - 1) sl54 ty9 h_p rfl rfl ⟨_, _, rfl, om9⟩ ⟨om9, om9⟩) (d9 [5, 6] ?_)
 have hs78 := SlR.slice h_c (lo := 0) (hi := ((c.length + 1) / 2)) om9 om9
 refine WD.tk 7 rfl (ok_slice (0) (((c.length + 1) / 2)) sl55 ty3 h_c rfl rfl ⟨_, _, rfl, om9⟩ ⟨om9, om9⟩) (d9 [9, 10, 11] ?_)
 refine h_p.a1 (i := ((c.length + 1) / 2) - 1) om9 (fun he79 => (WD.tk 12 rfl (ok_indexAddr (i := ((c.length + 1) / 2) - 1) sl54 ty9 h_p rfl rfl ⟨om9, om9⟩) (d9 [13, 14, 15] ?_)))
 have hs82 := SlR.slice h_p (lo := ((c.length + 1) / 2)) (hi := p.length) om9 om9
 refine WD.tk 16 rfl (ok_slice (((c.length + 1) / 2)) (p.length) sl54 ty9 h_p rfl ⟨_, _, rfl, om9⟩ rfl ⟨om9, om9⟩) (d9 [18, 19] ?_)
 have hs83 := SlR.slice h_c (lo := ((c.length + 1) / 2)) (hi := c.length) om9 om9
 refine WD.tk 20 rfl (ok_slice (((c.length + 1) / 2)) (c.length) sl55 ty3 h_c rfl ⟨_, _, rfl, om9⟩ rfl ⟨om9, om9⟩) (WD.a1 4 rfl (W.call (Mp := []) (clonesO_fc hs77) rfl pr9 ?_))
 rintro v85 G84 Ms86 hG84 ho87
 refine W.nn (WD.a1 8 rfl (W.call (Mp := []) (cloneiO_fc (hs78.mono hG84)) rfl pr9 ?_))
 rintro v89 G88 Ms90 hG88 ho91
 refine W.nn (WD.a1 17 rfl (W.call (Mp := []) (clonesO_fc (hs82.mono lec)) rfl pr9 ?_))
 rintro v93 G92 Ms94 hG92 ho95
 refine W.nn (WD.a1 21 rfl (W.call (Mp := []) (cloneiO_fc (hs83.mono lec)) rfl pr9 ?_))
 rintro v97 G96 Ms98 hG96 ho99
 refine W.nn (d9 [22, 23, 24, 25, 26, 27] ?_)
 refine g9 2 ?_
 refine WC.perm (M' := (Ms86 ++ (Ms94 ++ (Ms98 ++ (Ms90 ++ []))))) ((List.Perm.append_left _ ((List.Perm.append_left _ pr9).trans (pmA pr9))).trans (pmA (pmA (pmA pr9)))) (WC.giveO (ho91.mono lec) (pmA (pmA (pmA pr9))) (fun G100 hG100 hv100 => (WC.giveO (ho99.mono hG100) (pmA (pmA pr9)) (fun G101 hG101 hv101 => (WC.ret ?_)))))
 refine ⟨.inr rfl, [_, _, _, _, _, _], ⟨rfl, rfl, rfl, rfl, rfl, rfl, trivial⟩, (Ms86 ++ Ms94), List.Sublist.append_left (List.sublist_append_left _ _) _, ?_⟩
 have h1 := (ho87.mono ((((hG88.trans hG92).trans hG96).trans hG100).trans hG101))
 have h2 := (hv100.mono hG101)
 have h3 := (ho95.mono ((hG96.trans hG100).trans hG101))
 have h4 := hv101
 rw [List.take_length] at h3 h4
 have h5 := getD_lt (d := Str.nil) (by omega : ((c.length + 1) / 2) - 1 < p.length)
 exact ⟨_, _, _, _, _, _, _, rfl, rfl, h5.symm, h1, h2, h3, h4⟩

theorem bjoinO_fc {G : GH} {v_a : Value} {a : List Str} (h_a : SlR eStr G v_a a) {v_b : Value} {b : List Int} (h_b : SlR eInt G v_b b) (k : Str) {v_x : Value} {x : List Str} (h_x : SlR eStr G v_x x) {v_y : Value} {y : List Int} (h_y : SlR eInt G v_y y) (hb1 : (a.length + 1 + x.length) * 16 ≤ 140737488355328) (hb2 : (b.length + y.length) * 8 ≤ 140737488355328) :
    Fc Tryz.prog 122 [v_a, v_b, sV k.b, v_x, v_y] G [] (fun v G' M' => ∃ vp vk, v = .tuple #[vp, vk] ∧ OwnR eStr 9 G' vp (a ++ k :: x) M' ∧ SlR eInt G' vk (b ++ y)) := by
 obtain ⟨sa_a, sc_a, rfl⟩ := h_a.form
 obtain ⟨sa_b, sc_b, rfl⟩ := h_b.form
 obtain ⟨sa_x, sc_x, rfl⟩ := h_x.form
 obtain ⟨sa_y, sc_y, rfl⟩ := h_y.form
 refine Fc.go [.tmp 10, .tmp 11] Tryz.func122 Tryz.ntmps122 rfl (fun w0 => (g9 10 ?_))
 refine W.lit (e := eStr) (l := [k]) (css := [[sV _]]) sl54 ty9 zr9 rfl rfl rfl rfl rfl rfl ⟨rfl, trivial⟩ (fun bl102 G102 hG102 hv102 => (W.mv (W.lit (e := (eSl eStr)) (l := [a, [k], x]) (css := [[lV _ _ _], [lV _ _ _], [lV _ _ _]]) sl199 ty54 zr54 rfl rfl rfl rfl rfl rfl ⟨⟨_, rfl, (h_a.mono hG102)⟩, ⟨_, rfl, hv102⟩, ⟨_, rfl, (h_x.mono hG102)⟩, trivial⟩ (fun bl103 G103 hG103 hv103 => (W.call (Mp := []) (concatsO_fc hv103 (by simp; omega)) rfl pr9 ?_)))))
 rintro v105 G104 Ms106 hG104 ho107
 refine g9 2 ?_
 refine W.lit (e := (eSl eInt)) (l := [b, y]) (css := [[lV _ _ _], [lV _ _ _]]) sl201 ty55 zr55 rfl rfl rfl rfl rfl rfl ⟨⟨_, rfl, (h_b.mono lec)⟩, ⟨_, rfl, (h_y.mono lec)⟩, trivial⟩ (fun bl108 G108 hG108 hv108 => (W.cS (concati_fc hv108 (by simp; omega)) rfl (fun sa_hv110 sc_hv110 G109 hG109 hv110 => (g9 5 ?_))))
 refine ⟨.inr rfl, [_, _], ⟨rfl, rfl, trivial⟩, Ms106, List.sublist_append_left _ _, ?_⟩
 have h1 := (ho107.mono (hG108.trans hG109))
 have h2 := hv110
 have e1 : [a, [k], x].flatten = a ++ k :: x := by simp
 have e2 : [b, y].flatten = b ++ y := by simp
 rw [e1] at h1
 exact ⟨_, _, rfl, h1, SlR.cast h2 e2⟩

theorem bdrop_fc {G : GH} {b_t : Nat} {ba : Nat} {st : List (Option Nat) × List Bool} {Ma : MH} (h_a : ArR ePt 64 4 3 114 ba G st Ma) {root : Int} {fan : Int} {leaf : Int} {b_n : Nat} {lv : Int} {v_Pn : Value} {Pn : List Str} {Ms_Pn : MH} (h_Pn : OwnR eStr 9 G v_Pn Pn Ms_Pn) {v_Kn : Value} {Kn : List Int} (h_Kn : SlR eInt G v_Kn Kn) {v_Rn : Value} {Rn : List Pair} (h_Rn : SlR ePair G v_Rn Rn) (i : Nat) (hi : 1 ≤ i ∧ i < Kn.length ∧ i ≤ Pn.length) (hki : i64 (Kn[i]'hi.2.1)) :
    Fc Tryz.prog 121 [pt9 b_t, pt9 b_n, nt9 i] G ((b_t, ce9 66 [pt9 ba, iV root, iV fan, iV leaf]) :: ((b_n, ce9 70 [iV lv, v_Pn, v_Kn, v_Rn]) :: (Ma ++ (Ms_Pn)))) (fun v G' M' => v = .tuple #[] ∧ ∃ vp vk Ma' Mp', M' = (b_t, ce9 66 [pt9 ba, iV root, iV fan, iV leaf]) :: (b_n, ce9 70 [iV lv, vp, vk, v_Rn]) :: (Ma' ++ Mp') ∧ ArR ePt 64 4 3 114 ba G' (freeA st (Kn[i]'hi.2.1) (none : Option Nat)).2 Ma' ∧ OwnR eStr 9 G' vp (Pn.take (i - 1) ++ Pn.drop i) Mp' ∧ SlR eInt G' vk (Kn.take i ++ Kn.drop (i + 1))) := by
 obtain ⟨sa_Pn, sc_Pn, rfl⟩ := h_Pn.form
 obtain ⟨sa_Kn, sc_Kn, rfl⟩ := h_Kn.form
 obtain ⟨sa_Rn, sc_Rn, rfl⟩ := h_Rn.form
 have hl1 := h_Kn.len47
 refine Fc.go [] Tryz.func121 Tryz.ntmps121 rfl (fun w0 => (WC.perm (M' := ((b_t, ce9 66 [pt9 ba, iV root, iV fan, iV leaf]) :: ((b_n, ce9 70 [iV lv, lV sa_Pn Pn.length sc_Pn, lV sa_Kn Kn.length sc_Kn, lV sa_Rn Rn.length sc_Rn]) :: (Ma ++ (Ms_Pn ++ []))))) (by simp) (WC.seq (WC.dw (sn9.k9.k9) (d9 [0, 1, 2, 3, 4, 5, 6, 7, 8] ?_)))))
 refine h_Kn.a2 (i := i) om9 (fun he1 hi2 => (d9 [9, 10] ?_))
 refine WD.a1 11 rfl (W.call (Mp := Ma) (ofreep h_a _ hki) rfl (pmC (pmC pr9)) ?_)
 intro v8 G5 Ms7 hG5 q6
 refine match q6 with | ⟨_, hR9⟩ => ?_
 refine W.perm (pmC (pmC pr9)).symm (W.nn (g9 2 ?_))
 refine WC.dw ((sn9.cons _).k9) (d9 [0, 1, 2, 3, 4, 6, 7, 8, 10] ?_)
 refine WD.any [5, 9] (by kernel_rfl) rfl ⟨WD.ap ?_, WD.ap ?_, trivial⟩
 ·refine g9 1 ?_
  refine W.nn (WD.a1 9 rfl (g9 1 ?_))
  refine W.nn (WD.a1 11 rfl (W.giveO (h_Pn.mono hG5) (pmC (pmC (pmA pr9))) (fun G10 hG10 hv10 => (W.call (Mp := []) (bremO_fc hv10 (h_Kn.mono lec) i hi) rfl pr9 ?_))))
  intro v14 G11 Ms13 hG11 q12
  refine match q12 with | ⟨vp_z15, vk_z15, e_16, hp_z15, hk_z15⟩ => ?_
  subst e_16
  refine W.perm (pmC (pmC pr9)).symm ?_
  have q20 := hp_z15.form
  refine match q20 with | ⟨sa17, sc18, e_19⟩ => ?_
  subst e_19
  have q24 := hk_z15.form
  refine match q24 with | ⟨sa21, sc22, e_23⟩ => ?_
  subst e_23
  refine W.nn (d9 [12, 13, 14, 15, 16, 17, 18, 19, 20] ?_)
  refine WD.doneP (M' := ((b_t, ce9 66 [pt9 ba, iV root, iV fan, iV leaf]) :: ((b_n, ce9 70 [iV lv, lV sa17 ((Pn.take (i - 1) ++ Pn.drop i)).length sc18, lV sa21 ((Kn.take i ++ Kn.drop (i + 1))).length sc22, lV sa_Rn Rn.length sc_Rn]) :: (Ms7 ++ (Ms13 ++ []))))) (by kernel_rfl) sr9 ((((List.Perm.append_left _ ((List.Perm.append_left _ pr9).trans pr9)).trans (pmA pr9)).cons _).cons _) ?_
  refine ⟨.inl rfl, [], trivial, ((b_t, ce9 66 [pt9 ba, iV root, iV fan, iV leaf]) :: ((b_n, ce9 70 [iV lv, lV sa17 ((Pn.take (i - 1) ++ Pn.drop i)).length sc18, lV sa21 ((Kn.take i ++ Kn.drop (i + 1))).length sc22, lV sa_Rn Rn.length sc_Rn]) :: (Ms7 ++ (Ms13 ++ [])))), sr9.k9.k9, ?_⟩
  exact ⟨rfl, _, _, _, _, congrArg _ (congrArg _ (congrArg _ (List.append_nil _))), (ArR.mono lec hR9), hp_z15, hk_z15⟩
 refine g9 1 ?_
 refine W.nn (WD.a1 5 rfl (g9 1 ?_))
 refine W.nn (WD.a1 11 rfl (W.giveO (h_Pn.mono hG5) (pmC (pmC (pmA pr9))) (fun G25 hG25 hv25 => (W.call (Mp := []) (bremO_fc hv25 (h_Kn.mono lec) i hi) rfl pr9 ?_))))
 intro v29 G26 Ms28 hG26 q27
 refine match q27 with | ⟨vp_z30, vk_z30, e_31, hp_z30, hk_z30⟩ => ?_
 subst e_31
 refine W.perm (pmC (pmC pr9)).symm ?_
 have q35 := hp_z30.form
 refine match q35 with | ⟨sa32, sc33, e_34⟩ => ?_
 subst e_34
 have q39 := hk_z30.form
 refine match q39 with | ⟨sa36, sc37, e_38⟩ => ?_
 subst e_38
 refine W.nn (d9 [12, 13, 14, 15, 16, 17, 18, 19, 20] ?_)
 refine WD.doneP (M' := ((b_t, ce9 66 [pt9 ba, iV root, iV fan, iV leaf]) :: ((b_n, ce9 70 [iV lv, lV sa32 ((Pn.take (i - 1) ++ Pn.drop i)).length sc33, lV sa36 ((Kn.take i ++ Kn.drop (i + 1))).length sc37, lV sa_Rn Rn.length sc_Rn]) :: (Ms7 ++ (Ms28 ++ []))))) (by kernel_rfl) sr9 ((((List.Perm.append_left _ ((List.Perm.append_left _ pr9).trans pr9)).trans (pmA pr9)).cons _).cons _) ?_
 refine ⟨.inl rfl, [], trivial, ((b_t, ce9 66 [pt9 ba, iV root, iV fan, iV leaf]) :: ((b_n, ce9 70 [iV lv, lV sa32 ((Pn.take (i - 1) ++ Pn.drop i)).length sc33, lV sa36 ((Kn.take i ++ Kn.drop (i + 1))).length sc37, lV sa_Rn Rn.length sc_Rn]) :: (Ms7 ++ (Ms28 ++ [])))), sr9.k9.k9, ?_⟩
 exact ⟨rfl, _, _, _, _, congrArg _ (congrArg _ (congrArg _ (List.append_nil _))), (ArR.mono lec hR9), hp_z30, hk_z30⟩

end Go.Proofs.YtemoalimclnfkaaGreat
