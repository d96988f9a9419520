/- Walks of slices.Insert and slices.Delete at rows. -/
import Derived.Test.YtcngningbcaggaaQgW7
import Derived.Test.YtcngningbcaggaaQgMh
set_option maxRecDepth 100000
set_option maxHeartbeats 1600000
set_option linter.unusedVariables false
set_option linter.unusedSimpArgs false
set_option linter.unnecessarySimpa false
namespace Go.Proofs.Ytcngningbcaggaa
open Go Go.Fw Go.RowKit
attribute [local irreducible] Ok W WC
theorem insp_fc {G : GH} {v_s : Value} {s : List Pair} {Ms_s : MH} (h_s : OwnR ePair 68 G v_s s Ms_s) (i : Nat) {v_u : Value} {u : List Pair} {Ms_u : MH} (h_u : OwnR ePair 68 G v_u u Ms_u) (hi : i ≤ s.length) (hu : 0 < u.length) (hw : (s.length + u.length) * 32 ≤ 140737488355328) :
    Fc Try.prog 137 [v_s, nt9 i, v_u] G (Ms_s ++ Ms_u) (fun v G' M' => OwnR ePair 68 G' v ((s.take i ++ u) ++ s.drop i) M') := by
 have hs := h_s.len47
 have hul := h_u.len47
 have hcs := h_s.cap_le
 refine Fc.go [.tmp 6] Try.func137 Try.ntmps137 rfl (fun w0 => (WC.perm (M' := (Ms_s ++ (Ms_u ++ []))) (by simp) (g9 9 ?_)))
 refine W.ok (ok_sliceO (i) (s.length) sl31 ty68 h_s rfl ⟨_, _, rfl, om9⟩ rfl ⟨om9, .inl om9⟩) (g9 16 ?_)
 refine WC.cd (fun h16 p16 => ?_) (fun h16 p16 => ?_)
 ·exact absurd p16 om9
 refine g9 17 ?_
 refine WC.cd (fun h22 p22 => ?_) (fun h22 p22 => ?_)
 ·refine g9 4 ?_
  refine W.giveO h_u (pmA pr9) (fun G1 hG1 hv1 => ?_)
  have q3 := hv1.form
  refine match q3 with | ⟨_, _, e_2⟩ => ?_
  subst e_2
  refine W.app (e := ePair) sl31 ty68 zr68 rfl by68 rfl rfl ((h_s.mono hG1)) (hv1) pr9 (hw) (fun v4 Ms5 ho6 => (g9 5 ?_))
  refine ⟨.inr rfl, [_], ⟨rfl, trivial⟩, Ms5, List.sublist_append_left _ _, ?_⟩
  have h := ho6
  rw [show (s.take i ++ u) ++ s.drop i = s ++ u from by rw [List.take_of_length_le om9, List.drop_eq_nil_of_le om9, List.append_nil]]
  exact h
 refine g9 7 ?_
 refine W.ok (Ok.int (n := ((s.length + u.length : Nat) : Int)) (ok_add rfl rfl om9) om9) (W.mv ?_)
 have q7 := h_s.capForm
 refine match q7 with | ⟨ac30, hcf30⟩ => ?_
 refine W.ok (ok_capO (c := capV v_s) sl31 hcf30) (g9 3 ?_)
 refine WC.cd (fun h31 p31 => ?_) (fun h31 p31 => ?_)
 ·refine g9 4 ?_
  refine W.ok (ok_sliceO (0) (i) sl31 ty68 h_s rfl rfl ⟨_, _, rfl, om9⟩ ⟨om9, .inl om9⟩) (g9 2 ?_)
  refine W.ok (Ok.int (n := ((s.length + u.length : Nat) : Int)) (ok_add rfl rfl om9) om9) (W.mv (W.ok (Ok.int (n := ((s.length + u.length - i : Nat) : Int)) (ok_sub rfl rfl om9) om9) (W.appZ (e := ePair) (i := i) (c := s.length + u.length - i) sl31 ty68 zr68 rfl by68 Try.underlying3 h_s pr9 rfl rfl om9 om9 om9 om9 (by rw [show i + (s.length + u.length - i) = s.length + u.length from by omega]; exact hw) rfl (fun v40 Ms40 hp40 => (g9 7 ?_)))))
  refine W.ok (ok_sliceP (i) (i + (s.length + u.length - i)) sl31 ty68 hp40 rfl ⟨_, _, rfl, om9⟩ rfl ⟨om9, by have := OwnP.cap_le hp40; omega⟩) (W.mv (W.copyP (i) (by simp; omega) sl31 ty68 hp40 pr9 (Src.ofOwn0 h_u (pmA (pmA pr9)) om9) rfl rfl om9 om9 (fun z45 Ms45 hp45 => (g9 3 ?_))))
  refine WC.dw sn9 (d9 [0, 1, 2] ?_)
  refine WD.tk 3 rfl (Ok.int (n := ((i + u.length : Nat) : Int)) (ok_add rfl rfl om9) om9) (WD.tk 4 rfl (ok_sliceP (i + u.length) (i + (s.length + u.length - i)) sl31 ty68 hp45 rfl ⟨_, _, rfl, om9⟩ rfl ⟨om9, by have := OwnP.cap_le hp45; omega⟩) (d9 [5, 6] ?_))
  refine WD.tk 7 rfl (ok_sliceO (i) (s.length) sl31 ty68 h_s rfl ⟨_, _, rfl, om9⟩ rfl ⟨om9, .inl om9⟩) (WD.a1 8 rfl (W.copyP (i + u.length) (by simp; omega) sl31 ty68 hp45 pr9 (Src.ofOwn (lo := i) h_s (pmA pr9) om9 om9) rfl rfl (by simp; omega) om9 (fun z54 Ms54 hp54 => (W.nn (g9 10 ?_)))))
  refine ⟨.inr rfl, [_], ⟨rfl, trivial⟩, Ms54, List.sublist_append_left _ _, ?_⟩
  have h := (hp54.own' (by simp; omega))
  rw [List.append_nil] at h
  exact h
 refine g9 7 ?_
 refine W.ok (Ok.int (n := ((s.length + u.length : Nat) : Int)) (ok_add rfl rfl om9) om9) (W.ok (ok_sliceO 0 (s.length + u.length) sl31 ty68 h_s rfl rfl ⟨_, _, rfl, om9⟩ ⟨om9, .inr om9⟩) ?_)
 have hp60 := OwnP.extend (m := u.length) (OwnR.open h_s om9) om9 hw om9
 refine g9 10 ?_
 refine W.ok (Ok.int (n := ((i + u.length : Nat) : Int)) (ok_add rfl rfl om9) om9) (W.ok (ok_sliceP (i + u.length) (s.length + u.length) sl31 ty68 hp60 rfl ⟨_, _, rfl, om9⟩ rfl ⟨om9, by have := OwnP.cap_le hp60; omega⟩) ?_)
 have hc67 := OwnP.cap_le hp60
 refine W.ok (ok_overlaps (fn := Try.f143) (tR := 4) (lo := i + u.length) (hi := s.length + u.length) Try.func143 (by kernel_rfl) (by kernel_rfl) (by kernel_rfl) (by kernel_rfl) sl31 ty68 h_u hp60 ((List.Perm.append_left _ pr9).trans (pmA pr9)) om9 om9 rfl rfl rfl) (g9 5 ?_)
 refine WC.dw sn9 (d9 [0, 1, 2] ?_)
 refine WD.tk 3 rfl (Ok.int (n := ((i + u.length : Nat) : Int)) (ok_add rfl rfl om9) om9) (WD.tk 4 rfl (ok_sliceP (i + u.length) (s.length + u.length) sl31 ty68 hp60 rfl ⟨_, _, rfl, om9⟩ rfl ⟨om9, by have := OwnP.cap_le hp60; omega⟩) (d9 [5, 6] ?_))
 refine WD.tk 7 rfl (ok_sliceP (i) (s.length + u.length) sl31 ty68 hp60 rfl ⟨_, _, rfl, om9⟩ rfl ⟨om9, by have := OwnP.cap_le hp60; omega⟩) (WD.a1 8 rfl (W.copyShift (i := i) sl31 ty68 hp60 pr9 rfl rfl om9 (fun z77 Ms77 hp77 => (W.nn (g9 6 ?_)))))
 refine W.ok (ok_sliceP (i) (s.length + u.length) sl31 ty68 hp77 rfl ⟨_, _, rfl, om9⟩ rfl ⟨om9, by have := OwnP.cap_le hp77; omega⟩) (W.mv (W.copyP (i) (by simp; omega) sl31 ty68 hp77 pr9 (Src.ofOwn0 h_u (pmA pr9) om9) rfl rfl om9 om9 (fun z82 Ms82 hp82 => (g9 10 ?_))))
 refine ⟨.inr rfl, [_], ⟨rfl, trivial⟩, Ms82, List.sublist_append_left _ _, ?_⟩
 exact (hp82.own' om9)

theorem delp_fc {G : GH} {v_s : Value} {s : List Pair} {Ms_s : MH} (h_s : OwnR ePair 68 G v_s s Ms_s) (i : Nat) (j : Nat) (hij : i < j ∧ j ≤ s.length) :
    Fc Try.prog 138 [v_s, nt9 i, nt9 j] G Ms_s (fun v G' M' => OwnR ePair 68 G' v (s.take i ++ s.drop j) M') := by
 have hs := h_s.len47
 obtain ⟨hij1, hij2⟩ := hij
 refine Fc.go [.tmp 6] Try.func138 Try.ntmps138 rfl (fun w0 => (WC.perm (M' := (Ms_s ++ [])) (by simp) (g9 12 ?_)))
 have q8 := h_s.capForm
 refine match q8 with | ⟨ac13, hcf13⟩ => ?_
 have hcl13 := h_s.cap_le
 refine W.okx (ok_slice3 i j s.length sl31 ty68 hcf13 ⟨_, _, rfl, om9⟩ ⟨_, _, rfl, om9⟩ ⟨_, _, rfl, om9⟩ ⟨om9, om9, om9⟩) (fun u13 => (g9 10 ?_))
 refine WC.cd (fun h16 p16 => ?_) (fun h16 p16 => ?_)
 ·exact absurd p16 om9
 refine g9 10 ?_
 refine WC.dw sn9 (d9 [0, 1] ?_)
 refine WD.tk 2 rfl (ok_sliceO (0) (i) sl31 ty68 h_s rfl rfl ⟨_, _, rfl, om9⟩ ⟨om9, .inl om9⟩) (d9 [3, 4] ?_)
 refine WD.tk 5 rfl (ok_sliceO (j) (s.length) sl31 ty68 h_s rfl ⟨_, _, rfl, om9⟩ rfl ⟨om9, .inl om9⟩) (WD.a1 6 rfl (W.appDel (e := ePair) (i := i) (j := j) sl31 ty68 zr68 rfl h_s pr9 rfl rfl om9 om9 om9 (fun v26 Ms26 ho26 hc26 hf26 => (W.nn (d9 [7] ?_)))))
 refine g9 8 ?_
 have hl31 : (s.take i ++ s.drop j).length = i + (s.length - j) := by simp; omega
 refine W.ok (ok_sliceO (s.take i ++ s.drop j).length s.length sl31 ty68 ho26 rfl ⟨_, _, rfl, om9⟩ ⟨_, _, rfl, om9⟩ ⟨om9, .inr om9⟩) (W.clearT (e := ePair) (lo := (s.take i ++ s.drop j).length) (hi := s.length) sl31 ty68 zr68 rfl rfl ho26 pr9 rfl om9 hc26 hf26 om9 (fun Ms31 ho31 => (g9 9 ?_)))
 refine ⟨.inr rfl, [_], ⟨rfl, trivial⟩, Ms31, List.sublist_append_left _ _, ?_⟩
 exact ho31

end Go.Proofs.Ytcngningbcaggaa
