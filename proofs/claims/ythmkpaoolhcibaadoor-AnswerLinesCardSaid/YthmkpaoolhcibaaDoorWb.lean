/- Walks of slices.Insert and slices.Delete at rows. -/
import Derived.Test.YthmkpaoolhcibaaDoorW7
import Derived.Test.YthmkpaoolhcibaaDoorMh
namespace Go.Proofs.YthmkpaoolhcibaaDoor
open Go Go.Fw Go.RowKit
set_option maxRecDepth 100000
set_option maxHeartbeats 1600000
set_option linter.unusedVariables false
set_option linter.unusedSimpArgs false
set_option linter.unnecessarySimpa false
theorem insp_fc {G : GH} {v_s : Value} {s : List Pair} {Ms_s : MH} (h_s : OwnR ePair 45 G v_s s Ms_s) (i : Nat) {v_u : Value} {u : List Pair} {Ms_u : MH} (h_u : OwnR ePair 45 G v_u u Ms_u) (hi : i ≤ s.length) (hu : 0 < u.length) (hw : (s.length + u.length) * 32 ≤ 140737488355328) :
    Fc Tryd.prog 71 [v_s, .int .i64 ((i : Nat) : Int), v_u] G (Ms_s ++ Ms_u) (fun v G' M' => OwnR ePair 45 G' v ((s.take i ++ u) ++ s.drop i) M') := by
 have hs := h_s.len47
 have hul := h_u.len47
 have hcs := h_s.cap_le
 refine Fc.intro (rs := [.tmp 6]) cl71 Tryd.func71 rfl Tryd.ntmps71 rfl rfl (fun w0 => ?_)
 refine WC.perm (M' := (Ms_s ++ (Ms_u ++ []))) (by simp) ?_
 refine WC.seq ?_
 refine WC.region ?_
 refine W.as ?_
 refine W.nil (thn_n ?_)
 refine WC.seq ?_
 refine WC.region ?_
 refine W.mv ?_
 refine W.mv ?_
 refine W.ok (ok_sliceO (i) (s.length) sl25 ty45 h_s rfl ⟨_, _, rfl, by omega⟩ rfl ⟨by omega, .inl (by omega)⟩) ?_
 refine W.nil (thn_n ?_)
 refine WC.seq ?_
 refine WC.region ?_
 refine W.mv ?_
 refine W.ok (ok_lenO sl25 h_u rfl) ?_
 refine W.as ?_
 refine W.nil (thn_n ?_)
 refine WC.seq ?_
 refine WC.seq ?_
 refine WC.region ?_
 refine W.mv ?_
 refine W.ok (ok_eql rfl rfl) ?_
 refine W.nil (thn_n ?_)
 refine WC.cond (b := _) rfl (fun h16 => ?_) (fun h16 => ?_)
 ·have p16 := of_decide_eq_true h16
  exact absurd p16 (by omega)
 ·have p16 := of_decide_eq_false h16
  refine WC.skip (thn_n ?_)
  refine WC.seq ?_
  refine WC.region ?_
  refine W.mv ?_
  refine W.ok (ok_lenO sl25 h_s rfl) ?_
  refine W.as ?_
  refine W.nil (thn_n ?_)
  refine WC.seq ?_
  refine WC.seq ?_
  refine WC.region ?_
  refine W.mv ?_
  refine W.mv ?_
  refine W.ok (ok_eql rfl rfl) ?_
  refine W.nil (thn_n ?_)
  refine WC.cond (b := _) rfl (fun h22 => ?_) (fun h22 => ?_)
  ·have p22 := of_decide_eq_true h22
   refine WC.seq ?_
   refine WC.region ?_
   refine W.mv ?_
   refine W.mv ?_
   refine W.giveO h_u (pmA (List.Perm.refl _)) (fun G1 hG1 hv1 => ?_)
   have q3 := hv1.form
   refine match q3 with | ⟨_, _, e_2⟩ => ?_
   subst e_2
   refine W.app (e := ePair) sl25 ty45 zr45 rfl by45 rfl rfl ((h_s.mono hG1)) (hv1) (List.Perm.refl _) (hw) (fun v4 Ms5 ho6 => ?_)
   refine W.as ?_
   refine W.nil (thn_n ?_)
   refine WC.ret (thn_r ?_)
   refine ⟨.inr rfl, [_], ⟨rfl, trivial⟩, Ms5, List.sublist_append_left _ _, ?_⟩
   have h := ho6
   rw [show (s.take i ++ u) ++ s.drop i = s ++ u from by rw [List.take_of_length_le (by omega), List.drop_eq_nil_of_le (by omega), List.append_nil]]
   exact h
  ·have p22 := of_decide_eq_false h22
   refine WC.skip (thn_n ?_)
   refine WC.seq ?_
   refine WC.seq ?_
   refine WC.region ?_
   refine W.mv ?_
   refine W.mv ?_
   refine W.ok (Ok.int (n := ((s.length + u.length : Nat) : Int)) (ok_add rfl rfl (by omega)) (by omega)) ?_
   refine W.mv ?_
   have q7 := h_s.capForm
   refine match q7 with | ⟨ac30, hcf30⟩ => ?_
   refine W.ok (ok_capO (c := capV v_s) sl25 hcf30) ?_
   refine W.ok (ok_gtr rfl rfl) ?_
   refine W.nil (thn_n ?_)
   refine WC.cond (b := _) rfl (fun h31 => ?_) (fun h31 => ?_)
   ·have p31 := of_decide_eq_true h31
    refine WC.seq ?_
    refine WC.region ?_
    refine W.mv ?_
    refine W.mv ?_
    refine W.ok (ok_sliceO (0) (i) sl25 ty45 h_s rfl rfl ⟨_, _, rfl, by omega⟩ ⟨by omega, .inl (by omega)⟩) ?_
    refine W.mv ?_
    refine W.mv ?_
    refine W.ok (Ok.int (n := ((s.length + u.length : Nat) : Int)) (ok_add rfl rfl (by omega)) (by omega)) ?_
    refine W.mv ?_
    refine W.ok (Ok.int (n := ((s.length + u.length - i : Nat) : Int)) (ok_sub rfl rfl (by omega)) (by omega)) ?_
    refine W.appZ (e := ePair) (i := i) (c := s.length + u.length - i) sl25 ty45 zr45 rfl by45 Tryd.underlying3 h_s (List.Perm.refl _) rfl rfl (by omega) (by omega) (by omega) (by omega) (by rw [show i + (s.length + u.length - i) = s.length + u.length from by omega]; exact hw) rfl (fun v40 Ms40 hp40 => ?_)
    refine W.as ?_
    refine W.nil (thn_n ?_)
    refine WC.seq ?_
    refine WC.region ?_
    refine W.mv ?_
    refine W.mv ?_
    refine W.ok (ok_sliceP (i) (i + (s.length + u.length - i)) sl25 ty45 hp40 rfl ⟨_, _, rfl, by omega⟩ rfl ⟨by omega, by have := OwnP.cap_le hp40; omega⟩) ?_
    refine W.mv ?_
    refine W.copyP (i) (by simp; omega) sl25 ty45 hp40 (List.Perm.refl _) (Src.ofOwn0 h_u (pmA (pmA (List.Perm.refl _))) (by omega)) rfl rfl (by omega) (by omega) (fun z45 Ms45 hp45 => ?_)
    refine W.nil (thn_n ?_)
    refine WC.seq ?_
    refine WC.drawW _ (List.nil_sublist _) mix (by rintro _ _ _ _ ⟨h | h, _⟩ <;> cases h) ?_
    refine WD.take 0 rfl rfl rfl (by kernel_rfl) (by kernel_rfl) (by kernel_rfl) (ok_mv) ?_
    refine WD.take 1 rfl rfl rfl (by kernel_rfl) (by kernel_rfl) (by kernel_rfl) (ok_mv) ?_
    refine WD.take 2 rfl rfl rfl (by kernel_rfl) (by kernel_rfl) (by kernel_rfl) (ok_mv) ?_
    refine WD.take 3 rfl rfl rfl (by kernel_rfl) (by kernel_rfl) (by kernel_rfl) (Ok.int (n := ((i + u.length : Nat) : Int)) (ok_add rfl rfl (by omega)) (by omega)) ?_
    refine WD.take 4 rfl rfl rfl (by kernel_rfl) (by kernel_rfl) (by kernel_rfl) (ok_sliceP (i + u.length) (i + (s.length + u.length - i)) sl25 ty45 hp45 rfl ⟨_, _, rfl, by omega⟩ rfl ⟨by omega, by have := OwnP.cap_le hp45; omega⟩) ?_
    refine WD.take 5 rfl rfl rfl (by kernel_rfl) (by kernel_rfl) (by kernel_rfl) (ok_mv) ?_
    refine WD.take 6 rfl rfl rfl (by kernel_rfl) (by kernel_rfl) (by kernel_rfl) (ok_mv) ?_
    refine WD.take 7 rfl rfl rfl (by kernel_rfl) (by kernel_rfl) (by kernel_rfl) (ok_sliceO (i) (s.length) sl25 ty45 h_s rfl ⟨_, _, rfl, by omega⟩ rfl ⟨by omega, .inl (by omega)⟩) ?_
    refine WD.any [8] (by kernel_rfl) rfl ⟨⟨_, rfl, rfl, ?_⟩, trivial⟩
    refine W.copyP (i + u.length) (by simp; omega) sl25 ty45 hp45 (List.Perm.refl _) (Src.ofOwn (lo := i) h_s (pmA (List.Perm.refl _)) (by omega) (by omega)) rfl rfl (by simp; omega) (by omega) (fun z54 Ms54 hp54 => ?_)
    refine W.nil ⟨Le.rfl, List.nil_sublist _, _, List.nil_sublist _, List.Sublist.refl _, ?_⟩
    refine WD.done (by kernel_rfl) (thn_n ?_)
    refine WC.seq ?_
    refine WC.region ?_
    refine W.mv ?_
    refine W.as ?_
    refine W.nil (thn_n ?_)
    refine WC.ret (thn_r ?_)
    refine ⟨.inr rfl, [_], ⟨rfl, trivial⟩, Ms54, List.sublist_append_left _ _, ?_⟩
    have h := (hp54.own' (by simp; omega))
    rw [List.append_nil] at h
    exact h
   ·have p31 := of_decide_eq_false h31
    refine WC.skip (thn_n ?_)
    refine WC.seq ?_
    refine WC.region ?_
    refine W.mv ?_
    refine W.mv ?_
    refine W.mv ?_
    refine W.ok (Ok.int (n := ((s.length + u.length : Nat) : Int)) (ok_add rfl rfl (by omega)) (by omega)) ?_
    refine W.ok (ok_sliceO 0 (s.length + u.length) sl25 ty45 h_s rfl rfl ⟨_, _, rfl, by omega⟩ ⟨by omega, .inr (by omega)⟩) ?_
    have hp60 := OwnP.extend (m := u.length) (OwnR.open h_s (by omega)) (by omega) hw (by omega)
    refine W.as ?_
    refine W.nil (thn_n ?_)
    refine WC.seq ?_
    refine WC.seq ?_
    refine WC.region ?_
    refine W.mv ?_
    refine W.mv ?_
    refine W.mv ?_
    refine W.mv ?_
    refine W.ok (Ok.int (n := ((i + u.length : Nat) : Int)) (ok_add rfl rfl (by omega)) (by omega)) ?_
    refine W.ok (ok_sliceP (i + u.length) (s.length + u.length) sl25 ty45 hp60 rfl ⟨_, _, rfl, by omega⟩ rfl ⟨by omega, by have := OwnP.cap_le hp60; omega⟩) ?_
    have hc67 := OwnP.cap_le hp60
    refine W.ok (ok_overlaps (fn := Tryd.f79) (tR := 4) (lo := i + u.length) (hi := s.length + u.length) Tryd.func79 (by kernel_rfl) (by kernel_rfl) (by kernel_rfl) (by kernel_rfl) sl25 ty45 h_u hp60 ((List.Perm.append_left _ (List.Perm.refl _)).trans (pmA (List.Perm.refl _))) (by omega) (by omega) rfl rfl rfl) ?_
    refine W.ok (ok_not rfl) ?_
    refine W.nil (thn_n ?_)
    refine WC.cond_t rfl rfl ?_
    refine WC.seq ?_
    refine WC.drawW _ (List.nil_sublist _) mix (by rintro _ _ _ _ ⟨h | h, _⟩ <;> cases h) ?_
    refine WD.take 0 rfl rfl rfl (by kernel_rfl) (by kernel_rfl) (by kernel_rfl) (ok_mv) ?_
    refine WD.take 1 rfl rfl rfl (by kernel_rfl) (by kernel_rfl) (by kernel_rfl) (ok_mv) ?_
    refine WD.take 2 rfl rfl rfl (by kernel_rfl) (by kernel_rfl) (by kernel_rfl) (ok_mv) ?_
    refine WD.take 3 rfl rfl rfl (by kernel_rfl) (by kernel_rfl) (by kernel_rfl) (Ok.int (n := ((i + u.length : Nat) : Int)) (ok_add rfl rfl (by omega)) (by omega)) ?_
    refine WD.take 4 rfl rfl rfl (by kernel_rfl) (by kernel_rfl) (by kernel_rfl) (ok_sliceP (i + u.length) (s.length + u.length) sl25 ty45 hp60 rfl ⟨_, _, rfl, by omega⟩ rfl ⟨by omega, by have := OwnP.cap_le hp60; omega⟩) ?_
    refine WD.take 5 rfl rfl rfl (by kernel_rfl) (by kernel_rfl) (by kernel_rfl) (ok_mv) ?_
    refine WD.take 6 rfl rfl rfl (by kernel_rfl) (by kernel_rfl) (by kernel_rfl) (ok_mv) ?_
    refine WD.take 7 rfl rfl rfl (by kernel_rfl) (by kernel_rfl) (by kernel_rfl) (ok_sliceP (i) (s.length + u.length) sl25 ty45 hp60 rfl ⟨_, _, rfl, by omega⟩ rfl ⟨by omega, by have := OwnP.cap_le hp60; omega⟩) ?_
    refine WD.any [8] (by kernel_rfl) rfl ⟨⟨_, rfl, rfl, ?_⟩, trivial⟩
    refine W.copyShift (i := i) sl25 ty45 hp60 (List.Perm.refl _) rfl rfl (by omega) (fun z77 Ms77 hp77 => ?_)
    refine W.nil ⟨Le.rfl, List.nil_sublist _, _, List.nil_sublist _, List.Sublist.refl _, ?_⟩
    refine WD.done (by kernel_rfl) (thn_n ?_)
    refine WC.seq ?_
    refine WC.region ?_
    refine W.mv ?_
    refine W.mv ?_
    refine W.ok (ok_sliceP (i) (s.length + u.length) sl25 ty45 hp77 rfl ⟨_, _, rfl, by omega⟩ rfl ⟨by omega, by have := OwnP.cap_le hp77; omega⟩) ?_
    refine W.mv ?_
    refine W.copyP (i) (by simp; omega) sl25 ty45 hp77 (List.Perm.refl _) (Src.ofOwn0 h_u (pmA (List.Perm.refl _)) (by omega)) rfl rfl (by omega) (by omega) (fun z82 Ms82 hp82 => ?_)
    refine W.nil (thn_n ?_)
    refine WC.seq ?_
    refine WC.region ?_
    refine W.mv ?_
    refine W.as ?_
    refine W.nil (thn_n ?_)
    refine WC.ret (thn_r ?_)
    refine ⟨.inr rfl, [_], ⟨rfl, trivial⟩, Ms82, List.sublist_append_left _ _, ?_⟩
    exact (hp82.own' (by omega))

theorem delp_fc {G : GH} {v_s : Value} {s : List Pair} {Ms_s : MH} (h_s : OwnR ePair 45 G v_s s Ms_s) (i : Nat) (j : Nat) (hij : i < j ∧ j ≤ s.length) :
    Fc Tryd.prog 72 [v_s, .int .i64 ((i : Nat) : Int), .int .i64 ((j : Nat) : Int)] G Ms_s (fun v G' M' => OwnR ePair 45 G' v (s.take i ++ s.drop j) M') := by
 have hs := h_s.len47
 obtain ⟨hij1, hij2⟩ := hij
 refine Fc.intro (rs := [.tmp 6]) cl72 Tryd.func72 rfl Tryd.ntmps72 rfl rfl (fun w0 => ?_)
 refine WC.perm (M' := (Ms_s ++ [])) (by simp) ?_
 refine WC.seq ?_
 refine WC.region ?_
 refine W.as ?_
 refine W.nil (thn_n ?_)
 refine WC.seq ?_
 refine WC.region ?_
 refine W.mv ?_
 refine W.mv ?_
 refine W.mv ?_
 refine W.mv ?_
 refine W.ok (ok_lenO sl25 h_s rfl) ?_
 have q8 := h_s.capForm
 refine match q8 with | ⟨ac13, hcf13⟩ => ?_
 have hcl13 := h_s.cap_le
 refine W.okx (ok_slice3 i j s.length sl25 ty45 hcf13 ⟨_, _, rfl, by omega⟩ ⟨_, _, rfl, by omega⟩ ⟨_, _, rfl, by omega⟩ ⟨by omega, by omega, by omega⟩) (fun u13 => ?_)
 refine W.nil (thn_n ?_)
 refine WC.seq ?_
 refine WC.seq ?_
 refine WC.region ?_
 refine W.mv ?_
 refine W.mv ?_
 refine W.ok (ok_eql rfl rfl) ?_
 refine W.nil (thn_n ?_)
 refine WC.cond (b := _) rfl (fun h16 => ?_) (fun h16 => ?_)
 ·have p16 := of_decide_eq_true h16
  exact absurd p16 (by omega)
 ·have p16 := of_decide_eq_false h16
  refine WC.skip (thn_n ?_)
  refine WC.seq ?_
  refine WC.region ?_
  refine W.mv ?_
  refine W.ok (ok_lenO sl25 h_s rfl) ?_
  refine W.as ?_
  refine W.nil (thn_n ?_)
  refine WC.seq ?_
  refine WC.drawW _ (List.nil_sublist _) mix (by rintro _ _ _ _ ⟨h | h, _⟩ <;> cases h) ?_
  refine WD.take 0 rfl rfl rfl (by kernel_rfl) (by kernel_rfl) (by kernel_rfl) (ok_mv) ?_
  refine WD.take 1 rfl rfl rfl (by kernel_rfl) (by kernel_rfl) (by kernel_rfl) (ok_mv) ?_
  refine WD.take 2 rfl rfl rfl (by kernel_rfl) (by kernel_rfl) (by kernel_rfl) (ok_sliceO (0) (i) sl25 ty45 h_s rfl rfl ⟨_, _, rfl, by omega⟩ ⟨by omega, .inl (by omega)⟩) ?_
  refine WD.take 3 rfl rfl rfl (by kernel_rfl) (by kernel_rfl) (by kernel_rfl) (ok_mv) ?_
  refine WD.take 4 rfl rfl rfl (by kernel_rfl) (by kernel_rfl) (by kernel_rfl) (ok_mv) ?_
  refine WD.take 5 rfl rfl rfl (by kernel_rfl) (by kernel_rfl) (by kernel_rfl) (ok_sliceO (j) (s.length) sl25 ty45 h_s rfl ⟨_, _, rfl, by omega⟩ rfl ⟨by omega, .inl (by omega)⟩) ?_
  refine WD.any [6] (by kernel_rfl) rfl ⟨⟨_, rfl, rfl, ?_⟩, trivial⟩
  refine W.appDel (e := ePair) (i := i) (j := j) sl25 ty45 zr45 rfl h_s (List.Perm.refl _) rfl rfl (by omega) (by omega) (by omega) (fun v26 Ms26 ho26 hc26 hf26 => ?_)
  refine W.nil ⟨Le.rfl, List.nil_sublist _, _, List.nil_sublist _, List.Sublist.refl _, ?_⟩
  refine WD.take 7 rfl rfl rfl (by kernel_rfl) (by kernel_rfl) (by kernel_rfl) (ok_as) ?_
  refine WD.done (by kernel_rfl) (thn_n ?_)
  refine WC.seq ?_
  refine WC.region ?_
  refine W.mv ?_
  refine W.mv ?_
  refine W.ok (ok_lenO sl25 ho26 rfl) ?_
  refine W.mv ?_
  have hl31 : (s.take i ++ s.drop j).length = i + (s.length - j) := by simp; omega
  refine W.ok (ok_sliceO (s.take i ++ s.drop j).length s.length sl25 ty45 ho26 rfl ⟨_, _, rfl, by omega⟩ ⟨_, _, rfl, by omega⟩ ⟨by omega, .inr (by omega)⟩) ?_
  refine W.clearT (e := ePair) (lo := (s.take i ++ s.drop j).length) (hi := s.length) sl25 ty45 zr45 rfl rfl ho26 (List.Perm.refl _) rfl (by omega) hc26 hf26 (by omega) (fun Ms31 ho31 => ?_)
  refine W.nil (thn_n ?_)
  refine WC.seq ?_
  refine WC.region ?_
  refine W.mv ?_
  refine W.as ?_
  refine W.nil (thn_n ?_)
  refine WC.ret ?_
  refine ⟨.inr rfl, [_], ⟨rfl, trivial⟩, Ms31, List.sublist_append_left _ _, ?_⟩
  exact ho31

end Go.Proofs.YthmkpaoolhcibaaDoor
