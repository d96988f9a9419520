/- Walks of pivots and children with one more, or one fewer. -/
import Derived.Test.YtipdjeemjiimbaaWi
import Derived.Test.YtipdjeemjiimbaaMj
namespace Go.Proofs.Ytipdjeemjiimbaa
open Go Go.Fw Go.RowKit
set_option maxRecDepth 100000
set_option maxHeartbeats 1600000
set_option linter.unusedVariables false
set_option linter.unusedSimpArgs false
set_option linter.unnecessarySimpa false
theorem inss_fc {G : GH} {v_s : Value} {s : List Str} {Ms_s : MH} (h_s : OwnR eStr 9 G v_s s Ms_s) (i : Nat) {v_u : Value} {u : List Str} {Ms_u : MH} (h_u : OwnR eStr 9 G v_u u Ms_u) (hi : i ≤ s.length) (hu : 0 < u.length) (hw : (s.length + u.length) * 16 ≤ 140737488355328) :
    Fc Try.prog 136 [v_s, .int .i64 ((i : Nat) : Int), v_u] G (Ms_s ++ Ms_u) (fun v G' M' => OwnR eStr 9 G' v ((s.take i ++ u) ++ s.drop i) M') := by
  have hs := h_s.len47
  have hul := h_u.len47
  have hcs := h_s.cap_le
  refine Fc.intro (rs := [.tmp 6]) cl136 Try.func136 rfl Try.ntmps136 rfl rfl (fun w0 => ?_)
  refine WC.perm (M' := (Ms_s ++ (Ms_u ++ []))) (by simp) ?_
  refine WC.seq ?_
  refine WC.region ?_
  refine W.as ?_
  refine W.nil (thn_n ?_)
  refine WC.seq ?_
  refine WC.region ?_
  refine W.mv ?_
  refine W.mv ?_
  refine W.ok (ok_sliceO (i) (s.length) sl61 ty9 h_s rfl ⟨_, _, rfl, by omega⟩ rfl ⟨by omega, .inl (by omega)⟩) ?_
  refine W.nil (thn_n ?_)
  refine WC.seq ?_
  refine WC.region ?_
  refine W.mv ?_
  refine W.ok (ok_lenO sl61 h_u rfl) ?_
  refine W.as ?_
  refine W.nil (thn_n ?_)
  refine WC.seq ?_
  refine WC.seq ?_
  refine WC.region ?_
  refine W.mv ?_
  refine W.ok (ok_eql rfl rfl) ?_
  refine W.nil (thn_n ?_)
  refine WC.cond (b := _) rfl (fun h16 => ?_) (fun h16 => ?_)
  · have p16 := of_decide_eq_true h16
    exact absurd p16 (by omega)
  · have p16 := of_decide_eq_false h16
    refine WC.skip (thn_n ?_)
    refine WC.seq ?_
    refine WC.region ?_
    refine W.mv ?_
    refine W.ok (ok_lenO sl61 h_s rfl) ?_
    refine W.as ?_
    refine W.nil (thn_n ?_)
    refine WC.seq ?_
    refine WC.seq ?_
    refine WC.region ?_
    refine W.mv ?_
    refine W.mv ?_
    refine W.ok (ok_eql rfl rfl) ?_
    refine W.nil (thn_n ?_)
    refine WC.cond (b := _) rfl (fun h22 => ?_) (fun h22 => ?_)
    · have p22 := of_decide_eq_true h22
      refine WC.seq ?_
      refine WC.region ?_
      refine W.mv ?_
      refine W.mv ?_
      refine W.giveO h_u (pmA (List.Perm.refl _)) (fun G1 hG1 hv1 => ?_)
      have q3 := hv1.form
      refine match q3 with | ⟨_, _, e_2⟩ => ?_
      subst e_2
      refine W.app (e := eStr) sl61 ty9 zr9 rfl by9 rfl rfl ((h_s.mono hG1)) (hv1) (List.Perm.refl _) (hw) (fun v4 Ms5 ho6 => ?_)
      refine W.as ?_
      refine W.nil (thn_n ?_)
      refine WC.ret (thn_r ?_)
      refine ⟨.inr rfl, [_], ⟨rfl, trivial⟩, Ms5, List.sublist_append_left _ _, ?_⟩
      have h := ho6
      rw [show (s.take i ++ u) ++ s.drop i = s ++ u from by rw [List.take_of_length_le (by omega), List.drop_eq_nil_of_le (by omega), List.append_nil]]
      exact h
    · have p22 := of_decide_eq_false h22
      refine WC.skip (thn_n ?_)
      refine WC.seq ?_
      refine WC.seq ?_
      refine WC.region ?_
      refine W.mv ?_
      refine W.mv ?_
      refine W.ok (Ok.int (n := ((s.length + u.length : Nat) : Int)) (ok_add rfl rfl (by omega)) (by omega)) ?_
      refine W.mv ?_
      have q7 := h_s.capForm
      refine match q7 with | ⟨ac30, hcf30⟩ => ?_
      refine W.ok (ok_capO (c := capV v_s) sl61 hcf30) ?_
      refine W.ok (ok_gtr rfl rfl) ?_
      refine W.nil (thn_n ?_)
      refine WC.cond (b := _) rfl (fun h31 => ?_) (fun h31 => ?_)
      · have p31 := of_decide_eq_true h31
        refine WC.seq ?_
        refine WC.region ?_
        refine W.mv ?_
        refine W.mv ?_
        refine W.ok (ok_sliceO (0) (i) sl61 ty9 h_s rfl rfl ⟨_, _, rfl, by omega⟩ ⟨by omega, .inl (by omega)⟩) ?_
        refine W.mv ?_
        refine W.mv ?_
        refine W.ok (Ok.int (n := ((s.length + u.length : Nat) : Int)) (ok_add rfl rfl (by omega)) (by omega)) ?_
        refine W.mv ?_
        refine W.ok (Ok.int (n := ((s.length + u.length - i : Nat) : Int)) (ok_sub rfl rfl (by omega)) (by omega)) ?_
        refine W.appZ (e := eStr) (i := i) (c := s.length + u.length - i) sl61 ty9 zr9 rfl by9 Try.underlying3 h_s (List.Perm.refl _) rfl rfl (by omega) (by omega) (by omega) (by omega) (by rw [show i + (s.length + u.length - i) = s.length + u.length from by omega]; exact hw) rfl (fun v40 Ms40 hp40 => ?_)
        refine W.as ?_
        refine W.nil (thn_n ?_)
        refine WC.seq ?_
        refine WC.region ?_
        refine W.mv ?_
        refine W.mv ?_
        refine W.ok (ok_sliceP (i) (i + (s.length + u.length - i)) sl61 ty9 hp40 rfl ⟨_, _, rfl, by omega⟩ rfl ⟨by omega, by have := OwnP.cap_le hp40; omega⟩) ?_
        refine W.mv ?_
        refine W.copyP (i) (by simp; omega) sl61 ty9 hp40 (List.Perm.refl _) (Src.ofOwn0 h_u (pmA (pmA (List.Perm.refl _))) (by omega)) rfl rfl (by omega) (by omega) (fun z45 Ms45 hp45 => ?_)
        refine W.nil (thn_n ?_)
        refine WC.seq ?_
        refine WC.drawW _ (List.nil_sublist _) mix (by rintro _ _ _ _ ⟨h | h, _⟩ <;> cases h) ?_
        refine WD.take 0 rfl rfl rfl (by kernel_rfl) (by kernel_rfl) (by kernel_rfl) (ok_mv) ?_
        refine WD.take 1 rfl rfl rfl (by kernel_rfl) (by kernel_rfl) (by kernel_rfl) (ok_mv) ?_
        refine WD.take 2 rfl rfl rfl (by kernel_rfl) (by kernel_rfl) (by kernel_rfl) (ok_mv) ?_
        refine WD.take 3 rfl rfl rfl (by kernel_rfl) (by kernel_rfl) (by kernel_rfl) (Ok.int (n := ((i + u.length : Nat) : Int)) (ok_add rfl rfl (by omega)) (by omega)) ?_
        refine WD.take 4 rfl rfl rfl (by kernel_rfl) (by kernel_rfl) (by kernel_rfl) (ok_sliceP (i + u.length) (i + (s.length + u.length - i)) sl61 ty9 hp45 rfl ⟨_, _, rfl, by omega⟩ rfl ⟨by omega, by have := OwnP.cap_le hp45; omega⟩) ?_
        refine WD.take 5 rfl rfl rfl (by kernel_rfl) (by kernel_rfl) (by kernel_rfl) (ok_mv) ?_
        refine WD.take 6 rfl rfl rfl (by kernel_rfl) (by kernel_rfl) (by kernel_rfl) (ok_mv) ?_
        refine WD.take 7 rfl rfl rfl (by kernel_rfl) (by kernel_rfl) (by kernel_rfl) (ok_sliceO (i) (s.length) sl61 ty9 h_s rfl ⟨_, _, rfl, by omega⟩ rfl ⟨by omega, .inl (by omega)⟩) ?_
        refine WD.any [8] (by kernel_rfl) rfl ⟨⟨_, rfl, rfl, ?_⟩, trivial⟩
        refine W.copyP (i + u.length) (by simp; omega) sl61 ty9 hp45 (List.Perm.refl _) (Src.ofOwn (lo := i) h_s (pmA (List.Perm.refl _)) (by omega) (by omega)) rfl rfl (by simp; omega) (by omega) (fun z54 Ms54 hp54 => ?_)
        refine W.nil ⟨Le.rfl, List.nil_sublist _, _, List.nil_sublist _, List.Sublist.refl _, ?_⟩
        refine WD.done (by kernel_rfl) (thn_n ?_)
        refine WC.seq ?_
        refine WC.region ?_
        refine W.mv ?_
        refine W.as ?_
        refine W.nil (thn_n ?_)
        refine WC.ret (thn_r ?_)
        refine ⟨.inr rfl, [_], ⟨rfl, trivial⟩, Ms54, List.sublist_append_left _ _, ?_⟩
        have h := (hp54.own' (by simp; omega))
        rw [List.append_nil] at h
        exact h
      · have p31 := of_decide_eq_false h31
        refine WC.skip (thn_n ?_)
        refine WC.seq ?_
        refine WC.region ?_
        refine W.mv ?_
        refine W.mv ?_
        refine W.mv ?_
        refine W.ok (Ok.int (n := ((s.length + u.length : Nat) : Int)) (ok_add rfl rfl (by omega)) (by omega)) ?_
        refine W.ok (ok_sliceO 0 (s.length + u.length) sl61 ty9 h_s rfl rfl ⟨_, _, rfl, by omega⟩ ⟨by omega, .inr (by omega)⟩) ?_
        have hp60 := OwnP.extend (m := u.length) (OwnR.open h_s (by omega)) (by omega) hw (by omega)
        refine W.as ?_
        refine W.nil (thn_n ?_)
        refine WC.seq ?_
        refine WC.seq ?_
        refine WC.region ?_
        refine W.mv ?_
        refine W.mv ?_
        refine W.mv ?_
        refine W.mv ?_
        refine W.ok (Ok.int (n := ((i + u.length : Nat) : Int)) (ok_add rfl rfl (by omega)) (by omega)) ?_
        refine W.ok (ok_sliceP (i + u.length) (s.length + u.length) sl61 ty9 hp60 rfl ⟨_, _, rfl, by omega⟩ rfl ⟨by omega, by have := OwnP.cap_le hp60; omega⟩) ?_
        have hc67 := OwnP.cap_le hp60
        refine W.ok (ok_overlaps (fn := Try.f195) (tR := 4) (lo := i + u.length) (hi := s.length + u.length) Try.func195 (by kernel_rfl) (by kernel_rfl) (by kernel_rfl) (by kernel_rfl) sl61 ty9 h_u hp60 ((List.Perm.append_left _ (List.Perm.refl _)).trans (pmA (List.Perm.refl _))) (by omega) (by omega) rfl rfl rfl) ?_
        refine W.ok (ok_not rfl) ?_
        refine W.nil (thn_n ?_)
        refine WC.cond_t rfl rfl ?_
        refine WC.seq ?_
        refine WC.drawW _ (List.nil_sublist _) mix (by rintro _ _ _ _ ⟨h | h, _⟩ <;> cases h) ?_
        refine WD.take 0 rfl rfl rfl (by kernel_rfl) (by kernel_rfl) (by kernel_rfl) (ok_mv) ?_
        refine WD.take 1 rfl rfl rfl (by kernel_rfl) (by kernel_rfl) (by kernel_rfl) (ok_mv) ?_
        refine WD.take 2 rfl rfl rfl (by kernel_rfl) (by kernel_rfl) (by kernel_rfl) (ok_mv) ?_
        refine WD.take 3 rfl rfl rfl (by kernel_rfl) (by kernel_rfl) (by kernel_rfl) (Ok.int (n := ((i + u.length : Nat) : Int)) (ok_add rfl rfl (by omega)) (by omega)) ?_
        refine WD.take 4 rfl rfl rfl (by kernel_rfl) (by kernel_rfl) (by kernel_rfl) (ok_sliceP (i + u.length) (s.length + u.length) sl61 ty9 hp60 rfl ⟨_, _, rfl, by omega⟩ rfl ⟨by omega, by have := OwnP.cap_le hp60; omega⟩) ?_
        refine WD.take 5 rfl rfl rfl (by kernel_rfl) (by kernel_rfl) (by kernel_rfl) (ok_mv) ?_
        refine WD.take 6 rfl rfl rfl (by kernel_rfl) (by kernel_rfl) (by kernel_rfl) (ok_mv) ?_
        refine WD.take 7 rfl rfl rfl (by kernel_rfl) (by kernel_rfl) (by kernel_rfl) (ok_sliceP (i) (s.length + u.length) sl61 ty9 hp60 rfl ⟨_, _, rfl, by omega⟩ rfl ⟨by omega, by have := OwnP.cap_le hp60; omega⟩) ?_
        refine WD.any [8] (by kernel_rfl) rfl ⟨⟨_, rfl, rfl, ?_⟩, trivial⟩
        refine W.copyShift (i := i) sl61 ty9 hp60 (List.Perm.refl _) rfl rfl (by omega) (fun z77 Ms77 hp77 => ?_)
        refine W.nil ⟨Le.rfl, List.nil_sublist _, _, List.nil_sublist _, List.Sublist.refl _, ?_⟩
        refine WD.done (by kernel_rfl) (thn_n ?_)
        refine WC.seq ?_
        refine WC.region ?_
        refine W.mv ?_
        refine W.mv ?_
        refine W.ok (ok_sliceP (i) (s.length + u.length) sl61 ty9 hp77 rfl ⟨_, _, rfl, by omega⟩ rfl ⟨by omega, by have := OwnP.cap_le hp77; omega⟩) ?_
        refine W.mv ?_
        refine W.copyP (i) (by simp; omega) sl61 ty9 hp77 (List.Perm.refl _) (Src.ofOwn0 h_u (pmA (List.Perm.refl _)) (by omega)) rfl rfl (by omega) (by omega) (fun z82 Ms82 hp82 => ?_)
        refine W.nil (thn_n ?_)
        refine WC.seq ?_
        refine WC.region ?_
        refine W.mv ?_
        refine W.as ?_
        refine W.nil (thn_n ?_)
        refine WC.ret (thn_r ?_)
        refine ⟨.inr rfl, [_], ⟨rfl, trivial⟩, Ms82, List.sublist_append_left _ _, ?_⟩
        exact (hp82.own' (by omega))

theorem insi_fc {G : GH} {v_s : Value} {s : List Int} {Ms_s : MH} (h_s : OwnR eInt 3 G v_s s Ms_s) (i : Nat) {v_u : Value} {u : List Int} {Ms_u : MH} (h_u : OwnR eInt 3 G v_u u Ms_u) (hi : i ≤ s.length) (hu : 0 < u.length) (hw : (s.length + u.length) * 8 ≤ 140737488355328) :
    Fc Try.prog 138 [v_s, .int .i64 ((i : Nat) : Int), v_u] G (Ms_s ++ Ms_u) (fun v G' M' => OwnR eInt 3 G' v ((s.take i ++ u) ++ s.drop i) M') := by
  have hs := h_s.len47
  have hul := h_u.len47
  have hcs := h_s.cap_le
  refine Fc.intro (rs := [.tmp 6]) cl138 Try.func138 rfl Try.ntmps138 rfl rfl (fun w0 => ?_)
  refine WC.perm (M' := (Ms_s ++ (Ms_u ++ []))) (by simp) ?_
  refine WC.seq ?_
  refine WC.region ?_
  refine W.as ?_
  refine W.nil (thn_n ?_)
  refine WC.seq ?_
  refine WC.region ?_
  refine W.mv ?_
  refine W.mv ?_
  refine W.ok (ok_sliceO (i) (s.length) sl47 ty3 h_s rfl ⟨_, _, rfl, by omega⟩ rfl ⟨by omega, .inl (by omega)⟩) ?_
  refine W.nil (thn_n ?_)
  refine WC.seq ?_
  refine WC.region ?_
  refine W.mv ?_
  refine W.ok (ok_lenO sl47 h_u rfl) ?_
  refine W.as ?_
  refine W.nil (thn_n ?_)
  refine WC.seq ?_
  refine WC.seq ?_
  refine WC.region ?_
  refine W.mv ?_
  refine W.ok (ok_eql rfl rfl) ?_
  refine W.nil (thn_n ?_)
  refine WC.cond (b := _) rfl (fun h16 => ?_) (fun h16 => ?_)
  · have p16 := of_decide_eq_true h16
    exact absurd p16 (by omega)
  · have p16 := of_decide_eq_false h16
    refine WC.skip (thn_n ?_)
    refine WC.seq ?_
    refine WC.region ?_
    refine W.mv ?_
    refine W.ok (ok_lenO sl47 h_s rfl) ?_
    refine W.as ?_
    refine W.nil (thn_n ?_)
    refine WC.seq ?_
    refine WC.seq ?_
    refine WC.region ?_
    refine W.mv ?_
    refine W.mv ?_
    refine W.ok (ok_eql rfl rfl) ?_
    refine W.nil (thn_n ?_)
    refine WC.cond (b := _) rfl (fun h22 => ?_) (fun h22 => ?_)
    · have p22 := of_decide_eq_true h22
      refine WC.seq ?_
      refine WC.region ?_
      refine W.mv ?_
      refine W.mv ?_
      refine W.giveO h_u (pmA (List.Perm.refl _)) (fun G8 hG8 hv8 => ?_)
      have q10 := hv8.form
      refine match q10 with | ⟨_, _, e_9⟩ => ?_
      subst e_9
      refine W.app (e := eInt) sl47 ty3 zr3 rfl by3 rfl rfl ((h_s.mono hG8)) (hv8) (List.Perm.refl _) (hw) (fun v11 Ms12 ho13 => ?_)
      refine W.as ?_
      refine W.nil (thn_n ?_)
      refine WC.ret (thn_r ?_)
      refine ⟨.inr rfl, [_], ⟨rfl, trivial⟩, Ms12, List.sublist_append_left _ _, ?_⟩
      have h := ho13
      rw [show (s.take i ++ u) ++ s.drop i = s ++ u from by rw [List.take_of_length_le (by omega), List.drop_eq_nil_of_le (by omega), List.append_nil]]
      exact h
    · have p22 := of_decide_eq_false h22
      refine WC.skip (thn_n ?_)
      refine WC.seq ?_
      refine WC.seq ?_
      refine WC.region ?_
      refine W.mv ?_
      refine W.mv ?_
      refine W.ok (Ok.int (n := ((s.length + u.length : Nat) : Int)) (ok_add rfl rfl (by omega)) (by omega)) ?_
      refine W.mv ?_
      have q14 := h_s.capForm
      refine match q14 with | ⟨ac30, hcf30⟩ => ?_
      refine W.ok (ok_capO (c := capV v_s) sl47 hcf30) ?_
      refine W.ok (ok_gtr rfl rfl) ?_
      refine W.nil (thn_n ?_)
      refine WC.cond (b := _) rfl (fun h31 => ?_) (fun h31 => ?_)
      · have p31 := of_decide_eq_true h31
        refine WC.seq ?_
        refine WC.region ?_
        refine W.mv ?_
        refine W.mv ?_
        refine W.ok (ok_sliceO (0) (i) sl47 ty3 h_s rfl rfl ⟨_, _, rfl, by omega⟩ ⟨by omega, .inl (by omega)⟩) ?_
        refine W.mv ?_
        refine W.mv ?_
        refine W.ok (Ok.int (n := ((s.length + u.length : Nat) : Int)) (ok_add rfl rfl (by omega)) (by omega)) ?_
        refine W.mv ?_
        refine W.ok (Ok.int (n := ((s.length + u.length - i : Nat) : Int)) (ok_sub rfl rfl (by omega)) (by omega)) ?_
        refine W.appZ (e := eInt) (i := i) (c := s.length + u.length - i) sl47 ty3 zr3 rfl by3 Try.underlying3 h_s (List.Perm.refl _) rfl rfl (by omega) (by omega) (by omega) (by omega) (by rw [show i + (s.length + u.length - i) = s.length + u.length from by omega]; exact hw) rfl (fun v40 Ms40 hp40 => ?_)
        refine W.as ?_
        refine W.nil (thn_n ?_)
        refine WC.seq ?_
        refine WC.region ?_
        refine W.mv ?_
        refine W.mv ?_
        refine W.ok (ok_sliceP (i) (i + (s.length + u.length - i)) sl47 ty3 hp40 rfl ⟨_, _, rfl, by omega⟩ rfl ⟨by omega, by have := OwnP.cap_le hp40; omega⟩) ?_
        refine W.mv ?_
        refine W.copyP (i) (by simp; omega) sl47 ty3 hp40 (List.Perm.refl _) (Src.ofOwn0 h_u (pmA (pmA (List.Perm.refl _))) (by omega)) rfl rfl (by omega) (by omega) (fun z45 Ms45 hp45 => ?_)
        refine W.nil (thn_n ?_)
        refine WC.seq ?_
        refine WC.drawW _ (List.nil_sublist _) mix (by rintro _ _ _ _ ⟨h | h, _⟩ <;> cases h) ?_
        refine WD.take 0 rfl rfl rfl (by kernel_rfl) (by kernel_rfl) (by kernel_rfl) (ok_mv) ?_
        refine WD.take 1 rfl rfl rfl (by kernel_rfl) (by kernel_rfl) (by kernel_rfl) (ok_mv) ?_
        refine WD.take 2 rfl rfl rfl (by kernel_rfl) (by kernel_rfl) (by kernel_rfl) (ok_mv) ?_
        refine WD.take 3 rfl rfl rfl (by kernel_rfl) (by kernel_rfl) (by kernel_rfl) (Ok.int (n := ((i + u.length : Nat) : Int)) (ok_add rfl rfl (by omega)) (by omega)) ?_
        refine WD.take 4 rfl rfl rfl (by kernel_rfl) (by kernel_rfl) (by kernel_rfl) (ok_sliceP (i + u.length) (i + (s.length + u.length - i)) sl47 ty3 hp45 rfl ⟨_, _, rfl, by omega⟩ rfl ⟨by omega, by have := OwnP.cap_le hp45; omega⟩) ?_
        refine WD.take 5 rfl rfl rfl (by kernel_rfl) (by kernel_rfl) (by kernel_rfl) (ok_mv) ?_
        refine WD.take 6 rfl rfl rfl (by kernel_rfl) (by kernel_rfl) (by kernel_rfl) (ok_mv) ?_
        refine WD.take 7 rfl rfl rfl (by kernel_rfl) (by kernel_rfl) (by kernel_rfl) (ok_sliceO (i) (s.length) sl47 ty3 h_s rfl ⟨_, _, rfl, by omega⟩ rfl ⟨by omega, .inl (by omega)⟩) ?_
        refine WD.any [8] (by kernel_rfl) rfl ⟨⟨_, rfl, rfl, ?_⟩, trivial⟩
        refine W.copyP (i + u.length) (by simp; omega) sl47 ty3 hp45 (List.Perm.refl _) (Src.ofOwn (lo := i) h_s (pmA (List.Perm.refl _)) (by omega) (by omega)) rfl rfl (by simp; omega) (by omega) (fun z54 Ms54 hp54 => ?_)
        refine W.nil ⟨Le.rfl, List.nil_sublist _, _, List.nil_sublist _, List.Sublist.refl _, ?_⟩
        refine WD.done (by kernel_rfl) (thn_n ?_)
        refine WC.seq ?_
        refine WC.region ?_
        refine W.mv ?_
        refine W.as ?_
        refine W.nil (thn_n ?_)
        refine WC.ret (thn_r ?_)
        refine ⟨.inr rfl, [_], ⟨rfl, trivial⟩, Ms54, List.sublist_append_left _ _, ?_⟩
        have h := (hp54.own' (by simp; omega))
        rw [List.append_nil] at h
        exact h
      · have p31 := of_decide_eq_false h31
        refine WC.skip (thn_n ?_)
        refine WC.seq ?_
        refine WC.region ?_
        refine W.mv ?_
        refine W.mv ?_
        refine W.mv ?_
        refine W.ok (Ok.int (n := ((s.length + u.length : Nat) : Int)) (ok_add rfl rfl (by omega)) (by omega)) ?_
        refine W.ok (ok_sliceO 0 (s.length + u.length) sl47 ty3 h_s rfl rfl ⟨_, _, rfl, by omega⟩ ⟨by omega, .inr (by omega)⟩) ?_
        have hp60 := OwnP.extend (m := u.length) (OwnR.open h_s (by omega)) (by omega) hw (by omega)
        refine W.as ?_
        refine W.nil (thn_n ?_)
        refine WC.seq ?_
        refine WC.seq ?_
        refine WC.region ?_
        refine W.mv ?_
        refine W.mv ?_
        refine W.mv ?_
        refine W.mv ?_
        refine W.ok (Ok.int (n := ((i + u.length : Nat) : Int)) (ok_add rfl rfl (by omega)) (by omega)) ?_
        refine W.ok (ok_sliceP (i + u.length) (s.length + u.length) sl47 ty3 hp60 rfl ⟨_, _, rfl, by omega⟩ rfl ⟨by omega, by have := OwnP.cap_le hp60; omega⟩) ?_
        have hc67 := OwnP.cap_le hp60
        refine W.ok (ok_overlaps (fn := Try.f197) (tR := 4) (lo := i + u.length) (hi := s.length + u.length) Try.func197 (by kernel_rfl) (by kernel_rfl) (by kernel_rfl) (by kernel_rfl) sl47 ty3 h_u hp60 ((List.Perm.append_left _ (List.Perm.refl _)).trans (pmA (List.Perm.refl _))) (by omega) (by omega) rfl rfl rfl) ?_
        refine W.ok (ok_not rfl) ?_
        refine W.nil (thn_n ?_)
        refine WC.cond_t rfl rfl ?_
        refine WC.seq ?_
        refine WC.drawW _ (List.nil_sublist _) mix (by rintro _ _ _ _ ⟨h | h, _⟩ <;> cases h) ?_
        refine WD.take 0 rfl rfl rfl (by kernel_rfl) (by kernel_rfl) (by kernel_rfl) (ok_mv) ?_
        refine WD.take 1 rfl rfl rfl (by kernel_rfl) (by kernel_rfl) (by kernel_rfl) (ok_mv) ?_
        refine WD.take 2 rfl rfl rfl (by kernel_rfl) (by kernel_rfl) (by kernel_rfl) (ok_mv) ?_
        refine WD.take 3 rfl rfl rfl (by kernel_rfl) (by kernel_rfl) (by kernel_rfl) (Ok.int (n := ((i + u.length : Nat) : Int)) (ok_add rfl rfl (by omega)) (by omega)) ?_
        refine WD.take 4 rfl rfl rfl (by kernel_rfl) (by kernel_rfl) (by kernel_rfl) (ok_sliceP (i + u.length) (s.length + u.length) sl47 ty3 hp60 rfl ⟨_, _, rfl, by omega⟩ rfl ⟨by omega, by have := OwnP.cap_le hp60; omega⟩) ?_
        refine WD.take 5 rfl rfl rfl (by kernel_rfl) (by kernel_rfl) (by kernel_rfl) (ok_mv) ?_
        refine WD.take 6 rfl rfl rfl (by kernel_rfl) (by kernel_rfl) (by kernel_rfl) (ok_mv) ?_
        refine WD.take 7 rfl rfl rfl (by kernel_rfl) (by kernel_rfl) (by kernel_rfl) (ok_sliceP (i) (s.length + u.length) sl47 ty3 hp60 rfl ⟨_, _, rfl, by omega⟩ rfl ⟨by omega, by have := OwnP.cap_le hp60; omega⟩) ?_
        refine WD.any [8] (by kernel_rfl) rfl ⟨⟨_, rfl, rfl, ?_⟩, trivial⟩
        refine W.copyShift (i := i) sl47 ty3 hp60 (List.Perm.refl _) rfl rfl (by omega) (fun z77 Ms77 hp77 => ?_)
        refine W.nil ⟨Le.rfl, List.nil_sublist _, _, List.nil_sublist _, List.Sublist.refl _, ?_⟩
        refine WD.done (by kernel_rfl) (thn_n ?_)
        refine WC.seq ?_
        refine WC.region ?_
        refine W.mv ?_
        refine W.mv ?_
        refine W.ok (ok_sliceP (i) (s.length + u.length) sl47 ty3 hp77 rfl ⟨_, _, rfl, by omega⟩ rfl ⟨by omega, by have := OwnP.cap_le hp77; omega⟩) ?_
        refine W.mv ?_
        refine W.copyP (i) (by simp; omega) sl47 ty3 hp77 (List.Perm.refl _) (Src.ofOwn0 h_u (pmA (List.Perm.refl _)) (by omega)) rfl rfl (by omega) (by omega) (fun z82 Ms82 hp82 => ?_)
        refine W.nil (thn_n ?_)
        refine WC.seq ?_
        refine WC.region ?_
        refine W.mv ?_
        refine W.as ?_
        refine W.nil (thn_n ?_)
        refine WC.ret (thn_r ?_)
        refine ⟨.inr rfl, [_], ⟨rfl, trivial⟩, Ms82, List.sublist_append_left _ _, ?_⟩
        exact (hp82.own' (by omega))

theorem dels_fc {G : GH} {v_s : Value} {s : List Str} {Ms_s : MH} (h_s : OwnR eStr 9 G v_s s Ms_s) (i : Nat) (j : Nat) (hij : i < j ∧ j ≤ s.length) :
    Fc Try.prog 140 [v_s, .int .i64 ((i : Nat) : Int), .int .i64 ((j : Nat) : Int)] G Ms_s (fun v G' M' => OwnR eStr 9 G' v (s.take i ++ s.drop j) M') := by
  have hs := h_s.len47
  obtain ⟨hij1, hij2⟩ := hij
  refine Fc.intro (rs := [.tmp 6]) cl140 Try.func140 rfl Try.ntmps140 rfl rfl (fun w0 => ?_)
  refine WC.perm (M' := (Ms_s ++ [])) (by simp) ?_
  refine WC.seq ?_
  refine WC.region ?_
  refine W.as ?_
  refine W.nil (thn_n ?_)
  refine WC.seq ?_
  refine WC.region ?_
  refine W.mv ?_
  refine W.mv ?_
  refine W.mv ?_
  refine W.mv ?_
  refine W.ok (ok_lenO sl61 h_s rfl) ?_
  have q15 := h_s.capForm
  refine match q15 with | ⟨ac13, hcf13⟩ => ?_
  have hcl13 := h_s.cap_le
  refine W.okx (ok_slice3 i j s.length sl61 ty9 hcf13 ⟨_, _, rfl, by omega⟩ ⟨_, _, rfl, by omega⟩ ⟨_, _, rfl, by omega⟩ ⟨by omega, by omega, by omega⟩) (fun u13 => ?_)
  refine W.nil (thn_n ?_)
  refine WC.seq ?_
  refine WC.seq ?_
  refine WC.region ?_
  refine W.mv ?_
  refine W.mv ?_
  refine W.ok (ok_eql rfl rfl) ?_
  refine W.nil (thn_n ?_)
  refine WC.cond (b := _) rfl (fun h16 => ?_) (fun h16 => ?_)
  · have p16 := of_decide_eq_true h16
    exact absurd p16 (by omega)
  · have p16 := of_decide_eq_false h16
    refine WC.skip (thn_n ?_)
    refine WC.seq ?_
    refine WC.region ?_
    refine W.mv ?_
    refine W.ok (ok_lenO sl61 h_s rfl) ?_
    refine W.as ?_
    refine W.nil (thn_n ?_)
    refine WC.seq ?_
    refine WC.drawW _ (List.nil_sublist _) mix (by rintro _ _ _ _ ⟨h | h, _⟩ <;> cases h) ?_
    refine WD.take 0 rfl rfl rfl (by kernel_rfl) (by kernel_rfl) (by kernel_rfl) (ok_mv) ?_
    refine WD.take 1 rfl rfl rfl (by kernel_rfl) (by kernel_rfl) (by kernel_rfl) (ok_mv) ?_
    refine WD.take 2 rfl rfl rfl (by kernel_rfl) (by kernel_rfl) (by kernel_rfl) (ok_sliceO (0) (i) sl61 ty9 h_s rfl rfl ⟨_, _, rfl, by omega⟩ ⟨by omega, .inl (by omega)⟩) ?_
    refine WD.take 3 rfl rfl rfl (by kernel_rfl) (by kernel_rfl) (by kernel_rfl) (ok_mv) ?_
    refine WD.take 4 rfl rfl rfl (by kernel_rfl) (by kernel_rfl) (by kernel_rfl) (ok_mv) ?_
    refine WD.take 5 rfl rfl rfl (by kernel_rfl) (by kernel_rfl) (by kernel_rfl) (ok_sliceO (j) (s.length) sl61 ty9 h_s rfl ⟨_, _, rfl, by omega⟩ rfl ⟨by omega, .inl (by omega)⟩) ?_
    refine WD.any [6] (by kernel_rfl) rfl ⟨⟨_, rfl, rfl, ?_⟩, trivial⟩
    refine W.appDel (e := eStr) (i := i) (j := j) sl61 ty9 zr9 rfl h_s (List.Perm.refl _) rfl rfl (by omega) (by omega) (by omega) (fun v26 Ms26 ho26 hc26 hf26 => ?_)
    refine W.nil ⟨Le.rfl, List.nil_sublist _, _, List.nil_sublist _, List.Sublist.refl _, ?_⟩
    refine WD.take 7 rfl rfl rfl (by kernel_rfl) (by kernel_rfl) (by kernel_rfl) (ok_as) ?_
    refine WD.done (by kernel_rfl) (thn_n ?_)
    refine WC.seq ?_
    refine WC.region ?_
    refine W.mv ?_
    refine W.mv ?_
    refine W.ok (ok_lenO sl61 ho26 rfl) ?_
    refine W.mv ?_
    have hl31 : (s.take i ++ s.drop j).length = i + (s.length - j) := by simp; omega
    refine W.ok (ok_sliceO (s.take i ++ s.drop j).length s.length sl61 ty9 ho26 rfl ⟨_, _, rfl, by omega⟩ ⟨_, _, rfl, by omega⟩ ⟨by omega, .inr (by omega)⟩) ?_
    refine W.clearT (e := eStr) (lo := (s.take i ++ s.drop j).length) (hi := s.length) sl61 ty9 zr9 rfl rfl ho26 (List.Perm.refl _) rfl (by omega) hc26 hf26 (by omega) (fun Ms31 ho31 => ?_)
    refine W.nil (thn_n ?_)
    refine WC.seq ?_
    refine WC.region ?_
    refine W.mv ?_
    refine W.as ?_
    refine W.nil (thn_n ?_)
    refine WC.ret ?_
    refine ⟨.inr rfl, [_], ⟨rfl, trivial⟩, Ms31, List.sublist_append_left _ _, ?_⟩
    exact ho31

theorem deli_fc {G : GH} {v_s : Value} {s : List Int} {Ms_s : MH} (h_s : OwnR eInt 3 G v_s s Ms_s) (i : Nat) (j : Nat) (hij : i < j ∧ j ≤ s.length) :
    Fc Try.prog 141 [v_s, .int .i64 ((i : Nat) : Int), .int .i64 ((j : Nat) : Int)] G Ms_s (fun v G' M' => OwnR eInt 3 G' v (s.take i ++ s.drop j) M') := by
  have hs := h_s.len47
  obtain ⟨hij1, hij2⟩ := hij
  refine Fc.intro (rs := [.tmp 6]) cl141 Try.func141 rfl Try.ntmps141 rfl rfl (fun w0 => ?_)
  refine WC.perm (M' := (Ms_s ++ [])) (by simp) ?_
  refine WC.seq ?_
  refine WC.region ?_
  refine W.as ?_
  refine W.nil (thn_n ?_)
  refine WC.seq ?_
  refine WC.region ?_
  refine W.mv ?_
  refine W.mv ?_
  refine W.mv ?_
  refine W.mv ?_
  refine W.ok (ok_lenO sl47 h_s rfl) ?_
  have q16 := h_s.capForm
  refine match q16 with | ⟨ac13, hcf13⟩ => ?_
  have hcl13 := h_s.cap_le
  refine W.okx (ok_slice3 i j s.length sl47 ty3 hcf13 ⟨_, _, rfl, by omega⟩ ⟨_, _, rfl, by omega⟩ ⟨_, _, rfl, by omega⟩ ⟨by omega, by omega, by omega⟩) (fun u13 => ?_)
  refine W.nil (thn_n ?_)
  refine WC.seq ?_
  refine WC.seq ?_
  refine WC.region ?_
  refine W.mv ?_
  refine W.mv ?_
  refine W.ok (ok_eql rfl rfl) ?_
  refine W.nil (thn_n ?_)
  refine WC.cond (b := _) rfl (fun h16 => ?_) (fun h16 => ?_)
  · have p16 := of_decide_eq_true h16
    exact absurd p16 (by omega)
  · have p16 := of_decide_eq_false h16
    refine WC.skip (thn_n ?_)
    refine WC.seq ?_
    refine WC.region ?_
    refine W.mv ?_
    refine W.ok (ok_lenO sl47 h_s rfl) ?_
    refine W.as ?_
    refine W.nil (thn_n ?_)
    refine WC.seq ?_
    refine WC.drawW _ (List.nil_sublist _) mix (by rintro _ _ _ _ ⟨h | h, _⟩ <;> cases h) ?_
    refine WD.take 0 rfl rfl rfl (by kernel_rfl) (by kernel_rfl) (by kernel_rfl) (ok_mv) ?_
    refine WD.take 1 rfl rfl rfl (by kernel_rfl) (by kernel_rfl) (by kernel_rfl) (ok_mv) ?_
    refine WD.take 2 rfl rfl rfl (by kernel_rfl) (by kernel_rfl) (by kernel_rfl) (ok_sliceO (0) (i) sl47 ty3 h_s rfl rfl ⟨_, _, rfl, by omega⟩ ⟨by omega, .inl (by omega)⟩) ?_
    refine WD.take 3 rfl rfl rfl (by kernel_rfl) (by kernel_rfl) (by kernel_rfl) (ok_mv) ?_
    refine WD.take 4 rfl rfl rfl (by kernel_rfl) (by kernel_rfl) (by kernel_rfl) (ok_mv) ?_
    refine WD.take 5 rfl rfl rfl (by kernel_rfl) (by kernel_rfl) (by kernel_rfl) (ok_sliceO (j) (s.length) sl47 ty3 h_s rfl ⟨_, _, rfl, by omega⟩ rfl ⟨by omega, .inl (by omega)⟩) ?_
    refine WD.any [6] (by kernel_rfl) rfl ⟨⟨_, rfl, rfl, ?_⟩, trivial⟩
    refine W.appDel (e := eInt) (i := i) (j := j) sl47 ty3 zr3 rfl h_s (List.Perm.refl _) rfl rfl (by omega) (by omega) (by omega) (fun v26 Ms26 ho26 hc26 hf26 => ?_)
    refine W.nil ⟨Le.rfl, List.nil_sublist _, _, List.nil_sublist _, List.Sublist.refl _, ?_⟩
    refine WD.take 7 rfl rfl rfl (by kernel_rfl) (by kernel_rfl) (by kernel_rfl) (ok_as) ?_
    refine WD.done (by kernel_rfl) (thn_n ?_)
    refine WC.seq ?_
    refine WC.region ?_
    refine W.mv ?_
    refine W.mv ?_
    refine W.ok (ok_lenO sl47 ho26 rfl) ?_
    refine W.mv ?_
    have hl31 : (s.take i ++ s.drop j).length = i + (s.length - j) := by simp; omega
    refine W.ok (ok_sliceO (s.take i ++ s.drop j).length s.length sl47 ty3 ho26 rfl ⟨_, _, rfl, by omega⟩ ⟨_, _, rfl, by omega⟩ ⟨by omega, .inr (by omega)⟩) ?_
    refine W.clearT (e := eInt) (lo := (s.take i ++ s.drop j).length) (hi := s.length) sl47 ty3 zr3 rfl rfl ho26 (List.Perm.refl _) rfl (by omega) hc26 hf26 (by omega) (fun Ms31 ho31 => ?_)
    refine W.nil (thn_n ?_)
    refine WC.seq ?_
    refine WC.region ?_
    refine W.mv ?_
    refine W.as ?_
    refine W.nil (thn_n ?_)
    refine WC.ret ?_
    refine ⟨.inr rfl, [_], ⟨rfl, trivial⟩, Ms31, List.sublist_append_left _ _, ?_⟩
    exact ho31

theorem clonesO_fc {G : GH} {v_a : Value} {a : List Str} (h_a : SlR eStr G v_a a) :
    Fc Try.prog 137 [v_a] G [] (fun v G' M' => OwnR eStr 9 G' v (a) M') := by
  obtain ⟨sa_a, sc_a, rfl⟩ := h_a.form
  have ha := h_a.bytes
  refine Fc.intro (rs := [.tmp 2]) cl137 Try.func137 rfl Try.ntmps137 rfl rfl (fun w0 => ?_)
  refine WC.seq ?_
  refine WC.region ?_
  refine W.as ?_
  refine W.nil (thn_n ?_)
  refine WC.seq ?_
  refine WC.seq ?_
  refine WC.region ?_
  refine W.mv ?_
  refine W.ok (ok_eqlNil sl61 rfl rfl) ?_
  refine W.nil (thn_n ?_)
  refine WC.cond (b := _) rfl (fun h4 => ?_) (fun h4 => ?_)
  · have hn := SlR.isNone h_a h4
    subst hn
    refine WC.seq ?_
    refine WC.region ?_
    refine W.as ?_
    refine W.nil (thn_n ?_)
    refine WC.ret (thn_r ?_)
    refine ⟨.inr rfl, [_], ⟨rfl, trivial⟩, [], List.nil_sublist _, ?_⟩
    exact OwnR.nil
  · refine WC.skip (thn_n ?_)
    refine WC.seq ?_
    refine WC.region ?_
    refine W.lit0 (e := eStr) sl61 ty9 zr9 rfl (fun v17 Ms18 ho19 => ?_)
    refine W.mv ?_
    refine W.app (e := eStr) sl61 ty9 zr9 rfl by9 rfl rfl (ho19) (h_a) (List.Perm.refl _) (by simpa using ha) (fun v20 Ms21 ho22 => ?_)
    refine W.as ?_
    refine W.nil (thn_n ?_)
    refine WC.ret ?_
    refine ⟨.inr rfl, [_], ⟨rfl, trivial⟩, Ms21, List.sublist_append_left _ _, ?_⟩
    have h := ho22
    rw [List.nil_append] at h
    exact h

theorem cloneiO_fc {G : GH} {v_a : Value} {a : List Int} (h_a : SlR eInt G v_a a) :
    Fc Try.prog 139 [v_a] G [] (fun v G' M' => OwnR eInt 3 G' v (a) M') := by
  obtain ⟨sa_a, sc_a, rfl⟩ := h_a.form
  have ha := h_a.bytes
  refine Fc.intro (rs := [.tmp 2]) cl139 Try.func139 rfl Try.ntmps139 rfl rfl (fun w0 => ?_)
  refine WC.seq ?_
  refine WC.region ?_
  refine W.as ?_
  refine W.nil (thn_n ?_)
  refine WC.seq ?_
  refine WC.seq ?_
  refine WC.region ?_
  refine W.mv ?_
  refine W.ok (ok_eqlNil sl47 rfl rfl) ?_
  refine W.nil (thn_n ?_)
  refine WC.cond (b := _) rfl (fun h4 => ?_) (fun h4 => ?_)
  · have hn := SlR.isNone h_a h4
    subst hn
    refine WC.seq ?_
    refine WC.region ?_
    refine W.as ?_
    refine W.nil (thn_n ?_)
    refine WC.ret (thn_r ?_)
    refine ⟨.inr rfl, [_], ⟨rfl, trivial⟩, [], List.nil_sublist _, ?_⟩
    exact OwnR.nil
  · refine WC.skip (thn_n ?_)
    refine WC.seq ?_
    refine WC.region ?_
    refine W.lit0 (e := eInt) sl47 ty3 zr3 rfl (fun v23 Ms24 ho25 => ?_)
    refine W.mv ?_
    refine W.app (e := eInt) sl47 ty3 zr3 rfl by3 rfl rfl (ho25) (h_a) (List.Perm.refl _) (by simpa using ha) (fun v26 Ms27 ho28 => ?_)
    refine W.as ?_
    refine W.nil (thn_n ?_)
    refine WC.ret ?_
    refine ⟨.inr rfl, [_], ⟨rfl, trivial⟩, Ms27, List.sublist_append_left _ _, ?_⟩
    have h := ho28
    rw [List.nil_append] at h
    exact h

theorem binsn_fc {G : GH} {v_p : Value} {p : List Str} (h_p : SlR eStr G v_p p) {v_c : Value} {c : List Int} (h_c : SlR eInt G v_c c) (i : Int) (k : Str) (nv : Int) (hi : i64 i) (hn : i < 0) :
    Fc Try.prog 44 [v_p, v_c, .int .i64 i, .string k.b, .int .i64 nv] G [] (fun v G' M' => M' = [] ∧ ∃ u0 u1, v = .tuple #[u0, u1] ∧ SlR eStr G' u0 ([]) ∧ SlR eInt G' u1 ([])) := by
  obtain ⟨sa_p, sc_p, rfl⟩ := h_p.form
  obtain ⟨sa_c, sc_c, rfl⟩ := h_c.form
  have hp := h_p.len47
  have hc := h_c.len47
  refine Fc.intro (rs := [.tmp 10, .tmp 11]) cl44 Try.func44 rfl Try.ntmps44 rfl rfl (fun w0 => ?_)
  refine WC.seq ?_
  refine WC.region ?_
  refine W.as ?_
  refine W.as ?_
  refine W.nil (thn_n ?_)
  refine WC.seq ?_
  refine WC.region ?_
  refine W.mv ?_
  refine W.mv ?_
  refine W.qcall (brange_fc h_p _ (by first | assumption | exact ⟨by omega, by omega⟩)) rfl ?_
  refine W.alloc zr68 (fun b29 => ?_)
  refine W.store (i := 0) (vs := [.string _, .string _, .bool _]) (L' := [.string _, .string _, .bool _]) ty68 rfl rfl rfl rfl rfl rfl rfl rfl ?_
  refine W.nil (thn_n ?_)
  refine WC.seq ?_
  refine WC.seq ?_
  refine WC.region ?_
  refine W.mv ?_
  refine W.ok (ok_lss rfl rfl) ?_
  refine W.mv ?_
  refine W.sp 18 rfl (fun h17 => ?_) (fun h17 => ?_)
  · have p17 := of_decide_eq_true h17
    refine W.no (dj := 18) rfl rfl h17 ?_
    refine W.no (dj := 18) rfl rfl h17 ?_
    refine W.no (dj := 18) rfl rfl h17 ?_
    refine W.no (dj := 18) rfl rfl h17 ?_
    refine W.ok (ok_pick_t rfl h17) ?_
    refine W.mv ?_
    refine W.no (dj := 24) rfl rfl rfl ?_
    refine W.no (dj := 24) rfl rfl rfl ?_
    refine W.no (dj := 24) rfl rfl rfl ?_
    refine W.no (dj := 24) rfl rfl rfl ?_
    refine W.ok (ok_pick_t rfl rfl) ?_
    refine W.mv ?_
    refine W.no (dj := 30) rfl rfl rfl ?_
    refine W.no (dj := 30) rfl rfl rfl ?_
    refine W.no (dj := 30) rfl rfl rfl ?_
    refine W.no (dj := 30) rfl rfl rfl ?_
    refine W.ok (ok_pick_t rfl rfl) ?_
    refine W.nil (thn_n ?_)
    refine WC.cond_t rfl rfl ?_
    refine WC.seq ?_
    refine WC.region ?_
    refine W.as ?_
    refine W.as ?_
    refine W.nil (thn_n ?_)
    refine WC.ret (thn_r ?_)
    refine ⟨.inr rfl, [_, _], ⟨rfl, rfl, trivial⟩, [], List.nil_sublist _, ?_⟩
    refine ⟨rfl, _, _, rfl, ?_, ?_⟩
    · exact SlR.nil
    · exact SlR.nil
  · have p17 := of_decide_eq_false h17
    exact absurd hn p17

theorem bremn_fc {G : GH} {v_p : Value} {p : List Str} (h_p : SlR eStr G v_p p) {v_c : Value} {c : List Int} (h_c : SlR eInt G v_c c) (i : Int) (hi : i64 i) (hn : i < 0) :
    Fc Try.prog 45 [v_p, v_c, .int .i64 i] G [] (fun v G' M' => M' = [] ∧ ∃ u0 u1, v = .tuple #[u0, u1] ∧ SlR eStr G' u0 ([]) ∧ SlR eInt G' u1 ([])) := by
  obtain ⟨sa_p, sc_p, rfl⟩ := h_p.form
  obtain ⟨sa_c, sc_c, rfl⟩ := h_c.form
  have hp := h_p.len47
  have hc := h_c.len47
  refine Fc.intro (rs := [.tmp 6, .tmp 7]) cl45 Try.func45 rfl Try.ntmps45 rfl rfl (fun w0 => ?_)
  refine WC.seq ?_
  refine WC.region ?_
  refine W.as ?_
  refine W.as ?_
  refine W.nil (thn_n ?_)
  refine WC.seq ?_
  refine WC.seq ?_
  refine WC.region ?_
  refine W.mv ?_
  refine W.ok (ok_lss rfl rfl) ?_
  refine W.mv ?_
  refine W.sp 10 rfl (fun h9 => ?_) (fun h9 => ?_)
  · have p9 := of_decide_eq_true h9
    refine W.no (dj := 10) rfl rfl h9 ?_
    refine W.no (dj := 10) rfl rfl h9 ?_
    refine W.no (dj := 10) rfl rfl h9 ?_
    refine W.no (dj := 10) rfl rfl h9 ?_
    refine W.ok (ok_pick_t rfl h9) ?_
    refine W.mv ?_
    refine W.no (dj := 16) rfl rfl rfl ?_
    refine W.no (dj := 16) rfl rfl rfl ?_
    refine W.no (dj := 16) rfl rfl rfl ?_
    refine W.no (dj := 16) rfl rfl rfl ?_
    refine W.ok (ok_pick_t rfl rfl) ?_
    refine W.nil (thn_n ?_)
    refine WC.cond_t rfl rfl ?_
    refine WC.seq ?_
    refine WC.region ?_
    refine W.as ?_
    refine W.as ?_
    refine W.nil (thn_n ?_)
    refine WC.ret (thn_r ?_)
    refine ⟨.inr rfl, [_, _], ⟨rfl, rfl, trivial⟩, [], List.nil_sublist _, ?_⟩
    refine ⟨rfl, _, _, rfl, ?_, ?_⟩
    · exact SlR.nil
    · exact SlR.nil
  · have p9 := of_decide_eq_false h9
    exfalso; omega

theorem bins_fc {G : GH} {v_p : Value} {p : List Str} (h_p : SlR eStr G v_p p) {v_c : Value} {c : List Int} (h_c : SlR eInt G v_c c) (i : Nat) (k : Str) (nv : Int) (hb1 : (p.length + 1) * 16 ≤ 140737488355328) (hb2 : (c.length + 1) * 8 ≤ 140737488355328) (hi : i64 ((i : Nat) : Int)) (hv : i64 nv) :
    Fc Try.prog 44 [v_p, v_c, .int .i64 ((i : Nat) : Int), .string k.b, .int .i64 nv] G [] (fun v G' M' => M' = [] ∧ ∃ r : List Str × List Int, r = binsN p c i k nv ∧ ∃ u0 u1, v = .tuple #[u0, u1] ∧ SlR eStr G' u0 (r.1) ∧ SlR eInt G' u1 (r.2)) := by
  obtain ⟨sa_p, sc_p, rfl⟩ := h_p.form
  obtain ⟨sa_c, sc_c, rfl⟩ := h_c.form
  have hp := h_p.len47
  have hc := h_c.len47
  have hv1 := hv.1
  have hv2 := hv.2
  refine Fc.intro (rs := [.tmp 10, .tmp 11]) cl44 Try.func44 rfl Try.ntmps44 rfl rfl (fun w0 => ?_)
  refine WC.seq ?_
  refine WC.region ?_
  refine W.as ?_
  refine W.as ?_
  refine W.nil (thn_n ?_)
  refine WC.seq ?_
  refine WC.region ?_
  refine W.mv ?_
  refine W.mv ?_
  refine W.qcall (brange_fc h_p _ (by first | assumption | exact ⟨by omega, by omega⟩)) rfl ?_
  refine W.alloc zr68 (fun b30 => ?_)
  refine W.store (i := 0) (vs := [.string _, .string _, .bool _]) (L' := [.string _, .string _, .bool _]) ty68 rfl rfl rfl rfl rfl rfl rfl rfl ?_
  refine W.nil (thn_n ?_)
  refine WC.seq ?_
  refine WC.seq ?_
  refine WC.region ?_
  refine W.mv ?_
  refine W.ok (ok_lss rfl rfl) ?_
  refine W.mv ?_
  refine W.sp 18 rfl (fun h17 => ?_) (fun h17 => ?_)
  · have p17 := of_decide_eq_true h17
    exfalso; omega
  · have p17 := of_decide_eq_false h17
    refine W.yes (dj := 18) rfl rfl h17 ?_
    refine W.mv ?_
    refine W.yes (dj := 18) rfl rfl h17 ?_
    refine W.mv ?_
    refine W.yes (dj := 18) rfl rfl h17 ?_
    refine W.ok (ok_len sl47 h_c rfl) ?_
    refine W.yes (dj := 18) rfl rfl h17 ?_
    refine W.ok (ok_geq rfl rfl) ?_
    refine W.ok (ok_pick_f rfl h17) ?_
    refine W.mv ?_
    refine W.sp 24 rfl (fun h22 => ?_) (fun h22 => ?_)
    · have p22 := of_decide_eq_true h22
      refine W.no (dj := 24) rfl rfl h22 ?_
      refine W.no (dj := 24) rfl rfl h22 ?_
      refine W.no (dj := 24) rfl rfl h22 ?_
      refine W.no (dj := 24) rfl rfl h22 ?_
      refine W.ok (ok_pick_t rfl h22) ?_
      refine W.mv ?_
      refine W.no (dj := 30) rfl rfl rfl ?_
      refine W.no (dj := 30) rfl rfl rfl ?_
      refine W.no (dj := 30) rfl rfl rfl ?_
      refine W.no (dj := 30) rfl rfl rfl ?_
      refine W.ok (ok_pick_t rfl rfl) ?_
      refine W.nil (thn_n ?_)
      refine WC.cond_t rfl rfl ?_
      refine WC.seq ?_
      refine WC.region ?_
      refine W.as ?_
      refine W.as ?_
      refine W.nil (thn_n ?_)
      refine WC.ret (thn_r ?_)
      refine ⟨.inr rfl, [_, _], ⟨rfl, rfl, trivial⟩, [], List.nil_sublist _, ?_⟩
      refine ⟨rfl, _, (binsN_0 (.inl (by omega))).symm, _, _, rfl, ?_, ?_⟩
      · exact SlR.nil
      · exact SlR.nil
    · have p22 := of_decide_eq_false h22
      refine W.yes (dj := 24) rfl rfl h22 ?_
      refine W.ok (ok_loadB (i := 0) (vs := [.string _, .string _, .bool _]) ty68 rfl rfl rfl rfl (by simp)) ?_
      refine W.yes (dj := 24) rfl rfl h22 ?_
      refine W.mv ?_
      refine W.yes (dj := 24) rfl rfl h22 ?_
      refine W.qcall (spanhas_fc _ _ _ _) rfl ?_
      refine W.yes (dj := 24) rfl rfl h22 ?_
      refine W.ok (ok_not rfl) ?_
      refine W.ok (ok_pick_f rfl h22) ?_
      refine W.mv ?_
      refine W.sp 30 rfl (fun h28 => ?_) (fun h28 => ?_)
      · refine W.no (dj := 30) rfl rfl h28 ?_
        refine W.no (dj := 30) rfl rfl h28 ?_
        refine W.no (dj := 30) rfl rfl h28 ?_
        refine W.no (dj := 30) rfl rfl h28 ?_
        refine W.ok (ok_pick_t rfl h28) ?_
        refine W.nil (thn_n ?_)
        refine WC.cond_t rfl rfl ?_
        refine WC.seq ?_
        refine WC.region ?_
        refine W.as ?_
        refine W.as ?_
        refine W.nil (thn_n ?_)
        refine WC.ret (thn_r ?_)
        refine ⟨.inr rfl, [_, _], ⟨rfl, rfl, trivial⟩, [], List.nil_sublist _, ?_⟩
        refine ⟨rfl, _, (binsN_0 (.inr (.inl (by simpa using h28)))).symm, _, _, rfl, ?_, ?_⟩
        · exact SlR.nil
        · exact SlR.nil
      · refine W.yes (dj := 30) rfl rfl h28 ?_
        refine W.mv ?_
        refine W.yes (dj := 30) rfl rfl h28 ?_
        refine W.ok (ok_fieldB fd68_0 rfl) ?_
        refine W.yes (dj := 30) rfl rfl h28 ?_
        refine W.ok (ok_loadB (i := 0) (vs := [.string _]) ty9 rfl rfl rfl rfl (by simp)) ?_
        refine W.yes (dj := 30) rfl rfl h28 ?_
        refine W.ok (ok_eqlS rfl rfl) ?_
        refine W.ok (ok_pick_f rfl h28) ?_
        refine W.nil (thn_n ?_)
        refine WC.cond (b := _) rfl (fun h34 => ?_) (fun h34 => ?_)
        · have p34 := of_decide_eq_true h34
          refine WC.seq ?_
          refine WC.region ?_
          refine W.as ?_
          refine W.as ?_
          refine W.nil (thn_n ?_)
          refine WC.ret (thn_r ?_)
          refine ⟨.inr rfl, [_, _], ⟨rfl, rfl, trivial⟩, [], List.nil_sublist _, ?_⟩
          refine ⟨rfl, _, (binsN_0 (.inr (.inr (Str.ext' p34)))).symm, _, _, rfl, ?_, ?_⟩
          · exact SlR.nil
          · exact SlR.nil
        · have p34 := of_decide_eq_false h34
          have hin := range_in (p := p) (i := i) (k := k) (by simpa using h28)
          have hb := binsN_1 (p := p) (c := c) (i := i) (k := k) (v := nv) (by omega) (by simpa using h28) (fun e => p34 (congrArg Str.b e))
          refine WC.skip (thn_n ?_)
          refine WC.seq ?_
          refine WC.region ?_
          refine W.mv ?_
          refine W.call (Mp := []) (clonesO_fc h_p) rfl (List.Perm.refl _) ?_
          rintro v32 G31 Ms33 hG31 ho34
          refine W.perm (pmC (List.Perm.refl _)).symm ?_
          refine W.mv ?_
          refine W.mv ?_
          refine W.litO (e := eStr) (l := [_]) (css := [[.string _]]) sl61 ty9 zr9 rfl rfl rfl rfl rfl rfl ⟨rfl, trivial⟩ (fun v35 Ms36 ho37 => ?_)
          refine W.perm (pmC (List.Perm.refl _)).symm ?_
          refine W.call (Mp := Ms33 ++ Ms36) (inss_fc ho34 _ ho37 (by first | assumption | omega) (by first | assumption | omega | simp) (by first | assumption | omega | (simp; omega))) rfl ((List.Perm.of_eq (List.append_assoc _ _ _)).trans ((List.Perm.append_left _ (pmC (List.Perm.refl _))).trans (pmC (pmA (List.Perm.refl _))))) ?_
          rintro v39 G38 Ms40 hG38 ho41
          refine W.perm (pmC (List.Perm.refl _)).symm ?_
          refine W.mv ?_
          refine W.call (Mp := []) (cloneiO_fc (h_c.mono (hG31.trans hG38))) rfl (List.Perm.refl _) ?_
          rintro v43 G42 Ms44 hG42 ho45
          refine W.perm (pmC (List.Perm.refl _)).symm ?_
          refine W.mv ?_
          refine W.ok (Ok.int (n := ((i + 1 : Nat) : Int)) (ok_add rfl rfl (by omega)) (by omega)) ?_
          refine W.mv ?_
          refine W.litO (e := eInt) (l := [_]) (css := [[.int .i64 _]]) sl47 ty3 zr3 rfl rfl rfl rfl rfl rfl ⟨⟨rfl, by omega, by omega⟩, trivial⟩ (fun v46 Ms47 ho48 => ?_)
          refine W.perm (pmC (List.Perm.refl _)).symm ?_
          refine W.call (Mp := Ms44 ++ Ms47) (insi_fc ho45 _ ho48 (by first | assumption | omega) (by first | assumption | omega | simp) (by first | assumption | omega | (simp; omega))) rfl ((List.Perm.of_eq (List.append_assoc _ _ _)).trans ((List.Perm.append_left _ (pmC (List.Perm.refl _))).trans (pmC (pmA (List.Perm.refl _))))) ?_
          rintro v50 G49 Ms51 hG49 ho52
          refine W.perm (pmC (List.Perm.refl _)).symm ?_
          refine W.as ?_
          refine W.as ?_
          refine W.nil (thn_n ?_)
          refine WC.giveO (ho41.mono (hG42.trans hG49)) (pmC (pmA (List.Perm.refl _))) (fun G53 hG53 hv53 => ?_)
          refine WC.giveO (ho52.mono hG53) (pmC (List.Perm.refl _)) (fun G54 hG54 hv54 => ?_)
          refine WC.ret ?_
          refine ⟨.inr rfl, [_, _], ⟨rfl, rfl, trivial⟩, [], List.nil_sublist _, ?_⟩
          refine ⟨rfl, _, hb.symm, _, _, rfl, ?_, ?_⟩
          · exact (hv53.mono hG54)
          · exact hv54

theorem brem_fc {G : GH} {v_p : Value} {p : List Str} (h_p : SlR eStr G v_p p) {v_c : Value} {c : List Int} (h_c : SlR eInt G v_c c) (i : Nat) (hi : i64 ((i : Nat) : Int)) :
    Fc Try.prog 45 [v_p, v_c, .int .i64 ((i : Nat) : Int)] G [] (fun v G' M' => M' = [] ∧ ∃ r : List Str × List Int, r = bremN p c i ∧ ∃ u0 u1, v = .tuple #[u0, u1] ∧ SlR eStr G' u0 (r.1) ∧ SlR eInt G' u1 (r.2)) := by
  obtain ⟨sa_p, sc_p, rfl⟩ := h_p.form
  obtain ⟨sa_c, sc_c, rfl⟩ := h_c.form
  have hp := h_p.len47
  have hc := h_c.len47
  refine Fc.intro (rs := [.tmp 6, .tmp 7]) cl45 Try.func45 rfl Try.ntmps45 rfl rfl (fun w0 => ?_)
  refine WC.seq ?_
  refine WC.region ?_
  refine W.as ?_
  refine W.as ?_
  refine W.nil (thn_n ?_)
  refine WC.seq ?_
  refine WC.seq ?_
  refine WC.region ?_
  refine W.mv ?_
  refine W.ok (ok_lss rfl rfl) ?_
  refine W.mv ?_
  refine W.sp 10 rfl (fun h9 => ?_) (fun h9 => ?_)
  · have p9 := of_decide_eq_true h9
    refine W.no (dj := 10) rfl rfl h9 ?_
    refine W.no (dj := 10) rfl rfl h9 ?_
    refine W.no (dj := 10) rfl rfl h9 ?_
    refine W.no (dj := 10) rfl rfl h9 ?_
    refine W.ok (ok_pick_t rfl h9) ?_
    refine W.mv ?_
    refine W.no (dj := 16) rfl rfl rfl ?_
    refine W.no (dj := 16) rfl rfl rfl ?_
    refine W.no (dj := 16) rfl rfl rfl ?_
    refine W.no (dj := 16) rfl rfl rfl ?_
    refine W.ok (ok_pick_t rfl rfl) ?_
    refine W.nil (thn_n ?_)
    refine WC.cond_t rfl rfl ?_
    refine WC.seq ?_
    refine WC.region ?_
    refine W.as ?_
    refine W.as ?_
    refine W.nil (thn_n ?_)
    refine WC.ret (thn_r ?_)
    refine ⟨.inr rfl, [_, _], ⟨rfl, rfl, trivial⟩, [], List.nil_sublist _, ?_⟩
    refine ⟨rfl, _, (bremN_0 (by omega)).symm, _, _, rfl, ?_, ?_⟩
    · exact SlR.nil
    · exact SlR.nil
  · have p9 := of_decide_eq_false h9
    refine W.yes (dj := 10) rfl rfl h9 ?_
    refine W.mv ?_
    refine W.yes (dj := 10) rfl rfl h9 ?_
    refine W.mv ?_
    refine W.yes (dj := 10) rfl rfl h9 ?_
    refine W.ok (ok_len sl47 h_c rfl) ?_
    refine W.yes (dj := 10) rfl rfl h9 ?_
    refine W.ok (ok_geq rfl rfl) ?_
    refine W.ok (ok_pick_f rfl h9) ?_
    refine W.mv ?_
    refine W.sp 16 rfl (fun h14 => ?_) (fun h14 => ?_)
    · have p14 := of_decide_eq_true h14
      refine W.no (dj := 16) rfl rfl h14 ?_
      refine W.no (dj := 16) rfl rfl h14 ?_
      refine W.no (dj := 16) rfl rfl h14 ?_
      refine W.no (dj := 16) rfl rfl h14 ?_
      refine W.ok (ok_pick_t rfl h14) ?_
      refine W.nil (thn_n ?_)
      refine WC.cond_t rfl rfl ?_
      refine WC.seq ?_
      refine WC.region ?_
      refine W.as ?_
      refine W.as ?_
      refine W.nil (thn_n ?_)
      refine WC.ret (thn_r ?_)
      refine ⟨.inr rfl, [_, _], ⟨rfl, rfl, trivial⟩, [], List.nil_sublist _, ?_⟩
      refine ⟨rfl, _, (bremN_0 (by omega)).symm, _, _, rfl, ?_, ?_⟩
      · exact SlR.nil
      · exact SlR.nil
    · have p14 := of_decide_eq_false h14
      refine W.yes (dj := 16) rfl rfl h14 ?_
      refine W.mv ?_
      refine W.yes (dj := 16) rfl rfl h14 ?_
      refine W.mv ?_
      refine W.yes (dj := 16) rfl rfl h14 ?_
      refine W.ok (ok_len sl61 h_p rfl) ?_
      refine W.yes (dj := 16) rfl rfl h14 ?_
      refine W.ok (ok_gtr rfl rfl) ?_
      refine W.ok (ok_pick_f rfl h14) ?_
      refine W.nil (thn_n ?_)
      refine WC.cond (b := _) rfl (fun h20 => ?_) (fun h20 => ?_)
      · have p20 := of_decide_eq_true h20
        refine WC.seq ?_
        refine WC.region ?_
        refine W.as ?_
        refine W.as ?_
        refine W.nil (thn_n ?_)
        refine WC.ret (thn_r ?_)
        refine ⟨.inr rfl, [_, _], ⟨rfl, rfl, trivial⟩, [], List.nil_sublist _, ?_⟩
        refine ⟨rfl, _, (bremN_0 (by omega)).symm, _, _, rfl, ?_, ?_⟩
        · exact SlR.nil
        · exact SlR.nil
      · have p20 := of_decide_eq_false h20
        refine WC.skip (thn_n ?_)
        refine WC.seq ?_
        refine WC.region ?_
        refine W.mv ?_
        refine W.call (Mp := []) (clonesO_fc h_p) rfl (List.Perm.refl _) ?_
        rintro v56 G55 Ms57 hG55 ho58
        refine W.mv ?_
        refine W.ok (Ok.int (n := ((i - 1 : Nat) : Int)) (ok_sub rfl rfl (by omega)) (by omega)) ?_
        refine W.mv ?_
        refine W.call (Mp := Ms57) (dels_fc ho58 _ _ (by first | assumption | omega)) rfl (List.Perm.refl _) ?_
        rintro v60 G59 Ms61 hG59 ho62
        refine W.mv ?_
        refine W.call (Mp := []) (cloneiO_fc (h_c.mono (hG55.trans hG59))) rfl (List.Perm.refl _) ?_
        rintro v64 G63 Ms65 hG63 ho66
        refine W.mv ?_
        refine W.mv ?_
        refine W.ok (Ok.int (n := ((i + 1 : Nat) : Int)) (ok_add rfl rfl (by omega)) (by omega)) ?_
        refine W.call (Mp := Ms65) (deli_fc ho66 _ _ (by first | assumption | omega)) rfl (List.Perm.refl _) ?_
        rintro v68 G67 Ms69 hG67 ho70
        refine W.as ?_
        refine W.as ?_
        refine W.nil (thn_n ?_)
        refine WC.giveO (ho62.mono (hG63.trans hG67)) (pmA (List.Perm.refl _)) (fun G71 hG71 hv71 => ?_)
        refine WC.giveO (ho70.mono hG71) (List.Perm.refl _) (fun G72 hG72 hv72 => ?_)
        refine WC.ret ?_
        refine ⟨.inr rfl, [_, _], ⟨rfl, rfl, trivial⟩, [], List.nil_sublist _, ?_⟩
        refine ⟨rfl, _, (bremN_1 (by omega) (by omega) (by omega)).symm, _, _, rfl, ?_, ?_⟩
        · exact (hv71.mono hG72)
        · exact hv72

theorem cutO_fc {G : GH} {v_l : Value} {l : List Str} (h_l : SlR eStr G v_l l) (i : Nat) (j : Nat) (hij : i ≤ j ∧ j ≤ l.length) :
    Fc Try.prog 49 [v_l, .int .i64 ((i : Nat) : Int), .int .i64 ((j : Nat) : Int)] G [] (fun v G' M' => OwnR eStr 9 G' v ((l.take j).drop i) M') := by
  obtain ⟨sa_l, sc_l, rfl⟩ := h_l.form
  have hl := h_l.len47
  have hlb : l.length * 16 ≤ 140737488355328 := h_l.bytes
  obtain ⟨hi, hj⟩ := hij
  refine Fc.intro (rs := [.tmp 6]) cl49 Try.func49 rfl Try.ntmps49 rfl rfl (fun w0 => ?_)
  refine WC.seq ?_
  refine WC.region ?_
  refine W.as ?_
  refine W.nil (thn_n ?_)
  refine WC.seq ?_
  refine WC.region ?_
  refine W.lit0 (e := eStr) sl61 ty9 zr9 rfl (fun v73 Ms74 ho75 => ?_)
  refine W.mv ?_
  refine W.mv ?_
  refine W.mv ?_
  have hs76 := SlR.slice h_l (lo := i) (hi := j) (by omega) (by omega)
  refine W.ok (ok_slice (i) (j) sl61 ty9 h_l rfl ⟨_, _, rfl, by omega⟩ ⟨_, _, rfl, by omega⟩ ⟨by omega, by omega⟩) ?_
  refine W.app (e := eStr) sl61 ty9 zr9 rfl by9 rfl rfl (ho75) (hs76) (List.Perm.refl _) (by show (0 + ((l.take j).drop i).length) * 16 ≤ _; simp; omega) (fun v77 Ms78 ho79 => ?_)
  refine W.as ?_
  refine W.nil (thn_n ?_)
  refine WC.ret ?_
  refine ⟨.inr rfl, [_], ⟨rfl, trivial⟩, Ms78, List.sublist_append_left _ _, ?_⟩
  exact ho79

theorem partO_fc {G : GH} {v_l : Value} {l : List Int} (h_l : SlR eInt G v_l l) (i : Nat) (j : Nat) (hij : i ≤ j ∧ j ≤ l.length) :
    Fc Try.prog 50 [v_l, .int .i64 ((i : Nat) : Int), .int .i64 ((j : Nat) : Int)] G [] (fun v G' M' => OwnR eInt 3 G' v ((l.take j).drop i) M') := by
  obtain ⟨sa_l, sc_l, rfl⟩ := h_l.form
  have hl := h_l.len47
  have hlb : l.length * 8 ≤ 140737488355328 := h_l.bytes
  obtain ⟨hi, hj⟩ := hij
  refine Fc.intro (rs := [.tmp 6]) cl50 Try.func50 rfl Try.ntmps50 rfl rfl (fun w0 => ?_)
  refine WC.seq ?_
  refine WC.region ?_
  refine W.as ?_
  refine W.nil (thn_n ?_)
  refine WC.seq ?_
  refine WC.region ?_
  refine W.lit0 (e := eInt) sl47 ty3 zr3 rfl (fun v80 Ms81 ho82 => ?_)
  refine W.mv ?_
  refine W.mv ?_
  refine W.mv ?_
  have hs83 := SlR.slice h_l (lo := i) (hi := j) (by omega) (by omega)
  refine W.ok (ok_slice (i) (j) sl47 ty3 h_l rfl ⟨_, _, rfl, by omega⟩ ⟨_, _, rfl, by omega⟩ ⟨by omega, by omega⟩) ?_
  refine W.app (e := eInt) sl47 ty3 zr3 rfl by3 rfl rfl (ho82) (hs83) (List.Perm.refl _) (by show (0 + ((l.take j).drop i).length) * 8 ≤ _; simp; omega) (fun v84 Ms85 ho86 => ?_)
  refine W.as ?_
  refine W.nil (thn_n ?_)
  refine WC.ret ?_
  refine ⟨.inr rfl, [_], ⟨rfl, trivial⟩, Ms85, List.sublist_append_left _ _, ?_⟩
  exact ho86

end Go.Proofs.Ytipdjeemjiimbaa
