/- Walks of pivots and children with one more, or one fewer. -/
import Derived.Test.YtebkfinhhpelbaaGreatQzWd
set_option maxRecDepth 100000
set_option maxHeartbeats 1600000
set_option linter.unusedVariables false
set_option linter.unusedSimpArgs false
set_option linter.unnecessarySimpa false
namespace Go.Proofs.YtebkfinhhpelbaaGreat
open Go Go.Fw Go.RowKit
theorem inss_fc {G : GH} {v_s : Value} {s : List Str} {Ms_s : MH} (h_s : OwnR eStr 9 G v_s s Ms_s) (i : Nat) {v_u : Value} {u : List Str} {Ms_u : MH} (h_u : OwnR eStr 9 G v_u u Ms_u) (hi : i ≤ s.length) (hu : 0 < u.length) (hw : (s.length + u.length) * 16 ≤ 140737488355328) :
    Fc Tryz.prog 201 [v_s, .int .i64 ((i : Nat) : Int), v_u] G (Ms_s ++ Ms_u) (fun v G' M' => OwnR eStr 9 G' v ((s.take i ++ u) ++ s.drop i) M') := by
 have hs := h_s.len47
 have hul := h_u.len47
 have hcs := h_s.cap_le
 refine Fc.intro (rs := [.tmp 6]) cl201 Tryz.func201 rfl Tryz.ntmps201 rfl rfl (fun w0 => ?_)
 refine WC.perm (M' := (Ms_s ++ (Ms_u ++ []))) (by simp) (WC.seq (WC.region (W.as (W.nil (thn_n (WC.seq (WC.region (W.mv (W.mv (W.ok (ok_sliceO (i) (s.length) sl43 ty9 h_s rfl ⟨_, _, rfl, by omega⟩ rfl ⟨by omega, .inl (by omega)⟩) (W.nil (thn_n (WC.seq (WC.region (W.mv ?_)))))))))))))))
 refine W.ok (ok_lenO sl43 h_u rfl) (W.as (W.nil (thn_n (WC.seq (WC.seq (WC.region (W.mv (W.ok (ok_eql rfl rfl) (W.nil (thn_n ?_))))))))))
 refine WC.cond (b := _) rfl (fun h16 => ?_) (fun h16 => ?_)
 ·have p16 := of_decide_eq_true h16
  exact absurd p16 (by omega)
 have p16 := of_decide_eq_false h16
 refine WC.skip (thn_n (WC.seq (WC.region (W.mv (W.ok (ok_lenO sl43 h_s rfl) (W.as (W.nil (thn_n (WC.seq (WC.seq (WC.region (W.mv (W.mv (W.ok (ok_eql rfl rfl) (W.nil (thn_n ?_))))))))))))))))
 refine WC.cond (b := _) rfl (fun h22 => ?_) (fun h22 => ?_)
 ·have p22 := of_decide_eq_true h22
  refine WC.seq (WC.region (W.mv (W.mv (W.giveO h_u (pmA pr9) (fun G1 hG1 hv1 => ?_)))))
  have q3 := hv1.form
  refine match q3 with | ⟨_, _, e_2⟩ => ?_
  subst e_2
  refine W.app (e := eStr) sl43 ty9 zr9 rfl by9 rfl rfl ((h_s.mono hG1)) (hv1) pr9 (hw) (fun v4 Ms5 ho6 => (W.as (W.nil (thn_n (WC.ret (thn_r ?_))))))
  refine ⟨.inr rfl, [_], ⟨rfl, trivial⟩, Ms5, List.sublist_append_left _ _, ?_⟩
  have h := ho6
  rw [show (s.take i ++ u) ++ s.drop i = s ++ u from by rw [List.take_of_length_le (by omega), List.drop_eq_nil_of_le (by omega), List.append_nil]]
  exact h
 have p22 := of_decide_eq_false h22
 refine WC.skip (thn_n (WC.seq (WC.seq (WC.region (W.mv (W.mv (W.ok (Ok.int (n := ((s.length + u.length : Nat) : Int)) (ok_add rfl rfl (by omega)) (by omega)) (W.mv ?_))))))))
 have q7 := h_s.capForm
 refine match q7 with | ⟨ac30, hcf30⟩ => ?_
 refine W.ok (ok_capO (c := capV v_s) sl43 hcf30) (W.ok (ok_gtr rfl rfl) (W.nil (thn_n ?_)))
 refine WC.cond (b := _) rfl (fun h31 => ?_) (fun h31 => ?_)
 ·have p31 := of_decide_eq_true h31
  refine WC.seq (WC.region (W.mv (W.mv (W.ok (ok_sliceO (0) (i) sl43 ty9 h_s rfl rfl ⟨_, _, rfl, by omega⟩ ⟨by omega, .inl (by omega)⟩) (W.mv (W.mv (W.ok (Ok.int (n := ((s.length + u.length : Nat) : Int)) (ok_add rfl rfl (by omega)) (by omega)) (W.mv (W.ok (Ok.int (n := ((s.length + u.length - i : Nat) : Int)) (ok_sub rfl rfl (by omega)) (by omega)) (W.appZ (e := eStr) (i := i) (c := s.length + u.length - i) sl43 ty9 zr9 rfl by9 Tryz.underlying3 h_s pr9 rfl rfl (by omega) (by omega) (by omega) (by omega) (by rw [show i + (s.length + u.length - i) = s.length + u.length from by omega]; exact hw) rfl (fun v40 Ms40 hp40 => (W.as (W.nil (thn_n (WC.seq ?_)))))))))))))))
  refine WC.region (W.mv (W.mv (W.ok (ok_sliceP (i) (i + (s.length + u.length - i)) sl43 ty9 hp40 rfl ⟨_, _, rfl, by omega⟩ rfl ⟨by omega, by have := OwnP.cap_le hp40; omega⟩) (W.mv (W.copyP (i) (by simp; omega) sl43 ty9 hp40 pr9 (Src.ofOwn0 h_u (pmA (pmA pr9)) (by omega)) rfl rfl (by omega) (by omega) (fun z45 Ms45 hp45 => (W.nil (thn_n (WC.seq (WC.drawW _ sn9 mix (by rintro _ _ _ _ ⟨h | h, _⟩ <;> cases h) (WD.tk 0 rfl (ok_mv) (WD.tk 1 rfl (ok_mv) (WD.tk 2 rfl (ok_mv) (WD.tk 3 rfl (Ok.int (n := ((i + u.length : Nat) : Int)) (ok_add rfl rfl (by omega)) (by omega)) (WD.tk 4 rfl (ok_sliceP (i + u.length) (i + (s.length + u.length - i)) sl43 ty9 hp45 rfl ⟨_, _, rfl, by omega⟩ rfl ⟨by omega, by have := OwnP.cap_le hp45; omega⟩) ?_)))))))))))))))
  refine WD.tk 5 rfl (ok_mv) (WD.tk 6 rfl (ok_mv) (WD.tk 7 rfl (ok_sliceO (i) (s.length) sl43 ty9 h_s rfl ⟨_, _, rfl, by omega⟩ rfl ⟨by omega, .inl (by omega)⟩) (WD.a1 8 rfl (W.copyP (i + u.length) (by simp; omega) sl43 ty9 hp45 pr9 (Src.ofOwn (lo := i) h_s (pmA pr9) (by omega) (by omega)) rfl rfl (by simp; omega) (by omega) (fun z54 Ms54 hp54 => (W.nil (WD.n9 Le.rfl sn9 (WD.done (by kernel_rfl) (thn_n (WC.seq (WC.region (W.mv (W.as (W.nil (thn_n (WC.ret (thn_r ?_)))))))))))))))))
  refine ⟨.inr rfl, [_], ⟨rfl, trivial⟩, Ms54, List.sublist_append_left _ _, ?_⟩
  have h := (hp54.own' (by simp; omega))
  rw [List.append_nil] at h
  exact h
 have p31 := of_decide_eq_false h31
 refine WC.skip (thn_n (WC.seq (WC.region (W.mv (W.mv (W.mv (W.ok (Ok.int (n := ((s.length + u.length : Nat) : Int)) (ok_add rfl rfl (by omega)) (by omega)) (W.ok (ok_sliceO 0 (s.length + u.length) sl43 ty9 h_s rfl rfl ⟨_, _, rfl, by omega⟩ ⟨by omega, .inr (by omega)⟩) ?_))))))))
 have hp60 := OwnP.extend (m := u.length) (OwnR.open h_s (by omega)) (by omega) hw (by omega)
 refine W.as (W.nil (thn_n (WC.seq (WC.seq (WC.region (W.mv (W.mv (W.mv (W.mv (W.ok (Ok.int (n := ((i + u.length : Nat) : Int)) (ok_add rfl rfl (by omega)) (by omega)) (W.ok (ok_sliceP (i + u.length) (s.length + u.length) sl43 ty9 hp60 rfl ⟨_, _, rfl, by omega⟩ rfl ⟨by omega, by have := OwnP.cap_le hp60; omega⟩) ?_)))))))))))
 have hc67 := OwnP.cap_le hp60
 refine W.ok (ok_overlaps (fn := Tryz.f220) (tR := 4) (lo := i + u.length) (hi := s.length + u.length) Tryz.func220 (by kernel_rfl) (by kernel_rfl) (by kernel_rfl) (by kernel_rfl) sl43 ty9 h_u hp60 ((List.Perm.append_left _ pr9).trans (pmA pr9)) (by omega) (by omega) rfl rfl rfl) (W.ok (ok_not rfl) (W.nil (thn_n (WC.cond_t rfl rfl (WC.seq (WC.drawW _ sn9 mix (by rintro _ _ _ _ ⟨h | h, _⟩ <;> cases h) (WD.tk 0 rfl (ok_mv) (WD.tk 1 rfl (ok_mv) (WD.tk 2 rfl (ok_mv) (WD.tk 3 rfl (Ok.int (n := ((i + u.length : Nat) : Int)) (ok_add rfl rfl (by omega)) (by omega)) (WD.tk 4 rfl (ok_sliceP (i + u.length) (s.length + u.length) sl43 ty9 hp60 rfl ⟨_, _, rfl, by omega⟩ rfl ⟨by omega, by have := OwnP.cap_le hp60; omega⟩) (WD.tk 5 rfl (ok_mv) (WD.tk 6 rfl (ok_mv) (WD.tk 7 rfl (ok_sliceP (i) (s.length + u.length) sl43 ty9 hp60 rfl ⟨_, _, rfl, by omega⟩ rfl ⟨by omega, by have := OwnP.cap_le hp60; omega⟩) ?_))))))))))))))
 refine WD.a1 8 rfl (W.copyShift (i := i) sl43 ty9 hp60 pr9 rfl rfl (by omega) (fun z77 Ms77 hp77 => (W.nil (WD.n9 Le.rfl sn9 (WD.done (by kernel_rfl) (thn_n (WC.seq (WC.region (W.mv (W.mv (W.ok (ok_sliceP (i) (s.length + u.length) sl43 ty9 hp77 rfl ⟨_, _, rfl, by omega⟩ rfl ⟨by omega, by have := OwnP.cap_le hp77; omega⟩) (W.mv (W.copyP (i) (by simp; omega) sl43 ty9 hp77 pr9 (Src.ofOwn0 h_u (pmA pr9) (by omega)) rfl rfl (by omega) (by omega) (fun z82 Ms82 hp82 => (W.nil (thn_n (WC.seq (WC.region ?_))))))))))))))))))
 refine W.mv (W.as (W.nil (thn_n (WC.ret (thn_r ?_)))))
 refine ⟨.inr rfl, [_], ⟨rfl, trivial⟩, Ms82, List.sublist_append_left _ _, ?_⟩
 exact (hp82.own' (by omega))

theorem insi_fc {G : GH} {v_s : Value} {s : List Int} {Ms_s : MH} (h_s : OwnR eInt 3 G v_s s Ms_s) (i : Nat) {v_u : Value} {u : List Int} {Ms_u : MH} (h_u : OwnR eInt 3 G v_u u Ms_u) (hi : i ≤ s.length) (hu : 0 < u.length) (hw : (s.length + u.length) * 8 ≤ 140737488355328) :
    Fc Tryz.prog 202 [v_s, .int .i64 ((i : Nat) : Int), v_u] G (Ms_s ++ Ms_u) (fun v G' M' => OwnR eInt 3 G' v ((s.take i ++ u) ++ s.drop i) M') := by
 have hs := h_s.len47
 have hul := h_u.len47
 have hcs := h_s.cap_le
 refine Fc.intro (rs := [.tmp 6]) cl202 Tryz.func202 rfl Tryz.ntmps202 rfl rfl (fun w0 => ?_)
 refine WC.perm (M' := (Ms_s ++ (Ms_u ++ []))) (by simp) (WC.seq (WC.region (W.as (W.nil (thn_n (WC.seq (WC.region (W.mv (W.mv (W.ok (ok_sliceO (i) (s.length) sl44 ty3 h_s rfl ⟨_, _, rfl, by omega⟩ rfl ⟨by omega, .inl (by omega)⟩) (W.nil (thn_n (WC.seq (WC.region (W.mv ?_)))))))))))))))
 refine W.ok (ok_lenO sl44 h_u rfl) (W.as (W.nil (thn_n (WC.seq (WC.seq (WC.region (W.mv (W.ok (ok_eql rfl rfl) (W.nil (thn_n ?_))))))))))
 refine WC.cond (b := _) rfl (fun h16 => ?_) (fun h16 => ?_)
 ·have p16 := of_decide_eq_true h16
  exact absurd p16 (by omega)
 have p16 := of_decide_eq_false h16
 refine WC.skip (thn_n (WC.seq (WC.region (W.mv (W.ok (ok_lenO sl44 h_s rfl) (W.as (W.nil (thn_n (WC.seq (WC.seq (WC.region (W.mv (W.mv (W.ok (ok_eql rfl rfl) (W.nil (thn_n ?_))))))))))))))))
 refine WC.cond (b := _) rfl (fun h22 => ?_) (fun h22 => ?_)
 ·have p22 := of_decide_eq_true h22
  refine WC.seq (WC.region (W.mv (W.mv (W.giveO h_u (pmA pr9) (fun G8 hG8 hv8 => ?_)))))
  have q10 := hv8.form
  refine match q10 with | ⟨_, _, e_9⟩ => ?_
  subst e_9
  refine W.app (e := eInt) sl44 ty3 zr3 rfl by3 rfl rfl ((h_s.mono hG8)) (hv8) pr9 (hw) (fun v11 Ms12 ho13 => (W.as (W.nil (thn_n (WC.ret (thn_r ?_))))))
  refine ⟨.inr rfl, [_], ⟨rfl, trivial⟩, Ms12, List.sublist_append_left _ _, ?_⟩
  have h := ho13
  rw [show (s.take i ++ u) ++ s.drop i = s ++ u from by rw [List.take_of_length_le (by omega), List.drop_eq_nil_of_le (by omega), List.append_nil]]
  exact h
 have p22 := of_decide_eq_false h22
 refine WC.skip (thn_n (WC.seq (WC.seq (WC.region (W.mv (W.mv (W.ok (Ok.int (n := ((s.length + u.length : Nat) : Int)) (ok_add rfl rfl (by omega)) (by omega)) (W.mv ?_))))))))
 have q14 := h_s.capForm
 refine match q14 with | ⟨ac30, hcf30⟩ => ?_
 refine W.ok (ok_capO (c := capV v_s) sl44 hcf30) (W.ok (ok_gtr rfl rfl) (W.nil (thn_n ?_)))
 refine WC.cond (b := _) rfl (fun h31 => ?_) (fun h31 => ?_)
 ·have p31 := of_decide_eq_true h31
  refine WC.seq (WC.region (W.mv (W.mv (W.ok (ok_sliceO (0) (i) sl44 ty3 h_s rfl rfl ⟨_, _, rfl, by omega⟩ ⟨by omega, .inl (by omega)⟩) (W.mv (W.mv (W.ok (Ok.int (n := ((s.length + u.length : Nat) : Int)) (ok_add rfl rfl (by omega)) (by omega)) (W.mv (W.ok (Ok.int (n := ((s.length + u.length - i : Nat) : Int)) (ok_sub rfl rfl (by omega)) (by omega)) (W.appZ (e := eInt) (i := i) (c := s.length + u.length - i) sl44 ty3 zr3 rfl by3 Tryz.underlying3 h_s pr9 rfl rfl (by omega) (by omega) (by omega) (by omega) (by rw [show i + (s.length + u.length - i) = s.length + u.length from by omega]; exact hw) rfl (fun v40 Ms40 hp40 => (W.as (W.nil (thn_n (WC.seq ?_)))))))))))))))
  refine WC.region (W.mv (W.mv (W.ok (ok_sliceP (i) (i + (s.length + u.length - i)) sl44 ty3 hp40 rfl ⟨_, _, rfl, by omega⟩ rfl ⟨by omega, by have := OwnP.cap_le hp40; omega⟩) (W.mv (W.copyP (i) (by simp; omega) sl44 ty3 hp40 pr9 (Src.ofOwn0 h_u (pmA (pmA pr9)) (by omega)) rfl rfl (by omega) (by omega) (fun z45 Ms45 hp45 => (W.nil (thn_n (WC.seq (WC.drawW _ sn9 mix (by rintro _ _ _ _ ⟨h | h, _⟩ <;> cases h) (WD.tk 0 rfl (ok_mv) (WD.tk 1 rfl (ok_mv) (WD.tk 2 rfl (ok_mv) (WD.tk 3 rfl (Ok.int (n := ((i + u.length : Nat) : Int)) (ok_add rfl rfl (by omega)) (by omega)) (WD.tk 4 rfl (ok_sliceP (i + u.length) (i + (s.length + u.length - i)) sl44 ty3 hp45 rfl ⟨_, _, rfl, by omega⟩ rfl ⟨by omega, by have := OwnP.cap_le hp45; omega⟩) ?_)))))))))))))))
  refine WD.tk 5 rfl (ok_mv) (WD.tk 6 rfl (ok_mv) (WD.tk 7 rfl (ok_sliceO (i) (s.length) sl44 ty3 h_s rfl ⟨_, _, rfl, by omega⟩ rfl ⟨by omega, .inl (by omega)⟩) (WD.a1 8 rfl (W.copyP (i + u.length) (by simp; omega) sl44 ty3 hp45 pr9 (Src.ofOwn (lo := i) h_s (pmA pr9) (by omega) (by omega)) rfl rfl (by simp; omega) (by omega) (fun z54 Ms54 hp54 => (W.nil (WD.n9 Le.rfl sn9 (WD.done (by kernel_rfl) (thn_n (WC.seq (WC.region (W.mv (W.as (W.nil (thn_n (WC.ret (thn_r ?_)))))))))))))))))
  refine ⟨.inr rfl, [_], ⟨rfl, trivial⟩, Ms54, List.sublist_append_left _ _, ?_⟩
  have h := (hp54.own' (by simp; omega))
  rw [List.append_nil] at h
  exact h
 have p31 := of_decide_eq_false h31
 refine WC.skip (thn_n (WC.seq (WC.region (W.mv (W.mv (W.mv (W.ok (Ok.int (n := ((s.length + u.length : Nat) : Int)) (ok_add rfl rfl (by omega)) (by omega)) (W.ok (ok_sliceO 0 (s.length + u.length) sl44 ty3 h_s rfl rfl ⟨_, _, rfl, by omega⟩ ⟨by omega, .inr (by omega)⟩) ?_))))))))
 have hp60 := OwnP.extend (m := u.length) (OwnR.open h_s (by omega)) (by omega) hw (by omega)
 refine W.as (W.nil (thn_n (WC.seq (WC.seq (WC.region (W.mv (W.mv (W.mv (W.mv (W.ok (Ok.int (n := ((i + u.length : Nat) : Int)) (ok_add rfl rfl (by omega)) (by omega)) (W.ok (ok_sliceP (i + u.length) (s.length + u.length) sl44 ty3 hp60 rfl ⟨_, _, rfl, by omega⟩ rfl ⟨by omega, by have := OwnP.cap_le hp60; omega⟩) ?_)))))))))))
 have hc67 := OwnP.cap_le hp60
 refine W.ok (ok_overlaps (fn := Tryz.f222) (tR := 4) (lo := i + u.length) (hi := s.length + u.length) Tryz.func222 (by kernel_rfl) (by kernel_rfl) (by kernel_rfl) (by kernel_rfl) sl44 ty3 h_u hp60 ((List.Perm.append_left _ pr9).trans (pmA pr9)) (by omega) (by omega) rfl rfl rfl) (W.ok (ok_not rfl) (W.nil (thn_n (WC.cond_t rfl rfl (WC.seq (WC.drawW _ sn9 mix (by rintro _ _ _ _ ⟨h | h, _⟩ <;> cases h) (WD.tk 0 rfl (ok_mv) (WD.tk 1 rfl (ok_mv) (WD.tk 2 rfl (ok_mv) (WD.tk 3 rfl (Ok.int (n := ((i + u.length : Nat) : Int)) (ok_add rfl rfl (by omega)) (by omega)) (WD.tk 4 rfl (ok_sliceP (i + u.length) (s.length + u.length) sl44 ty3 hp60 rfl ⟨_, _, rfl, by omega⟩ rfl ⟨by omega, by have := OwnP.cap_le hp60; omega⟩) (WD.tk 5 rfl (ok_mv) (WD.tk 6 rfl (ok_mv) (WD.tk 7 rfl (ok_sliceP (i) (s.length + u.length) sl44 ty3 hp60 rfl ⟨_, _, rfl, by omega⟩ rfl ⟨by omega, by have := OwnP.cap_le hp60; omega⟩) ?_))))))))))))))
 refine WD.a1 8 rfl (W.copyShift (i := i) sl44 ty3 hp60 pr9 rfl rfl (by omega) (fun z77 Ms77 hp77 => (W.nil (WD.n9 Le.rfl sn9 (WD.done (by kernel_rfl) (thn_n (WC.seq (WC.region (W.mv (W.mv (W.ok (ok_sliceP (i) (s.length + u.length) sl44 ty3 hp77 rfl ⟨_, _, rfl, by omega⟩ rfl ⟨by omega, by have := OwnP.cap_le hp77; omega⟩) (W.mv (W.copyP (i) (by simp; omega) sl44 ty3 hp77 pr9 (Src.ofOwn0 h_u (pmA pr9) (by omega)) rfl rfl (by omega) (by omega) (fun z82 Ms82 hp82 => (W.nil (thn_n (WC.seq (WC.region ?_))))))))))))))))))
 refine W.mv (W.as (W.nil (thn_n (WC.ret (thn_r ?_)))))
 refine ⟨.inr rfl, [_], ⟨rfl, trivial⟩, Ms82, List.sublist_append_left _ _, ?_⟩
 exact (hp82.own' (by omega))

theorem clonesO_fc {G : GH} {v_a : Value} {a : List Str} (h_a : SlR eStr G v_a a) :
    Fc Tryz.prog 171 [v_a] G [] (fun v G' M' => OwnR eStr 9 G' v (a) M') := by
 obtain ⟨sa_a, sc_a, rfl⟩ := h_a.form
 have ha := h_a.bytes
 refine Fc.intro (rs := [.tmp 2]) cl171 Tryz.func171 rfl Tryz.ntmps171 rfl rfl (fun w0 => ?_)
 refine WC.seq (WC.region (W.as (W.nil (thn_n (WC.seq (WC.seq (WC.region (W.mv (W.ok (ok_eqlNil sl43 rfl rfl) (W.nil (thn_n ?_)))))))))))
 refine WC.cond (b := _) rfl (fun h4 => ?_) (fun h4 => ?_)
 ·have hn := SlR.isNone h_a h4
  subst hn
  refine WC.seq (WC.region (W.as (W.nil (thn_n (WC.ret (thn_r ?_))))))
  refine ⟨.inr rfl, [_], ⟨rfl, trivial⟩, [], sn9, ?_⟩
  exact OwnR.nil
 refine WC.skip (thn_n (WC.seq (WC.region (W.lit0 (e := eStr) sl43 ty9 zr9 rfl (fun v15 Ms16 ho17 => (W.mv (W.app (e := eStr) sl43 ty9 zr9 rfl by9 rfl rfl (ho17) (h_a) pr9 (by simpa using ha) (fun v18 Ms19 ho20 => (W.as (W.nil (thn_n (WC.ret ?_))))))))))))
 refine ⟨.inr rfl, [_], ⟨rfl, trivial⟩, Ms19, List.sublist_append_left _ _, ?_⟩
 have h := ho20
 rw [List.nil_append] at h
 exact h

theorem cloneiO_fc {G : GH} {v_a : Value} {a : List Int} (h_a : SlR eInt G v_a a) :
    Fc Tryz.prog 172 [v_a] G [] (fun v G' M' => OwnR eInt 3 G' v (a) M') := by
 obtain ⟨sa_a, sc_a, rfl⟩ := h_a.form
 have ha := h_a.bytes
 refine Fc.intro (rs := [.tmp 2]) cl172 Tryz.func172 rfl Tryz.ntmps172 rfl rfl (fun w0 => ?_)
 refine WC.seq (WC.region (W.as (W.nil (thn_n (WC.seq (WC.seq (WC.region (W.mv (W.ok (ok_eqlNil sl44 rfl rfl) (W.nil (thn_n ?_)))))))))))
 refine WC.cond (b := _) rfl (fun h4 => ?_) (fun h4 => ?_)
 ·have hn := SlR.isNone h_a h4
  subst hn
  refine WC.seq (WC.region (W.as (W.nil (thn_n (WC.ret (thn_r ?_))))))
  refine ⟨.inr rfl, [_], ⟨rfl, trivial⟩, [], sn9, ?_⟩
  exact OwnR.nil
 refine WC.skip (thn_n (WC.seq (WC.region (W.lit0 (e := eInt) sl44 ty3 zr3 rfl (fun v21 Ms22 ho23 => (W.mv (W.app (e := eInt) sl44 ty3 zr3 rfl by3 rfl rfl (ho23) (h_a) pr9 (by simpa using ha) (fun v24 Ms25 ho26 => (W.as (W.nil (thn_n (WC.ret ?_))))))))))))
 refine ⟨.inr rfl, [_], ⟨rfl, trivial⟩, Ms25, List.sublist_append_left _ _, ?_⟩
 have h := ho26
 rw [List.nil_append] at h
 exact h

theorem bins_fc {G : GH} {v_p : Value} {p : List Str} (h_p : SlR eStr G v_p p) {v_c : Value} {c : List Int} (h_c : SlR eInt G v_c c) (i : Nat) (k : Str) (nv : Int) (hb1 : (p.length + 1) * 16 ≤ 140737488355328) (hb2 : (c.length + 1) * 8 ≤ 140737488355328) (hi : i64 ((i : Nat) : Int)) (hv : i64 nv) :
    Fc Tryz.prog 155 [v_p, v_c, .int .i64 ((i : Nat) : Int), .string k.b, .int .i64 nv] G [] (fun v G' M' => M' = [] ∧ ∃ r : List Str × List Int, r = binsN p c i k nv ∧ ∃ u0 u1, v = .tuple #[u0, u1] ∧ SlR eStr G' u0 (r.1) ∧ SlR eInt G' u1 (r.2)) := by
 obtain ⟨sa_p, sc_p, rfl⟩ := h_p.form
 obtain ⟨sa_c, sc_c, rfl⟩ := h_c.form
 have hp := h_p.len47
 have hc := h_c.len47
 have hv1 := hv.1
 have hv2 := hv.2
 refine Fc.intro (rs := [.tmp 10, .tmp 11]) cl155 Tryz.func155 rfl Tryz.ntmps155 rfl rfl (fun w0 => ?_)
 refine WC.seq (WC.region (W.as (W.as (W.nil (thn_n (WC.seq (WC.region (W.mv (W.mv (W.qcall (brange_fc h_p _ (by first | assumption | exact ⟨by omega, by omega⟩)) rfl (W.alloc zr52 (fun b28 => (W.store (i := 0) (vs := [.string _, .string _, .bool _]) (L' := [.string _, .string _, .bool _]) ty52 rfl rfl rfl rfl rfl rfl rfl rfl (W.nil (thn_n (WC.seq ?_))))))))))))))))
 refine WC.seq (WC.region (W.mv (W.ok (ok_lss rfl rfl) (W.mv ?_))))
 refine W.sp 18 rfl (fun h17 => ?_) (fun h17 => ?_)
 ·have p17 := of_decide_eq_true h17
  exfalso; omega
 have p17 := of_decide_eq_false h17
 refine W.yes (dj := 18) rfl rfl h17 (W.mv (W.yes (dj := 18) rfl rfl h17 (W.mv (W.yes (dj := 18) rfl rfl h17 (W.ok (ok_len sl44 h_c rfl) (W.yes (dj := 18) rfl rfl h17 (W.ok (ok_geq rfl rfl) (W.ok (ok_pick_f rfl h17) (W.mv ?_)))))))))
 refine W.sp 24 rfl (fun h22 => ?_) (fun h22 => ?_)
 ·have p22 := of_decide_eq_true h22
  refine W.no (dj := 24) rfl rfl h22 (W.no (dj := 24) rfl rfl h22 (W.no (dj := 24) rfl rfl h22 (W.no (dj := 24) rfl rfl h22 (W.ok (ok_pick_t rfl h22) (W.mv (W.no (dj := 30) rfl rfl rfl (W.no (dj := 30) rfl rfl rfl (W.no (dj := 30) rfl rfl rfl (W.no (dj := 30) rfl rfl rfl (W.ok (ok_pick_t rfl rfl) (W.nil (thn_n (WC.cond_t rfl rfl (WC.seq ?_))))))))))))))
  refine WC.region (W.as (W.as (W.nil (thn_n (WC.ret (thn_r ?_))))))
  refine ⟨.inr rfl, [_, _], ⟨rfl, rfl, trivial⟩, [], sn9, ?_⟩
  refine ⟨rfl, _, (binsN_0 (.inl (by omega))).symm, _, _, rfl, ?_, ?_⟩
  · exact SlR.nil
  exact SlR.nil
 have p22 := of_decide_eq_false h22
 refine W.yes (dj := 24) rfl rfl h22 (W.ok (ok_loadB (i := 0) (vs := [.string _, .string _, .bool _]) ty52 rfl rfl rfl rfl (by simp)) (W.yes (dj := 24) rfl rfl h22 (W.mv (W.yes (dj := 24) rfl rfl h22 (W.qcall (spanhas_fc _ _ _ _) rfl (W.yes (dj := 24) rfl rfl h22 (W.ok (ok_not rfl) (W.ok (ok_pick_f rfl h22) (W.mv ?_)))))))))
 refine W.sp 30 rfl (fun h28 => ?_) (fun h28 => ?_)
 ·refine W.no (dj := 30) rfl rfl h28 (W.no (dj := 30) rfl rfl h28 (W.no (dj := 30) rfl rfl h28 (W.no (dj := 30) rfl rfl h28 (W.ok (ok_pick_t rfl h28) (W.nil (thn_n (WC.cond_t rfl rfl (WC.seq (WC.region (W.as (W.as (W.nil (thn_n (WC.ret (thn_r ?_)))))))))))))))
  refine ⟨.inr rfl, [_, _], ⟨rfl, rfl, trivial⟩, [], sn9, ?_⟩
  refine ⟨rfl, _, (binsN_0 (.inr (.inl (by simpa using h28)))).symm, _, _, rfl, ?_, ?_⟩
  · exact SlR.nil
  exact SlR.nil
 refine W.yes (dj := 30) rfl rfl h28 (W.mv (W.yes (dj := 30) rfl rfl h28 (W.ok (ok_fieldB fd52_0 rfl) (W.yes (dj := 30) rfl rfl h28 (W.ok (ok_loadB (i := 0) (vs := [.string _]) ty9 rfl rfl rfl rfl (by simp)) (W.yes (dj := 30) rfl rfl h28 (W.ok (ok_eqlS rfl rfl) (W.ok (ok_pick_f rfl h28) (W.nil (thn_n ?_))))))))))
 refine WC.cond (b := _) rfl (fun h34 => ?_) (fun h34 => ?_)
 ·have p34 := of_decide_eq_true h34
  refine WC.seq (WC.region (W.as (W.as (W.nil (thn_n (WC.ret (thn_r ?_)))))))
  refine ⟨.inr rfl, [_, _], ⟨rfl, rfl, trivial⟩, [], sn9, ?_⟩
  refine ⟨rfl, _, (binsN_0 (.inr (.inr (Str.ext' p34)))).symm, _, _, rfl, ?_, ?_⟩
  · exact SlR.nil
  exact SlR.nil
 have p34 := of_decide_eq_false h34
 have hin := range_in (p := p) (i := i) (k := k) (by simpa using h28)
 have hb := binsN_1 (p := p) (c := c) (i := i) (k := k) (v := nv) (by omega) (by simpa using h28) (fun e => p34 (congrArg Str.b e))
 refine WC.skip (thn_n (WC.seq (WC.region (W.mv (W.call (Mp := []) (clonesO_fc h_p) rfl pr9 ?_)))))
 rintro v30 G29 Ms31 hG29 ho32
 refine W.perm (pmC pr9).symm (W.mv (W.mv (W.litO (e := eStr) (l := [_]) (css := [[.string _]]) sl43 ty9 zr9 rfl rfl rfl rfl rfl rfl ⟨rfl, trivial⟩ (fun v33 Ms34 ho35 => (W.perm (pmC pr9).symm (W.call (Mp := Ms31 ++ Ms34) (inss_fc ho32 _ ho35 (by first | assumption | omega) (by first | assumption | omega | simp) (by first | assumption | omega | (simp; omega))) rfl ((List.Perm.of_eq (List.append_assoc _ _ _)).trans ((List.Perm.append_left _ (pmC pr9)).trans (pmC (pmA pr9)))) ?_))))))
 rintro v37 G36 Ms38 hG36 ho39
 refine W.perm (pmC pr9).symm (W.mv (W.call (Mp := []) (cloneiO_fc (h_c.mono (hG29.trans hG36))) rfl pr9 ?_))
 rintro v41 G40 Ms42 hG40 ho43
 refine W.perm (pmC pr9).symm (W.mv (W.ok (Ok.int (n := ((i + 1 : Nat) : Int)) (ok_add rfl rfl (by omega)) (by omega)) (W.mv (W.litO (e := eInt) (l := [_]) (css := [[.int .i64 _]]) sl44 ty3 zr3 rfl rfl rfl rfl rfl rfl ⟨⟨rfl, by omega, by omega⟩, trivial⟩ (fun v44 Ms45 ho46 => (W.perm (pmC pr9).symm (W.call (Mp := Ms42 ++ Ms45) (insi_fc ho43 _ ho46 (by first | assumption | omega) (by first | assumption | omega | simp) (by first | assumption | omega | (simp; omega))) rfl ((List.Perm.of_eq (List.append_assoc _ _ _)).trans ((List.Perm.append_left _ (pmC pr9)).trans (pmC (pmA pr9)))) ?_)))))))
 rintro v48 G47 Ms49 hG47 ho50
 refine W.perm (pmC pr9).symm (W.as (W.as (W.nil (thn_n (WC.giveO (ho39.mono (hG40.trans hG47)) (pmC (pmA pr9)) (fun G51 hG51 hv51 => (WC.giveO (ho50.mono hG51) (pmC pr9) (fun G52 hG52 hv52 => (WC.ret ?_)))))))))
 refine ⟨.inr rfl, [_, _], ⟨rfl, rfl, trivial⟩, [], sn9, ?_⟩
 refine ⟨rfl, _, hb.symm, _, _, rfl, ?_, ?_⟩
 · exact (hv51.mono hG52)
 exact hv52

theorem cutO_fc {G : GH} {v_l : Value} {l : List Str} (h_l : SlR eStr G v_l l) (i : Nat) (j : Nat) (hij : i ≤ j ∧ j ≤ l.length) :
    Fc Tryz.prog 157 [v_l, .int .i64 ((i : Nat) : Int), .int .i64 ((j : Nat) : Int)] G [] (fun v G' M' => OwnR eStr 9 G' v ((l.take j).drop i) M') := by
 obtain ⟨sa_l, sc_l, rfl⟩ := h_l.form
 have hl := h_l.len47
 have hlb : l.length * 16 ≤ 140737488355328 := h_l.bytes
 obtain ⟨hi, hj⟩ := hij
 refine Fc.intro (rs := [.tmp 6]) cl157 Tryz.func157 rfl Tryz.ntmps157 rfl rfl (fun w0 => ?_)
 refine WC.seq (WC.region (W.as (W.nil (thn_n (WC.seq (WC.region (W.lit0 (e := eStr) sl43 ty9 zr9 rfl (fun v53 Ms54 ho55 => (W.mv (W.mv (W.mv ?_)))))))))))
 have hs56 := SlR.slice h_l (lo := i) (hi := j) (by omega) (by omega)
 refine W.ok (ok_slice (i) (j) sl43 ty9 h_l rfl ⟨_, _, rfl, by omega⟩ ⟨_, _, rfl, by omega⟩ ⟨by omega, by omega⟩) (W.app (e := eStr) sl43 ty9 zr9 rfl by9 rfl rfl (ho55) (hs56) pr9 (by show (0 + ((l.take j).drop i).length) * 16 ≤ _; simp; omega) (fun v57 Ms58 ho59 => (W.as (W.nil (thn_n (WC.ret ?_))))))
 refine ⟨.inr rfl, [_], ⟨rfl, trivial⟩, Ms58, List.sublist_append_left _ _, ?_⟩
 exact ho59

theorem partO_fc {G : GH} {v_l : Value} {l : List Int} (h_l : SlR eInt G v_l l) (i : Nat) (j : Nat) (hij : i ≤ j ∧ j ≤ l.length) :
    Fc Tryz.prog 158 [v_l, .int .i64 ((i : Nat) : Int), .int .i64 ((j : Nat) : Int)] G [] (fun v G' M' => OwnR eInt 3 G' v ((l.take j).drop i) M') := by
 obtain ⟨sa_l, sc_l, rfl⟩ := h_l.form
 have hl := h_l.len47
 have hlb : l.length * 8 ≤ 140737488355328 := h_l.bytes
 obtain ⟨hi, hj⟩ := hij
 refine Fc.intro (rs := [.tmp 6]) cl158 Tryz.func158 rfl Tryz.ntmps158 rfl rfl (fun w0 => ?_)
 refine WC.seq (WC.region (W.as (W.nil (thn_n (WC.seq (WC.region (W.lit0 (e := eInt) sl44 ty3 zr3 rfl (fun v60 Ms61 ho62 => (W.mv (W.mv (W.mv ?_)))))))))))
 have hs63 := SlR.slice h_l (lo := i) (hi := j) (by omega) (by omega)
 refine W.ok (ok_slice (i) (j) sl44 ty3 h_l rfl ⟨_, _, rfl, by omega⟩ ⟨_, _, rfl, by omega⟩ ⟨by omega, by omega⟩) (W.app (e := eInt) sl44 ty3 zr3 rfl by3 rfl rfl (ho62) (hs63) pr9 (by show (0 + ((l.take j).drop i).length) * 8 ≤ _; simp; omega) (fun v64 Ms65 ho66 => (W.as (W.nil (thn_n (WC.ret ?_))))))
 refine ⟨.inr rfl, [_], ⟨rfl, trivial⟩, Ms65, List.sublist_append_left _ _, ?_⟩
 exact ho66

end Go.Proofs.YtebkfinhhpelbaaGreat

namespace Go.Fw
def adoptN (n : Nd) (i : Nat) (k : Str) (v : Int) : Nd × Bool :=
 if n.level = 0 ∨ (binsN n.pivots n.kids i k v).2.length = 0 then (Nd.zero, false)
 else ({ n with pivots := (binsN n.pivots n.kids i k v).1, kids := (binsN n.pivots n.kids i k v).2 }, true)
theorem adoptN_0 {n : Nd} {i : Nat} {k : Str} {v : Int} (h : n.level = 0 ∨ (binsN n.pivots n.kids i k v).2.length = 0) : adoptN n i k v = (Nd.zero, false) := if_pos h
theorem adoptN_2 {n : Nd} {i : Nat} {k : Str} {v : Int} (h1 : ¬ n.level = 0) (h2 : ¬ (binsN n.pivots n.kids i k v).2.length = 0) : adoptN n i k v = ({ n with pivots := (binsN n.pivots n.kids i k v).1, kids := (binsN n.pivots n.kids i k v).2 }, true) := if_neg (by rintro (h | h); exact h1 h; exact h2 h)
theorem bins_0 {p : List Str} {c : List Int} {i : Nat} {k : Str} {v : Int} (h : c.length ≤ i ∨ (rangeN p (i : Int)).has k = false ∨ k = (rangeN p (i : Int)).lo) : (binsN p c i k v).2.length = 0 := by rw [binsN_0 h]; rfl
theorem has_out {p : List Str} {i : Nat} {k : Str} (h : p.length < i) : (rangeN p (i : Int)).has k = false := by
 cases h2 : (rangeN p (i : Int)).has k
 ·rfl
 ·have := range_in h2; omega
theorem adoptN_1 {n : Nd} {i : Nat} {k : Str} {v : Int} (h1 : ¬ n.level = 0) (h2 : ¬ n.kids.length ≤ i) (h3 : (rangeN n.pivots (i : Int)).has k = true) (h4 : ¬ k = (rangeN n.pivots (i : Int)).lo) :
  adoptN n i k v = ({ n with pivots := (n.pivots.take i ++ [k]) ++ n.pivots.drop i, kids := (n.kids.take (i + 1) ++ [v]) ++ n.kids.drop (i + 1) }, true) := by
 have e := binsN_1 (v := v) h2 h3 h4
 rw [adoptN_2 h1 (by rw [e]; simp), e]
end Go.Fw
