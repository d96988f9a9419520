/- Walks of slices.Insert and slices.Delete at rows. -/
import Derived.Test.YtebkfinhhpelbaaGreatQxW7
import Derived.Test.YtebkfinhhpelbaaGreatQxMh
import Derived.Test.YtebkfinhhpelbaaGreatQxWa
import Derived.Test.YtebkfinhhpelbaaGreatQxW2
namespace Go.Proofs.YtebkfinhhpelbaaGreat
open Go Go.Fw Go.RowKit
set_option maxRecDepth 100000
set_option maxHeartbeats 1600000
set_option linter.unusedVariables false
set_option linter.unusedSimpArgs false
set_option linter.unnecessarySimpa false
theorem insp_fc {G : GH} {v_s : Value} {s : List Pair} {Ms_s : MH} (h_s : OwnR ePair 69 G v_s s Ms_s) (i : Nat) {v_u : Value} {u : List Pair} {Ms_u : MH} (h_u : OwnR ePair 69 G v_u u Ms_u) (hi : i ≤ s.length) (hu : 0 < u.length) (hw : (s.length + u.length) * 32 ≤ 140737488355328) :
    Fc Tryz.prog 227 [v_s, .int .i64 ((i : Nat) : Int), v_u] G (Ms_s ++ Ms_u) (fun v G' M' => OwnR ePair 69 G' v ((s.take i ++ u) ++ s.drop i) M') := by
 have hs := h_s.len47
 have hul := h_u.len47
 have hcs := h_s.cap_le
 refine Fc.intro (rs := [.tmp 6]) cl227 Tryz.func227 rfl Tryz.ntmps227 rfl rfl (fun w0 => ?_)
 refine WC.perm (M' := (Ms_s ++ (Ms_u ++ []))) (by simp) (WC.seq (WC.region (W.as (W.nil (thn_n (WC.seq (WC.region (W.mv ?_))))))))
 refine W.mv (W.ok (ok_sliceO (i) (s.length) sl41 ty69 h_s rfl ⟨_, _, rfl, by omega⟩ rfl ⟨by omega, .inl (by omega)⟩) (W.nil (thn_n (WC.seq (WC.region (W.mv (W.ok (ok_lenO sl41 h_u rfl) (W.as ?_))))))))
 refine W.nil (thn_n (WC.seq (WC.seq (WC.region (W.mv (W.ok (ok_eql rfl rfl) (W.nil (thn_n ?_))))))))
 refine WC.cond (b := _) rfl (fun h16 => ?_) (fun h16 => ?_)
 ·have p16 := of_decide_eq_true h16
  exact absurd p16 (by omega)
 ·have p16 := of_decide_eq_false h16
  refine WC.skip (thn_n (WC.seq (WC.region (W.mv (W.ok (ok_lenO sl41 h_s rfl) (W.as (W.nil (thn_n (WC.seq ?_)))))))))
  refine WC.seq (WC.region (W.mv (W.mv (W.ok (ok_eql rfl rfl) (W.nil (thn_n ?_))))))
  refine WC.cond (b := _) rfl (fun h22 => ?_) (fun h22 => ?_)
  ·have p22 := of_decide_eq_true h22
   refine WC.seq (WC.region (W.mv (W.mv (W.giveO h_u (pmA (List.Perm.refl _)) (fun G1 hG1 hv1 => ?_)))))
   have q3 := hv1.form
   refine match q3 with | ⟨_, _, e_2⟩ => ?_
   subst e_2
   refine W.app (e := ePair) sl41 ty69 zr69 rfl by69 rfl rfl ((h_s.mono hG1)) (hv1) (List.Perm.refl _) (hw) (fun v4 Ms5 ho6 => (W.as (W.nil (thn_n (WC.ret (thn_r ?_))))))
   refine ⟨.inr rfl, [_], ⟨rfl, trivial⟩, Ms5, List.sublist_append_left _ _, ?_⟩
   have h := ho6
   rw [show (s.take i ++ u) ++ s.drop i = s ++ u from by rw [List.take_of_length_le (by omega), List.drop_eq_nil_of_le (by omega), List.append_nil]]
   exact h
  ·have p22 := of_decide_eq_false h22
   refine WC.skip (thn_n (WC.seq (WC.seq (WC.region (W.mv (W.mv (W.ok (Ok.int (n := ((s.length + u.length : Nat) : Int)) (ok_add rfl rfl (by omega)) (by omega)) (W.mv ?_))))))))
   have q7 := h_s.capForm
   refine match q7 with | ⟨ac30, hcf30⟩ => ?_
   refine W.ok (ok_capO (c := capV v_s) sl41 hcf30) (W.ok (ok_gtr rfl rfl) (W.nil (thn_n ?_)))
   refine WC.cond (b := _) rfl (fun h31 => ?_) (fun h31 => ?_)
   ·have p31 := of_decide_eq_true h31
    refine WC.seq (WC.region (W.mv (W.mv (W.ok (ok_sliceO (0) (i) sl41 ty69 h_s rfl rfl ⟨_, _, rfl, by omega⟩ ⟨by omega, .inl (by omega)⟩) (W.mv (W.mv (W.ok (Ok.int (n := ((s.length + u.length : Nat) : Int)) (ok_add rfl rfl (by omega)) (by omega)) ?_)))))))
    refine W.mv (W.ok (Ok.int (n := ((s.length + u.length - i : Nat) : Int)) (ok_sub rfl rfl (by omega)) (by omega)) (W.appZ (e := ePair) (i := i) (c := s.length + u.length - i) sl41 ty69 zr69 rfl by69 Tryz.underlying3 h_s (List.Perm.refl _) rfl rfl (by omega) (by omega) (by omega) (by omega) (by rw [show i + (s.length + u.length - i) = s.length + u.length from by omega]; exact hw) rfl (fun v40 Ms40 hp40 => (W.as (W.nil (thn_n (WC.seq (WC.region (W.mv ?_)))))))))
    refine W.mv (W.ok (ok_sliceP (i) (i + (s.length + u.length - i)) sl41 ty69 hp40 rfl ⟨_, _, rfl, by omega⟩ rfl ⟨by omega, by have := OwnP.cap_le hp40; omega⟩) (W.mv (W.copyP (i) (by simp; omega) sl41 ty69 hp40 (List.Perm.refl _) (Src.ofOwn0 h_u (pmA (pmA (List.Perm.refl _))) (by omega)) rfl rfl (by omega) (by omega) (fun z45 Ms45 hp45 => (W.nil (thn_n (WC.seq (WC.drawW _ (List.nil_sublist _) mix (by rintro _ _ _ _ ⟨h | h, _⟩ <;> cases h) (WD.take 0 rfl rfl rfl (by kernel_rfl) (by kernel_rfl) (by kernel_rfl) (ok_mv) ?_)))))))))
    refine WD.take 1 rfl rfl rfl (by kernel_rfl) (by kernel_rfl) (by kernel_rfl) (ok_mv) (WD.take 2 rfl rfl rfl (by kernel_rfl) (by kernel_rfl) (by kernel_rfl) (ok_mv) (WD.take 3 rfl rfl rfl (by kernel_rfl) (by kernel_rfl) (by kernel_rfl) (Ok.int (n := ((i + u.length : Nat) : Int)) (ok_add rfl rfl (by omega)) (by omega)) (WD.take 4 rfl rfl rfl (by kernel_rfl) (by kernel_rfl) (by kernel_rfl) (ok_sliceP (i + u.length) (i + (s.length + u.length - i)) sl41 ty69 hp45 rfl ⟨_, _, rfl, by omega⟩ rfl ⟨by omega, by have := OwnP.cap_le hp45; omega⟩) (WD.take 5 rfl rfl rfl (by kernel_rfl) (by kernel_rfl) (by kernel_rfl) (ok_mv) (WD.take 6 rfl rfl rfl (by kernel_rfl) (by kernel_rfl) (by kernel_rfl) (ok_mv) (WD.take 7 rfl rfl rfl (by kernel_rfl) (by kernel_rfl) (by kernel_rfl) (ok_sliceO (i) (s.length) sl41 ty69 h_s rfl ⟨_, _, rfl, by omega⟩ rfl ⟨by omega, .inl (by omega)⟩) (WD.any [8] (by kernel_rfl) rfl ⟨⟨_, rfl, rfl, ?_⟩, trivial⟩)))))))
    refine W.copyP (i + u.length) (by simp; omega) sl41 ty69 hp45 (List.Perm.refl _) (Src.ofOwn (lo := i) h_s (pmA (List.Perm.refl _)) (by omega) (by omega)) rfl rfl (by simp; omega) (by omega) (fun z54 Ms54 hp54 => (W.nil ⟨Le.rfl, List.nil_sublist _, _, List.nil_sublist _, List.Sublist.refl _, (WD.done (by kernel_rfl) (thn_n (WC.seq (WC.region (W.mv (W.as (W.nil (thn_n ?_))))))))⟩))
    refine WC.ret (thn_r ?_)
    refine ⟨.inr rfl, [_], ⟨rfl, trivial⟩, Ms54, List.sublist_append_left _ _, ?_⟩
    have h := (hp54.own' (by simp; omega))
    rw [List.append_nil] at h
    exact h
   ·have p31 := of_decide_eq_false h31
    refine WC.skip (thn_n (WC.seq (WC.region (W.mv (W.mv (W.mv (W.ok (Ok.int (n := ((s.length + u.length : Nat) : Int)) (ok_add rfl rfl (by omega)) (by omega)) (W.ok (ok_sliceO 0 (s.length + u.length) sl41 ty69 h_s rfl rfl ⟨_, _, rfl, by omega⟩ ⟨by omega, .inr (by omega)⟩) ?_))))))))
    have hp60 := OwnP.extend (m := u.length) (OwnR.open h_s (by omega)) (by omega) hw (by omega)
    refine W.as (W.nil (thn_n (WC.seq (WC.seq (WC.region (W.mv (W.mv (W.mv ?_))))))))
    refine W.mv (W.ok (Ok.int (n := ((i + u.length : Nat) : Int)) (ok_add rfl rfl (by omega)) (by omega)) (W.ok (ok_sliceP (i + u.length) (s.length + u.length) sl41 ty69 hp60 rfl ⟨_, _, rfl, by omega⟩ rfl ⟨by omega, by have := OwnP.cap_le hp60; omega⟩) ?_))
    have hc67 := OwnP.cap_le hp60
    refine W.ok (ok_overlaps (fn := Tryz.f234) (tR := 4) (lo := i + u.length) (hi := s.length + u.length) Tryz.func234 (by kernel_rfl) (by kernel_rfl) (by kernel_rfl) (by kernel_rfl) sl41 ty69 h_u hp60 ((List.Perm.append_left _ (List.Perm.refl _)).trans (pmA (List.Perm.refl _))) (by omega) (by omega) rfl rfl rfl) (W.ok (ok_not rfl) (W.nil (thn_n (WC.cond_t rfl rfl (WC.seq (WC.drawW _ (List.nil_sublist _) mix (by rintro _ _ _ _ ⟨h | h, _⟩ <;> cases h) (WD.take 0 rfl rfl rfl (by kernel_rfl) (by kernel_rfl) (by kernel_rfl) (ok_mv) (WD.take 1 rfl rfl rfl (by kernel_rfl) (by kernel_rfl) (by kernel_rfl) (ok_mv) ?_))))))))
    refine WD.take 2 rfl rfl rfl (by kernel_rfl) (by kernel_rfl) (by kernel_rfl) (ok_mv) (WD.take 3 rfl rfl rfl (by kernel_rfl) (by kernel_rfl) (by kernel_rfl) (Ok.int (n := ((i + u.length : Nat) : Int)) (ok_add rfl rfl (by omega)) (by omega)) (WD.take 4 rfl rfl rfl (by kernel_rfl) (by kernel_rfl) (by kernel_rfl) (ok_sliceP (i + u.length) (s.length + u.length) sl41 ty69 hp60 rfl ⟨_, _, rfl, by omega⟩ rfl ⟨by omega, by have := OwnP.cap_le hp60; omega⟩) (WD.take 5 rfl rfl rfl (by kernel_rfl) (by kernel_rfl) (by kernel_rfl) (ok_mv) (WD.take 6 rfl rfl rfl (by kernel_rfl) (by kernel_rfl) (by kernel_rfl) (ok_mv) (WD.take 7 rfl rfl rfl (by kernel_rfl) (by kernel_rfl) (by kernel_rfl) (ok_sliceP (i) (s.length + u.length) sl41 ty69 hp60 rfl ⟨_, _, rfl, by omega⟩ rfl ⟨by omega, by have := OwnP.cap_le hp60; omega⟩) (WD.any [8] (by kernel_rfl) rfl ⟨⟨_, rfl, rfl, (W.copyShift (i := i) sl41 ty69 hp60 (List.Perm.refl _) rfl rfl (by omega) (fun z77 Ms77 hp77 => ?_))⟩, trivial⟩))))))
    refine W.nil ⟨Le.rfl, List.nil_sublist _, _, List.nil_sublist _, List.Sublist.refl _, (WD.done (by kernel_rfl) (thn_n (WC.seq (WC.region (W.mv (W.mv (W.ok (ok_sliceP (i) (s.length + u.length) sl41 ty69 hp77 rfl ⟨_, _, rfl, by omega⟩ rfl ⟨by omega, by have := OwnP.cap_le hp77; omega⟩) (W.mv ?_))))))))⟩
    refine W.copyP (i) (by simp; omega) sl41 ty69 hp77 (List.Perm.refl _) (Src.ofOwn0 h_u (pmA (List.Perm.refl _)) (by omega)) rfl rfl (by omega) (by omega) (fun z82 Ms82 hp82 => (W.nil (thn_n (WC.seq (WC.region (W.mv (W.as (W.nil (thn_n (WC.ret (thn_r ?_)))))))))))
    refine ⟨.inr rfl, [_], ⟨rfl, trivial⟩, Ms82, List.sublist_append_left _ _, ?_⟩
    exact (hp82.own' (by omega))

theorem delp_fc {G : GH} {v_s : Value} {s : List Pair} {Ms_s : MH} (h_s : OwnR ePair 69 G v_s s Ms_s) (i : Nat) (j : Nat) (hij : i < j ∧ j ≤ s.length) :
    Fc Tryz.prog 228 [v_s, .int .i64 ((i : Nat) : Int), .int .i64 ((j : Nat) : Int)] G Ms_s (fun v G' M' => OwnR ePair 69 G' v (s.take i ++ s.drop j) M') := by
 have hs := h_s.len47
 obtain ⟨hij1, hij2⟩ := hij
 refine Fc.intro (rs := [.tmp 6]) cl228 Tryz.func228 rfl Tryz.ntmps228 rfl rfl (fun w0 => ?_)
 refine WC.perm (M' := (Ms_s ++ [])) (by simp) (WC.seq (WC.region (W.as (W.nil (thn_n (WC.seq (WC.region (W.mv ?_))))))))
 refine W.mv (W.mv (W.mv (W.ok (ok_lenO sl41 h_s rfl) ?_)))
 have q8 := h_s.capForm
 refine match q8 with | ⟨ac13, hcf13⟩ => ?_
 have hcl13 := h_s.cap_le
 refine W.okx (ok_slice3 i j s.length sl41 ty69 hcf13 ⟨_, _, rfl, by omega⟩ ⟨_, _, rfl, by omega⟩ ⟨_, _, rfl, by omega⟩ ⟨by omega, by omega, by omega⟩) (fun u13 => (W.nil (thn_n (WC.seq (WC.seq (WC.region (W.mv (W.mv (W.ok (ok_eql rfl rfl) ?_)))))))))
 refine W.nil (thn_n ?_)
 refine WC.cond (b := _) rfl (fun h16 => ?_) (fun h16 => ?_)
 ·have p16 := of_decide_eq_true h16
  exact absurd p16 (by omega)
 ·have p16 := of_decide_eq_false h16
  refine WC.skip (thn_n (WC.seq (WC.region (W.mv (W.ok (ok_lenO sl41 h_s rfl) (W.as (W.nil (thn_n (WC.seq ?_)))))))))
  refine WC.drawW _ (List.nil_sublist _) mix (by rintro _ _ _ _ ⟨h | h, _⟩ <;> cases h) (WD.take 0 rfl rfl rfl (by kernel_rfl) (by kernel_rfl) (by kernel_rfl) (ok_mv) (WD.take 1 rfl rfl rfl (by kernel_rfl) (by kernel_rfl) (by kernel_rfl) (ok_mv) (WD.take 2 rfl rfl rfl (by kernel_rfl) (by kernel_rfl) (by kernel_rfl) (ok_sliceO (0) (i) sl41 ty69 h_s rfl rfl ⟨_, _, rfl, by omega⟩ ⟨by omega, .inl (by omega)⟩) (WD.take 3 rfl rfl rfl (by kernel_rfl) (by kernel_rfl) (by kernel_rfl) (ok_mv) (WD.take 4 rfl rfl rfl (by kernel_rfl) (by kernel_rfl) (by kernel_rfl) (ok_mv) (WD.take 5 rfl rfl rfl (by kernel_rfl) (by kernel_rfl) (by kernel_rfl) (ok_sliceO (j) (s.length) sl41 ty69 h_s rfl ⟨_, _, rfl, by omega⟩ rfl ⟨by omega, .inl (by omega)⟩) (WD.any [6] (by kernel_rfl) rfl ⟨⟨_, rfl, rfl, ?_⟩, trivial⟩)))))))
  refine W.appDel (e := ePair) (i := i) (j := j) sl41 ty69 zr69 rfl h_s (List.Perm.refl _) rfl rfl (by omega) (by omega) (by omega) (fun v26 Ms26 ho26 hc26 hf26 => (W.nil ⟨Le.rfl, List.nil_sublist _, _, List.nil_sublist _, List.Sublist.refl _, (WD.take 7 rfl rfl rfl (by kernel_rfl) (by kernel_rfl) (by kernel_rfl) (ok_as) (WD.done (by kernel_rfl) (thn_n (WC.seq (WC.region (W.mv (W.mv ?_)))))))⟩))
  refine W.ok (ok_lenO sl41 ho26 rfl) (W.mv ?_)
  have hl31 : (s.take i ++ s.drop j).length = i + (s.length - j) := by simp; omega
  refine W.ok (ok_sliceO (s.take i ++ s.drop j).length s.length sl41 ty69 ho26 rfl ⟨_, _, rfl, by omega⟩ ⟨_, _, rfl, by omega⟩ ⟨by omega, .inr (by omega)⟩) (W.clearT (e := ePair) (lo := (s.take i ++ s.drop j).length) (hi := s.length) sl41 ty69 zr69 rfl rfl ho26 (List.Perm.refl _) rfl (by omega) hc26 hf26 (by omega) (fun Ms31 ho31 => (W.nil (thn_n (WC.seq (WC.region (W.mv (W.as (W.nil (thn_n ?_))))))))))
  refine WC.ret ?_
  refine ⟨.inr rfl, [_], ⟨rfl, trivial⟩, Ms31, List.sublist_append_left _ _, ?_⟩
  exact ho31

end Go.Proofs.YtebkfinhhpelbaaGreat
/- Walks of functions that change maps. -/
namespace Go.Proofs.YtebkfinhhpelbaaGreat
open Go Go.Fw Go.RowKit
set_option maxRecDepth 100000
set_option maxHeartbeats 1600000
set_option linter.unusedVariables false
set_option linter.unusedSimpArgs false
set_option linter.unnecessarySimpa false
theorem clonepo_fc {G : GH} {v_a : Value} {a : List Pair} (h_a : SlR ePair G v_a a) :
    Fc Tryz.prog 167 [v_a] G [] (fun v G' M' => OwnR ePair 69 G' v (a) M') := by
 obtain ⟨sa_a, sc_a, rfl⟩ := h_a.form
 have ha := h_a.bytes
 refine Fc.intro (rs := [.tmp 2]) cl167 Tryz.func167 rfl Tryz.ntmps167 rfl rfl (fun w0 => ?_)
 refine WC.seq (WC.region (W.as (W.nil (thn_n (WC.seq (WC.seq (WC.region (W.mv ?_))))))))
 refine W.ok (ok_eqlNil sl41 rfl rfl) (W.nil (thn_n ?_))
 refine WC.cond (b := _) rfl (fun h4 => ?_) (fun h4 => ?_)
 ·have hn := SlR.isNone h_a h4
  subst hn
  refine WC.seq (WC.region (W.as (W.nil (thn_n (WC.ret (thn_r ?_))))))
  refine ⟨.inr rfl, [_], ⟨rfl, trivial⟩, [], List.nil_sublist _, ?_⟩
  exact OwnR.nil
 ·refine WC.skip (thn_n (WC.seq (WC.region (W.lit0 (e := ePair) sl41 ty69 zr69 rfl (fun v1 Ms2 ho3 => (W.mv (W.app (e := ePair) sl41 ty69 zr69 rfl by69 rfl rfl (ho3) (h_a) (List.Perm.refl _) (by simpa using ha) (fun v4 Ms5 ho6 => (W.as (W.nil (thn_n ?_)))))))))))
  refine WC.ret ?_
  refine ⟨.inr rfl, [_], ⟨rfl, trivial⟩, Ms5, List.sublist_append_left _ _, ?_⟩
  have h := ho6
  rw [List.nil_append] at h
  exact h

theorem mwith_fc {G : GH} {v_l : Value} {l : List Pair} (h_l : SlR ePair G v_l l) (k : Str) (ek : Int) (ev : Str) (hP : PairsR l) (hn : l.length ≤ 1000000) (he : ev.b.size ≤ 1048576) :
    Fc Tryz.prog 218 [v_l, .string k.b, .agg #[.int .i64 ek, .string ev.b]] G [] (fun v G' M' => M' = [] ∧ ∃ u0, v = u0 ∧ SlR ePair G' u0 (withN l k (⟨ek, ev⟩ : Eff))) := by
 obtain ⟨sa_l, sc_l, rfl⟩ := h_l.form
 have hl := h_l.len47
 have hgv := hP.val k
 have hr := hP.srt
 have hh := hr.has k
 have hfl := fndN_le l k
 refine Fc.intro (rs := [.tmp 6]) cl218 Tryz.func218 rfl Tryz.ntmps218 rfl rfl (fun w0 => ?_)
 refine WC.seq (WC.region (W.box (L := [.int .i64 _, .string _]) rfl rfl (fun b7 => (W.as (W.nil (thn_n (WC.seq (WC.region (W.mv ?_)))))))))
 refine W.mv (W.qcall (find_fc h_l _ (by assumption)) rfl (W.mv (W.ok (ok_extract rfl rfl) (W.ok (ok_extract rfl rfl) (W.as (W.as (W.nil (thn_n ?_))))))))
 refine WC.seq (WC.region (W.as (W.nil (thn_n (WC.seq (WC.seq (WC.region (W.mv ?_))))))))
 refine W.nil (thn_n ?_)
 refine WC.cond (b := _) rfl (fun h16_1 => ?_) (fun h16_1 => ?_)
 ·have hs1 : (getN l k).isSome = true := h16_1
  obtain ⟨q1, q2⟩ := of_decide_eq_true (hh.symm.trans hs1)
  have hvk := hr.val q1 q2
  refine WC.region (W.mv (W.mv ?_))
  have q10 := h_l.at (i := fndN l k) (q1)
  refine match q10 with | ⟨_, he8, e_9⟩ => ?_
  subst e_9
  refine W.ok (ok_indexAddr (i := fndN l k) sl41 ty69 h_l rfl rfl ⟨by omega, q1⟩) (W.ok (ok_fieldE fd69_1 rfl he8.form) (W.ok (ok_loadE (vs := [.string _]) ty9 he8 rfl rfl rfl (by simp)) (W.as (W.nil (thn_n (WC.seq (WC.region (W.mv ?_))))))))
  refine W.call (Mp := []) (clonepo_fc h_l) rfl (List.Perm.refl _) ?_
  rintro v12 G11 Ms13 hG11 ho14
  refine W.perm (pmC (List.Perm.refl _)).symm (W.as (W.nil (thn_n (WC.seq (WC.seq (WC.region (W.ok (ok_loadB (i := 0) (vs := [.int .i64 _, .string _]) ty211 rfl rfl rfl rfl (by simp)) (W.mv ?_))))))))
  refine W.mv (W.qcall (eapply_fc ek ev (getN l k).isSome l[fndN l k].val (by omega) (by rw [hvk] at hgv; simpa using Nat.le_trans hgv (by decide))) rfl (W.mv (W.ok (ok_extract rfl rfl) (W.ok (ok_extract rfl rfl) (W.as (W.as (W.nil (thn_n ?_))))))))
  refine WC.block (WC.seq (WC.region (W.mv (W.mv ?_))))
  refine W.sp 36 rfl (fun h31_0 => ?_) (fun h31_0 => ?_)
  ·have hap : Eff.apply (⟨ek, ev⟩ : Eff) (getN l k) = some ((Eff.apply (⟨ek, ev⟩ : Eff) (optS (getN l k).isSome l[fndN l k].val)).getD Str.nil) := by
     rw [hs1, hvk] at *; simp only [optS, if_true] at *; exact isSome_getD h31_0
   refine W.yes (dj := 36) rfl rfl h31_0 (W.mv (W.ok (ok_pick_t rfl h31_0) (W.as (W.nil (thn_n (WC.cond_t rfl h16_1 (WC.region (W.mv ?_))))))))
   refine W.mv (W.mv ?_)
   have q17 := ho14.at (i := fndN l k) (q1)
   refine match q17 with | ⟨_, he15, e_16⟩ => ?_
   subst e_16
   refine W.ok (ok_indexAddrO (i := fndN l k) sl41 ty69 ho14 rfl rfl ⟨by omega, q1⟩) (W.ok (ok_fieldE fd69_1 rfl he15.form) (W.storeO (i := fndN l k) (o := 1) (vs := [.string _]) (a' := ⟨l[fndN l k].key, (((Eff.apply (⟨ek, ev⟩ : Eff) (optS (getN l k).isSome l[fndN l k].val))).getD Str.nil)⟩) ty9 rfl rfl rfl rfl rfl (ho14) (pmC (List.Perm.refl _)) (by omega) (by decide) (fun cs h => by rw [h]; rfl) (fun Ms18 ho19 => (W.perm (pmC (List.Perm.refl _)).symm (W.nil (blk_n (thn_n (WC.seq (WC.region (W.mv ?_))))))))))
   refine W.as (W.nil (thn_n (WC.giveO ho19 (pmC (List.Perm.refl _)) (fun G20 hG20 hv20 => (WC.ret ?_)))))
   refine ⟨.inr rfl, [_], ⟨rfl, trivial⟩, [], List.nil_sublist _, ?_⟩
   refine ⟨rfl, _, rfl, ?_⟩
   · have h := hv20; rw [with_set hr q1 q2 hap] at h; exact h
  ·have hap : Eff.apply (⟨ek, ev⟩ : Eff) (getN l k) = none := by
     rw [hs1, hvk] at *; simp only [optS, if_true] at *; simpa using h31_0
   refine W.no (dj := 36) rfl rfl h31_0 (W.ok (ok_pick_f rfl h31_0) (W.as (W.nil (thn_n (WC.cond_f rfl rfl (WC.seq (WC.region (W.mv ?_))))))))
   refine W.as (W.nil (thn_n (WC.cond_f rfl h31_0 (WC.seq (WC.region (W.mv (W.as (W.nil (thn_n ?_)))))))))
   refine WC.cond_t rfl h16_1 (WC.region (W.mv (W.mv (W.mv (W.ok (Ok.int (n := ((fndN l k + 1 : Nat) : Int)) (ok_add rfl rfl (by omega)) (by omega)) (W.call (Mp := Ms13) (delp_fc ho14 _ _ (by first | assumption | omega)) rfl (pmC (List.Perm.refl _)) ?_))))))
   rintro v22 G21 Ms23 hG21 ho24
   refine W.perm (pmC (List.Perm.refl _)).symm (W.as (W.nil (blk_n (thn_n (WC.seq (WC.region (W.mv (W.as (W.nil (thn_n ?_))))))))))
   refine WC.giveO ho24 (pmC (List.Perm.refl _)) (fun G25 hG25 hv25 => (WC.ret ?_))
   refine ⟨.inr rfl, [_], ⟨rfl, trivial⟩, [], List.nil_sublist _, ?_⟩
   refine ⟨rfl, _, rfl, ?_⟩
   · have h := hv25; rw [with_del hr q1 q2 hap] at h; exact h
 ·have hn0 : (getN l k).isSome = false := h16_1
  have hnn : getN l k = none := by simpa using hn0
  refine WC.skip (thn_n (WC.seq (WC.region (W.mv (W.call (Mp := []) (clonepo_fc h_l) rfl (List.Perm.refl _) ?_)))))
  rintro v27 G26 Ms28 hG26 ho29
  refine W.perm (pmC (List.Perm.refl _)).symm (W.as (W.nil (thn_n (WC.seq (WC.seq (WC.region (W.ok (ok_loadB (i := 0) (vs := [.int .i64 _, .string _]) ty211 rfl rfl rfl rfl (by simp)) (W.mv ?_))))))))
  refine W.mv (W.qcall (eapply_fc ek ev (getN l k).isSome Str.nil (by omega) (by show (ByteArray.mk #[]).size ≤ _; decide)) rfl (W.mv (W.ok (ok_extract rfl rfl) (W.ok (ok_extract rfl rfl) (W.as (W.as (W.nil (thn_n ?_))))))))
  refine WC.block (WC.seq (WC.region (W.mv (W.mv ?_))))
  refine W.sp 36 rfl (fun h31_0 => ?_) (fun h31_0 => ?_)
  ·have hap : Eff.apply (⟨ek, ev⟩ : Eff) (getN l k) = some ((Eff.apply (⟨ek, ev⟩ : Eff) (optS (getN l k).isSome Str.nil)).getD Str.nil) := by
     rw [hn0, hnn] at *; simp only [optS] at *; exact isSome_getD h31_0
   refine W.yes (dj := 36) rfl rfl h31_0 (W.mv (W.ok (ok_pick_t rfl h31_0) (W.as (W.nil (thn_n (WC.cond_f rfl h16_1 (WC.seq (WC.region ?_))))))))
   refine W.mv (W.as (W.nil (thn_n (WC.cond_t rfl h31_0 (WC.region (W.mv (W.mv (W.mv ?_))))))))
   refine W.mv (W.ok (ok_build (L := [.string _, .string _]) pl69 zr69 rfl rfl rfl) (W.litO (e := ePair) (l := [⟨k, (((Eff.apply (⟨ek, ev⟩ : Eff) (optS (getN l k).isSome Str.nil))).getD Str.nil)⟩]) (css := [[.string _, .string _]]) sl41 ty69 zr69 rfl rfl rfl rfl rfl rfl ⟨rfl, trivial⟩ (fun v30 Ms31 ho32 => (W.perm (pmC (List.Perm.refl _)).symm (W.call (Mp := Ms28 ++ Ms31) (insp_fc ho29 _ ho32 (by first | assumption | omega) (by first | assumption | omega | simp) (by first | assumption | omega | (simp; omega))) rfl ((List.Perm.of_eq (List.append_assoc _ _ _)).trans ((List.Perm.append_left _ (pmC (List.Perm.refl _))).trans (pmC (pmA (List.Perm.refl _))))) ?_)))))
   rintro v34 G33 Ms35 hG33 ho36
   refine W.perm (pmC (List.Perm.refl _)).symm (W.as (W.nil (blk_n (thn_n (WC.seq (WC.region (W.mv (W.as (W.nil (thn_n ?_))))))))))
   refine WC.giveO ho36 (pmC (List.Perm.refl _)) (fun G37 hG37 hv37 => (WC.ret ?_))
   refine ⟨.inr rfl, [_], ⟨rfl, trivial⟩, [], List.nil_sublist _, ?_⟩
   refine ⟨rfl, _, rfl, ?_⟩
   · have h := hv37; rw [with_ins hr hn0 hap] at h; exact h
  ·have hap : Eff.apply (⟨ek, ev⟩ : Eff) (getN l k) = none := by
     rw [hn0, hnn] at *; simp only [optS] at *; simpa using h31_0
   refine W.no (dj := 36) rfl rfl h31_0 (W.ok (ok_pick_f rfl h31_0) (W.as (W.nil (thn_n (WC.cond_f rfl rfl (WC.seq (WC.region (W.mv ?_))))))))
   refine W.as (W.nil (thn_n (WC.cond_f rfl h31_0 (WC.seq (WC.region (W.mv (W.as (W.nil (thn_n ?_)))))))))
   refine WC.cond_f rfl h16_1 (WC.skip (blk_n (thn_n (WC.seq (WC.region (W.mv (W.as (W.nil (thn_n (WC.giveO ho29 (pmC (List.Perm.refl _)) (fun G38 hG38 hv38 => ?_)))))))))))
   refine WC.ret ?_
   refine ⟨.inr rfl, [_], ⟨rfl, trivial⟩, [], List.nil_sublist _, ?_⟩
   refine ⟨rfl, _, rfl, ?_⟩
   · have h := hv38; rw [with_not hr hn0 hap] at h; exact h

end Go.Proofs.YtebkfinhhpelbaaGreat
