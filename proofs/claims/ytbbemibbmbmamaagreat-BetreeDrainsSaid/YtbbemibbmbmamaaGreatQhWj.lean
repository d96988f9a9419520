/- Walks of pivots and children with one more, or one fewer. -/
import Derived.MapKept
import Derived.Test.YtbbemibbmbmamaaGreatQhW7
set_option maxRecDepth 100000
set_option maxHeartbeats 1600000
set_option linter.unusedVariables false
set_option linter.unusedSimpArgs false
set_option linter.unnecessarySimpa false
namespace Go.Proofs.YtbbemibbmbmamaaGreat
open Go Go.Fw Go.RowKit
attribute [local irreducible] Ok W WC
theorem Zti {G : GH} {v_s : Value} {s : List Str} {Ms_s : MH} (h_s : OwnR Z8 9 G v_s s Ms_s) (i : Nat) {v_u : Value} {u : List Str} {Ms_u : MH} (h_u : OwnR Z8 9 G v_u u Ms_u) (hi : i ≤ s.length) (hu : 0 < u.length) (hw : (s.length + u.length) * 16 ≤ 140737488355328) :
    Fc Tryz.prog 208 [v_s, nt9 i, v_u] G (Ms_s ++ Ms_u) (fun v G' M' => OwnR Z8 9 G' v ((s.take i ++ u) ++ s.drop i) M') := by
 have hs := h_s.len47
 have hul := h_u.len47
 have hcs := h_s.cap_le
 refine Fc.go [.tmp 6] Tryz.func208 Tryz.ntmps208 rfl (fun w0 => (WC.perm (M' := (Ms_s ++ (Ms_u ++ []))) (by simp) (g9 9 ?_)))
 refine W.ok (XJ (i) (s.length) Z3 ty9 h_s rfl ⟨_, _, rfl, om9⟩ rfl ⟨om9, .inl om9⟩) (g9 16 ?_)
 refine WC.cd (fun h16 p16 => ?_) (fun h16 p16 => ?_)
 ·exact absurd p16 om9
 refine g9 17 ?_
 refine WC.cd (fun h22 p22 => ?_) (fun h22 p22 => ?_)
 ·refine g9 4 ?_
  refine W.giveO h_u (pmA pr9) (fun G1 hG1 hv1 => ?_)
  have q3 := hv1.form
  refine match q3 with | ⟨_, _, e_2⟩ => ?_
  subst e_2
  refine W.app (e := Z8) Z3 ty9 zr9 rfl by9 rfl rfl ((h_s.mono hG1)) (hv1) pr9 (hw) (fun v4 Ms5 ho6 => (g9 5 ?_))
  refine ⟨.inr rfl, [_], ⟨rfl, trivial⟩, Ms5, List.sublist_append_left _ _, ?_⟩
  have h := ho6
  rw [show (s.take i ++ u) ++ s.drop i = s ++ u from by rw [List.take_of_length_le om9, List.drop_eq_nil_of_le om9, List.append_nil]]
  exact h
 refine g9 7 ?_
 refine W.ok (Ok.int (n := ((s.length + u.length : Nat) : Int)) (YT rfl rfl om9) om9) (W.mv ?_)
 have q7 := h_s.capForm
 refine match q7 with | ⟨ac30, hcf30⟩ => ?_
 refine W.ok (Zg8 (c := YX v_s) Z3 hcf30) (g9 3 ?_)
 refine WC.cd (fun h31 p31 => ?_) (fun h31 p31 => ?_)
 ·refine g9 4 ?_
  refine W.ok (XJ (0) (i) Z3 ty9 h_s rfl rfl ⟨_, _, rfl, om9⟩ ⟨om9, .inl om9⟩) (g9 2 ?_)
  refine W.ok (Ok.int (n := ((s.length + u.length : Nat) : Int)) (YT rfl rfl om9) om9) (W.mv (W.ok (Ok.int (n := ((s.length + u.length - i : Nat) : Int)) (Zay rfl rfl om9) om9) (W.appZ (e := Z8) (i := i) (c := s.length + u.length - i) Z3 ty9 zr9 rfl by9 Tryz.underlying3 h_s pr9 rfl rfl om9 om9 om9 om9 (by rw [show i + (s.length + u.length - i) = s.length + u.length from by omega]; exact hw) rfl (fun v40 Ms40 hp40 => (g9 7 ?_)))))
  refine W.ok (XB (i) (i + (s.length + u.length - i)) Z3 ty9 hp40 rfl ⟨_, _, rfl, om9⟩ rfl ⟨om9, by have := OwnP.cap_le hp40; omega⟩) (W.mv (W.copyP (i) (by simp; omega) Z3 ty9 hp40 pr9 (Src.ofOwn0 h_u (pmA (pmA pr9)) om9) rfl rfl om9 om9 (fun z45 Ms45 hp45 => (g9 3 ?_))))
  refine WC.dw sn9 (d9 [0, 1, 2] ?_)
  refine WD.tk 3 rfl (Ok.int (n := ((i + u.length : Nat) : Int)) (YT rfl rfl om9) om9) (WD.tk 4 rfl (XB (i + u.length) (i + (s.length + u.length - i)) Z3 ty9 hp45 rfl ⟨_, _, rfl, om9⟩ rfl ⟨om9, by have := OwnP.cap_le hp45; omega⟩) (d9 [5, 6] ?_))
  refine WD.tk 7 rfl (XJ (i) (s.length) Z3 ty9 h_s rfl ⟨_, _, rfl, om9⟩ rfl ⟨om9, .inl om9⟩) (WD.a1 8 rfl (W.copyP (i + u.length) (by simp; omega) Z3 ty9 hp45 pr9 (Src.ofOwn (lo := i) h_s (pmA pr9) om9 om9) rfl rfl (by simp; omega) om9 (fun z54 Ms54 hp54 => (W.nn (g9 10 ?_)))))
  refine ⟨.inr rfl, [_], ⟨rfl, trivial⟩, Ms54, List.sublist_append_left _ _, ?_⟩
  have h := (hp54.own' (by simp; omega))
  rw [List.append_nil] at h
  exact h
 refine g9 7 ?_
 refine W.ok (Ok.int (n := ((s.length + u.length : Nat) : Int)) (YT rfl rfl om9) om9) (W.ok (XJ 0 (s.length + u.length) Z3 ty9 h_s rfl rfl ⟨_, _, rfl, om9⟩ ⟨om9, .inr om9⟩) ?_)
 have hp60 := OwnP.extend (m := u.length) (OwnR.open h_s om9) om9 hw om9
 refine g9 10 ?_
 refine W.ok (Ok.int (n := ((i + u.length : Nat) : Int)) (YT rfl rfl om9) om9) (W.ok (XB (i + u.length) (s.length + u.length) Z3 ty9 hp60 rfl ⟨_, _, rfl, om9⟩ rfl ⟨om9, by have := OwnP.cap_le hp60; omega⟩) ?_)
 have hc67 := OwnP.cap_le hp60
 refine W.ok (Zg9 (fn := Tryz.f235) (tR := 4) (lo := i + u.length) (hi := s.length + u.length) Tryz.func235 (by kernel_rfl) (by kernel_rfl) (by kernel_rfl) (by kernel_rfl) Z3 ty9 h_u hp60 ((List.Perm.append_left _ pr9).trans (pmA pr9)) om9 om9 rfl rfl rfl) (g9 5 ?_)
 refine WC.dw sn9 (d9 [0, 1, 2] ?_)
 refine WD.tk 3 rfl (Ok.int (n := ((i + u.length : Nat) : Int)) (YT rfl rfl om9) om9) (WD.tk 4 rfl (XB (i + u.length) (s.length + u.length) Z3 ty9 hp60 rfl ⟨_, _, rfl, om9⟩ rfl ⟨om9, by have := OwnP.cap_le hp60; omega⟩) (d9 [5, 6] ?_))
 refine WD.tk 7 rfl (XB (i) (s.length + u.length) Z3 ty9 hp60 rfl ⟨_, _, rfl, om9⟩ rfl ⟨om9, by have := OwnP.cap_le hp60; omega⟩) (WD.a1 8 rfl (W.copyShift (i := i) Z3 ty9 hp60 pr9 rfl rfl om9 (fun z77 Ms77 hp77 => (W.nn (g9 6 ?_)))))
 refine W.ok (XB (i) (s.length + u.length) Z3 ty9 hp77 rfl ⟨_, _, rfl, om9⟩ rfl ⟨om9, by have := OwnP.cap_le hp77; omega⟩) (W.mv (W.copyP (i) (by simp; omega) Z3 ty9 hp77 pr9 (Src.ofOwn0 h_u (pmA pr9) om9) rfl rfl om9 om9 (fun z82 Ms82 hp82 => (g9 10 ?_))))
 refine ⟨.inr rfl, [_], ⟨rfl, trivial⟩, Ms82, List.sublist_append_left _ _, ?_⟩
 exact (hp82.own' om9)

theorem Ztj {G : GH} {v_s : Value} {s : List Int} {Ms_s : MH} (h_s : OwnR Zz 3 G v_s s Ms_s) (i : Nat) {v_u : Value} {u : List Int} {Ms_u : MH} (h_u : OwnR Zz 3 G v_u u Ms_u) (hi : i ≤ s.length) (hu : 0 < u.length) (hw : (s.length + u.length) * 8 ≤ 140737488355328) :
    Fc Tryz.prog 209 [v_s, nt9 i, v_u] G (Ms_s ++ Ms_u) (fun v G' M' => OwnR Zz 3 G' v ((s.take i ++ u) ++ s.drop i) M') := by
 have hs := h_s.len47
 have hul := h_u.len47
 have hcs := h_s.cap_le
 refine Fc.go [.tmp 6] Tryz.func209 Tryz.ntmps209 rfl (fun w0 => (WC.perm (M' := (Ms_s ++ (Ms_u ++ []))) (by simp) (g9 9 ?_)))
 refine W.ok (XJ (i) (s.length) ZU ty3 h_s rfl ⟨_, _, rfl, om9⟩ rfl ⟨om9, .inl om9⟩) (g9 16 ?_)
 refine WC.cd (fun h16 p16 => ?_) (fun h16 p16 => ?_)
 ·exact absurd p16 om9
 refine g9 17 ?_
 refine WC.cd (fun h22 p22 => ?_) (fun h22 p22 => ?_)
 ·refine g9 4 ?_
  refine W.giveO h_u (pmA pr9) (fun G8 hG8 hv8 => ?_)
  have q10 := hv8.form
  refine match q10 with | ⟨_, _, e_9⟩ => ?_
  subst e_9
  refine W.app (e := Zz) ZU ty3 zr3 rfl by3 rfl rfl ((h_s.mono hG8)) (hv8) pr9 (hw) (fun v11 Ms12 ho13 => (g9 5 ?_))
  refine ⟨.inr rfl, [_], ⟨rfl, trivial⟩, Ms12, List.sublist_append_left _ _, ?_⟩
  have h := ho13
  rw [show (s.take i ++ u) ++ s.drop i = s ++ u from by rw [List.take_of_length_le om9, List.drop_eq_nil_of_le om9, List.append_nil]]
  exact h
 refine g9 7 ?_
 refine W.ok (Ok.int (n := ((s.length + u.length : Nat) : Int)) (YT rfl rfl om9) om9) (W.mv ?_)
 have q14 := h_s.capForm
 refine match q14 with | ⟨ac30, hcf30⟩ => ?_
 refine W.ok (Zg8 (c := YX v_s) ZU hcf30) (g9 3 ?_)
 refine WC.cd (fun h31 p31 => ?_) (fun h31 p31 => ?_)
 ·refine g9 4 ?_
  refine W.ok (XJ (0) (i) ZU ty3 h_s rfl rfl ⟨_, _, rfl, om9⟩ ⟨om9, .inl om9⟩) (g9 2 ?_)
  refine W.ok (Ok.int (n := ((s.length + u.length : Nat) : Int)) (YT rfl rfl om9) om9) (W.mv (W.ok (Ok.int (n := ((s.length + u.length - i : Nat) : Int)) (Zay rfl rfl om9) om9) (W.appZ (e := Zz) (i := i) (c := s.length + u.length - i) ZU ty3 zr3 rfl by3 Tryz.underlying3 h_s pr9 rfl rfl om9 om9 om9 om9 (by rw [show i + (s.length + u.length - i) = s.length + u.length from by omega]; exact hw) rfl (fun v40 Ms40 hp40 => (g9 7 ?_)))))
  refine W.ok (XB (i) (i + (s.length + u.length - i)) ZU ty3 hp40 rfl ⟨_, _, rfl, om9⟩ rfl ⟨om9, by have := OwnP.cap_le hp40; omega⟩) (W.mv (W.copyP (i) (by simp; omega) ZU ty3 hp40 pr9 (Src.ofOwn0 h_u (pmA (pmA pr9)) om9) rfl rfl om9 om9 (fun z45 Ms45 hp45 => (g9 3 ?_))))
  refine WC.dw sn9 (d9 [0, 1, 2] ?_)
  refine WD.tk 3 rfl (Ok.int (n := ((i + u.length : Nat) : Int)) (YT rfl rfl om9) om9) (WD.tk 4 rfl (XB (i + u.length) (i + (s.length + u.length - i)) ZU ty3 hp45 rfl ⟨_, _, rfl, om9⟩ rfl ⟨om9, by have := OwnP.cap_le hp45; omega⟩) (d9 [5, 6] ?_))
  refine WD.tk 7 rfl (XJ (i) (s.length) ZU ty3 h_s rfl ⟨_, _, rfl, om9⟩ rfl ⟨om9, .inl om9⟩) (WD.a1 8 rfl (W.copyP (i + u.length) (by simp; omega) ZU ty3 hp45 pr9 (Src.ofOwn (lo := i) h_s (pmA pr9) om9 om9) rfl rfl (by simp; omega) om9 (fun z54 Ms54 hp54 => (W.nn (g9 10 ?_)))))
  refine ⟨.inr rfl, [_], ⟨rfl, trivial⟩, Ms54, List.sublist_append_left _ _, ?_⟩
  have h := (hp54.own' (by simp; omega))
  rw [List.append_nil] at h
  exact h
 refine g9 7 ?_
 refine W.ok (Ok.int (n := ((s.length + u.length : Nat) : Int)) (YT rfl rfl om9) om9) (W.ok (XJ 0 (s.length + u.length) ZU ty3 h_s rfl rfl ⟨_, _, rfl, om9⟩ ⟨om9, .inr om9⟩) ?_)
 have hp60 := OwnP.extend (m := u.length) (OwnR.open h_s om9) om9 hw om9
 refine g9 10 ?_
 refine W.ok (Ok.int (n := ((i + u.length : Nat) : Int)) (YT rfl rfl om9) om9) (W.ok (XB (i + u.length) (s.length + u.length) ZU ty3 hp60 rfl ⟨_, _, rfl, om9⟩ rfl ⟨om9, by have := OwnP.cap_le hp60; omega⟩) ?_)
 have hc67 := OwnP.cap_le hp60
 refine W.ok (Zg9 (fn := Tryz.f237) (tR := 4) (lo := i + u.length) (hi := s.length + u.length) Tryz.func237 (by kernel_rfl) (by kernel_rfl) (by kernel_rfl) (by kernel_rfl) ZU ty3 h_u hp60 ((List.Perm.append_left _ pr9).trans (pmA pr9)) om9 om9 rfl rfl rfl) (g9 5 ?_)
 refine WC.dw sn9 (d9 [0, 1, 2] ?_)
 refine WD.tk 3 rfl (Ok.int (n := ((i + u.length : Nat) : Int)) (YT rfl rfl om9) om9) (WD.tk 4 rfl (XB (i + u.length) (s.length + u.length) ZU ty3 hp60 rfl ⟨_, _, rfl, om9⟩ rfl ⟨om9, by have := OwnP.cap_le hp60; omega⟩) (d9 [5, 6] ?_))
 refine WD.tk 7 rfl (XB (i) (s.length + u.length) ZU ty3 hp60 rfl ⟨_, _, rfl, om9⟩ rfl ⟨om9, by have := OwnP.cap_le hp60; omega⟩) (WD.a1 8 rfl (W.copyShift (i := i) ZU ty3 hp60 pr9 rfl rfl om9 (fun z77 Ms77 hp77 => (W.nn (g9 6 ?_)))))
 refine W.ok (XB (i) (s.length + u.length) ZU ty3 hp77 rfl ⟨_, _, rfl, om9⟩ rfl ⟨om9, by have := OwnP.cap_le hp77; omega⟩) (W.mv (W.copyP (i) (by simp; omega) ZU ty3 hp77 pr9 (Src.ofOwn0 h_u (pmA pr9) om9) rfl rfl om9 om9 (fun z82 Ms82 hp82 => (g9 10 ?_))))
 refine ⟨.inr rfl, [_], ⟨rfl, trivial⟩, Ms82, List.sublist_append_left _ _, ?_⟩
 exact (hp82.own' om9)

theorem Ztk {G : GH} {v_a : Value} {a : List Str} (h_a : SlR Z8 G v_a a) :
    Fc Tryz.prog 158 [v_a] G [] (fun v G' M' => OwnR Z8 9 G' v (a) M') := by
 obtain ⟨sa_a, sc_a, rfl⟩ := h_a.form
 have ha := h_a.bytes
 refine Fc.go [.tmp 2] Tryz.func158 Tryz.ntmps158 rfl (fun w0 => (g9 9 ?_))
 refine W.ok (ZaR Z3 rfl rfl) (g9 2 ?_)
 refine WC.cond rfl (fun h4 => ?_) (fun h4 => ?_)
 ·have hn := SlR.isNone h_a h4
  subst hn
  refine g9 8 ?_
  exact OwnR.nil
 refine g9 4 ?_
 refine W.lit0 (e := Z8) Z3 ty9 zr9 rfl (fun v17 Ms18 ho19 => (W.mv (W.app (e := Z8) Z3 ty9 zr9 rfl by9 rfl rfl (ho19) (h_a) pr9 (by simpa using ha) (fun v20 Ms21 ho22 => (g9 4 ?_)))))
 refine ⟨.inr rfl, [_], ⟨rfl, trivial⟩, Ms21, List.sublist_append_left _ _, ?_⟩
 have h := ho22
 rw [List.nil_append] at h
 exact h

theorem Ztl {G : GH} {v_a : Value} {a : List Int} (h_a : SlR Zz G v_a a) :
    Fc Tryz.prog 159 [v_a] G [] (fun v G' M' => OwnR Zz 3 G' v (a) M') := by
 obtain ⟨sa_a, sc_a, rfl⟩ := h_a.form
 have ha := h_a.bytes
 refine Fc.go [.tmp 2] Tryz.func159 Tryz.ntmps159 rfl (fun w0 => (g9 9 ?_))
 refine W.ok (ZaR ZU rfl rfl) (g9 2 ?_)
 refine WC.cond rfl (fun h4 => ?_) (fun h4 => ?_)
 ·have hn := SlR.isNone h_a h4
  subst hn
  refine g9 8 ?_
  exact OwnR.nil
 refine g9 4 ?_
 refine W.lit0 (e := Zz) ZU ty3 zr3 rfl (fun v23 Ms24 ho25 => (W.mv (W.app (e := Zz) ZU ty3 zr3 rfl by3 rfl rfl (ho25) (h_a) pr9 (by simpa using ha) (fun v26 Ms27 ho28 => (g9 4 ?_)))))
 refine ⟨.inr rfl, [_], ⟨rfl, trivial⟩, Ms27, List.sublist_append_left _ _, ?_⟩
 have h := ho28
 rw [List.nil_append] at h
 exact h

theorem Ztm {G : GH} {v_p : Value} {p : List Str} (h_p : SlR Z8 G v_p p) {v_c : Value} {c : List Int} (h_c : SlR Zz G v_c c) (i : Nat) (k : Str) (nv : Int) (hb1 : (p.length + 1) * 16 ≤ 140737488355328) (hb2 : (c.length + 1) * 8 ≤ 140737488355328) (hi : i64 ((i : Nat) : Int)) (hv : i64 nv) :
    Fc Tryz.prog 176 [v_p, v_c, nt9 i, sV k.b, iV nv] G [] (fun v G' M' => M' = [] ∧ ∃ r : List Str × List Int, r = XV p c i k nv ∧ ∃ u0 u1, v = .tuple #[u0, u1] ∧ SlR Z8 G' u0 (r.1) ∧ SlR Zz G' u1 (r.2)) := by
 obtain ⟨sa_p, sc_p, rfl⟩ := h_p.form
 obtain ⟨sa_c, sc_c, rfl⟩ := h_c.form
 have hp := h_p.len47
 have hc := h_c.len47
 have hv1 := hv.1
 have hv2 := hv.2
 refine Fc.go [.tmp 10, .tmp 11] Tryz.func176 Tryz.ntmps176 rfl (fun w0 => (g9 10 ?_))
 refine W.qcall (ZaF h_p _ (by first | assumption | exact ⟨om9, om9⟩)) rfl (W.alloc Zy (fun b30 => (g9 9 ?_)))
 refine W.sd 18 (fun h17 p17 => ?_) (fun h17 p17 => ?_)
 ·exfalso; omega
 refine g9 10 ?_
 refine W.sd 24 (fun h22 p22 => ?_) (fun h22 p22 => ?_)
 ·refine g9 23 ?_
  refine ⟨rfl, _, (Zd1 (.inl om9)).symm, _, _, rfl, ?_, ?_⟩
  · exact SlR.nil
  exact SlR.nil
 refine g9 5 ?_
 refine W.qcall (Zdg _ _ _ _) rfl (g9 4 ?_)
 refine W.sp 30 rfl (fun h28 => ?_) (fun h28 => ?_)
 ·refine g9 17 ?_
  refine ⟨rfl, _, (Zd1 (.inr (.inl (by simpa using h28)))).symm, _, _, rfl, ?_, ?_⟩
  · exact SlR.nil
  exact SlR.nil
 refine g9 11 ?_
 refine WC.cd (fun h34 p34 => ?_) (fun h34 p34 => ?_)
 ·refine g9 9 ?_
  refine ⟨rfl, _, (Zd1 (.inr (.inr (Str.ext' p34)))).symm, _, _, rfl, ?_, ?_⟩
  · exact SlR.nil
  exact SlR.nil
 have hin := Zgq (p := p) (i := i) (k := k) (by simpa using h28)
 have hb := Zd2 (p := p) (c := c) (i := i) (k := k) (v := nv) om9 (by simpa using h28) (fun e => p34 (congrArg Str.b e))
 refine g9 5 ?_
 refine W.call (Mp := []) (Ztk h_p) rfl pr9 ?_
 rintro v32 G31 Ms33 hG31 ho34
 refine W.perm (pmC pr9).symm (g9 2 ?_)
 refine W.litO (e := Z8) (l := [_]) (css := [[sV _]]) Z3 ty9 zr9 rfl rfl rfl rfl rfl rfl ⟨rfl, trivial⟩ (fun v35 Ms36 ho37 => (W.perm (pmC pr9).symm (W.call (Mp := Ms33 ++ Ms36) (Zti ho34 _ ho37 (by first | assumption | omega) (by first | assumption | omega | simp) (by first | assumption | omega | (simp; omega))) rfl ((List.Perm.of_eq (List.append_assoc _ _ _)).trans ((List.Perm.append_left _ (pmC pr9)).trans (pmC (pmA pr9)))) ?_)))
 rintro v39 G38 Ms40 hG38 ho41
 refine W.perm (pmC pr9).symm (W.mv (W.call (Mp := []) (Ztl (h_c.mono lec)) rfl pr9 ?_))
 rintro v43 G42 Ms44 hG42 ho45
 refine W.perm (pmC pr9).symm (W.mv (W.ok (Ok.int (n := ((i + 1 : Nat) : Int)) (YT rfl rfl om9) om9) (W.mv (W.litO (e := Zz) (l := [_]) (css := [[iV _]]) ZU ty3 zr3 rfl rfl rfl rfl rfl rfl ⟨⟨rfl, om9, om9⟩, trivial⟩ (fun v46 Ms47 ho48 => (W.perm (pmC pr9).symm (W.call (Mp := Ms44 ++ Ms47) (Ztj ho45 _ ho48 (by first | assumption | omega) (by first | assumption | omega | simp) (by first | assumption | omega | (simp; omega))) rfl ((List.Perm.of_eq (List.append_assoc _ _ _)).trans ((List.Perm.append_left _ (pmC pr9)).trans (pmC (pmA pr9)))) ?_)))))))
 rintro v50 G49 Ms51 hG49 ho52
 refine W.perm (pmC pr9).symm (g9 4 ?_)
 refine WC.giveO (ho41.mono lec) (pmC (pmA pr9)) (fun G53 hG53 hv53 => (WC.giveO (ho52.mono hG53) (pmC pr9) (fun G54 hG54 hv54 => (g9 2 ?_))))
 refine ⟨rfl, _, hb.symm, _, _, rfl, ?_, ?_⟩
 · exact (hv53.mono hG54)
 exact hv54

end Go.Proofs.YtbbemibbmbmamaaGreat

namespace Go.Fw
def Xi (n : Nd) (i : Nat) (k : Str) (v : Int) : Nd × Bool :=
 if n.level = 0 ∨ (XV n.pivots n.kids i k v).2.length = 0 then (Nd.zero, false)
 else ({ n with pivots := (XV n.pivots n.kids i k v).1, kids := (XV n.pivots n.kids i k v).2 }, true)
theorem Zgr {n : Nd} {i : Nat} {k : Str} {v : Int} (h : n.level = 0 ∨ (XV n.pivots n.kids i k v).2.length = 0) : Xi n i k v = (Nd.zero, false) := if_pos h
theorem Zgs {n : Nd} {i : Nat} {k : Str} {v : Int} (h1 : ¬ n.level = 0) (h2 : ¬ (XV n.pivots n.kids i k v).2.length = 0) : Xi n i k v = ({ n with pivots := (XV n.pivots n.kids i k v).1, kids := (XV n.pivots n.kids i k v).2 }, true) := if_neg (by rintro (h | h); exact h1 h; exact h2 h)
theorem Zgt {p : List Str} {c : List Int} {i : Nat} {k : Str} {v : Int} (h : c.length ≤ i ∨ (Zf p (i : Int)).has k = false ∨ k = (Zf p (i : Int)).lo) : (XV p c i k v).2.length = 0 := by rw [Zd1 h]; rfl
theorem Ztn {n : Nd} {i : Nat} {k : Str} {v : Int} (h1 : ¬ n.level = 0) (h2 : ¬ n.kids.length ≤ i) (h3 : (Zf n.pivots (i : Int)).has k = true) (h4 : ¬ k = (Zf n.pivots (i : Int)).lo) :
  Xi n i k v = ({ n with pivots := (n.pivots.take i ++ [k]) ++ n.pivots.drop i, kids := (n.kids.take (i + 1) ++ [v]) ++ n.kids.drop (i + 1) }, true) := by
 have e := Zd2 (v := v) h2 h3 h4
 rw [Zgs h1 (by rw [e]; simp), e]
end Go.Fw
namespace Go.Proofs.YtbbemibbmbmamaaGreat
open Go Go.Fw Go.RowKit
attribute [local irreducible] Ok W WC
theorem ZcS {G : GH} {v_a : Value} {a : List Str} (h_a : SlR Z8 G v_a a) :
    Fc Tryz.prog 158 [v_a] G [] (fun v G' M' => M' = [] ∧ ∃ u0, v = u0 ∧ SlR Z8 G' u0 (a)) := by
 obtain ⟨sa_a, sc_a, rfl⟩ := h_a.form
 have ha := h_a.bytes
 refine Fc.go [.tmp 2] Tryz.func158 Tryz.ntmps158 rfl (fun w0 => (g9 9 ?_))
 refine W.ok (ZaR Z3 rfl rfl) (g9 2 ?_)
 refine WC.cond rfl (fun h4 => ?_) (fun h4 => ?_)
 ·have hn := SlR.isNone h_a h4
  subst hn
  refine g9 8 ?_
  refine ⟨rfl, _, rfl, ?_⟩
  · exact SlR.nil
 refine g9 4 ?_
 refine W.lit0 (e := Z8) Z3 ty9 zr9 rfl (fun v1 Ms2 ho3 => (W.mv (W.app (e := Z8) Z3 ty9 zr9 rfl by9 rfl rfl (ho3) (h_a) pr9 (by simpa using ha) (fun v4 Ms5 ho6 => (g9 3 ?_)))))
 refine WC.giveO ho6 pr9 (fun G7 hG7 hv7 => (g9 2 ?_))
 refine ⟨rfl, _, rfl, ?_⟩
 · exact hv7

theorem ZcT {G : GH} {v_a : Value} {a : List Int} (h_a : SlR Zz G v_a a) :
    Fc Tryz.prog 159 [v_a] G [] (fun v G' M' => M' = [] ∧ ∃ u0, v = u0 ∧ SlR Zz G' u0 (a)) := by
 obtain ⟨sa_a, sc_a, rfl⟩ := h_a.form
 have ha := h_a.bytes
 refine Fc.go [.tmp 2] Tryz.func159 Tryz.ntmps159 rfl (fun w0 => (g9 9 ?_))
 refine W.ok (ZaR ZU rfl rfl) (g9 2 ?_)
 refine WC.cond rfl (fun h4 => ?_) (fun h4 => ?_)
 ·have hn := SlR.isNone h_a h4
  subst hn
  refine g9 8 ?_
  refine ⟨rfl, _, rfl, ?_⟩
  · exact SlR.nil
 refine g9 4 ?_
 refine W.lit0 (e := Zz) ZU ty3 zr3 rfl (fun v8 Ms9 ho10 => (W.mv (W.app (e := Zz) ZU ty3 zr3 rfl by3 rfl rfl (ho10) (h_a) pr9 (by simpa using ha) (fun v11 Ms12 ho13 => (g9 3 ?_)))))
 refine WC.giveO ho13 pr9 (fun G14 hG14 hv14 => (g9 2 ?_))
 refine ⟨rfl, _, rfl, ?_⟩
 · exact hv14

theorem XM {G : GH} {cs_a : List Value} {a : Nd} (h_a : NodeC G cs_a a) :
    Fc Tryz.prog 118 [.agg (List.toArray cs_a)] G [] (fun v G' M' => M' = [] ∧ ∃ u0, v = .agg (List.toArray u0) ∧ NodeC G' u0 (a)) := by
 obtain ⟨_, _, _, _, _, _, _, _, rfl, hp_a, hk_a, hm_a, hr_a, hok_a⟩ := h_a
 refine Fc.go [.cell 2 60] Tryz.func118 Tryz.ntmps118 rfl (fun w0 => (g9 2 ?_))
 refine W.box (L := [iV _, iV _, lV _ _ _, lV _ _ _, sV _, .bool _, iV _, iV _, lV _ _ _, lV _ _ _]) rfl rfl (fun b15 => (W.alloc Zo (fun b16 => (g9 3 ?_))))
 refine WC.dw ((sr9.cons _).k9) (d9 [0, 3] ?_)
 refine WD.any [1, 4] (by kernel_rfl) rfl ⟨WD.ap ?_, WD.ap ?_, trivial⟩
 ·refine g9 1 ?_
  refine W.nn ?_
  refine WD.any [2, 4] (by kernel_rfl) rfl ⟨WD.ap ?_, WD.ap ?_, trivial⟩
  ·refine W.cS (ZcS hp_a) rfl (fun sa_hv18 sc_hv18 G17 hG17 hv18 => (W.nn (WD.a1 4 rfl (g9 1 ?_))))
   refine W.nn (d9 [6] ?_)
   refine WD.a1 5 rfl (W.cS (ZcT (hk_a.mono hG17)) rfl (fun sa_hv25 sc_hv25 G24 hG24 hv25 => (W.nn (d9 [7, 8, 9] ?_))))
   refine g9 3 ?_
   refine WC.dw ((sr9.cons _).k9) (d9 [0, 3] ?_)
   refine WD.any [1, 4] (by kernel_rfl) rfl ⟨WD.ap ?_, WD.ap ?_, trivial⟩
   ·refine g9 1 ?_
    refine W.nn ?_
    refine WD.any [2, 4] (by kernel_rfl) rfl ⟨WD.ap ?_, WD.ap ?_, trivial⟩
    ·refine W.cS (Jy (hm_a.mono lec)) rfl (fun sa_hv32 sc_hv32 G31 hG31 hv32 => (W.nn (WD.a1 4 rfl (g9 1 ?_))))
     refine W.nn (d9 [6] ?_)
     refine WD.a1 5 rfl (W.cS (XS (hr_a.mono lec)) rfl (fun sa_hv39 sc_hv39 G38 hG38 hv39 => (W.nn (d9 [7, 8, 9] ?_))))
     refine g9 10 ?_
     refine ⟨rfl, _, rfl, ?_⟩
     · exact ⟨_, _, _, _, _, _, _, _, rfl, (hv18.mono lec), (hv25.mono lec), (hv32.mono hG38), hv39, (by assumption)⟩
    refine g9 1 ?_
    refine W.nn (WD.a1 2 rfl (W.cS (Jy (hm_a.mono lec)) rfl (fun sa_hv46 sc_hv46 G45 hG45 hv46 => (W.nn (d9 [6] ?_)))))
    refine WD.a1 5 rfl (W.cS (XS (hr_a.mono lec)) rfl (fun sa_hv53 sc_hv53 G52 hG52 hv53 => (W.nn (d9 [7, 8, 9] ?_))))
    refine g9 10 ?_
    refine ⟨rfl, _, rfl, ?_⟩
    · exact ⟨_, _, _, _, _, _, _, _, rfl, (hv18.mono lec), (hv25.mono lec), (hv46.mono hG52), hv53, (by assumption)⟩
   refine g9 1 ?_
   refine W.nn (WD.a1 1 rfl (g9 1 ?_))
   refine W.nn (WD.a1 2 rfl (W.cS (Jy (hm_a.mono lec)) rfl (fun sa_hv60 sc_hv60 G59 hG59 hv60 => (W.nn (d9 [6] ?_)))))
   refine WD.a1 5 rfl (W.cS (XS (hr_a.mono lec)) rfl (fun sa_hv67 sc_hv67 G66 hG66 hv67 => (W.nn (d9 [7, 8, 9] ?_))))
   refine g9 10 ?_
   refine ⟨rfl, _, rfl, ?_⟩
   · exact ⟨_, _, _, _, _, _, _, _, rfl, (hv18.mono lec), (hv25.mono lec), (hv60.mono hG66), hv67, (by assumption)⟩
  refine g9 1 ?_
  refine W.nn (WD.a1 2 rfl (W.cS (ZcS hp_a) rfl (fun sa_hv74 sc_hv74 G73 hG73 hv74 => (W.nn (d9 [6] ?_)))))
  refine WD.a1 5 rfl (W.cS (ZcT (hk_a.mono hG73)) rfl (fun sa_hv81 sc_hv81 G80 hG80 hv81 => (W.nn (d9 [7, 8, 9] ?_))))
  refine g9 3 ?_
  refine WC.dw ((sr9.cons _).k9) (d9 [0, 3] ?_)
  refine WD.any [1, 4] (by kernel_rfl) rfl ⟨WD.ap ?_, WD.ap ?_, trivial⟩
  ·refine g9 1 ?_
   refine W.nn ?_
   refine WD.any [2, 4] (by kernel_rfl) rfl ⟨WD.ap ?_, WD.ap ?_, trivial⟩
   ·refine W.cS (Jy (hm_a.mono lec)) rfl (fun sa_hv88 sc_hv88 G87 hG87 hv88 => (W.nn (WD.a1 4 rfl (g9 1 ?_))))
    refine W.nn (d9 [6] ?_)
    refine WD.a1 5 rfl (W.cS (XS (hr_a.mono lec)) rfl (fun sa_hv95 sc_hv95 G94 hG94 hv95 => (W.nn (d9 [7, 8, 9] ?_))))
    refine g9 10 ?_
    refine ⟨rfl, _, rfl, ?_⟩
    · exact ⟨_, _, _, _, _, _, _, _, rfl, (hv74.mono lec), (hv81.mono lec), (hv88.mono hG94), hv95, (by assumption)⟩
   refine g9 1 ?_
   refine W.nn (WD.a1 2 rfl (W.cS (Jy (hm_a.mono lec)) rfl (fun sa_hv102 sc_hv102 G101 hG101 hv102 => (W.nn (d9 [6] ?_)))))
   refine WD.a1 5 rfl (W.cS (XS (hr_a.mono lec)) rfl (fun sa_hv109 sc_hv109 G108 hG108 hv109 => (W.nn (d9 [7, 8, 9] ?_))))
   refine g9 10 ?_
   refine ⟨rfl, _, rfl, ?_⟩
   · exact ⟨_, _, _, _, _, _, _, _, rfl, (hv74.mono lec), (hv81.mono lec), (hv102.mono hG108), hv109, (by assumption)⟩
  refine g9 1 ?_
  refine W.nn (WD.a1 1 rfl (g9 1 ?_))
  refine W.nn (WD.a1 2 rfl (W.cS (Jy (hm_a.mono lec)) rfl (fun sa_hv116 sc_hv116 G115 hG115 hv116 => (W.nn (d9 [6] ?_)))))
  refine WD.a1 5 rfl (W.cS (XS (hr_a.mono lec)) rfl (fun sa_hv123 sc_hv123 G122 hG122 hv123 => (W.nn (d9 [7, 8, 9] ?_))))
  refine g9 10 ?_
  refine ⟨rfl, _, rfl, ?_⟩
  · exact ⟨_, _, _, _, _, _, _, _, rfl, (hv74.mono lec), (hv81.mono lec), (hv116.mono hG122), hv123, (by assumption)⟩
 refine g9 1 ?_
 refine W.nn (WD.a1 1 rfl (g9 1 ?_))
 refine W.nn (WD.a1 2 rfl (W.cS (ZcS hp_a) rfl (fun sa_hv130 sc_hv130 G129 hG129 hv130 => (W.nn (d9 [6] ?_)))))
 refine WD.a1 5 rfl (W.cS (ZcT (hk_a.mono hG129)) rfl (fun sa_hv137 sc_hv137 G136 hG136 hv137 => (W.nn (d9 [7, 8, 9] ?_))))
 refine g9 3 ?_
 refine WC.dw ((sr9.cons _).k9) (d9 [0, 3] ?_)
 refine WD.any [1, 4] (by kernel_rfl) rfl ⟨WD.ap ?_, WD.ap ?_, trivial⟩
 ·refine g9 1 ?_
  refine W.nn ?_
  refine WD.any [2, 4] (by kernel_rfl) rfl ⟨WD.ap ?_, WD.ap ?_, trivial⟩
  ·refine W.cS (Jy (hm_a.mono lec)) rfl (fun sa_hv144 sc_hv144 G143 hG143 hv144 => (W.nn (WD.a1 4 rfl (g9 1 ?_))))
   refine W.nn (d9 [6] ?_)
   refine WD.a1 5 rfl (W.cS (XS (hr_a.mono lec)) rfl (fun sa_hv151 sc_hv151 G150 hG150 hv151 => (W.nn (d9 [7, 8, 9] ?_))))
   refine g9 10 ?_
   refine ⟨rfl, _, rfl, ?_⟩
   · exact ⟨_, _, _, _, _, _, _, _, rfl, (hv130.mono lec), (hv137.mono lec), (hv144.mono hG150), hv151, (by assumption)⟩
  refine g9 1 ?_
  refine W.nn (WD.a1 2 rfl (W.cS (Jy (hm_a.mono lec)) rfl (fun sa_hv158 sc_hv158 G157 hG157 hv158 => (W.nn (d9 [6] ?_)))))
  refine WD.a1 5 rfl (W.cS (XS (hr_a.mono lec)) rfl (fun sa_hv165 sc_hv165 G164 hG164 hv165 => (W.nn (d9 [7, 8, 9] ?_))))
  refine g9 10 ?_
  refine ⟨rfl, _, rfl, ?_⟩
  · exact ⟨_, _, _, _, _, _, _, _, rfl, (hv130.mono lec), (hv137.mono lec), (hv158.mono hG164), hv165, (by assumption)⟩
 refine g9 1 ?_
 refine W.nn (WD.a1 1 rfl (g9 1 ?_))
 refine W.nn (WD.a1 2 rfl (W.cS (Jy (hm_a.mono lec)) rfl (fun sa_hv172 sc_hv172 G171 hG171 hv172 => (W.nn (d9 [6] ?_)))))
 refine WD.a1 5 rfl (W.cS (XS (hr_a.mono lec)) rfl (fun sa_hv179 sc_hv179 G178 hG178 hv179 => (W.nn (d9 [7, 8, 9] ?_))))
 refine g9 10 ?_
 refine ⟨rfl, _, rfl, ?_⟩
 · exact ⟨_, _, _, _, _, _, _, _, rfl, (hv130.mono lec), (hv137.mono lec), (hv172.mono hG178), hv179, (by assumption)⟩

theorem Zk1 {G : GH} {cs_n : List Value} {n : Nd} (h_n : NodeC G cs_n n) (i : Nat) (k : Str) (nv : Int) (hz : n.pivots.length ≤ 1000000 ∧ n.kids.length ≤ 1000000) (hi : i64 ((i : Nat) : Int)) (hv : i64 nv) :
    Fc Tryz.prog 223 [.agg (List.toArray cs_n), nt9 i, sV k.b, iV nv] G [] (fun v G' M' => M' = [] ∧ ∃ r : Nd × Bool, r = Xi n i k nv ∧ ∃ u0, v = .tuple #[.agg (List.toArray u0), .bool (r.2)] ∧ NodeC G' u0 (r.1)) := by
 obtain ⟨_, _, _, _, _, _, _, _, rfl, hp_n, hk_n, hm_n, hr_n, hok_n⟩ := h_n
 have h1 := hp_n.len47
 have h2 := hk_n.len47
 have h3 := hm_n.len47
 have h4 := hr_n.len47
 obtain ⟨hz1, hz2⟩ := hz
 have hv1 := hv.1
 have hv2 := hv.2
 have hi1 := hi.1
 have hi2 := hi.2
 have b1 : n.pivots.length * 16 ≤ 140737488355328 := hp_n.bytes
 have b2 : n.kids.length * 8 ≤ 140737488355328 := hk_n.bytes
 refine Fc.go [.cell 8 60, .tmp 9] Tryz.func223 Tryz.ntmps223 rfl (fun w0 => (g9 2 ?_))
 refine W.box (L := [iV _, iV _, lV _ _ _, lV _ _ _, sV _, .bool _, iV _, iV _, lV _ _ _, lV _ _ _]) rfl rfl (fun b197 => (W.alloc Zo (fun b198 => (g9 11 ?_))))
 refine WC.cd (fun h15 p15 => ?_) (fun h15 p15 => ?_)
 ·refine g9 2 ?_
  refine W.ok (ZD (L := [iV _, iV _, lV _ _ _, lV _ _ _, sV _, .bool _, iV _, iV _, lV _ _ _, lV _ _ _]) J3 Zo rfl rfl rfl) (g9 7 ?_)
  refine ⟨rfl, _, (Zgr (.inl p15)).symm, _, rfl, ?_⟩
  · exact ⟨_, _, _, _, _, _, _, _, rfl, SlR.nil, SlR.nil, SlR.nil, SlR.nil, Nd.zero_ok⟩
 refine g9 11 ?_
 refine W.call (Mp := []) (Ztm hp_n hk_n _ _ _ (by first | assumption | omega | (simp; omega)) (by first | assumption | omega | (simp; omega)) (by first | assumption | exact ⟨om9, om9⟩) (by assumption)) rfl pr9 ?_
 intro _ G199 _ hG199 q202
 refine match q202 with | ⟨e_203, _, e_204, _, _, e_205, hv200, hv201⟩ => ?_
 subst e_203
 subst e_204
 subst e_205
 have q207 := hv200.form
 refine match q207 with | ⟨sa_hv200, sc_hv200, e_206⟩ => ?_
 subst e_206
 have q209 := hv201.form
 refine match q209 with | ⟨sa_hv201, sc_hv201, e_208⟩ => ?_
 subst e_208
 refine g9 15 ?_
 refine WC.cd (fun h30 p30 => ?_) (fun h30 p30 => ?_)
 ·refine g9 2 ?_
  refine W.ok (ZD (L := [iV _, iV _, lV _ _ _, lV _ _ _, sV _, .bool _, iV _, iV _, lV _ _ _, lV _ _ _]) J3 Zo rfl rfl rfl) (g9 7 ?_)
  refine ⟨rfl, _, (Zgr (.inr om9)).symm, _, rfl, ?_⟩
  · exact ⟨_, _, _, _, _, _, _, _, rfl, SlR.nil, SlR.nil, SlR.nil, SlR.nil, Nd.zero_ok⟩
 refine g9 5 ?_
 refine W.cN (XM (nm9 hG199 hp_n hk_n hm_n hr_n hok_n)) rfl (fun _ _ _ _ _ _ _ _ G210 hG210 hp_hv211 hk_hv211 hm_hv211 hr_hv211 hok_hv211 => (W.alloc Zo (fun b216 => (g9 22 ?_))))
 refine ⟨rfl, _, (Zgs p15 om9).symm, _, rfl, ?_⟩
 · exact ⟨_, _, _, _, _, _, _, _, rfl, (hv200.mono hG210), (hv201.mono hG210), hm_hv211, hr_hv211, hok_n⟩

theorem Zk2 {G : GH} {b_s : Nat} {c : Cfg} {b_a : Nat} {a : List Nd × List Bool} {Ms_a : MH} (h_a : ArR ZA 60 4 3 189 b_a G a Ms_a) {cs_x : List Value} {x : Nd} (h_x : NodeC G cs_x x) :
    Fc Tryz.prog 140 [pt9 b_s, .agg (List.toArray cs_x)] G ((b_s, ce9 139 [iV c.fan, iV c.leaf, iV c.bud, iV c.slots, iV c.rest, pt9 b_a]) :: (Ms_a)) (fun v G' M' => v = iV (XP a x.slot x).1 ∧ StA 60 4 3 189 139 b_s G' c (XP a x.slot x).2 M') := by
 obtain ⟨_, _, _, _, _, _, _, _, rfl, hp_x, hk_x, hm_x, hr_x, hok_x⟩ := h_x
 refine Fc.go [.tmp 4] Tryz.func140 Tryz.ntmps140 rfl (fun w0 => (WC.perm (M' := ((b_s, ce9 139 [iV c.fan, iV c.leaf, iV c.bud, iV c.slots, iV c.rest, pt9 b_a]) :: (Ms_a ++ []))) (by simp) (g9 2 ?_)))
 refine W.box (L := [iV _, iV _, lV _ _ _, lV _ _ _, sV _, .bool _, iV _, iV _, lV _ _ _, lV _ _ _]) rfl rfl (fun b1 => (g9 7 ?_))
 refine W.ok (Xa J2 rfl rfl) (g9 6 ?_)
 refine WC.dw (sn9.k9.k9) (d9 [0, 1, 2, 3, 4, 5, 6] ?_)
 refine WD.a1 7 rfl (W.cN (XM (nk9 hp_x hk_x hm_x hr_x hok_x)) rfl (fun _ _ _ _ _ _ _ _ G2 hG2 hp_hv3 hk_hv3 hm_hv3 hr_hv3 hok_hv3 => (W.nn (WD.a1 8 rfl (W.call (Mp := Ms_a) (Zs4 (ArR.mono hG2 h_a) _ (nk9 hp_hv3 hk_hv3 hm_hv3 hr_hv3 hok_hv3)) rfl (pmC (pmC pr9)) ?_)))))
 intro v11 G8 Ms10 hG8 q9
 refine match q9 with | ⟨e_13, hR12⟩ => ?_
 subst e_13
 refine W.perm (pmC (pmC pr9)).symm (W.nn (d9 [9] ?_))
 refine g9 3 ?_
 refine ⟨.inr rfl, [_], ⟨rfl, trivial⟩, ((b_s, ce9 139 [iV c.fan, iV c.leaf, iV c.bud, iV c.slots, iV c.rest, pt9 b_a]) :: (Ms10 ++ [])), sr9.k9.cons _, ?_⟩
 exact ⟨rfl, _, _, congrArg _ (List.append_nil _), hR12⟩

theorem Zk3 {G : GH} {b_s : Nat} {c : Cfg} {b_a : Nat} {a : List Nd × List Bool} {Ms_a : MH} (h_a : ArR ZA 60 4 3 189 b_a G a Ms_a) (i : Int) :
    Fc Tryz.prog 67 [pt9 b_s, iV i] G ((b_s, ce9 139 [iV c.fan, iV c.leaf, iV c.bud, iV c.slots, iV c.rest, pt9 b_a]) :: (Ms_a)) (fun v G' M' => (∃ cs, v = .tuple #[.agg (List.toArray cs), .bool (YY a.2 i)] ∧ NodeC G' cs (Jw a i Nd.zero)) ∧ M' = (b_s, ce9 139 [iV c.fan, iV c.leaf, iV c.bud, iV c.slots, iV c.rest, pt9 b_a]) :: Ms_a) := by
 refine Fc.go [.cell 4 60, .tmp 5] Tryz.func67 Tryz.ntmps67 rfl (fun w0 => (WC.perm (M' := ((b_s, ce9 139 [iV c.fan, iV c.leaf, iV c.bud, iV c.slots, iV c.rest, pt9 b_a]) :: (Ms_a ++ []))) (by simp) (g9 2 ?_)))
 refine W.alloc Zo (fun b14 => (g9 7 ?_))
 refine W.ok (Xa J2 rfl rfl) (g9 12 ?_)
 refine W.call (Mp := Ms_a) (Zs6 h_a _) rfl (pmC (pmC pr9)) ?_
 intro v18 G15 Ms17 hG15 q16
 refine match q16 with | ⟨⟨_, e_20, ⟨_, _, _, _, _, _, _, _, e_21, hp_hR19, hk_hR19, hm_hR19, hr_hR19, hok_hR19⟩⟩, eeq16⟩ => ?_
 subst e_20
 subst e_21
 have eeq16 := eeq16.symm
 subst eeq16
 refine W.perm (pmC (pmC pr9)).symm (g9 3 ?_)
 refine W.alloc Zo (fun b22 => (g9 7 ?_))
 refine W.cN (XM (nk9 hp_hR19 hk_hR19 hm_hR19 hr_hR19 hok_hR19)) rfl (fun _ _ _ _ _ _ _ _ G23 hG23 hp_hv24 hk_hv24 hm_hv24 hr_hv24 hok_hv24 => (g9 6 ?_))
 refine ⟨.inr rfl, [_, _], ⟨⟨_, _, _, _, _, rfl, YE (i := 1) rfl, Yn, (by simp), rfl, rfl⟩, rfl, trivial⟩, ((b_s, ce9 139 [iV c.fan, iV c.leaf, iV c.bud, iV c.slots, iV c.rest, pt9 b_a]) :: (Ms_a ++ [])), (sr9.k9.cons _).cons _, ?_⟩
 exact ⟨⟨_, rfl, (nk9 hp_hv24 hk_hv24 hm_hv24 hr_hv24 hok_hv24)⟩, congrArg _ (List.append_nil _)⟩

theorem Zto {G : GH} {b_s : Nat} {c : Cfg} {b_a : Nat} {a : List Nd × List Bool} {Ms_a : MH} (h_a : ArR ZA 60 4 3 189 b_a G a Ms_a) :
    Fc Tryz.prog 59 [pt9 b_s] G ((b_s, ce9 139 [iV c.fan, iV c.leaf, iV c.bud, iV c.slots, iV c.rest, pt9 b_a]) :: (Ms_a)) (fun v G' M' => v = iV ((Xc a.2).length : Int) ∧ M' = (b_s, ce9 139 [iV c.fan, iV c.leaf, iV c.bud, iV c.slots, iV c.rest, pt9 b_a]) :: Ms_a) := by
 refine Fc.go [.tmp 2] Tryz.func59 Tryz.ntmps59 rfl (fun w0 => (WC.perm (M' := ((b_s, ce9 139 [iV c.fan, iV c.leaf, iV c.bud, iV c.slots, iV c.rest, pt9 b_a]) :: (Ms_a ++ []))) (by simp) (g9 9 ?_)))
 refine W.ok (Xa J2 rfl rfl) (g9 11 ?_)
 refine W.call (Mp := Ms_a) (Zs7 h_a) rfl (pmC pr9) ?_
 intro v32 G29 Ms31 hG29 q30
 refine match q30 with | ⟨e_34, eeq30⟩ => ?_
 subst e_34
 have eeq30 := eeq30.symm
 subst eeq30
 refine W.perm (pmC pr9).symm (g9 4 ?_)
 refine ⟨.inr rfl, [_], ⟨rfl, trivial⟩, ((b_s, ce9 139 [iV c.fan, iV c.leaf, iV c.bud, iV c.slots, iV c.rest, pt9 b_a]) :: (Ms_a ++ [])), sr9.k9, ?_⟩
 exact ⟨rfl, congrArg _ (List.append_nil _)⟩

theorem Ztp {G : GH} {b_s : Nat} {c : Cfg} {b_a : Nat} {a : List Nd × List Bool} {Ms_a : MH} (h_a : ArR ZA 60 4 3 189 b_a G a Ms_a) :
    Fc Tryz.prog 189 [pt9 b_s] G ((b_s, ce9 139 [iV c.fan, iV c.leaf, iV c.bud, iV c.slots, iV c.rest, pt9 b_a]) :: (Ms_a)) (fun v G' M' => v = iV ((Y2 a.2).length : Int) ∧ M' = (b_s, ce9 139 [iV c.fan, iV c.leaf, iV c.bud, iV c.slots, iV c.rest, pt9 b_a]) :: Ms_a) := by
 refine Fc.go [.tmp 2] Tryz.func189 Tryz.ntmps189 rfl (fun w0 => (WC.perm (M' := ((b_s, ce9 139 [iV c.fan, iV c.leaf, iV c.bud, iV c.slots, iV c.rest, pt9 b_a]) :: (Ms_a ++ []))) (by simp) (g9 9 ?_)))
 refine W.ok (Xa J2 rfl rfl) (g9 11 ?_)
 refine W.call (Mp := Ms_a) (Zs8 h_a) rfl (pmC pr9) ?_
 intro v38 G35 Ms37 hG35 q36
 refine match q36 with | ⟨e_40, eeq36⟩ => ?_
 subst e_40
 have eeq36 := eeq36.symm
 subst eeq36
 refine W.perm (pmC pr9).symm (g9 4 ?_)
 refine ⟨.inr rfl, [_], ⟨rfl, trivial⟩, ((b_s, ce9 139 [iV c.fan, iV c.leaf, iV c.bud, iV c.slots, iV c.rest, pt9 b_a]) :: (Ms_a ++ [])), sr9.k9, ?_⟩
 exact ⟨rfl, congrArg _ (List.append_nil _)⟩

theorem Zk4 {G : GH} {b_s : Nat} {c : Cfg} {b_a : Nat} {a : List Nd × List Bool} {Ms_a : MH} (h_a : ArR ZA 60 4 3 189 b_a G a Ms_a) {cs_x : List Value} {x : Nd} (h_x : NodeC G cs_x x) :
    Fc Tryz.prog 84 [pt9 b_s, .agg (List.toArray cs_x)] G ((b_s, ce9 139 [iV c.fan, iV c.leaf, iV c.bud, iV c.slots, iV c.rest, pt9 b_a]) :: (Ms_a)) (fun v G' M' => v = .tuple #[iV (Zbz a x).1.1, iV (Zbz a x).1.2] ∧ StA 60 4 3 189 139 b_s G' c (Zbz a x).2 M') := by
 obtain ⟨pa_x, pc_x, ka_x, kc_x, ma_x, mc_x, ra_x, rc_x, rfl, hp_x, hk_x, hm_x, hr_x, hok_x⟩ := h_x
 have hal : a.2.length ≤ 4096 := by obtain ⟨f, _, _, h, _⟩ := h_a; exact h
 have hai := Znz (x := Nd.zero) hal
 refine Fc.go [.tmp 4, .tmp 5] Tryz.func84 Tryz.ntmps84 rfl (fun w0 => (WC.perm (M' := ((b_s, ce9 139 [iV c.fan, iV c.leaf, iV c.bud, iV c.slots, iV c.rest, pt9 b_a]) :: (Ms_a ++ []))) (by simp) (g9 2 ?_)))
 refine W.box (L := [iV _, iV _, lV _ _ _, lV _ _ _, sV _, .bool _, iV _, iV _, lV _ _ _, lV _ _ _]) rfl rfl (fun b41 => (g9 8 ?_))
 refine W.ok (Xa J2 rfl rfl) (g9 11 ?_)
 refine W.ok (ZD (L := [iV _, iV _, lV _ _ _, lV _ _ _, sV _, .bool _, iV _, iV _, lV _ _ _, lV _ _ _]) J3 Zo rfl rfl rfl) (W.call (Mp := Ms_a) (Zs5 h_a (x := Nd.zero) ⟨_, _, _, _, _, _, _, _, rfl, SlR.nil, SlR.nil, SlR.nil, SlR.nil, Nd.zero_ok⟩) rfl (pmC (pmC pr9)) ?_)
 intro v45 G42 Ms44 hG42 q43
 refine match q43 with | ⟨e_47, hR46⟩ => ?_
 subst e_47
 refine W.perm (pmC (pmC pr9)).symm (g9 14 ?_)
 refine WC.cn (fun h20 p20 => ?_) (fun h20 p20 => ?_)
 ·refine g9 9 ?_
  refine ⟨.inr rfl, [_, _], ⟨rfl, rfl, trivial⟩, ((b_s, ce9 139 [iV c.fan, iV c.leaf, iV c.bud, iV c.slots, iV c.rest, pt9 b_a]) :: (Ms44 ++ [])), sr9.k9.cons _, ?_⟩
  have hE := Zh1 (a := a) (x := x) p20
  exact ⟨congrArg (fun r : Int × Int => Value.tuple #[iV r.1, iV r.2]) (congrArg Prod.fst hE).symm, StA.cast ⟨_, _, congrArg _ (List.append_nil _), hR46⟩ (congrArg Prod.snd hE).symm⟩
 refine g9 14 ?_
 refine W.call (Mp := ((b_s, ce9 139 [iV c.fan, iV c.leaf, iV c.bud, iV c.slots, iV c.rest, pt9 b_a]) :: Ms44)) (Mr := ((b41, ce9 60 [iV (Yk (a) Nd.zero).1.1, iV x.level, lV pa_x x.pivots.length pc_x, lV ka_x x.kids.length kc_x, sV x.high.b, .bool x.top, iV x.right, iV x.seen, lV ma_x x.msgs.length mc_x, lV ra_x x.rows.length rc_x]) :: [])) (Zk2 (c := c) hR46 (show NodeC _ _ { x with slot := (Yk a Nd.zero).1.1 } from ⟨_, _, _, _, _, _, _, _, rfl, (hp_x.mono hG42), (hk_x.mono hG42), (hm_x.mono hG42), (hr_x.mono hG42), ⟨hai, hok_x.2⟩⟩)) rfl (((pmC pr9).cons _).trans ((List.Perm.swap _ _ _).trans (pr9.cons _))) ?_
 intro v51 G48 Ms50 hG48 q49
 refine match q49 with | ⟨e_53, hS52⟩ => ?_
 subst e_53
 refine W.perm (pmC pr9).symm (g9 5 ?_)
 refine ⟨.inr rfl, [_, _], ⟨rfl, rfl, trivial⟩, (Ms50 ++ []), sr9.cons _, ?_⟩
 have hE := Zh0 (a := a) (x := x) p20
 exact ⟨congrArg (fun r : Int × Int => Value.tuple #[iV r.1, iV r.2]) (congrArg Prod.fst hE).symm, StA.cast (by have h := hS52; rw [List.append_nil]; exact h) (congrArg Prod.snd hE).symm⟩

theorem Ztq {G : GH} {b_s : Nat} {c : Cfg} {b_a : Nat} {a : List Nd × List Bool} {Ms_a : MH} (h_a : ArR ZA 60 4 3 189 b_a G a Ms_a) :
    Fc Tryz.prog 52 [pt9 b_s] G ((b_s, ce9 139 [iV c.fan, iV c.leaf, iV c.bud, iV c.slots, iV c.rest, pt9 b_a]) :: (Ms_a)) (fun v G' M' => SlR ZA G' v ((Xc a.2).map (fun i => Jw a i Nd.zero)) ∧ M' = (b_s, ce9 139 [iV c.fan, iV c.leaf, iV c.bud, iV c.slots, iV c.rest, pt9 b_a]) :: Ms_a) := by
 have hal : a.2.length ≤ 4096 := by obtain ⟨f, _, _, h, _⟩ := h_a; exact h
 have hul := ZhV a.2 a.2.length
 rw [← ZhW] at hul
 refine Fc.go [.tmp 2] Tryz.func52 Tryz.ntmps52 rfl (fun w0 => (WC.perm (M' := ((b_s, ce9 139 [iV c.fan, iV c.leaf, iV c.bud, iV c.slots, iV c.rest, pt9 b_a]) :: (Ms_a ++ []))) (by simp) (g9 14 ?_)))
 refine W.ok (Xa J2 rfl rfl) (g9 12 ?_)
 refine W.call (Mp := Ms_a) (Zs9 h_a) rfl (pmC pr9) ?_
 intro v57 G54 Ms56 hG54 q55
 refine match q55 with | ⟨hR58, eeq55⟩ => ?_
 have eeq55 := eeq55.symm
 subst eeq55
 refine W.perm (pmC pr9).symm ?_
 have q60 := hR58.form
 refine match q60 with | ⟨sa_hR58, sc_hR58, e_59⟩ => ?_
 subst e_59
 refine g9 5 ?_
 refine WC.loop (X := (Nat) × Value × MH) (fun k => [(16, nt9 k.1), (0, pt9 b_s), (14, lV sa_hR58 ((Xc (a).2)).length sc_hR58), (15, nt9 (((Xc (a).2)).length)), (3, k.2.1)]) (fun k G Ml => Ml = ((b_s, ce9 139 [iV c.fan, iV c.leaf, iV c.bud, iV c.slots, iV c.rest, pt9 b_a]) :: (k.2.2 ++ (Ms_a ++ []))) ∧ OwnR ZA 60 G k.2.1 (((Xc a.2).take k.1).map (fun i => Jw a i Nd.zero)) k.2.2 ∧ k.1 ≤ (Xc a.2).length) (fun k => (Xc a.2).length - k.1) (0, lV none 0 0, ([] : MH)) hs9 ?_ ?_
 ·exact ⟨rfl, (by simpa using OwnR.nil), om9⟩
 rintro ⟨k, v_3, M_3⟩ gG61 G61 _ hG61 ⟨rfl, ho_3, hk⟩
 try dsimp only at ho_3 hk
 refine WC.fr (f := ZX gG61 [(16, nt9 k), (0, pt9 b_s), (14, lV sa_hR58 ((Xc (a).2)).length sc_hR58), (15, nt9 (((Xc (a).2)).length)), (3, v_3)]) rfl (g9 6 ?_)
 refine WC.cd (fun h17 p17 => ?_) (fun h17 p17 => ?_)
 ·refine g9 6 ?_
  refine (hR58.mono hG61).a2 (i := k) om9 (fun he62 hi63 => (g9 9 ?_))
  refine W.call (Mp := ((b_s, ce9 139 [iV c.fan, iV c.leaf, iV c.bud, iV c.slots, iV c.rest, pt9 b_a]) :: Ms_a)) (Mr := (M_3 ++ [])) (Zk3 (c := c) (ArR.mono lec h_a) _) rfl (((pmA pr9).cons _).trans pr9) ?_
  intro v69 G66 Ms68 hG66 q67
  refine match q67 with | ⟨⟨_, e_71, ⟨_, _, _, _, _, _, _, _, e_72, hp_n70, hk_n70, hm_n70, hr_n70, hok_n70⟩⟩, e_73⟩ => ?_
  subst e_71
  subst e_72
  subst e_73
  refine W.perm (M' := ((b_s, ce9 139 [iV c.fan, iV c.leaf, iV c.bud, iV c.slots, iV c.rest, pt9 b_a]) :: (Ms_a ++ (M_3 ++ [])))) ((pr9.cons _).trans pr9).symm (g9 3 ?_)
  refine W.alloc Zo (fun b74 => (g9 7 ?_))
  refine W.lit (e := ZA) (l := [(Jw a ((Xc a.2)[k]'_) Nd.zero)]) (css := [[iV _, iV _, lV _ _ _, lV _ _ _, sV _, .bool _, iV _, iV _, lV _ _ _, lV _ _ _]]) Xm Yn Zo rfl rfl rfl rfl rfl rfl ⟨(nk9 hp_n70 hk_n70 hm_n70 hr_n70 hok_n70), trivial⟩ (fun bl75 G75 hG75 hv75 => (W.app (e := ZA) Xm Yn Zo rfl Zaf rfl rfl ((ho_3.mono lec)) (hv75) (pmC (pmC (pmA pr9))) (by show (List.length _ + 1) * 152 ≤ _; rw [List.length_map, List.length_take]; omega) (fun v76 Ms77 ho78 => (W.perm (pmC (pmC pr9)).symm (g9 7 ?_)))))
  refine W.sub (sr9.cons _) (g9 2 ?_)
  exact ⟨lec, (k + 1, v76, Ms77), hs9, ⟨rfl, (by have h := ho78; rw [List.take_succ_eq_append_getElem om9, List.map_append]; exact h), om9⟩, om9⟩
 refine g9 11 ?_
 refine WC.giveO ho_3 (pmC pr9) (fun G79 hG79 hv79 => (WC.ret ?_))
 refine ⟨.inr rfl, [_], ⟨rfl, trivial⟩, ((b_s, ce9 139 [iV c.fan, iV c.leaf, iV c.bud, iV c.slots, iV c.rest, pt9 b_a]) :: (Ms_a ++ [])), sr9.k9, ?_⟩
 exact ⟨SlR.cast hv79 (by rw [List.take_of_length_le om9]), congrArg _ (List.append_nil _)⟩

end Go.Proofs.YtbbemibbmbmamaaGreat

namespace Go.Fw
open Go Go.RowKit
structure VEnc (α : Type) where
 R : GH → Value → α → Prop
 mono : ∀ {G G' : GH} {v a}, Le G G' → R G v a → R G' v a
def Zd3 : VEnc Bool := ⟨fun _ v b => v = .bool b, fun _ h => h⟩
section
variable {α : Type}
def MpE (V : VEnc α) (G : GH) : List MapEntry → List (Int × α) → Prop
 | [], [] => True
 | e :: es, p :: m => e.key = .int .i64 p.1 ∧ V.R G e.val p.2 ∧ MpE V G es m
 | _, _ => False
theorem MpE.mono {V : VEnc α} {G G' : GH} (hl : Le G G') : ∀ {es : List MapEntry} {m : List (Int × α)}, MpE V G es m → MpE V G' es m
 | [], [], _ => trivial
 | e :: es, p :: m, h => ⟨h.1, V.mono hl h.2.1, h.2.2.mono hl⟩
 | [], _ :: _, h => h.elim
 | _ :: _, [], h => h.elim
def Xz (m : List (Int × α)) (k : Int) : Option α := (m.find? fun p => decide (p.1 = k)).map (·.2)
def X8 : List (Int × α) → Int → α → List (Int × α)
 | [], k, a => [(k, a)]
 | p :: m, k, a => if p.1 = k then (k, a) :: m else p :: X8 m k a
def Zb1 : List (Int × α) → Int → List (Int × α)
 | [], _ => []
 | p :: m, k => if p.1 = k then m else p :: Zb1 m k
theorem ZaO (p : Int × α) (m : List (Int × α)) (k : Int) : Xz (p :: m) k = if p.1 = k then some p.2 else Xz m k := by
 unfold Xz
 by_cases h : p.1 = k
 ·rw [List.find?_cons_of_pos (by simpa using h), if_pos h]; rfl
 ·rw [List.find?_cons_of_neg (by simpa using h), if_neg h]
theorem Zk5 : ∀ (m : List (Int × α)) (k : Int) (a : α) (j : Int), Xz (X8 m k a) j = if j = k then some a else Xz m j
 | [], k, a, j => by
  rw [X8, ZaO]
  by_cases h : k = j
  ·rw [if_pos h, if_pos h.symm]
  ·rw [if_neg h, if_neg (fun e => h e.symm)]
 | p :: m, k, a, j => by
  rw [X8]
  by_cases hp : p.1 = k
  ·rw [if_pos hp, ZaO, ZaO]
   by_cases h : k = j
   ·rw [if_pos h, if_pos h.symm]
   ·rw [if_neg h, if_neg (fun e => h e.symm), if_neg (by rw [hp]; exact h)]
  ·rw [if_neg hp, ZaO, ZaO, Zk5 m k a j]
   by_cases h : p.1 = j
   ·rw [if_pos h, if_pos h, if_neg (fun e => hp (h.trans e))]
   ·rw [if_neg h, if_neg h]
theorem Zk6 (k j : Int) : Instr.sameNow (.int .i64) (.int .i64 k) (.int .i64 j) = some (k == j) := by simp [Instr.sameNow]
theorem Zgu {V : VEnc α} {G : GH} {k : Int} : ∀ {es : List MapEntry} {m : List (Int × α)} (i : Nat), MpE V G es m →
  (Xz m k = none ∧ Instr.findNow (.int .i64) (.int .i64 k) es i = some none ∧ (∀ x a n, V.R G x a → MpE V G (es ++ [⟨.int .i64 k, x, n⟩]) (X8 m k a)) ∧ Zb1 m k = m) ∨
  ∃ j e a, Xz m k = some a ∧ es[j]? = some e ∧ Instr.findNow (.int .i64) (.int .i64 k) es i = some (some (i + j, e.val)) ∧ e.key = .int .i64 k ∧ V.R G e.val a ∧
   (∀ x b, V.R G x b → MpE V G (es.modify j fun e => { e with key := .int .i64 k, val := x }) (X8 m k b)) ∧ MpE V G (es.eraseIdx j) (Zb1 m k)
 | [], [], i, _ => .inl ⟨rfl, rfl, fun x a n hx => ⟨rfl, hx, trivial⟩, rfl⟩
 | e :: es, p :: m, i, h => by
  by_cases hk : p.1 = k
  ·refine .inr ⟨0, e, p.2, by rw [ZaO, if_pos hk], rfl, ?_, by rw [h.1, hk], h.2.1, fun x b hx => ?_, ?_⟩
   ·rw [Instr.findNow, h.1, Zk6, hk]; simp
   ·rw [X8, if_pos hk]
    simp only [List.modify_zero_cons]
    exact ⟨rfl, hx, h.2.2⟩
   ·rw [Zb1, if_pos hk]; exact h.2.2
  ·have hf : ∀ i, Instr.findNow (.int .i64) (.int .i64 k) (e :: es) i = Instr.findNow (.int .i64) (.int .i64 k) es (i + 1) := fun i => by
    rw [Instr.findNow, h.1, Zk6]
    have : (k == p.1) = false := by simpa using fun e => hk e.symm
    rw [this]
   rcases Zgu (V := V) (k := k) (i + 1) h.2.2 with ⟨h1, h2, h3, h4⟩ | ⟨j, e', a, h1, h2, h3, h4, h5, h6, h7⟩
   ·refine .inl ⟨by rw [ZaO, if_neg hk]; exact h1, by rw [hf]; exact h2, fun x a n hx => ?_, by rw [Zb1, if_neg hk, h4]⟩
    rw [X8, if_neg hk]
    exact ⟨h.1, h.2.1, h3 x a n hx⟩
   ·refine .inr ⟨j + 1, e', a, by rw [ZaO, if_neg hk]; exact h1, by simpa using h2, by rw [hf, h3]; congr 3; omega, h4, h5, fun x b hx => ?_, ?_⟩
    ·rw [X8, if_neg hk]
     simp only [List.modify_succ_cons]
     exact ⟨h.1, h.2.1, h6 x b hx⟩
    ·rw [Zb1, if_neg hk]
     exact ⟨h.1, h.2.1, h7⟩
 | [], _ :: _, _, h => h.elim
 | _ :: _, [], _, h => h.elim
def Zbd (P : Program) (t : TypeId) : Option TypeId :=
 match P.underlying t with
 | some (.map kt e) => match P.underlying kt with
  | some (.int .i64) => some e
  | _ => none
 | _ => none
theorem Zk7 {P : Program} {t e : TypeId} (h : Zbd P t = some e) : ∃ kt, P.underlying t = some (.map kt e) ∧ P.underlying kt = some (.int .i64) ∧ ∀ b n v (w : World), (Instr.checkKey b (n + 1) kt v).run P w = .ok () w := by
 unfold Zbd at h
 split at h
 ·rename_i kt e' h1
  split at h
  ·rename_i h2
   cases h
   refine ⟨kt, h1, h2, fun b n v w => ?_⟩
   simp only [Instr.checkKey, Sem.run_bind, run_underlying h2, Result.andThen_ok]
   rfl
  ·cases h
 ·cases h
def MpR (V : VEnc α) (b : Nat) (G : GH) (m : List (Int × α)) (M : MH) : Prop := ∃ (es : List MapEntry) (clock : Nat), M = [(b, .map es.toArray clock)] ∧ MpE V G es m
theorem MpR.mono {V : VEnc α} {b : Nat} {G G' : GH} {m : List (Int × α)} {M : MH} (hl : Le G G') (h : MpR V b G m M) : MpR V b G' m M := by
 obtain ⟨es, c, h1, h2⟩ := h; exact ⟨es, c, h1, h2.mono hl⟩
end
section
variable {α : Type} {E : Env} {f : Fr} {G : GH} {M Mk Ms Mr : MH} {ops rest : List Oper} {q : Bool} {K : Kt} {d : Nat} {ty : TypeId} {pos : String} {aft : Array Edge} {t et : TypeId} {x y kk : Operand} {b : Nat} {k : Int} {m : List (Int × α)} {V : VEnc α}
def zvK (P : Program) (t : TypeId) : Option Value := (P.info? t).bind (·.zero)
theorem Ztr {P : Program} {es : List MapEntry} {clock : Nat} {z0 : Value} {z : α} (ht : Zbd P t = some et) (hz : zvK P et = some z0) (hzz : V.R G z0 z) (he : MpE V G es m) :
  ∃ v, V.R G v ((Xz m k).getD z) ∧ ∀ (w : World) (ok : Bool), w.heap[b]? = some (.map es.toArray clock) → (Instr.lookup t (.map (some b)) (.int .i64 k) ok).run P w = .ok (if ok = true then .tuple #[v, .bool (Xz m k).isSome] else v) w := by
 obtain ⟨kt, h1, h2, h3⟩ := Zk7 ht
 have hzv : ∀ w, (zeroValue et).run P w = .ok z0 w := fun w => by
  unfold zvK at hz
  cases hi : P.info? et with
  | none => rw [hi] at hz; cases hz
  | some info => rw [hi] at hz; simp at hz; simp [zeroValue, typeInfo, hi, hz]
 rcases Zgu (k := k) 0 he with ⟨g1, g2, _, _⟩ | ⟨j, e, a, g1, g2, g3, g4, g5, _, _⟩
 ·refine ⟨z0, by rw [g1]; exact hzz, fun w ok hb => ?_⟩
  have hgo := MapKept.run_getObj_map (P := P) hb
  have hfk := MapKept.run_findKey (P := P) (w := w) h2 g2
  simp only [Instr.lookup, Sem.run_bind, run_underlying h1, Result.andThen_ok, hgo, Sem.run_pure]
  rw [h3]
  simp only [Result.andThen_ok]
  rw [hfk, g1]
  simp [hzv]
 ·refine ⟨e.val, by rw [g1]; exact g5, fun w ok hb => ?_⟩
  have hgo := MapKept.run_getObj_map (P := P) hb
  have hfk := MapKept.run_findKey (P := P) (w := w) h2 g3
  simp only [Instr.lookup, Sem.run_bind, run_underlying h1, Result.andThen_ok, hgo, Sem.run_pure]
  rw [h3]
  simp only [Result.andThen_ok]
  rw [hfk, g1]
  simp
theorem Zts {es : List MapEntry} {clock : Nat} (hp : ([(b, Obj.map es.toArray clock)] ++ Mr).Perm M) {w : World} (hr : E.real G M w) : w.heap[b]? = some (.map es.toArray clock) :=
 hr.r.mu (b, .map es.toArray clock) (hp.mem_iff.1 (by simp))
theorem Ztt {z0 : Value} {z : α} {ok : Bool} (ht : Zbd E.P t = some et) (hz : zvK E.P et = some z0) (hzz : V.R G z0 z) (hx : ev f x = .map (some b)) (hk : ev f kk = .int .i64 k) (hm : MpR V b G m Ms) (hp : (Ms ++ Mr).Perm M) :
  ∃ v, V.R G v ((Xz m k).getD z) ∧ Ok E f G M ⟨some d, .lookup t x kk ok, ty, pos, aft, none⟩ (if ok = true then .tuple #[v, .bool (Xz m k).isSome] else v) := by
 obtain ⟨es, clock, rfl, he⟩ := hm
 obtain ⟨v, h1, h2⟩ := Ztr (b := b) (clock := clock) (k := k) ht hz hzz he
 refine ⟨v, h1, fun w hr => ?_⟩
 have := h2 w ok (Zts hp hr)
 simp [execOp, hx, hk, this]
theorem Ztu {es : List MapEntry} {clock : Nat} {o : Obj} {w : World} (hr : E.real G ((b, Obj.map es.toArray clock) :: Mr) w) : E.real G ((b, o) :: Mr) { w with heap := w.heap.setIfInBounds b o } :=
 ⟨Real.set (M₁ := []) hr.r, hr.le, hr.nw⟩
theorem W.mapUp {v : Value} {a : α} (ht : Zbd E.P t = some et) (hx : ev f x = .map (some b)) (hk : ev f kk = .int .i64 k) (hy : ev f y = v) (hm : MpR V b G m Ms) (hp : (Ms ++ Mr).Perm M) (ha : V.R G v a)
  (h : ∀ Ms', MpR V b G (X8 m k a) Ms' → W E ops.toArray false rest f G (Ms' ++ Mr) K) : W E ops.toArray false (⟨none, .mapUpdate t x kk y, ty, pos, aft, none⟩ :: rest) f G M K := by
 intro a' w Q hi hr0 hK
 obtain ⟨es, clock, rfl, he⟩ := hm
 have hr := hr0.perm hp
 obtain ⟨kt, h1, h2, h3⟩ := Zk7 ht
 have hb : w.heap[b]? = some (.map es.toArray clock) := hr.r.mu (b, .map es.toArray clock) (by simp)
 have hgo := MapKept.run_getObj_map (P := E.P) hb
 have key : ∃ es' clock', MpE V G es' (X8 m k a) ∧ (Instr.mapUpdate t (.map (some b)) (.int .i64 k) v).run E.P w = .ok () { w with heap := w.heap.setIfInBounds b (.map es'.toArray clock') } := by
  rcases Zgu (k := k) 0 he with ⟨g1, g2, g3, _⟩ | ⟨j, e, a2, g1, g2, g3, g4, g5, g6, _⟩
  ·refine ⟨_, clock + 1, g3 v a clock ha, ?_⟩
   have hfk := MapKept.run_findKey (P := E.P) (w := w) h2 g2
   have hset := MapKept.run_setObj_map (P := E.P) (.map (es.toArray.push ⟨.int .i64 k, v, clock⟩) (clock + 1)) hb
   simp only [Instr.mapUpdate, Sem.run_bind, run_underlying h1, Result.andThen_ok, hgo]
   rw [h3]
   simp only [Result.andThen_ok]
   rw [hfk]
   simp only [Result.andThen_ok, hset]
   congr 4
   simp
  ·refine ⟨_, clock, g6 v a ha, ?_⟩
   rw [Nat.zero_add] at g3
   have hfk := MapKept.run_findKey (P := E.P) (w := w) h2 g3
   have hset := MapKept.run_setObj_map (P := E.P) (.map (es.toArray.modify j fun e => { e with key := .int .i64 k, val := v }) clock) hb
   simp only [Instr.mapUpdate, Sem.run_bind, run_underlying h1, Result.andThen_ok, hgo]
   rw [h3]
   simp only [Result.andThen_ok]
   rw [hfk]
   have hsb : Instr.sameBits 10000 (((es.toArray[j]?).map (·.key)).getD (.int .i64 k)) (.int .i64 k) = true := by
    simp [g2, g4, Instr.sameBits]
   simp only [Result.andThen_ok, Instr.keyThatStays, hsb, if_true, Sem.run_pure]
   simp only [Sem.run_bind, Sem.run_pure, Result.andThen_ok, hset]
   congr 4
   simp
 obtain ⟨es', clock', k1, k2⟩ := key
 have hrun : (execOp (ev f) ⟨none, .mapUpdate t x kk y, ty, pos, aft, none⟩).run E.P w = .ok .skip { w with heap := w.heap.setIfInBounds b (.map es'.toArray clock') } := by
  simp [execOp, hx, hk, hy, k2]
 refine wpList_plain rfl fun K' hK' => ?_
 unfold Oper.wp
 rw [hi.eval, hrun]
 exact hK' _ _ (h _ ⟨es', clock', rfl, k1⟩ _ _ Q (hi.put_none undef) (Ztu hr) hK)
theorem W.makeMap (h : ∀ b, MpR V b G [] [(b, .map #[] 0)] → W E ops.toArray false rest (upd f d (.map (some b))) G ((b, .map #[] 0) :: M) K) (hd : Nat.blt d E.n = true := by rfl) :
  W E ops.toArray false (⟨some d, .makeMap t none, ty, pos, aft, none⟩ :: rest) f G M K := by
 intro a w Q hi hr hK
 have hrun : (execOp (ev f) ⟨some d, .makeMap t none, ty, pos, aft, none⟩).run E.P w = .ok (.value (.map (some w.heap.size))) (w.alloc (.map #[] 0)) := by
  have h0 : (Instr.makeMap t none).run E.P w = .ok (.map (some w.heap.size)) (w.alloc (.map #[] 0)) := by simp [Instr.makeMap, newObj, Sem.run, bind, Sem.bind, pure]
  simp [execOp, h0]
 refine wpList_plain rfl fun K' hK' => ?_
 unfold Oper.wp
 rw [hi.eval, hrun]
 exact hK' _ _ (h _ ⟨[], 0, rfl, trivial⟩ _ _ Q (hi.put hd _) (hr.alloc _) hK)
end
theorem Ztv {s : Int} (hs : i64 s) : (XE s).Ok := ⟨hs, ⟨by show (-9223372036854775808 : Int) ≤ 0; omega, by show (0 : Int) ≤ 9223372036854775807; omega⟩, ⟨by show (-9223372036854775808 : Int) ≤ -1; omega, by show (-1 : Int) ≤ 9223372036854775807; omega⟩, ⟨by show (-9223372036854775808 : Int) ≤ 0; omega, by show (0 : Int) ≤ 9223372036854775807; omega⟩⟩
theorem Ztw {n : Nat} (h : 0 < n) : Ym n [] = Ym n [] ∧ JO n [] (XE 0) = ((0, 0), [XE 0]) := ⟨rfl, by rw [ZeY (by simpa using h)]; rfl⟩
end Go.Fw

namespace Go.Fw
abbrev Ls := List (List Msg)
def stN (l : List Msg) : Int := Hd.st (l, 0)
theorem Zgv {l : List Msg} (h : 0 < l.length) : stN l = l[0].stamp := Hd.st_at (a := (l, 0)) h
structure Best (cur : Ls) (b : Nat) : Prop where
 lt : b < cur.length
 ne : 0 < cur[b].length
 min : ∀ j (h : j < cur.length), 0 < cur[j].length → stN cur[b] ≤ stN cur[j] ∧ (j < b → stN cur[b] < stN cur[j])
theorem Best.uniq {cur : Ls} {b c : Nat} (hb : Best cur b) (hc : Best cur c) : b = c := by
 have h1 := hb.min c hc.lt hc.ne
 have h2 := hc.min b hb.lt hb.ne
 rcases Nat.lt_trichotomy b c with h | h | h
 ·have := h2.2 h; omega
 ·exact h
 ·have := h1.2 h; omega
def YI (cur : Ls) : Nat := (cur.map List.length).sum
theorem Zgw (a b : Ls) : YI (a ++ b) = YI a + YI b := by simp [YI]
theorem ZaP (a : List Msg) (b : Ls) : YI (a :: b) = a.length + YI b := by simp [YI]
open Classical in
noncomputable def Zb2 : Nat → Ls → List Msg
 | 0, _ => []
 | f + 1, cur => if h : ∃ b, Best cur b then (cur[h.choose]'(h.choose_spec.lt))[0]'(h.choose_spec.ne) :: Zb2 f (cur.set h.choose ((cur[h.choose]'(h.choose_spec.lt)).drop 1)) else []
noncomputable def ZO (cur : Ls) : List Msg := Zb2 (YI cur) cur
theorem Ztx {f : Nat} {cur : Ls} {b : Nat} (hb : Best cur b) : Zb2 (f + 1) cur = (cur[b]'hb.lt)[0]'hb.ne :: Zb2 f (cur.set b ((cur[b]'hb.lt).drop 1)) := by
 have h : ∃ b, Best cur b := ⟨b, hb⟩
 have e : h.choose = b := h.choose_spec.uniq hb
 rw [Zb2, dif_pos h]
 simp only [e]
theorem Zd4 {cur : Ls} {b : Nat} (h : b < cur.length) (t : List Msg) : cur.set b t = cur.take b ++ t :: cur.drop (b + 1) := by
 rw [List.set_eq_take_append_cons_drop, if_pos h]
theorem Zd5 {cur : Ls} {b : Nat} (h : b < cur.length) : cur = cur.take b ++ cur[b] :: cur.drop (b + 1) := by
 rw [← List.drop_eq_getElem_cons h, List.take_append_drop]
theorem Zas {cur : Ls} {b : Nat} (hb : Best cur b) : YI (cur.set b ((cur[b]'hb.lt).drop 1)) + 1 = YI cur := by
 have h := hb.ne
 rw [Zd4 hb.lt]
 conv => rhs; rw [Zd5 hb.lt]
 rw [Zgw, Zgw, ZaP, ZaP, List.length_drop]
 omega
theorem Zb3 {cur : Ls} {b : Nat} (hb : Best cur b) : ZO cur = (cur[b]'hb.lt)[0]'hb.ne :: ZO (cur.set b ((cur[b]'hb.lt).drop 1)) := by
 unfold ZO
 rw [← Zas hb, Ztx hb]
theorem Zty {cur : Ls} (h : ∀ i (hi : i < cur.length), cur[i].length = 0) : YI cur = 0 := by
 unfold YI
 rw [List.sum_eq_zero_iff_forall_eq_nat]
 intro x hx
 obtain ⟨l, hl, rfl⟩ := List.mem_map.1 hx
 obtain ⟨i, hi, rfl⟩ := List.getElem_of_mem hl
 exact h i hi
theorem Zb4 {cur : Ls} (h : ∀ i (hi : i < cur.length), cur[i].length = 0) : ZO cur = [] := by
 unfold ZO
 rw [Zty h]; rfl
def Z5 (k : Int) : Ls → List Hd
 | [] => []
 | l :: ls => (if 0 < l.length then [(l, k)] else []) ++ Z5 (k + 1) ls
theorem Zb5 : ∀ (a b : Ls) (k : Int), Z5 k (a ++ b) = Z5 k a ++ Z5 (k + a.length) b
 | [], b, k => by simp [Z5]
 | l :: a, b, k => by
  have e : k + ((l :: a).length : Nat) = k + 1 + (a.length : Nat) := by simp; omega
  rw [e]
  simp only [List.cons_append, Z5, Zb5 a b, List.append_assoc]
theorem Zgx : ∀ (ls : Ls) (k : Int), (Z5 k ls).length ≤ ls.length
 | [], _ => Nat.le_refl _
 | l :: ls, k => by
  have := Zgx ls (k + 1)
  unfold Z5
  split <;> simp <;> omega
theorem Zd6 : ∀ {ls : Ls} {k : Int} {h : Hd}, h ∈ Z5 k ls ↔ ∃ i, ∃ hi : i < ls.length, h = (ls[i], k + (i : Nat)) ∧ 0 < ls[i].length
 | [], k, h => by simp [Z5]
 | l :: ls, k, h => by
  rw [Z5, List.mem_append, Zd6]
  constructor
  ·rintro (h1 | ⟨i, hi, h1, h2⟩)
   ·split at h1
    ·rename_i h3
     rw [List.mem_singleton] at h1
     exact ⟨0, by simp, by simp [h1], h3⟩
    ·cases h1
   ·exact ⟨i + 1, by simp; omega, by rw [h1]; simp; omega, by simpa using h2⟩
  ·rintro ⟨i, hi, h1, h2⟩
   cases i with
   | zero =>
    left
    have h2 : 0 < l.length := h2
    rw [if_pos h2]
    simp [h1]
   | succ i => exact .inr ⟨i, by simp at hi; omega, by rw [h1]; simp; omega, by simpa using h2⟩
theorem Ztz {H : List Hd} {ls : Ls} {k : Nat} (hk : k < ls.length) (hp : H.Perm (Z5 0 (ls.take k))) (hne : 0 < ls[k].length) : ((ls[k], (k : Int)) :: H).Perm (Z5 0 (ls.take (k + 1))) := by
 rw [List.take_succ_eq_append_getElem hk, Zb5]
 have e : (List.take k ls).length = k := by rw [List.length_take]; omega
 rw [e]
 simp only [Z5, if_pos hne, Int.zero_add, List.append_nil]
 exact (List.perm_append_singleton _ _).symm.trans (hp.append_right _)
theorem ZtA {H : List Hd} {ls : Ls} {k : Nat} (hk : k < ls.length) (hp : H.Perm (Z5 0 (ls.take k))) (hne : ¬ 0 < ls[k].length) : H.Perm (Z5 0 (ls.take (k + 1))) := by
 rw [List.take_succ_eq_append_getElem hk, Zb5]
 simp only [Z5, if_neg hne, List.append_nil]
 exact hp
theorem ZtB {H : List Hd} {cur : Ls} (hH : Heap Hd.lt H) (hp : H.Perm (Z5 0 cur)) (hl : 0 < H.length) : ∃ b, ∃ hb : Best cur b, nth H 0 = (cur[b]'hb.lt, (b : Int)) := by
 have hm : H[0] ∈ Z5 0 cur := hp.mem_iff.1 (List.getElem_mem hl)
 obtain ⟨b, hb, e, hne⟩ := Zd6.1 hm
 rw [Int.zero_add] at e
 refine ⟨b, ⟨hb, hne, fun j hj hjn => ?_⟩, by rw [Yj hl]; exact e⟩
 have hm2 : (cur[j], ((j : Nat) : Int)) ∈ H := hp.mem_iff.2 (Zd6.2 ⟨j, hj, by rw [Int.zero_add], hjn⟩)
 obtain ⟨c, hc, e2⟩ := List.getElem_of_mem hm2
 have := ZeQ Hd.lo hH c hc
 rw [Yj hc, Yj hl, e, e2] at this
 have h5 : (decide (stN cur[j] < stN cur[b]) || (decide (stN cur[j] = stN cur[b]) && decide (((j : Nat) : Int) < ((b : Nat) : Int)))) = false := this
 simp only [Bool.or_eq_false_iff, Bool.and_eq_false_iff, decide_eq_false_iff_not] at h5
 omega
theorem Zk8 {H H' : List Hd} {cur : Ls} {b : Nat} (hb : Best cur b) (hp : H.Perm (Z5 0 cur)) (h : ((cur[b]'hb.lt, (b : Int)) :: H').Perm H) :
  H'.Perm (Z5 0 (cur.take b) ++ Z5 (b + 1) (cur.drop (b + 1))) := by
 have e : Z5 0 cur = Z5 0 (cur.take b) ++ (cur[b]'hb.lt, (b : Int)) :: Z5 (b + 1) (cur.drop (b + 1)) := by
  conv => lhs; rw [Zd5 hb.lt]
  rw [Zb5]
  have e : (List.take b cur).length = b := by rw [List.length_take]; have := hb.lt; omega
  rw [e]
  simp only [Z5, if_pos hb.ne, Int.zero_add, List.singleton_append]
 rw [e] at hp
 exact List.Perm.cons_inv (h.trans (hp.trans List.perm_middle))
theorem ZtC {cur : Ls} {b : Nat} (hb : b < cur.length) {t : List Msg} (ht : 0 < t.length) : Z5 0 (cur.set b t) = Z5 0 (cur.take b) ++ (t, (b : Int)) :: Z5 (b + 1) (cur.drop (b + 1)) := by
 rw [Zd4 hb, Zb5]
 have e : (List.take b cur).length = b := by rw [List.length_take]; omega
 rw [e]
 simp only [Z5, if_pos ht, Int.zero_add, List.singleton_append]
theorem ZtD {cur : Ls} {b : Nat} (hb : b < cur.length) {t : List Msg} (ht : ¬ 0 < t.length) : Z5 0 (cur.set b t) = Z5 0 (cur.take b) ++ Z5 (b + 1) (cur.drop (b + 1)) := by
 rw [Zd4 hb, Zb5]
 have e : (List.take b cur).length = b := by rw [List.length_take]; omega
 rw [e]
 simp only [Z5, if_neg ht, Int.zero_add, List.nil_append]
theorem Zk9 {H : List Hd} {cur : Ls} {b : Nat} (hH : Heap Hd.lt H) (hp : H.Perm (Z5 0 cur)) (hl : 0 < H.length) (hb : Best cur b) (he : nth H 0 = (cur[b]'hb.lt, (b : Int))) {el : Hd} (hel : el = ((cur[b]'hb.lt).drop 1, (b : Int))) (ht : 0 < el.1.length) :
  Heap Hd.lt (Zab Hd.lt (Y1 Hd.lt H) el) ∧ (Zab Hd.lt (Y1 Hd.lt H) el).Perm (Z5 0 (cur.set b ((cur[b]'hb.lt).drop 1))) := by
 obtain ⟨h1, h2, h3⟩ := Zda Hd.lo hH hl
 obtain ⟨h4, h5⟩ := ZeR Hd.lo h1 el
 refine ⟨h4, h5.trans ?_⟩
 rw [he] at h2
 subst hel
 rw [ZtC hb.lt ht]
 exact ((Zk8 hb hp h2).cons _).trans List.perm_middle.symm
theorem Zla {H : List Hd} {cur : Ls} {b : Nat} (hH : Heap Hd.lt H) (hp : H.Perm (Z5 0 cur)) (hl : 0 < H.length) (hb : Best cur b) (he : nth H 0 = (cur[b]'hb.lt, (b : Int))) (ht : ¬ 0 < ((cur[b]'hb.lt).drop 1).length) :
  Heap Hd.lt (Y1 Hd.lt H) ∧ (Y1 Hd.lt H).Perm (Z5 0 (cur.set b ((cur[b]'hb.lt).drop 1))) := by
 obtain ⟨h1, h2, h3⟩ := Zda Hd.lo hH hl
 rw [he] at h2
 rw [ZtD hb.lt ht]
 exact ⟨h1, Zk8 hb hp h2⟩
theorem ZtE {H : List Hd} {cur : Ls} (hp : H.Perm (Z5 0 cur)) (h0 : H.length = 0) : ZO cur = [] := by
 refine Zb4 fun i hi => ?_
 cases hc : cur[i].length with
 | zero => rfl
 | succ n =>
  have hm : (cur[i], ((i : Nat) : Int)) ∈ H := hp.mem_iff.2 (Zd6.2 ⟨i, hi, by rw [Int.zero_add], om9⟩)
  rw [List.eq_nil_of_length_eq_zero h0] at hm; cases hm
theorem Zlb : ∀ (n : Nat) (cur : Ls), YI cur = n → (ZO cur).length ≤ n
 | 0, cur, h => by unfold ZO; rw [h]; exact Nat.le_refl _
 | n + 1, cur, h => by
  by_cases hb : ∃ b, Best cur b
  ·obtain ⟨b, hb⟩ := hb
   rw [Zb3 hb, List.length_cons]
   have := Zlb n (cur.set b ((cur[b]'hb.lt).drop 1)) (by have := Zas hb; omega)
   omega
  ·unfold ZO; rw [h, Zb2, dif_neg hb]; simp
theorem Zgy (cur : Ls) : (ZO cur).length ≤ YI cur := Zlb _ cur rfl
end Go.Fw

namespace Go.Fw
abbrev nats (ps : List Nat) : List Int := ps.map fun n : Nat => (n : Int)
def Y8 (ls : Ls) (ps : List Nat) : Ls := List.zipWith (fun l p => l.drop p) ls ps
theorem Zd7 {ls : Ls} {ps : List Nat} (h : ps.length = ls.length) : (Y8 ls ps).length = ls.length := by simp [Y8, h]
theorem Zbe {ls : Ls} {ps : List Nat} {i : Nat} (h : i < ls.length) (h2 : i < ps.length) (h3 : i < (Y8 ls ps).length) : (Y8 ls ps)[i] = ls[i].drop ps[i] := by simp [Y8]
theorem ZcU {ls : Ls} {ps : List Nat} {i : Nat} (h : i < ls.length) (h2 : i < ps.length) (h3 : i < (Y8 ls ps).length) : (Y8 ls ps)[i].length = ls[i].length - ps[i] := by rw [Zbe h h2, List.length_drop]
theorem ZtF (ls : Ls) : Y8 ls (List.replicate ls.length 0) = ls := by
 refine List.ext_getElem (by rw [Zd7 (by simp)]) fun i h1 h2 => ?_
 rw [Zbe h2 (by simpa using h2)]
 simp
theorem Zd8 {ls : Ls} {ps : List Nat} {i : Nat} (h : i < ls.length) (h2 : i < ps.length) (h3 : i < (Y8 ls ps).length) (h4 : ps[i] < ls[i].length) : stN (Y8 ls ps)[i] = (ls[i])[ps[i]].stamp := by
 rw [Zbe h h2, Zgv (by rw [List.length_drop]; omega), List.getElem_drop]
 simp
theorem ZtG {ls : Ls} {ps : List Nat} {i : Nat} (h : i < ls.length) (h2 : i < ps.length) (h3 : i < (Y8 ls ps).length) (h4 : ps[i] < ls[i].length) (h5 : 0 < (Y8 ls ps)[i].length) : ((Y8 ls ps)[i])[0] = (ls[i])[ps[i]] := by
 rw [List.getElem_of_eq (Zbe h h2 h3) h5, List.getElem_drop]
 simp
theorem Zlc {ls : Ls} {ps : List Nat} {b : Nat} (hl : ps.length = ls.length) (h : b < ls.length) (h2 : b < ps.length) (h3 : b < (Y8 ls ps).length) : (Y8 ls ps).set b ((Y8 ls ps)[b].drop 1) = Y8 ls (ps.set b (ps[b] + 1)) := by
 have e1 := Zd7 hl
 have e2 := Zd7 (ls := ls) (ps := ps.set b (ps[b] + 1)) (by rw [List.length_set]; exact hl)
 refine List.ext_getElem (by rw [List.length_set]; omega) fun i h4 h5 => ?_
 have e3 := Zbe (ls := ls) (ps := ps.set b (ps[b] + 1)) (i := i) om9 (by rw [List.length_set]; omega) h5
 rw [e3, List.getElem_set, List.getElem_set]
 split
 ·rename_i e
  subst e
  rw [Zbe h h2, List.drop_drop]
 ·rw [Zbe om9 om9]
theorem ZtH {ls : Ls} {i : Nat} (h : i < ls.length) : ls[i].length ≤ YI ls := by
 conv => rhs; rw [Zd5 h]
 rw [Zgw, ZaP]; omega
theorem Zld {f : List Msg → List Msg} (hf : ∀ l, (f l).length ≤ l.length) : ∀ (ls : Ls), YI (ls.map f) ≤ YI ls
 | [] => Nat.le_refl _
 | l :: ls => by
  have := hf l
  have ih := Zld hf ls
  rw [List.map_cons, ZaP, ZaP]; omega
def BI (C : Ls) (j : Nat) (c : Int) : Prop := (c = -1 ∧ ∀ q (h : q < C.length), q < j → C[q].length = 0) ∨
 ∃ b : Nat, ∃ h : b < C.length, c = b ∧ b < j ∧ 0 < C[b].length ∧ ∀ q (hq : q < C.length), q < j → 0 < C[q].length → stN C[b] ≤ stN C[q] ∧ (q < b → stN C[b] < stN C[q])
theorem BI_nil (C : Ls) : BI C 0 (-1) := .inl ⟨rfl, fun q _ h => by omega⟩
theorem BI_skip {C : Ls} {j : Nat} {c : Int} (h : BI C j c) (hj : j < C.length) (hz : C[j].length = 0) : BI C (j + 1) c := by
 rcases h with ⟨h1, h2⟩ | ⟨b, hb, h1, h2, h3, h4⟩
 ·exact .inl ⟨h1, fun q hq hqj => by
   by_cases e : q = j
   ·subst e; exact hz
   ·exact h2 q hq om9⟩
 ·exact .inr ⟨b, hb, h1, om9, h3, fun q hq hqj hn => by
   by_cases e : q = j
   ·subst e; omega
   ·exact h4 q hq om9 hn⟩
theorem BI_first {C : Ls} {j : Nat} {c : Int} (h : BI C j c) (hc : c < 0) (hj : j < C.length) (hn : 0 < C[j].length) : BI C (j + 1) j := by
 rcases h with ⟨h1, h2⟩ | ⟨b, hb, h1, h2, h3, h4⟩
 ·exact .inr ⟨j, hj, rfl, om9, hn, fun q hq hqj hqn => by
   by_cases e : q = j
   ·subst e; exact ⟨Int.le_refl _, fun h => by omega⟩
   ·have := h2 q hq om9; omega⟩
 ·omega
theorem BI_less {C : Ls} {j b : Nat} (h : BI C j b) (hb : b < C.length) (hj : j < C.length) (hn : 0 < C[j].length) (hl : stN C[j] < stN C[b]) : BI C (j + 1) j := by
 rcases h with ⟨h1, h2⟩ | ⟨b', hb', h1, h2, h3, h4⟩
 ·omega
 ·have e : b' = b := om9
  subst e
  exact .inr ⟨j, hj, rfl, om9, hn, fun q hq hqj hqn => by
   by_cases e : q = j
   ·subst e; exact ⟨Int.le_refl _, fun h => by omega⟩
   ·have := h4 q hq om9 hqn
    exact ⟨om9, fun _ => by omega⟩⟩
theorem BI_keep {C : Ls} {j b : Nat} (h : BI C j b) (hb : b < C.length) (hj : j < C.length) (hl : ¬ stN C[j] < stN C[b]) : BI C (j + 1) b := by
 rcases h with ⟨h1, h2⟩ | ⟨b', hb', h1, h2, h3, h4⟩
 ·omega
 ·have e : b' = b := om9
  subst e
  exact .inr ⟨b', hb', rfl, om9, h3, fun q hq hqj hqn => by
   by_cases e : q = j
   ·subst e; exact ⟨om9, fun h => by omega⟩
   ·exact h4 q hq om9 hqn⟩
theorem BI_best {C : Ls} {j : Nat} {c : Int} (h : BI C j c) (hc : ¬ c < 0) : ∃ b : Nat, ∃ hb : b < C.length, c = b ∧ b < j ∧ 0 < C[b].length := by
 rcases h with ⟨h1, h2⟩ | ⟨b, hb, h1, h2, h3, h4⟩
 ·omega
 ·exact ⟨b, hb, h1, h2, h3⟩
theorem BI_end {C : Ls} {j : Nat} {c : Int} (h : BI C j c) (hj : C.length ≤ j) (hc : c < 0) : ZO C = [] := by
 rcases h with ⟨h1, h2⟩ | ⟨b, hb, h1, h2, h3, h4⟩
 ·exact Zb4 fun i hi => h2 i hi om9
 ·omega
theorem BI_done {C : Ls} {j b : Nat} (h : BI C j b) (hj : C.length ≤ j) : Best C b := by
 rcases h with ⟨h1, h2⟩ | ⟨b', hb, h1, h2, h3, h4⟩
 ·omega
 ·have e : b' = b := om9
  subst e
  exact ⟨hb, h3, fun q hq hqn => h4 q hq om9 hqn⟩
end Go.Fw

namespace Go.Fw
open Go Go.RowKit
structure Seat where
 n : Nd
 s : Span
 ms : List Msg
instance : Inhabited Seat := ⟨⟨Nd.zero, Span.zero, []⟩⟩
def SeatC (G : GH) (cs : List Value) (x : Seat) : Prop :=
 ∃ a1 c1 a2 c2 a3 c3 a4 c4 a5 c5, cs = [.int .i64 x.n.slot, .int .i64 x.n.level, .slice a1 x.n.pivots.length c1, .slice a2 x.n.kids.length c2, .string x.n.high.b, .bool x.n.top, .int .i64 x.n.right, .int .i64 x.n.seen, .slice a3 x.n.msgs.length c3, .slice a4 x.n.rows.length c4, .string x.s.lo.b, .string x.s.hi.b, .bool x.s.opn, .slice a5 x.ms.length c5] ∧
  SlR Z8 G (.slice a1 x.n.pivots.length c1) x.n.pivots ∧ SlR Zz G (.slice a2 x.n.kids.length c2) x.n.kids ∧ SlR Zp G (.slice a3 x.n.msgs.length c3) x.n.msgs ∧ SlR Zs G (.slice a4 x.n.rows.length c4) x.n.rows ∧ SlR Zp G (.slice a5 x.ms.length c5) x.ms ∧ x.n.Ok
theorem SeatC.mono {G G' : GH} {cs x} (hl : Le G G') (h : SeatC G cs x) : SeatC G' cs x := by
 obtain ⟨a1, c1, a2, c2, a3, c3, a4, c4, a5, c5, h0, h1, h2, h3, h4, h5, h6⟩ := h
 exact ⟨a1, c1, a2, c2, a3, c3, a4, c4, a5, c5, h0, h1.mono hl, h2.mono hl, h3.mono hl, h4.mono hl, h5.mono hl, h6⟩
def Zat : Enc Seat where
 k := 14
 w := 216
 R := SeatC
 mono := fun hl h => h.mono hl
 len := fun h => by obtain ⟨a1, c1, a2, c2, a3, c3, a4, c4, a5, c5, h0, _⟩ := h; rw [h0]; rfl
 one := fun h u hu => by
  obtain ⟨a1, c1, a2, c2, a3, c3, a4, c4, a5, c5, h0, _⟩ := h
  rw [h0] at hu
  simp at hu
  rcases hu with rfl | rfl | rfl | rfl | rfl | rfl | rfl | rfl | rfl | rfl | rfl | rfl | rfl | rfl <;> rfl
theorem WD.doneP {E : Env} {f : Fr} {G : GH} {M M1 M' Mk : MH} {ops : Array Oper} {K : Kt} {fuel : Nat} {listed : Array Bool} (hr : Region.ready .any ops listed = []) (hs : M1.Sublist M) (hp : M'.Perm M1) (h : K f G M') : WD E ops fuel listed f G M Mk K := fun _ a w Q hi hw _ hK =>
 wpAnyH_done hr (hK _ _ _ _ _ hi ⟨(hw.r.sub hs).perm hp, hw.le, hw.nw⟩ h) fuel
def atS (l : List Nd) (i : Int) : List Nd := l.filter fun n => decide (n.slot = i)
def Zr (l : List Nd) (i : Int) : Nd × Bool := ((atS l i).getLast?.getD Nd.zero, decide ((atS l i).length = 1))
theorem Zgz {l : List Nd} {i : Int} {k : Nat} (hk : k < l.length) (h : l[k].slot = i) : atS (l.take (k + 1)) i = atS (l.take k) i ++ [l[k]] := Zco hk (decide_eq_true h)
theorem ZgA {l : List Nd} {i : Int} {k : Nat} (hk : k < l.length) (h : ¬ l[k].slot = i) : atS (l.take (k + 1)) i = atS (l.take k) i := Zbw hk (decide_eq_false h)
theorem ZtI (l : List Nd) (i : Int) (k : Nat) : (atS (l.take k) i).length ≤ l.length := ZeL _ l k
theorem SlR.nok {G : GH} {v : Value} {l : List Nd} (h : SlR ZA G v l) : ∀ n ∈ l, n.Ok := by
 intro n hn
 obtain ⟨i, hi, rfl⟩ := List.getElem_of_mem hn
 obtain ⟨cs, _, hr⟩ := h.at hi
 obtain ⟨_, _, _, _, _, _, _, _, _, _, _, _, _, hok⟩ := hr
 exact hok
theorem find_b {l : List Nd} {i : Int} {k : Nat} (h : l.length ≤ k) : decide ((((atS (l.take k) i).length : Nat) : Int) = 1) = (Zr l i).2 := by
 rw [List.take_of_length_le h]; exact decide_eq_decide.2 om9
theorem ZtJ {l : List Nd} {i : Int} {k : Nat} (h : l.length ≤ k) : (atS (l.take k) i).getLast?.getD Nd.zero = (Zr l i).1 := by
 rw [List.take_of_length_le h]; rfl
theorem ZtK {l : List Nd} {x d : Nd} : (l ++ [x]).getLast?.getD d = x := by simp
noncomputable def Zb (l : List Nd) (x : Seat) (j : Nat) : Seat :=
 ⟨(Zr l (x.n.kids.getD j 0)).1, x.s.meet (Zf x.n.pivots (j : Int)), ZO [Zc (x.s.meet (Zf x.n.pivots (j : Int))) x.n.msgs, Zc (x.s.meet (Zf x.n.pivots (j : Int))) x.ms]⟩
def YS (l : List Nd) (x : Seat) (j : Nat) : Bool := (Zr l (x.n.kids.getD j 0)).2 && decide ((Zr l (x.n.kids.getD j 0)).1.level = x.n.level - 1)
noncomputable def YL (l : List Nd) (x : Seat) (j : Nat) : List Seat := (List.range j).map (Zb l x)
noncomputable def ZZ (l : List Nd) (x : Seat) : Option (List Seat) :=
 if x.n.level = 0 then some []
 else if x.n.level < 0 ∨ Ys x.n.pivots x.n.kids.length = false then none
 else if (List.range x.n.kids.length).all (YS l x) = true then some (YL l x x.n.kids.length) else none
noncomputable def Zk (l : List Nd) (x : Seat) : List Seat := (ZZ l x).getD []
theorem Zau {l : List Nd} {x : Seat} (h : x.n.level = 0) : ZZ l x = some [] := if_pos h
theorem Zle {l : List Nd} {x : Seat} (h0 : ¬ x.n.level = 0) (h : x.n.level < 0 ∨ Ys x.n.pivots x.n.kids.length = false) : ZZ l x = none := by rw [ZZ, if_neg h0, if_pos h]
theorem Zlf {l : List Nd} {x : Seat} {j : Nat} (h0 : ¬ x.n.level = 0) (hj : j < x.n.kids.length) (hf : YS l x j = false) : ZZ l x = none := by
 rw [ZZ, if_neg h0]
 split
 ·rfl
 ·rw [if_neg]
  intro h
  have := List.all_eq_true.1 h j (List.mem_range.2 hj)
  rw [hf] at this; cases this
theorem Zlg {l : List Nd} {x : Seat} (h0 : ¬ x.n.level = 0) (h1 : ¬ x.n.level < 0) (h2 : Ys x.n.pivots x.n.kids.length = true) (h : ∀ j, j < x.n.kids.length → YS l x j = true) : ZZ l x = some (YL l x x.n.kids.length) := by
 rw [ZZ, if_neg h0, if_neg (by rintro (h | h); exact h1 h; rw [h2] at h; cases h), if_pos]
 exact List.all_eq_true.2 fun j hj => h j (List.mem_range.1 hj)
theorem Zlh (l : List Nd) (x : Seat) (j : Nat) : YL l x (j + 1) = YL l x j ++ [Zb l x j] := by simp [YL, List.range_succ]
theorem JV (l : List Nd) (x : Seat) (j : Nat) : (YL l x j).length = j := by simp [YL]
noncomputable def XW (l : List Nd) : Nat → Nat → List Seat → Option (List Seat)
 | 0, _, _ => none
 | f + 1, i, out => if h : i < out.length then if l.length < out.length then none else match ZZ l out[i] with
   | none => none
   | some ks => XW l f (i + 1) (out ++ ks)
  else some out
noncomputable def Zm (l : List Nd) (root : Int) : Seat := ⟨(Zr l root).1, Span.all, []⟩
noncomputable def Y4 (l : List Nd) (root : Int) : Option (List Seat) := if (Zr l root).2 = true then XW l (l.length + 2) 0 [Zm l root] else none
theorem Zd9 {l : List Nd} {f i : Nat} {out : List Seat} (h : ¬ i < out.length) : XW l (f + 1) i out = some out := by rw [XW, dif_neg h]
theorem Zli {l : List Nd} {f i : Nat} {out : List Seat} (h : i < out.length) (hl : l.length < out.length) : XW l (f + 1) i out = none := by rw [XW, dif_pos h, if_pos hl]
theorem Zlj {l : List Nd} {f i : Nat} {out : List Seat} (h : i < out.length) (hk : ZZ l out[i] = none) : XW l (f + 1) i out = none := by
 rw [XW, dif_pos h]
 split
 ·rfl
 ·rw [hk]
theorem Zea {l : List Nd} {f i : Nat} {out ks : List Seat} (h : i < out.length) (hl : ¬ l.length < out.length) (hk : ZZ l out[i] = some ks) : XW l (f + 1) i out = XW l f (i + 1) (out ++ ks) := by
 rw [XW, dif_pos h, if_neg hl, hk]
structure QOk (l : List Nd) (root : Int) (i : Nat) (out : List Seat) : Prop where
 le : i ≤ out.length
 pos : 0 < out.length
 len : i ≤ l.length
 eq : Y4 l root = XW l (l.length + 2 - i) i out
theorem QOk.init {l : List Nd} {root : Int} (h : (Zr l root).2 = true) : QOk l root 0 [Zm l root] := ⟨Nat.zero_le _, by simp, Nat.zero_le _, by rw [Y4, if_pos h]; rfl⟩
theorem Zeb {n i : Nat} (h : i ≤ n) : n + 2 - i = (n + 1 - i) + 1 := om9
theorem QOk.done {l : List Nd} {root : Int} {i : Nat} {out : List Seat} (h : QOk l root i out) (hi : ¬ i < out.length) : Y4 l root = some out := by
 rw [h.eq, Zeb h.len, Zd9 hi]
theorem QOk.long {l : List Nd} {root : Int} {i : Nat} {out : List Seat} (h : QOk l root i out) (hi : i < out.length) (hl : l.length < out.length) : Y4 l root = none := by
 rw [h.eq, Zeb h.len, Zli hi hl]
theorem QOk.none {l : List Nd} {root : Int} {i : Nat} {out : List Seat} (h : QOk l root i out) (hi : i < out.length) (hk : ZZ l out[i] = none) : Y4 l root = none := by
 rw [h.eq, Zeb h.len, Zlj hi hk]
theorem QOk.next {l : List Nd} {root : Int} {i : Nat} {out ks : List Seat} (h : QOk l root i out) (hi : i < out.length) (hl : ¬ l.length < out.length) (hk : ZZ l out[i] = some ks) : QOk l root (i + 1) (out ++ ks) :=
 ⟨by rw [List.length_append]; omega, by rw [List.length_append]; omega, om9, by rw [h.eq, Zeb h.len, Zea hi hl hk]; congr 1; omega⟩
def Sml (l : List Nd) : Prop := l.length ≤ 4096 ∧ ∀ n ∈ l, n.kids.length ≤ 4000 ∧ n.pivots.length ≤ 4000 ∧ n.msgs.length ≤ 4000 ∧ n.rows.length ≤ 4000 ∧ n.high.b.size ≤ 4000 ∧ (∀ m ∈ n.msgs, m.key.b.size ≤ 4000 ∧ m.hi.b.size ≤ 4000 ∧ m.val.b.size ≤ 4000) ∧ (∀ p ∈ n.pivots, p.b.size ≤ 4000) ∧ ∀ p ∈ n.rows, p.key.b.size ≤ 4000 ∧ p.val.b.size ≤ 4000
theorem Sml.zero : (Nd.zero.kids.length ≤ 4000 ∧ Nd.zero.pivots.length ≤ 4000 ∧ Nd.zero.msgs.length ≤ 4000 ∧ Nd.zero.rows.length ≤ 4000 ∧ Nd.zero.high.b.size ≤ 4000 ∧ (∀ m ∈ Nd.zero.msgs, m.key.b.size ≤ 4000 ∧ m.hi.b.size ≤ 4000 ∧ m.val.b.size ≤ 4000) ∧ (∀ p ∈ Nd.zero.pivots, p.b.size ≤ 4000) ∧ ∀ p ∈ Nd.zero.rows, p.key.b.size ≤ 4000 ∧ p.val.b.size ≤ 4000) := by
 refine ⟨by decide, by decide, by decide, by decide, by decide, ?_, ?_, ?_⟩ <;> (intro m hm; cases hm)
theorem Sml.find {l : List Nd} (h : Sml l) (i : Int) : (Zr l i).1 = Nd.zero ∨ (Zr l i).1 ∈ l := by
 unfold Zr
 cases e : (atS l i).getLast? with
 | none => exact .inl rfl
 | some n => exact .inr (List.mem_filter.1 (List.mem_of_getLast? e)).1
theorem Zec (C : Ls) : (∀ q (h : q < C.length), C[q].length = 0) ∨ ∃ b, Best C b := by
 have key : ∀ j, j ≤ C.length → ∃ c : Int, BI C j c := by
  intro j
  induction j with
  | zero => intro _; exact ⟨-1, BI_nil C⟩
  | succ j ih =>
   intro hj
   obtain ⟨c, hc⟩ := ih om9
   by_cases hz : C[j].length = 0
   ·exact ⟨c, BI_skip hc om9 hz⟩
   ·by_cases h0 : c < 0
    ·exact ⟨j, BI_first hc h0 om9 om9⟩
    ·obtain ⟨b, hb, rfl, hbj, _⟩ := BI_best hc h0
     by_cases hl : stN C[j] < stN C[b]
     ·exact ⟨j, BI_less hc hb om9 om9 hl⟩
     ·exact ⟨b, BI_keep hc hb om9 hl⟩
 obtain ⟨c, hc⟩ := key C.length (Nat.le_refl _)
 by_cases h0 : c < 0
 ·rcases hc with ⟨h1, h2⟩ | ⟨b, hb, h1, _⟩
  ·exact .inl fun q h => h2 q h h
  ·omega
 ·obtain ⟨b, hb, rfl, _, _⟩ := BI_best hc h0
  exact .inr ⟨b, BI_done hc (Nat.le_refl _)⟩
theorem Zed {C : Ls} (h : ∀ q (h : q < C.length), C[q].length = 0) : C.flatten = [] := by
 rw [List.flatten_eq_nil_iff]
 intro L hL
 obtain ⟨i, hi, rfl⟩ := List.getElem_of_mem hL
 exact List.eq_nil_of_length_eq_zero (h i hi)
theorem ZtL {A R X : List Msg} (h : 0 < X.length) : (X[0] :: (A ++ (X.drop 1 ++ R))).Perm (A ++ (X ++ R)) := by
 cases X with
 | nil => simp at h
 | cons x X => exact List.perm_middle.symm
theorem Zlk {C : Ls} {b : Nat} (hb : Best C b) : ((C[b]'hb.lt)[0]'hb.ne :: (C.set b ((C[b]'hb.lt).drop 1)).flatten).Perm C.flatten := by
 have e1 : (C.set b ((C[b]'hb.lt).drop 1)).flatten = (C.take b).flatten ++ ((C[b]'hb.lt).drop 1 ++ (C.drop (b + 1)).flatten) := by
  rw [Zd4 hb.lt, List.flatten_append, List.flatten_cons]
 have e2 : C.flatten = (C.take b).flatten ++ (C[b]'hb.lt ++ (C.drop (b + 1)).flatten) := by
  conv => lhs; rw [Zd5 hb.lt]
  rw [List.flatten_append, List.flatten_cons]
 have h := ZtL (A := (C.take b).flatten) (R := (C.drop (b + 1)).flatten) hb.ne
 rw [← e1, ← e2] at h
 exact h
theorem ZtM : ∀ (n : Nat) (C : Ls), YI C = n → (ZO C).Perm C.flatten := by
 intro n
 induction n with
 | zero =>
  intro C h
  rcases Zec C with h1 | ⟨b, hb⟩
  ·rw [Zb4 h1, Zed h1]
  ·have := Zas hb; omega
 | succ n ih =>
  intro C h
  rcases Zec C with h1 | ⟨b, hb⟩
  ·rw [Zb4 h1, Zed h1]
  ·rw [Zb3 hb]
   exact ((ih _ (by have := Zas hb; omega)).cons _).trans (Zlk hb)
theorem ZtN {C : Ls} {m : Msg} : m ∈ ZO C ↔ ∃ L ∈ C, m ∈ L := by
 rw [(ZtM _ C rfl).mem_iff, List.mem_flatten]
def Rst (l : List Msg) : Prop := l.Pairwise fun a b => a.stamp < b.stamp
theorem Zll : ∀ (n : Nat) (C : Ls) (S : List Msg), YI C = n → (∀ L ∈ C, Rst L) → S.Perm C.flatten → Rst S → ZO C = S := by
 intro n
 induction n with
 | zero =>
  intro C S h _ hp _
  rcases Zec C with h1 | ⟨b, hb⟩
  ·rw [Zed h1] at hp
   rw [Zb4 h1, List.Perm.eq_nil hp]
  ·have := Zas hb; omega
 | succ n ih =>
  intro C S h hC hp hS
  rcases Zec C with h1 | ⟨b, hb⟩
  ·rw [Zed h1] at hp
   rw [Zb4 h1, List.Perm.eq_nil hp]
  ·have hf := Zlk hb
   rw [Zb3 hb]
   cases S with
   | nil => have := (hp.trans hf.symm).length_eq; simp at this
   | cons s S =>
    have hp2 := hp.trans hf.symm
    have e : s = (C[b]'hb.lt)[0]'hb.ne := by
     have hs : s ∈ C.flatten := hp.mem_iff.1 (by simp)
     have hc : (C[b]'hb.lt)[0]'hb.ne ∈ s :: S := hp2.mem_iff.2 (by simp)
     rcases List.mem_cons.1 hc with h | h
     ·exact h.symm
     ·have h2 := (List.pairwise_cons.1 hS).1 _ h
      obtain ⟨L, hL, hsL⟩ := List.mem_flatten.1 hs
      obtain ⟨j, hj, rfl⟩ := List.getElem_of_mem hL
      obtain ⟨q, hq, rfl⟩ := List.getElem_of_mem hsL
      have h3 := (hb.min j hj om9).1
      rw [Zgv hb.ne, Zgv (show 0 < C[j].length by omega)] at h3
      have h4 : (C[j][0]'om9).stamp ≤ C[j][q].stamp := by
       by_cases e0 : q = 0
       ·subst e0; exact Int.le_refl _
       ·exact Int.le_of_lt (List.pairwise_iff_getElem.1 (hC _ (List.getElem_mem hj)) 0 q om9 hq om9)
      omega
    subst e
    congr 1
    refine ih _ S (by have := Zas hb; omega) ?_ (List.Perm.cons_inv hp2) (List.pairwise_cons.1 hS).2
    intro L hL
    rcases List.mem_or_eq_of_mem_set hL with h | h
    ·exact hC _ h
    ·subst h; exact List.Pairwise.sublist (List.drop_sublist _ _) (hC _ (List.getElem_mem _))
theorem Zb6 {a b : Span} {n : Nat} (ha : a.lo.b.size ≤ n ∧ a.hi.b.size ≤ n) (hb : b.lo.b.size ≤ n ∧ b.hi.b.size ≤ n) : (a.meet b).lo.b.size ≤ n ∧ (a.meet b).hi.b.size ≤ n := by
 unfold Span.meet
 refine Zc5 ?_ ?_
 ·dsimp only; split; exact hb.1; exact ha.1
 ·dsimp only; split; exact hb.2; exact ha.2
theorem Zb7 {p : List Str} {i : Int} {n : Nat} (h : ∀ k ∈ p, k.b.size ≤ n) : (Zf p i).lo.b.size ≤ n ∧ (Zf p i).hi.b.size ≤ n := by
 have h0 : Str.nil.b.size = 0 := rfl
 have hg : ∀ j, (p.getD j Str.nil).b.size ≤ n := by
  intro j
  by_cases hj : j < p.length
  ·rw [JK hj]; exact h _ (List.getElem_mem _)
  ·rw [ZgY om9]; omega
 unfold Zf
 split
 ·exact ⟨by show Str.nil.b.size ≤ n; omega, by show Str.nil.b.size ≤ n; omega⟩
 ·refine Zc5 ?_ (hg _)
  dsimp only; split
  ·exact hg _
  ·omega
theorem ZtO {m : Msg} {s : Span} {n : Nat} (hm : m.key.b.size ≤ n ∧ m.hi.b.size ≤ n ∧ m.val.b.size ≤ n) (hs : s.lo.b.size ≤ n ∧ s.hi.b.size ≤ n) (h : (m.clip s).2 = true) : (m.clip s).1.key.b.size ≤ n ∧ (m.clip s).1.hi.b.size ≤ n ∧ (m.clip s).1.val.b.size ≤ n := by
 rw [(Xb h).2]
 by_cases h4 : m.kind = 4
 ·rw [if_pos h4]
  have e : m.span = ⟨m.key, m.hi, m.opn⟩ := by unfold Msg.span; rw [if_pos h4]
  have := Zb6 (a := m.span) (b := s) (by rw [e]; exact ⟨hm.1, hm.2.1⟩) hs
  exact ⟨this.1, this.2, hm.2.2⟩
 ·rw [if_neg h4]; exact hm
theorem Zlm {l : List Msg} {s : Span} {n : Nat} (hm : ∀ m ∈ l, m.key.b.size ≤ n ∧ m.hi.b.size ≤ n ∧ m.val.b.size ≤ n) (hs : s.lo.b.size ≤ n ∧ s.hi.b.size ≤ n) : ∀ m ∈ Zc s l, m.key.b.size ≤ n ∧ m.hi.b.size ≤ n ∧ m.val.b.size ≤ n := fun m h => by
 obtain ⟨a, ha, h1, rfl⟩ := J0 h
 exact ZtO (hm a ha) hs h1
structure SeatS (l : List Nd) (p : Nat) (x : Seat) : Prop where
 nd : x.n = Nd.zero ∨ x.n ∈ l
 ms : x.ms.length ≤ 4000 * p
 sp : x.s.lo.b.size ≤ 4000 ∧ x.s.hi.b.size ≤ 4000
 key : ∀ m ∈ x.ms, m.key.b.size ≤ 4000 ∧ m.hi.b.size ≤ 4000 ∧ m.val.b.size ≤ 4000
def NdS (n : Nd) : Prop := n.kids.length ≤ 4000 ∧ n.pivots.length ≤ 4000 ∧ n.msgs.length ≤ 4000 ∧ n.rows.length ≤ 4000 ∧ n.high.b.size ≤ 4000 ∧ (∀ m ∈ n.msgs, m.key.b.size ≤ 4000 ∧ m.hi.b.size ≤ 4000 ∧ m.val.b.size ≤ 4000) ∧ (∀ p ∈ n.pivots, p.b.size ≤ 4000) ∧ ∀ p ∈ n.rows, p.key.b.size ≤ 4000 ∧ p.val.b.size ≤ 4000
theorem Sml.at {l : List Nd} (h : Sml l) {n : Nd} (hn : n = Nd.zero ∨ n ∈ l) : NdS n := by
 rcases hn with rfl | hn
 ·exact Sml.zero
 ·exact h.2 n hn
theorem SeatS.root {l : List Nd} (h : Sml l) (root : Int) : SeatS l 0 (Zm l root) := ⟨h.find root, Nat.le_refl _, ⟨by show Str.nil.b.size ≤ 4000; decide, by show Str.nil.b.size ≤ 4000; decide⟩, fun m hm => by cases hm⟩
theorem ZgB {l : List Nd} (h : Sml l) {p : Nat} {x : Seat} (hx : SeatS l p x) (j : Nat) : (x.s.meet (Zf x.n.pivots (j : Int))).lo.b.size ≤ 4000 ∧ (x.s.meet (Zf x.n.pivots (j : Int))).hi.b.size ≤ 4000 :=
 Zb6 hx.sp (Zb7 (h.at hx.nd).2.2.2.2.2.2.1)
theorem Zln {l : List Nd} (h : Sml l) {p : Nat} {x : Seat} (hx : SeatS l p x) (s : Span) : YI [Zc s x.n.msgs, Zc s x.ms] ≤ 4000 * (p + 1) := by
 have h1 : (Zc s x.n.msgs).length ≤ x.n.msgs.length := ZaA
 have h2 : (Zc s x.ms).length ≤ x.ms.length := ZaA
 have h3 := (h.at hx.nd).2.2.1
 have h4 := hx.ms
 have h5 : YI [] = 0 := rfl
 rw [ZaP, ZaP, h5]
 omega
theorem SeatS.kid {l : List Nd} (h : Sml l) {p q : Nat} {x : Seat} (hx : SeatS l p x) (hq : p < q) (j : Nat) : SeatS l q (Zb l x j) := by
 refine ⟨h.find _, ?_, ZgB h hx j, ?_⟩
 ·have h1 := Zgy [Zc (x.s.meet (Zf x.n.pivots (j : Int))) x.n.msgs, Zc (x.s.meet (Zf x.n.pivots (j : Int))) x.ms]
  have h2 := Zln h hx (x.s.meet (Zf x.n.pivots (j : Int)))
  show (ZO _).length ≤ _
  omega
 ·intro m hm
  obtain ⟨L, hL, hmL⟩ := ZtN.1 hm
  simp only [List.mem_cons, List.not_mem_nil, or_false] at hL
  rcases hL with rfl | rfl
  ·exact Zlm (h.at hx.nd).2.2.2.2.2.1 (ZgB h hx j) m hmL
  ·exact Zlm hx.key (ZgB h hx j) m hmL
def QS (l : List Nd) (out : List Seat) : Prop := ∀ p (h : p < out.length), SeatS l p out[p]
theorem QS.init {l : List Nd} (h : Sml l) (root : Int) : QS l [Zm l root] := fun p hp => by
 have : p = 0 := by simp at hp; omega
 subst this; exact SeatS.root h root
theorem QS.snoc {l : List Nd} (h : Sml l) {out : List Seat} (ho : QS l out) {i : Nat} {x : Seat} (hx : SeatS l i x) (hi : i < out.length) (j : Nat) : QS l (out ++ [Zb l x j]) := fun p hp => by
 rw [List.getElem_append]
 split
 ·exact ho p (by assumption)
 ·simp only [List.getElem_singleton]
  exact hx.kid h om9 j
theorem ZtP {l : List Nd} {x : Seat} {j : Nat} (hj : j < x.n.kids.length) (h : (Zr l x.n.kids[j]).2 = false) : YS l x j = false := by
 unfold YS
 rw [List.getD_eq_getElem?_getD, List.getElem?_eq_getElem hj]
 show ((Zr l x.n.kids[j]).2 && _) = false
 rw [h]; rfl
theorem ZtQ {l : List Nd} {x : Seat} {j : Nat} (hj : j < x.n.kids.length) (h : ¬ (Zr l x.n.kids[j]).1.level = x.n.level - 1) : YS l x j = false := by
 unfold YS
 rw [List.getD_eq_getElem?_getD, List.getElem?_eq_getElem hj]
 show (_ && decide ((Zr l x.n.kids[j]).1.level = x.n.level - 1)) = false
 rw [decide_eq_false h, Bool.and_false]
theorem ZtR {l : List Nd} {x : Seat} {j : Nat} (hj : j < x.n.kids.length) (ha : ∀ j2, j2 < j → YS l x j2 = true) (h : (Zr l x.n.kids[j]).2 = true) (h2 : (Zr l x.n.kids[j]).1.level = x.n.level - 1) : ∀ j2, j2 < j + 1 → YS l x j2 = true := by
 intro j2 hj2
 by_cases e : j2 = j
 ·subst e
  unfold YS
  rw [List.getD_eq_getElem?_getD, List.getElem?_eq_getElem hj]
  show ((Zr l x.n.kids[j2]).2 && decide ((Zr l x.n.kids[j2]).1.level = x.n.level - 1)) = true
  rw [h, decide_eq_true h2]; rfl
 ·exact ha j2 om9
theorem ZtS {G : GH} {cs : List Value} {l : List Nd} {x : Seat} {j : Nat} (hj : j < x.n.kids.length) (h : SeatC G cs ⟨(Zr l x.n.kids[j]).1, x.s.meet (Zf x.n.pivots (j : Int)), (Zb l x j).ms⟩) : SeatC G cs (Zb l x j) := by
 have e : Zb l x j = ⟨(Zr l x.n.kids[j]).1, x.s.meet (Zf x.n.pivots (j : Int)), (Zb l x j).ms⟩ := by
  unfold Zb
  rw [List.getD_eq_getElem?_getD, List.getElem?_eq_getElem hj]; rfl
 rw [e]; exact h
theorem ZtT {l : List Nd} {i : Int} (h : (Zr l i).2 = false) : Y4 l i = none := by unfold Y4; rw [if_neg (by simp [h])]
def Jp (ss : List Seat) (i : Nat) : Int := if i + 1 < ss.length ∧ (ss.getD (i + 1) default).n.level = (ss.getD i default).n.level then (ss.getD (i + 1) default).n.slot else -1
def LinkedP (ss : List Seat) : Prop := ∀ i (h : i < ss.length), ss[i].n.right = Jp ss i
instance (ss : List Seat) : Decidable (LinkedP ss) := by unfold LinkedP; infer_instance
def PlacedP (x : Seat) : Prop := (x.n.top = x.s.opn ∧ x.n.high = x.s.hi) ∧ (∀ i (h : i < x.n.rows.length), x.s.has x.n.rows[i].key = true) ∧ (∀ i (h : i < x.n.pivots.length), x.s.has x.n.pivots[i] = true ∧ x.n.pivots[i] ≠ x.s.lo) ∧ ∀ i (h : i < x.n.msgs.length), x.n.msgs[i].span.meet x.s = x.n.msgs[i].span.norm
instance (x : Seat) : Decidable (PlacedP x) := by unfold PlacedP; infer_instance
def JE (ss : List Seat) (i : Int) : List Seat := ss.filter fun x => decide (x.n.slot = i)
def OnceP (l : List Nd) (ss : List Seat) : Prop := l.length = ss.length ∧ ∀ i (h : i < l.length), (JE ss l[i].slot).length = 1
instance (l : List Nd) (ss : List Seat) : Decidable (OnceP l ss) := by unfold OnceP; infer_instance
def StampP (x : Seat) : Prop := ∀ j (h : j < x.ms.length), x.n.seen < x.ms[j].stamp
instance (x : Seat) : Decidable (StampP x) := by unfold StampP; infer_instance
def SeatP (c : Cfg) (x : Seat) : Prop := x.n.R c.fan c.leaf c.bud ∧ PlacedP x ∧ x.n.slot < c.slots ∧ StampP x
instance (c : Cfg) (x : Seat) : Decidable (SeatP c x) := by unfold SeatP; infer_instance
def SoundQ (c : Cfg) (l : List Nd) (ss : List Seat) : Prop := (OnceP l ss ∧ LinkedP ss ∧ (l.length : Int) ≤ c.slots) ∧ ∀ i (h : i < ss.length), SeatP c ss[i]
instance (c : Cfg) (l : List Nd) (ss : List Seat) : Decidable (SoundQ c l ss) := by unfold SoundQ; infer_instance
noncomputable def Zb8 (c : Cfg) (l : List Nd) : Bool := match Y4 l 0 with | none => false | some ss => decide (SoundQ c l ss)
def SlotsP (l : List Nd) : Prop := ∀ i (h : i < l.length), l[i].slot = (i : Int) ∧ l[i].seen ≤ 1099511627776
instance (l : List Nd) : Decidable (SlotsP l) := by unfold SlotsP; infer_instance
theorem Zav {c : Cfg} {l : List Nd} {ss : List Seat} (h : Y4 l 0 = some ss) : Zb8 c l = decide (SoundQ c l ss) := by rw [Zb8, h]
theorem ZtU {c : Cfg} {l : List Nd} (h : Y4 l 0 = none) : Zb8 c l = false := by rw [Zb8, h]
theorem ZtV {l : List Seat} {i : Int} {k : Nat} (hk : k < l.length) (h : l[k].n.slot = i) : JE (l.take (k + 1)) i = JE (l.take k) i ++ [l[k]] := Zco hk (decide_eq_true h)
theorem ZtW {l : List Seat} {i : Int} {k : Nat} (hk : k < l.length) (h : ¬ l[k].n.slot = i) : JE (l.take (k + 1)) i = JE (l.take k) i := Zbw hk (decide_eq_false h)
theorem ZtX (l : List Seat) (i : Int) (k : Nat) : (JE (l.take k) i).length ≤ l.length := ZeL _ l k
theorem Zlo {ss : List Seat} {i : Nat} (h : i + 1 < ss.length) (e : (ss[i + 1]).n.level = (ss[i]).n.level) : Jp ss i = (ss[i + 1]).n.slot := by
 unfold Jp
 rw [List.getD_eq_getElem?_getD, List.getD_eq_getElem?_getD, List.getElem?_eq_getElem h, List.getElem?_eq_getElem om9]
 exact if_pos ⟨h, e⟩
theorem Zlp {ss : List Seat} {i : Nat} (h : i + 1 < ss.length) (e : ¬ (ss[i + 1]).n.level = (ss[i]).n.level) : Jp ss i = -1 := by
 unfold Jp
 rw [List.getD_eq_getElem?_getD, List.getD_eq_getElem?_getD, List.getElem?_eq_getElem h, List.getElem?_eq_getElem om9]
 exact if_neg fun h => e h.2
theorem ZcV {ss : List Seat} {i : Nat} (h : ¬ i + 1 < ss.length) : Jp ss i = -1 := by
 unfold Jp
 exact if_neg fun h2 => h h2.1
theorem ZtY {l : List Nd} {r : Seat} : ∀ (f i : Nat) (out ss : List Seat), XW l f i out = some ss → out = r :: (out.take i).flatMap (Zk l) → (∀ x ∈ out.take i, (ZZ l x).isSome = true) →
  ss = r :: ss.flatMap (Zk l) ∧ ∀ x ∈ ss, (ZZ l x).isSome = true := by
 intro f
 induction f with
 | zero => intro i out ss h; cases h
 | succ f ih =>
  intro i out ss h he hs
  by_cases hi : i < out.length
  ·by_cases hl : l.length < out.length
   ·rw [Zli hi hl] at h; cases h
   ·cases hk : ZZ l out[i] with
    | none => rw [Zlj hi hk] at h; cases h
    | some ks =>
     rw [Zea hi hl hk] at h
     have e : (out ++ ks).take (i + 1) = out.take i ++ [out[i]] := by
      rw [List.take_append_of_le_length om9, List.take_succ_eq_append_getElem hi]
     refine ih _ _ _ h ?_ ?_
     ·rw [e, List.flatMap_append, ← List.cons_append, ← he]
      congr 1
      simp [Zk, hk]
     ·intro x hx
      rw [e, List.mem_append, List.mem_singleton] at hx
      rcases hx with hx | rfl
      ·exact hs x hx
      ·rw [hk]; rfl
  ·rw [Zd9 hi] at h
   cases h
   rw [List.take_of_length_le om9] at he hs
   exact ⟨he, hs⟩
theorem Zlq {l : List Nd} {root : Int} {ss : List Seat} (h : Y4 l root = some ss) : (Zr l root).2 = true ∧ ss = Zm l root :: ss.flatMap (Zk l) ∧ ∀ x ∈ ss, (ZZ l x).isSome = true := by
 unfold Y4 at h
 split at h
 ·rename_i hf
  exact ⟨hf, ZtY _ _ _ _ h rfl (fun x hx => by simp at hx)⟩
 ·cases h
theorem Yc {l : List Nd} {x : Seat} (h : (ZZ l x).isSome = true) (h0 : ¬ x.n.level = 0) : Zk l x = YL l x x.n.kids.length ∧ 0 < x.n.level ∧ Ys x.n.pivots x.n.kids.length = true ∧ ∀ j, j < x.n.kids.length → YS l x j = true := by
 unfold Zk ZZ at *
 rw [if_neg h0] at h ⊢
 split at h
 ·cases h
 ·rename_i h1
  rw [if_neg h1]
  split at h
  ·rename_i h2
   rw [if_pos h2]
   refine ⟨rfl, om9, by simpa using fun h => h1 (.inr h), fun j hj => List.all_eq_true.1 h2 j (List.mem_range.2 hj)⟩
  ·cases h
theorem XA {l : List Nd} {x : Seat} (h0 : x.n.level = 0) : Zk l x = [] := by rw [Zk, Zau h0]; rfl
theorem Zlr {l : List Nd} (h : SlotsP l) (i : Int) : ∀ k, k ≤ l.length → atS (l.take k) i = if h : 0 ≤ i ∧ i < k ∧ i.toNat < l.length then [l[i.toNat]] else []
 | 0, _ => by rw [dif_neg om9]; rfl
 | k + 1, hk => by
  have ih := Zlr h i k om9
  have hs := (h k om9).1
  by_cases e : l[k].slot = i
  ·rw [Zgz om9 e, ih, dif_neg om9, dif_pos ⟨om9, om9, om9⟩, List.nil_append]
   congr 2; omega
  ·rw [ZgA om9 e, ih]
   by_cases e2 : 0 ≤ i ∧ i < k ∧ i.toNat < l.length
   ·rw [dif_pos e2, dif_pos ⟨e2.1, om9, e2.2.2⟩]
   ·rw [dif_neg e2, dif_neg om9]
theorem ZgC {l : List Nd} (h : SlotsP l) (i : Int) : atS l i = if h : 0 ≤ i ∧ i < l.length ∧ i.toNat < l.length then [l[i.toNat]] else [] := by
 have := Zlr h i l.length (Nat.le_refl _)
 rwa [List.take_length] at this
theorem ZgD {l : List Nd} (h : SlotsP l) {i : Nat} (hi : i < l.length) : Zr l i = (l[i], true) := by
 unfold Zr
 rw [ZgC h, dif_pos ⟨om9, om9, om9⟩]
 simp
theorem ZtZ {l : List Nd} (h : SlotsP l) {i : Int} (hi : ¬ (0 ≤ i ∧ i < l.length)) : Zr l i = (Nd.zero, false) := by
 unfold Zr
 rw [ZgC h, dif_neg om9]
 rfl
theorem Zaw {l : List Nd} (h : SlotsP l) (i : Int) : Zr l i = (Za l i, decide (0 ≤ i ∧ i < l.length)) := by
 by_cases hi : 0 ≤ i ∧ i < l.length
 ·obtain ⟨k, rfl⟩ : ∃ k : Nat, i = k := ⟨i.toNat, om9⟩
  rw [ZgD h om9, Zae om9, decide_eq_true hi]
 ·rw [ZtZ h hi, decide_eq_false hi]
  congr 1
  unfold Za
  split
  ·rw [List.getD_eq_getElem?_getD, List.getElem?_eq_none om9]; rfl
  ·rfl
structure Tree (c : Cfg) (l : List Nd) (ss : List Seat) : Prop where
 cfg : CfgR c
 pos : 0 < l.length
 sml : Sml l
 slot : SlotsP l
 sts : Y4 l 0 = some ss
 q : SoundQ c l ss
variable {c : Cfg} {l : List Nd} {ss : List Seat}
theorem Tree.fix (t : Tree c l ss) : ss = Zm l 0 :: ss.flatMap (Zk l) := (Zlq t.sts).2.1
theorem Tree.root (t : Tree c l ss) : Zm l 0 ∈ ss := by rw [t.fix]; simp
theorem Tree.kids (t : Tree c l ss) {x : Seat} (hx : x ∈ ss) : (ZZ l x).isSome = true := (Zlq t.sts).2.2 x hx
theorem Tree.kid (t : Tree c l ss) {x y : Seat} (hx : x ∈ ss) (hy : y ∈ Zk l x) : y ∈ ss := by rw [t.fix]; exact List.mem_cons_of_mem _ (List.mem_flatMap.2 ⟨x, hx, hy⟩)
theorem Tree.seat (t : Tree c l ss) {x : Seat} (hx : x ∈ ss) : SeatP c x := by
 obtain ⟨i, hi, rfl⟩ := List.getElem_of_mem hx
 exact t.q.2 i hi
theorem Tree.lvl (t : Tree c l ss) {x : Seat} (hx : x ∈ ss) : 0 ≤ x.n.level := (t.seat hx).1.1.2.1
theorem Tree.rootn (t : Tree c l ss) : (Zm l 0).n = Za l 0 := by
 show (Zr l 0).1 = _
 rw [Zaw t.slot]
theorem Tree.at (t : Tree c l ss) {x : Seat} (hx : x ∈ ss) (h0 : ¬ x.n.level = 0) {j : Nat} (hj : j < x.n.kids.length) :
  Zb l x j ∈ ss ∧ (0 ≤ x.n.kids[j] ∧ x.n.kids[j] < l.length) ∧ (Zb l x j).n = Za l x.n.kids[j] ∧ (Zb l x j).n.level = x.n.level - 1 := by
 obtain ⟨h1, h2, h3, h4⟩ := Yc (t.kids hx) h0
 have hk := h4 j hj
 unfold YS at hk
 have ej : x.n.kids.getD j 0 = x.n.kids[j] := by rw [List.getD_eq_getElem?_getD, List.getElem?_eq_getElem hj]; rfl
 rw [ej, Zaw t.slot, Bool.and_eq_true, decide_eq_true_eq, decide_eq_true_eq] at hk
 have en : (Zb l x j).n = Za l x.n.kids[j] := by
  show (Zr l (x.n.kids.getD j 0)).1 = _
  rw [ej, Zaw t.slot]
 refine ⟨t.kid hx ?_, hk.1, en, by rw [en]; exact hk.2⟩
 rw [h1]
 exact List.mem_map.2 ⟨j, List.mem_range.2 hj, rfl⟩
theorem YN (h : SlotsP l) {i : Int} (hi : 0 ≤ i ∧ i < l.length) : (Za l i).slot = i ∧ Za l i ∈ l := by
 obtain ⟨k, rfl⟩ : ∃ k : Nat, i = k := ⟨i.toNat, om9⟩
 rw [Zae om9]
 exact ⟨(h k om9).1, List.getElem_mem _⟩
theorem Tree.nd (t : Tree c l ss) {x : Seat} (hx : x ∈ ss) : ∃ h : 0 ≤ x.n.slot ∧ x.n.slot < l.length, x.n = Za l x.n.slot ∧ x.n ∈ l := by
 have key : ∃ i : Int, (0 ≤ i ∧ i < l.length) ∧ x.n = Za l i := by
  rw [t.fix] at hx
  rcases List.mem_cons.1 hx with rfl | hx
  ·exact ⟨0, ⟨om9, by have := t.pos; omega⟩, t.rootn⟩
  ·obtain ⟨y, hy, hk⟩ := List.mem_flatMap.1 hx
   by_cases h0 : y.n.level = 0
   ·rw [XA h0] at hk; cases hk
   ·rw [(Yc (t.kids hy) h0).1] at hk
    obtain ⟨j, hj, rfl⟩ := List.mem_map.1 hk
    have := t.at hy h0 (List.mem_range.1 hj)
    exact ⟨_, this.2.1, this.2.2.1⟩
 obtain ⟨i, hi, e⟩ := key
 obtain ⟨h1, h2⟩ := YN t.slot hi
 have hs : x.n.slot = i := by rw [e]; exact h1
 exact ⟨om9, by rw [hs]; exact e, by rw [e]; exact h2⟩
theorem Tree.perm (t : Tree c l ss) : (ss.map (·.n)).Perm l := by
 have hon := t.q.1.1
 have hnl : l.Nodup := by
  refine List.pairwise_iff_getElem.2 fun i j hi hj hij he => ?_
  have h1 := (t.slot i hi).1
  have h2 := (t.slot j hj).1
  rw [he] at h1
  omega
 refine (List.perm_ext_iff_of_nodup ?_ hnl).2 fun a => ⟨fun ha => ?_, fun ha => ?_⟩
 ·rw [List.nodup_iff_count]
  intro a
  by_cases ha : a ∈ ss.map (·.n)
  ·obtain ⟨x, hx, rfl⟩ := List.mem_map.1 ha
   obtain ⟨hs, hn, hm⟩ := t.nd hx
   have h1 := hon.2 x.n.slot.toNat om9
   rw [(t.slot _ _).1, show ((x.n.slot.toNat : Nat) : Int) = x.n.slot by omega] at h1
   rw [← h1, List.count_eq_countP, List.countP_map, JE, ← List.countP_eq_length_filter]
   refine List.countP_mono_left fun y _ hy => ?_
   simp only [Function.comp, beq_iff_eq] at hy
   simp [hy]
  ·rw [List.count_eq_zero_of_not_mem ha]; omega
 ·obtain ⟨x, hx, rfl⟩ := List.mem_map.1 ha
  exact (t.nd hx).2.2
 ·obtain ⟨i, hi, rfl⟩ := List.getElem_of_mem ha
  have h1 := hon.2 i hi
  have h2 : ∃ x, x ∈ JE ss l[i].slot := by
   cases h : JE ss l[i].slot with
   | nil => rw [h] at h1; simp at h1
   | cons x _ => exact ⟨x, by simp⟩
  obtain ⟨x, hx⟩ := h2
  obtain ⟨hx1, hx2⟩ := List.mem_filter.1 hx
  have hx2 := of_decide_eq_true hx2
  refine List.mem_map.2 ⟨x, hx1, ?_⟩
  have hnd := (t.nd hx1).2.1
  rw [hnd, hx2, (t.slot i hi).1, Zae hi]
theorem Tree.len (t : Tree c l ss) : ss.length = l.length := t.q.1.1.1.symm
theorem Zax (k : Str) : Span.all.has k = true := by
 show (!k.lt Str.nil && (true || _)) = true
 rw [Str.nil_le]; rfl
theorem Zbf {x : Seat} (h : Ys x.n.pivots x.n.kids.length = true) {j : Nat} (hj : j < x.n.kids.length) (k : Str) : (Zb l x j).s.has k = (x.s.has k && decide (j = Zg x.n.pivots k)) := by
 obtain ⟨h1, h2⟩ := YQ h
 show (Span.meet _ _).has k = _
 rw [ZN, Xv h1 k om9]
theorem ZcW {x : Seat} (h : Ys x.n.pivots x.n.kids.length = true) (k : Str) : Zg x.n.pivots k < x.n.kids.length := by
 have := (YQ h).2
 have h2 : Zg x.n.pivots k ≤ x.n.pivots.length := List.length_filter_le _ _
 omega
theorem Zls (b : Bool) (r : Nat) : ∀ n, (List.range n).filter (fun j => b && decide (j = r)) = if b = true ∧ r < n then [r] else []
 | 0 => by simp
 | n + 1 => by
  rw [List.range_succ, List.filter_append, Zls b r n]
  cases b
  ·simp
  ·by_cases h : r < n
   ·rw [if_pos ⟨rfl, h⟩, if_pos ⟨rfl, om9⟩, List.filter_cons_of_neg (by simp; omega)]; simp
   ·rw [if_neg (by simp; omega)]
    by_cases h2 : r = n
    ·subst h2; rw [if_pos ⟨rfl, om9⟩, List.filter_cons_of_pos (by simp)]; simp
    ·rw [if_neg (by simp; omega), List.filter_cons_of_neg (by simp; omega)]; simp
noncomputable def JF (l : List Nd) (k : Str) (x : Seat) : Option Seat := if x.n.level = 0 then none else some (Zb l x (Zg x.n.pivots k))
theorem ZgE {k : Str} {x : Seat} (h : x.n.level = 0) : JF l k x = none := if_pos h
theorem JW {k : Str} {x : Seat} (h : ¬ x.n.level = 0) : JF l k x = some (Zb l x (Zg x.n.pivots k)) := if_neg h
theorem Zee {α β : Type} (p : β → Bool) (f : α → β) : ∀ (l : List α), (l.map f).filter p = (l.filter fun a => p (f a)).map f
 | [] => rfl
 | a :: l => by
  rw [List.map_cons, List.filter_cons, List.filter_cons, Zee p f l]
  split <;> simp_all
theorem Zt0 {α : Type} {p q : α → Bool} {l : List α} (h : ∀ a ∈ l, p a = q a) : l.filter p = l.filter q := List.filter_congr h
theorem Tree.filt (t : Tree c l ss) (k : Str) {x : Seat} (hx : x ∈ ss) : ((Zk l x).filter fun y => y.s.has k) = if x.s.has k = true then (JF l k x).toList else [] := by
 by_cases h0 : x.n.level = 0
 ·rw [XA h0, ZgE h0]; simp
 ·obtain ⟨h1, h2, h3, h4⟩ := Yc (t.kids hx) h0
  rw [h1, JW h0]
  unfold YL
  rw [Zee, Zt0 (q := fun j => x.s.has k && decide (j = Zg x.n.pivots k)) (fun j hj => Zbf h3 (List.mem_range.1 hj) k), Zls]
  have := ZcW h3 k
  by_cases hk : x.s.has k = true
  ·rw [if_pos ⟨hk, this⟩, if_pos hk]; rfl
  ·rw [if_neg (fun h => hk h.1), if_neg hk]; rfl
def XX (k : Str) (ss : List Seat) : List Seat := ss.filter fun y => y.s.has k
theorem Tree.has_fix (t : Tree c l ss) (k : Str) : XX k ss = Zm l 0 :: (XX k ss).filterMap (JF l k) := by
 have key : ∀ (ts : List Seat), (∀ x ∈ ts, x ∈ ss) → XX k (ts.flatMap (Zk l)) = (XX k ts).filterMap (JF l k) := by
  intro ts
  induction ts with
  | nil => intro _; rfl
  | cons x ts ih =>
   intro h
   unfold XX at *
   rw [List.flatMap_cons, List.filter_append, ih (fun y hy => h y (List.mem_cons_of_mem _ hy)), t.filt k (h x (by simp)), List.filter_cons]
   split
   ·rw [List.filterMap_cons]
    cases JF l k x <;> rfl
   ·rfl
 have e := key ss (fun x hx => hx)
 rw [← e]
 conv => lhs; rw [t.fix]
 unfold XX
 rw [List.filter_cons_of_pos (by exact Zax k)]
noncomputable def Xs (l : List Nd) (k : Str) : Nat → Seat → List Seat
 | 0, x => [x]
 | f + 1, x => x :: match JF l k x with
  | none => []
  | some y => Xs l k f y
theorem Zef : ∀ (T : List Seat), T ≠ [] → ∃ m ∈ T, ∀ x ∈ T, x.n.level ≤ m.n.level
 | [], h => absurd rfl h
 | [x], _ => ⟨x, by simp, fun y hy => by simp at hy; subst hy; exact Int.le_refl _⟩
 | x :: y :: T, _ => by
  obtain ⟨m, hm, hx⟩ := Zef (y :: T) (by simp)
  by_cases h : m.n.level ≤ x.n.level
  ·exact ⟨x, by simp, fun z hz => by
    rcases List.mem_cons.1 hz with rfl | hz
    ·exact Int.le_refl _
    ·exact Int.le_trans (hx z hz) h⟩
  ·exact ⟨m, List.mem_cons_of_mem _ hm, fun z hz => by
    rcases List.mem_cons.1 hz with rfl | hz
    ·omega
    ·exact hx z hz⟩
theorem Zt1 {f : Seat → Option Seat} {T : List Seat} (h : T = T.filterMap f) (hf : ∀ x ∈ T, ∀ y, f x = some y → y.n.level < x.n.level) : T = [] := by
 apply Classical.byContradiction
 intro hn
 obtain ⟨m, hm, hx⟩ := Zef T hn
 have hm2 := hm
 rw [h] at hm2
 obtain ⟨x, hx1, hx2⟩ := List.mem_filterMap.1 hm2
 have := hf x hx1 m hx2
 have := hx x hx1
 omega
theorem Zt2 {k : Str} : ∀ (n : Nat) (z : Seat) (T : List Seat), z.n.level.toNat = n → T = z :: T.filterMap (JF l k) → (∀ x ∈ T, 0 ≤ x.n.level ∧ ∀ y, JF l k x = some y → y.n.level = x.n.level - 1) → T = Xs l k n z := by
 intro n
 induction n with
 | zero =>
  intro z T hz h hf
  have hzT : z ∈ T := by rw [h]; simp
  have h0 : z.n.level = 0 := by have := (hf z hzT).1; omega
  cases T with
  | nil => cases hzT
  | cons a R =>
   have ea : a = z := (List.cons.inj h).1
   subst ea
   have hR : R = R.filterMap (JF l k) := by
    have := (List.cons.inj h).2
    rw [List.filterMap_cons, ZgE h0] at this
    exact this
   rw [Zt1 hR (fun x hx y hy => by have := (hf x (List.mem_cons_of_mem _ hx)).2 y hy; omega)]
   rfl
 | succ n ih =>
  intro z T hz h hf
  have h0 : ¬ z.n.level = 0 := om9
  cases T with
  | nil => simp at h
  | cons a R =>
   have ea : a = z := (List.cons.inj h).1
   subst ea
   have hR := (List.cons.inj h).2
   rw [List.filterMap_cons, JW h0] at hR
   dsimp only at hR
   have hl := (hf a (by simp)).2 _ (JW h0)
   rw [Xs, JW h0]
   dsimp only
   rw [← ih _ R om9 hR (fun x hx => hf x (List.mem_cons_of_mem _ hx))]
noncomputable def ZC (l : List Nd) (k : Str) : List Seat := Xs l k (Zm l 0).n.level.toNat (Zm l 0)
theorem Tree.step (t : Tree c l ss) {k : Str} {x y : Seat} (hx : x ∈ ss) (h : JF l k x = some y) : y ∈ ss ∧ y.n.level = x.n.level - 1 := by
 by_cases h0 : x.n.level = 0
 ·rw [ZgE h0] at h; cases h
 ·rw [JW h0] at h
  cases h
  have h3 := (Yc (t.kids hx) h0).2.2.1
  have := t.at hx h0 (ZcW h3 k)
  exact ⟨this.1, this.2.2.2⟩
theorem Tree.way (t : Tree c l ss) (k : Str) : XX k ss = ZC l k := by
 refine Zt2 _ _ _ rfl (t.has_fix k) fun x hx => ?_
 have hx := (List.mem_filter.1 hx).1
 exact ⟨t.lvl hx, fun y hy => (t.step hx hy).2⟩
theorem Zeg {k : Str} {f : Nat} {x y : Seat} (h : JF l k x = some y) : Xs l k (f + 1) x = x :: Xs l k f y := by rw [Xs, h]
theorem YO {s : Span} : s.empty = true ↔ ∀ k, s.has k = false := by
 constructor
 ·intro h k
  have h1 : s.opn = false ∧ s.lo.lt s.hi = false := by simpa [Span.empty] using h
  unfold Span.has
  rw [h1.1, Bool.false_or, Bool.and_eq_false_iff]
  cases h2 : k.lt s.hi
  ·exact .inr rfl
  ·left
   cases h3 : k.lt s.lo
   ·have := Str.lt_of_le_of_lt h3 h2
    rw [h1.2] at this; cases this
   ·rfl
 ·intro h
  rw [← Span.empty_eq, h]; rfl
theorem Zbg {a b : Span} (h : ∀ k, a.has k = b.has k) : a.norm = b.norm := by
 have he : a.empty = b.empty := by
  rw [Bool.eq_iff_iff, YO, YO]
  exact ⟨fun h1 k => by rw [← h k]; exact h1 k, fun h1 k => by rw [h k]; exact h1 k⟩
 unfold Span.norm
 rw [← he]
 cases ea : a.empty
 ·have eb : b.empty = false := he ▸ ea
  simp only [Bool.false_eq_true, if_false]
  have la : a.has a.lo = true := by have := Span.empty_eq a; rw [ea] at this; simpa using this
  have lb : b.has b.lo = true := by have := Span.empty_eq b; rw [eb] at this; simpa using this
  have l1 : a.lo.lt b.lo = false := by
   have := h a.lo; rw [la] at this
   unfold Span.has at this
   simp only [Bool.true_eq, Bool.and_eq_true, Bool.not_eq_true'] at this
   exact this.1
  have l2 : b.lo.lt a.lo = false := by
   have := h b.lo; rw [lb] at this
   unfold Span.has at this
   simp only [Bool.and_eq_true, Bool.not_eq_true'] at this
   exact this.1
  have hlo : a.lo = b.lo := Str.lt_total l1 l2
  have hop : ∀ {x y : Span}, x.lo = y.lo → (∀ k, x.has k = y.has k) → x.empty = false → y.empty = false → x.opn = true → y.opn = true := by
   intro x y hxy hk hx hy ho
   cases hyo : y.opn
   ·exfalso
    have h1 : y.lo.lt y.hi = true := by simpa [Span.empty, hyo] using hy
    have h2 : y.has y.hi = false := by unfold Span.has; rw [hyo, Str.lt_irrefl]; simp
    have h3 : x.has y.hi = true := by unfold Span.has; rw [ho, hxy, Str.lt_asymm h1]; rfl
    rw [hk, h2] at h3; cases h3
   ·rfl
  cases oa : a.opn
  ·have ob : b.opn = false := by
    cases ob : b.opn
    ·rfl
    ·have := hop hlo.symm (fun k => (h k).symm) eb ea ob; rw [oa] at this; cases this
   have hhi : ∀ {x y : Span}, x.lo = y.lo → (∀ k, x.has k = y.has k) → x.empty = false → x.opn = false → y.opn = false → x.hi.lt y.hi = false := by
    intro x y hxy hk hx ho hyo
    cases hl : x.hi.lt y.hi
    ·rfl
    ·exfalso
     have h1 : x.lo.lt x.hi = true := by simpa [Span.empty, ho] using hx
     have h2 : x.has x.hi = false := by unfold Span.has; rw [ho, Str.lt_irrefl]; simp
     have h3 : y.has x.hi = true := by unfold Span.has; rw [hyo, ← hxy, Str.lt_asymm h1, hl]; rfl
     rw [← hk, h2] at h3; cases h3
   have e : a.hi = b.hi := Str.lt_total (hhi hlo h ea oa ob) (hhi hlo.symm (fun k => (h k).symm) eb ob oa)
   rw [if_neg (by simp), if_neg (by simp [ob])]
   cases a; cases b; simp_all
  ·have ob := hop hlo h ea eb oa
   rw [if_pos rfl, if_pos ob, ob]
   cases a; cases b; simp_all
 ·simp
theorem Zt3 (s : Span) : s.norm.norm = s.norm := Zbg fun k => Zaz s k
theorem XN (a b : Span) : (a.meet b).norm = a.meet b := Zt3 _
theorem ZgF {a b a' b' : Span} (h : ∀ k, (a.has k && b.has k) = (a'.has k && b'.has k)) : a.meet b = a'.meet b' := by
 rw [← XN a b, ← XN a' b']
 exact Zbg fun k => by rw [ZN, ZN]; exact h k
theorem Jq {m : Msg} {s : Span} : (m.clip s).2 = false ↔ (m.span.meet s).empty = true := by
 cases h : (m.span.meet s).empty
 ·by_cases k : m.kind = 4
  ·rw [Jc h k]; simp
  ·rw [ZaU h k]; simp
 ·rw [Jb h]; simp
theorem Zb9 {m : Msg} {s : Span} (h : (m.clip s).2 = true) (k : m.kind = 4) : (m.clip s).1.span = m.span.meet s := by
 rw [(Xb h).2, if_pos k]
 show Msg.span { m with key := (m.span.meet s).lo, hi := (m.span.meet s).hi, opn := (m.span.meet s).opn } = _
 generalize m.span.meet s = z
 unfold Msg.span
 rw [if_pos k]
theorem Zt4 {m : Msg} {s t : Span} (hst : ∀ k, s.has k = true → t.has k = true) : (if (m.clip t).2 = true then (m.clip t).1.clip s else (⟨0, 0, Str.nil, Str.nil, false, Str.nil⟩, false)) = m.clip s := by
 cases h : (m.clip t).2
 ·rw [if_neg (by simp)]
  have h1 := Jq.1 h
  have h2 : (m.span.meet s).empty = true := YO.2 fun k => by
   have := YO.1 h1 k
   rw [ZN, Bool.and_eq_false_iff] at this ⊢
   rcases this with h | h
   ·exact .inl h
   ·right
    cases hs : s.has k
    ·rfl
    ·rw [hst k hs] at h; cases h
  rw [Jb h2]
 ·rw [if_pos rfl]
  by_cases k : m.kind = 4
  ·have hs := Zb9 h k
   have k2 : (m.clip t).1.kind = 4 := by rw [(Xb h).2, if_pos k]; exact k
   have e : (m.span.meet t).meet s = m.span.meet s := ZgF fun q => by
    rw [ZN]
    cases hs : s.has q
    ·simp
    ·rw [hst q hs]; simp
   cases he : (m.span.meet s).empty
   ·rw [Jc (by rw [hs, e]; exact he) k2, Jc he k, hs, e, (Xb h).2, if_pos k]
   ·rw [Jb (by rw [hs, e]; exact he), Jb he]
  ·rw [(Xb h).2, if_neg k]
theorem XG {s t : Span} (hst : ∀ k, s.has k = true → t.has k = true) : ∀ (L : List Msg), Zc s (Zc t L) = Zc s L
 | [] => rfl
 | m :: L => by
  have e := Zt4 (m := m) hst
  rw [Xr t m L, Xr s m L, ← XG hst L]
  cases h : (m.clip t).2
  ·rw [if_neg (by simp)]
   rw [h, if_neg (by simp)] at e
   rw [← e, if_neg (by simp)]
  ·rw [if_pos rfl, Xr]
   rw [h, if_pos rfl] at e
   rw [e]
theorem X9 (s : Span) (A B : List Msg) : Zc s (A ++ B) = Zc s A ++ Zc s B := List.filterMap_append
theorem Zt5 {s : Span} {A B : List Msg} (h : A.Perm B) : (Zc s A).Perm (Zc s B) := List.Perm.filterMap _ h
theorem Zlt (s : Span) : ∀ (L : List (List Msg)), Zc s L.flatten = (L.map (Zc s)).flatten
 | [] => rfl
 | A :: L => by rw [List.flatten_cons, X9, Zlt s L]; rfl
theorem Jr {s : Span} {A : List Msg} (h : Rst A) : Rst (Zc s A) := by
 unfold Rst Zc
 rw [List.pairwise_filterMap]
 refine List.Pairwise.imp (fun {a b} hab x hx y hy => ?_) h
 split at hx
 ·split at hy
  ·rename_i h1 h2
   cases hx; cases hy
   rw [X0 h1, X0 h2]; exact hab
  ·cases hy
 ·cases hx
variable {c : Cfg} {l : List Nd} {ss : List Seat}
theorem Tree.from (t : Tree c l ss) {x : Seat} (hx : x ∈ ss) : x = Zm l 0 ∨ ∃ y ∈ ss, ∃ h0 : ¬ y.n.level = 0, ∃ j, j < y.n.kids.length ∧ x = Zb l y j := by
 rw [t.fix] at hx
 rcases List.mem_cons.1 hx with rfl | hx
 ·exact .inl rfl
 ·obtain ⟨y, hy, hk⟩ := List.mem_flatMap.1 hx
  by_cases h0 : y.n.level = 0
  ·rw [XA h0] at hk; cases hk
  ·rw [(Yc (t.kids hy) h0).1] at hk
   obtain ⟨j, hj, rfl⟩ := List.mem_map.1 hk
   exact .inr ⟨y, hy, h0, j, List.mem_range.1 hj, rfl⟩
theorem Tree.ind (t : Tree c l ss) {P : Seat → Prop} (h0 : P (Zm l 0)) (hk : ∀ x ∈ ss, ¬ x.n.level = 0 → P x → ∀ j, j < x.n.kids.length → P (Zb l x j)) : ∀ x ∈ ss, P x := by
 intro x hx
 apply Classical.byContradiction
 intro hn
 have hT : (ss.filter fun y => @decide (¬ P y) (Classical.propDecidable _)) ≠ [] := by
  intro e
  have : x ∈ ss.filter fun y => @decide (¬ P y) (Classical.propDecidable _) := List.mem_filter.2 ⟨hx, by simpa using hn⟩
  rw [e] at this; cases this
 obtain ⟨m, hm, hmax⟩ := Zef _ hT
 obtain ⟨hm1, hm2⟩ := List.mem_filter.1 hm
 have hm2 : ¬ P m := by simpa using hm2
 rcases t.from hm1 with rfl | ⟨y, hy, hy0, j, hj, rfl⟩
 ·exact hm2 h0
 ·refine hm2 (hk y hy hy0 ?_ j hj)
  apply Classical.byContradiction
  intro hPy
  have := hmax y (List.mem_filter.2 ⟨hy, by simpa using hPy⟩)
  have := (t.at hy hy0 hj).2.2.2
  omega
theorem Tree.inner (t : Tree c l ss) {x : Seat} (hx : x ∈ ss) (h0 : ¬ x.n.level = 0) : x.n.innerR c.fan c.bud := by
 have := (t.seat hx).1.2.2.2
 rwa [if_neg h0] at this
theorem Tree.leaf (t : Tree c l ss) {x : Seat} (hx : x ∈ ss) (h0 : x.n.level = 0) : x.n.leafR c.leaf := by
 have := (t.seat hx).1.2.2.2
 rwa [if_pos h0] at this
theorem Tree.nomsgs (t : Tree c l ss) {x : Seat} (hx : x ∈ ss) (h0 : x.n.level = 0) : x.n.msgs = [] := by
 have := (t.leaf hx h0).1
 exact List.eq_nil_of_length_eq_zero om9
theorem Tree.msgs (t : Tree c l ss) {x : Seat} (hx : x ∈ ss) : Rst x.n.msgs ∧ (∀ m ∈ x.n.msgs, m.R) ∧ ∀ m ∈ x.n.msgs, m.stamp ≤ x.n.seen := by
 by_cases h0 : x.n.level = 0
 ·rw [t.nomsgs hx h0]; exact ⟨List.Pairwise.nil, (fun m hm => by cases hm), fun m hm => by cases hm⟩
 ·obtain ⟨_, _, h3, _, _, _, h7⟩ := t.inner hx h0
  refine ⟨(MsgsR.iff.1 h3).2, (MsgsR.iff.1 h3).1, fun m hm => ?_⟩
  obtain ⟨i, hi, rfl⟩ := List.getElem_of_mem hm
  exact (h7 i hi).1
theorem ZaQ {A B : List Msg} (ha : Rst A) (hb : Rst B) (h : ∀ a ∈ A, ∀ b ∈ B, a.stamp < b.stamp) : ZO [A, B] = A ++ B ∧ Rst (A ++ B) := by
 have hr : Rst (A ++ B) := List.pairwise_append.2 ⟨ha, hb, h⟩
 refine ⟨Zll _ _ _ rfl ?_ (by simp) hr, hr⟩
 intro L hL
 simp only [List.mem_cons, List.not_mem_nil, or_false] at hL
 rcases hL with rfl | rfl
 ·exact ha
 ·exact hb
theorem JG {s : Span} {A : List Msg} {m : Msg} (h : m ∈ Zc s A) : ∃ a ∈ A, m.stamp = a.stamp := by
 obtain ⟨a, ha, h1, rfl⟩ := J0 h
 exact ⟨a, ha, X0 h1⟩
theorem Tree.kid_ms (t : Tree c l ss) {x : Seat} (hx : x ∈ ss) (hr : Rst x.ms) (j : Nat) :
  (Zb l x j).ms = Zc (Zb l x j).s x.n.msgs ++ Zc (Zb l x j).s x.ms ∧ Rst (Zb l x j).ms := by
 obtain ⟨h1, _, h3⟩ := t.msgs hx
 have hs := (t.seat hx).2.2.2
 have := ZaQ (A := Zc (Zb l x j).s x.n.msgs) (B := Zc (Zb l x j).s x.ms) (Jr h1) (Jr hr) fun a ha b hb => by
  obtain ⟨a', ha', e1⟩ := JG ha
  obtain ⟨b', hb', e2⟩ := JG hb
  have := h3 a' ha'
  obtain ⟨i, hi, rfl⟩ := List.getElem_of_mem hb'
  have := hs i hi
  omega
 have e : (Zb l x j).ms = ZO [Zc (Zb l x j).s x.n.msgs, Zc (Zb l x j).s x.ms] := rfl
 exact ⟨by rw [e, this.1], by rw [e, this.1]; exact this.2⟩
theorem Tree.rst (t : Tree c l ss) : ∀ x ∈ ss, Rst x.ms := t.ind List.Pairwise.nil fun x hx _ hr j _ => (t.kid_ms hx hr j).2
theorem Tree.fits (t : Tree c l ss) : ∀ x ∈ ss, (x.s.lo.b.size ≤ 16 ∧ x.s.hi.b.size ≤ 16) ∧ ∀ m ∈ x.ms, m.R := by
 refine t.ind ⟨⟨by show Str.nil.b.size ≤ 16; decide, by show Str.nil.b.size ≤ 16; decide⟩, fun m hm => by cases hm⟩ fun x hx h0 ih j hj => ?_
 have hi := t.inner hx h0
 have hsp : (Zb l x j).s.lo.b.size ≤ 16 ∧ (Zb l x j).s.hi.b.size ≤ 16 := Zb6 ih.1 (Zb7 fun k hk => by
  obtain ⟨i, hi2, rfl⟩ := List.getElem_of_mem hk
  exact (hi.2.2.2.2.2.1 i hi2).2.1)
 refine ⟨hsp, fun m hm => ?_⟩
 rw [(t.kid_ms hx (t.rst x hx) j).1, List.mem_append] at hm
 rcases hm with hm | hm <;> obtain ⟨a, ha, h1, rfl⟩ := J0 hm
 ·exact ZaX ((t.msgs hx).2.1 a ha) hsp.1 hsp.2 h1
 ·exact ZaX (ih.2 a ha) hsp.1 hsp.2 h1
theorem Zbh {x : Seat} {j : Nat} (k : Str) (h : (Zb l x j).s.has k = true) : x.s.has k = true := by
 have e : (Zb l x j).s.has k = (x.s.has k && (Zf x.n.pivots (j : Int)).has k) := ZN _ _ _
 rw [e, Bool.and_eq_true] at h
 exact h.1
theorem Tree.path (t : Tree c l ss) {k : Str} : ∀ (n : Nat) (x : Seat) (P : List Seat), x ∈ ss → x.n.level.toNat = n → x.s.has k = true → x.ms.Perm ((P.map fun y => Zc x.s y.n.msgs).flatten) →
  ∃ z, (P ++ Xs l k n x).getLast? = some z ∧ z ∈ ss ∧ z.n.level = 0 ∧ z.s.has k = true ∧ (∀ y ∈ Xs l k n x, y ∈ ss ∧ (y.n.level = 0 → y = z)) ∧ z.ms.Perm (((P ++ Xs l k n x).map fun y => Zc z.s y.n.msgs).flatten) := by
 intro n
 induction n with
 | zero =>
  intro x P hx hn hk hp
  have h0 : x.n.level = 0 := by have := t.lvl hx; omega
  refine ⟨x, by simp [Xs], hx, h0, hk, fun y hy => by simp [Xs] at hy; subst hy; exact ⟨hx, fun _ => rfl⟩, ?_⟩
  rw [Xs, List.map_append, List.flatten_append]
  simp only [List.map_cons, List.map_nil, List.flatten_cons, List.flatten_nil, t.nomsgs hx h0]
  simpa [Zc] using hp
 | succ n ih =>
  intro x P hx hn hk hp
  have h0 : ¬ x.n.level = 0 := om9
  have h3 := (Yc (t.kids hx) h0).2.2.1
  have hj := ZcW h3 k
  have ha := t.at hx h0 hj
  have hy : (Zb l x (Zg x.n.pivots k)).s.has k = true := by rw [Zbf h3 hj, hk]; simp
  have hms := (t.kid_ms hx (t.rst x hx) (Zg x.n.pivots k)).1
  rw [Zeg (JW h0)]
  obtain ⟨z, h1, h2, h4, h5, h6, h7⟩ := ih (Zb l x (Zg x.n.pivots k)) (P ++ [x]) ha.1 om9 hy (by
   rw [hms, List.map_append, List.flatten_append]
   simp only [List.map_cons, List.map_nil, List.flatten_cons, List.flatten_nil, List.append_nil]
   refine List.perm_append_comm.trans (List.Perm.append_right _ ?_)
   refine (Zt5 hp).trans (List.Perm.of_eq ?_)
   rw [Zlt, List.map_map]
   congr 1
   refine List.map_congr_left fun y _ => ?_
   exact XG (fun q hq => Zbh q hq) _)
  refine ⟨z, by simpa using h1, h2, h4, h5, fun y hy => ?_, by simpa using h7⟩
  rcases List.mem_cons.1 hy with rfl | hy
  ·exact ⟨hx, fun h => absurd h h0⟩
  ·exact h6 y hy
noncomputable def Zn (l : List Nd) (k : Str) : Seat := (ZC l k).getLast?.getD default
structure LeafOk (l : List Nd) (ss : List Seat) (k : Str) (z : Seat) : Prop where
 last : (ZC l k).getLast? = some z
 mem : z ∈ ss
 lvl : z.n.level = 0
 has : z.s.has k = true
 all : ∀ y ∈ ZC l k, y ∈ ss ∧ (y.n.level = 0 → y = z)
 perm : z.ms.Perm (((ZC l k).map fun y => Zc z.s y.n.msgs).flatten)
theorem Tree.leafOk (t : Tree c l ss) (k : Str) : LeafOk l ss k (Zn l k) := by
 obtain ⟨z, h1, h2, h3, h4, h5, h6⟩ := t.path (k := k) _ (Zm l 0) [] t.root rfl (Zax k) (by exact List.Perm.refl _)
 have h1 : (ZC l k).getLast? = some z := h1
 have e : Zn l k = z := by unfold Zn; rw [h1]; rfl
 rw [e]
 exact ⟨h1, h2, h3, h4, h5, h6⟩
theorem Tree.path_ms (t : Tree c l ss) (k : Str) : ZO ((ZC l k).map fun y => Zc (Zn l k).s y.n.msgs) = (Zn l k).ms := by
 have h := t.leafOk k
 refine Zll _ _ _ rfl (fun L hL => ?_) h.perm (t.rst _ h.mem)
 obtain ⟨y, hy, rfl⟩ := List.mem_map.1 hL
 exact Jr (t.msgs (h.all y hy).1).1
theorem Tree.leaf_eq (t : Tree c l ss) {k : Str} {x : Seat} (hx : x ∈ ss) (hk : x.s.has k = true) (h0 : x.n.level = 0) : x = Zn l k := by
 have : x ∈ ZC l k := by rw [← t.way k]; exact List.mem_filter.2 ⟨hx, hk⟩
 exact ((t.leafOk k).all x this).2 h0
theorem ZgG {K : Seat → List Seat} {T : List Seat} (h : T = T.flatMap K) (hf : ∀ x ∈ T, ∀ y ∈ K x, y.n.level < x.n.level) : T = [] := by
 apply Classical.byContradiction
 intro hn
 obtain ⟨m, hm, hx⟩ := Zef T hn
 have hm2 := hm
 rw [h] at hm2
 obtain ⟨x, hx1, hx2⟩ := List.mem_flatMap.1 hm2
 have := hf x hx1 m hx2
 have := hx x hx1
 omega
theorem Tree.kid_lvl (t : Tree c l ss) {x y : Seat} (hx : x ∈ ss) (hy : y ∈ Zk l x) : y ∈ ss ∧ y.n.level = x.n.level - 1 := by
 by_cases h0 : x.n.level = 0
 ·rw [XA h0] at hy; cases hy
 ·rw [(Yc (t.kids hx) h0).1] at hy
  obtain ⟨j, hj, rfl⟩ := List.mem_map.1 hy
  have := t.at hx h0 (List.mem_range.1 hj)
  exact ⟨this.1, this.2.2.2⟩
noncomputable def XH (l : List Nd) : Nat → Seat → List Seat
 | 0, x => [x]
 | n + 1, x => x :: (Zk l x).flatMap (XH l n)
theorem Zlu {α β : Type} {f g h : α → List β} (e : ∀ x, f x = g x ++ h x) : ∀ (L : List α), (L.flatMap f).Perm (L.flatMap g ++ L.flatMap h)
 | [] => List.Perm.refl _
 | x :: L => by
  rw [List.flatMap_cons, List.flatMap_cons, List.flatMap_cons, e x, List.append_assoc, List.append_assoc]
  refine List.Perm.append_left _ ?_
  refine (List.Perm.append_left _ (Zlu e L)).trans ?_
  rw [← List.append_assoc, ← List.append_assoc]
  exact List.perm_append_comm.append_right _
theorem Tree.pre_perm (t : Tree c l ss) : ∀ (n : Nat) (R T : List Seat), T = R ++ T.flatMap (Zk l) → (∀ x ∈ T, x ∈ ss) → (∀ x ∈ R, x.n.level.toNat = n) → T.Perm (R.flatMap (XH l n)) := by
 intro n
 induction n with
 | zero =>
  intro R T hT hs hR
  have hRT : ∀ x ∈ R, x ∈ T := fun x hx => by rw [hT]; exact List.mem_append_left _ hx
  have h0 : ∀ x ∈ R, x.n.level = 0 := fun x hx => by have := t.lvl (hs x (hRT x hx)); have := hR x hx; omega
  have hK : R.flatMap (Zk l) = [] := List.flatMap_eq_nil_iff.2 fun x hx => XA (h0 x hx)
  generalize hS : T.flatMap (Zk l) = S at hT
  have hS2 : S = S.flatMap (Zk l) := by
   conv => lhs; rw [← hS, hT]
   rw [List.flatMap_append, hK, List.nil_append]
  have hST : ∀ x ∈ S, x ∈ T := fun x hx => by rw [hT]; exact List.mem_append_right _ hx
  have hn := ZgG hS2 fun x hx y hy => by have := (t.kid_lvl (hs x (hST x hx)) hy).2; omega
  rw [hT, hn, List.append_nil]
  exact List.Perm.of_eq (List.flatMap_singleton' R).symm
 | succ n ih =>
  intro R T hT hs hR
  have hRT : ∀ x ∈ R, x ∈ T := fun x hx => by rw [hT]; exact List.mem_append_left _ hx
  generalize hS : T.flatMap (Zk l) = S at hT
  have hS2 : S = R.flatMap (Zk l) ++ S.flatMap (Zk l) := by
   conv => lhs; rw [← hS, hT]
   rw [List.flatMap_append]
  have hST : ∀ x ∈ S, x ∈ T := fun x hx => by rw [hT]; exact List.mem_append_right _ hx
  have h1 := ih (R.flatMap (Zk l)) S hS2 (fun x hx => hs x (hST x hx)) fun y hy => by
   obtain ⟨x, hx, hyx⟩ := List.mem_flatMap.1 hy
   have := (t.kid_lvl (hs x (hRT x hx)) hyx).2
   have := hR x hx
   omega
  rw [hT]
  refine (List.Perm.append_left R h1).trans ?_
  have h2 := Zlu (f := XH l (n + 1)) (g := fun x => [x]) (h := fun x => (Zk l x).flatMap (XH l n)) (fun x => rfl) R
  rw [List.flatMap_singleton' R] at h2
  refine List.Perm.trans ?_ h2.symm
  rw [List.flatMap_assoc]
theorem Tree.pre_len (t : Tree c l ss) : ∀ (n : Nat) (x : Seat), x ∈ ss → x.n.level.toNat = n → 2 ^ (n + 1) ≤ (XH l n x).length + 1 := by
 intro n
 induction n with
 | zero => intro x _ _; simp [XH]
 | succ n ih =>
  intro x hx hn
  have h0 : ¬ x.n.level = 0 := om9
  have hk := (t.inner hx h0).1.2.1
  have h1 := (Yc (t.kids hx) h0).1
  have hl : (Zk l x).length = x.n.kids.length := by rw [h1, JV]
  have key : ∀ y ∈ Zk l x, 2 ^ (n + 1) ≤ (XH l n y).length + 1 := fun y hy => by
   have := t.kid_lvl hx hy
   exact ih y this.1 om9
  rw [XH, List.length_cons]
  match hL : Zk l x with
  | [] => rw [hL] at hl; simp at hl; omega
  | [a] => rw [hL] at hl; simp at hl; omega
  | a :: b :: R =>
   rw [hL] at key
   have ha := key a (by simp)
   have hb := key b (by simp)
   rw [List.flatMap_cons, List.flatMap_cons, List.length_append, List.length_append]
   have : 2 ^ (n + 1 + 1) = 2 ^ (n + 1) + 2 ^ (n + 1) := by rw [Nat.pow_succ]; omega
   omega
theorem Tree.height (t : Tree c l ss) : (Zm l 0).n.level ≤ 11 := by
 have h1 := t.pre_perm (Zm l 0).n.level.toNat [Zm l 0] ss (by exact t.fix) (fun x hx => hx) (fun x hx => by simp at hx; rw [hx])
 rw [List.flatMap_cons, List.flatMap_nil, List.append_nil] at h1
 have h2 := t.pre_len _ _ t.root rfl
 rw [← h1.length_eq, t.len] at h2
 have h3 := t.sml.1
 apply Classical.byContradiction
 intro hn
 have h4 : 2 ^ 13 ≤ 2 ^ ((Zm l 0).n.level.toNat + 1) := Nat.pow_le_pow_right om9 om9
 omega
theorem Zt6 (t : Tree c l ss) (k : Str) : ∀ (n : Nat) (x : Seat), x ∈ ss → x.n.level.toNat = n → (Xs l k n x).length = n + 1 := by
 intro n
 induction n with
 | zero => intro x _ _; rfl
 | succ n ih =>
  intro x hx hn
  have h0 : ¬ x.n.level = 0 := om9
  have ha := t.step (k := k) hx (JW h0)
  rw [Zeg (JW h0), List.length_cons, ih _ ha.1 om9]
theorem Tree.way_len (t : Tree c l ss) (k : Str) : (ZC l k).length ≤ 100 := by
 have h5 : (ZC l k).length = (Zm l 0).n.level.toNat + 1 := Zt6 t k _ (Zm l 0) t.root rfl
 have := t.height
 have := t.lvl t.root
 omega
def YD (x : Seat) : List Pair := Zu (x.n.rows.filter fun p => x.s.has p.key) (Zc x.s x.ms)
def ZF (ss : List Seat) : List Seat := ss.filter fun x => decide (x.n.level = 0)
noncomputable def Zh (l : List Nd) : List Pair := match Y4 l 0 with | none => [] | some ss => (ZF ss).flatMap YD
theorem Js (h : Y4 l 0 = some ss) : Zh l = (ZF ss).flatMap YD := by rw [Zh, h]
theorem Tree.rows (t : Tree c l ss) {x : Seat} (hx : x ∈ ss) : PairsR x.n.rows := by
 by_cases h0 : x.n.level = 0
 ·exact (t.leaf hx h0).2.2.1
 ·have := (t.inner hx h0).1.1
  rw [List.eq_nil_of_length_eq_zero this]
  intro i hi; simp at hi
theorem Y5 {m : Msg} (h : m.R) : m.key.b.size ≤ 16 ∧ m.val.b.size ≤ 16 := ⟨h.1.2.1, h.1.2.2.1⟩
theorem Tree.view (t : Tree c l ss) {x : Seat} (hx : x ∈ ss) : YD x = (Zu x.n.rows x.ms).filter fun p => x.s.has p.key :=
 Zbc (t.rows hx).srt fun m hm => by have := (Y5 ((t.fits x hx).2 m hm)).1; omega
theorem Tree.view_get (t : Tree c l ss) {x : Seat} (hx : x ∈ ss) (k : Str) : Zi (YD x) k = if x.s.has k = true then Zi (Zu x.n.rows x.ms) k else none := by
 rw [t.view hx, Zbu]
theorem Zlv {k : Str} : ∀ (T : List Seat), (∀ x ∈ T, x.s.has k = false → Zi (YD x) k = none) → Zi (T.flatMap YD) k = Zi ((XX k T).flatMap YD) k
 | [], _ => rfl
 | x :: T, h => by
  have ih := Zlv T (fun y hy => h y (List.mem_cons_of_mem _ hy))
  unfold XX at *
  rw [List.flatMap_cons, Zcm, ih, List.filter_cons]
  cases hk : x.s.has k
  ·rw [if_neg (by simp), h x (by simp) hk]; rfl
  ·rw [if_pos rfl, List.flatMap_cons, Zcm]
theorem Zt7 {k : Str} (t : Tree c l ss) : ∀ (n : Nat) (x : Seat), x ∈ ss → x.n.level.toNat = n → ∃ z, ZF (Xs l k n x) = [z] ∧ (Xs l k n x).getLast? = some z := by
 intro n
 induction n with
 | zero =>
  intro x hx hn
  have h0 : x.n.level = 0 := by have := t.lvl hx; omega
  exact ⟨x, by simp [Xs, ZF, h0], by simp [Xs]⟩
 | succ n ih =>
  intro x hx hn
  have h0 : ¬ x.n.level = 0 := om9
  have ha := t.step (k := k) hx (JW h0)
  obtain ⟨z, h1, h2⟩ := ih _ ha.1 om9
  rw [Zeg (JW h0)]
  refine ⟨z, ?_, ?_⟩
  ·unfold ZF at *
   rw [List.filter_cons_of_neg (by simpa using h0)]; exact h1
  ·rw [List.getLast?_cons, h2]; rfl
theorem Tree.get (t : Tree c l ss) (k : Str) : Zi (Zh l) k = Zi (Zu (Zn l k).n.rows (Zn l k).ms) k := by
 have h := t.leafOk k
 rw [Js t.sts, Zlv _ (fun x hx hk => by rw [t.view_get (List.mem_filter.1 hx).1, hk]; rfl)]
 have e : XX k (ZF ss) = [Zn l k] := by
  have : XX k (ZF ss) = ZF (XX k ss) := by
   unfold XX ZF
   rw [List.filter_filter, List.filter_filter]
   exact List.filter_congr fun x _ => Bool.and_comm _ _
  rw [this, t.way k]
  obtain ⟨z, h1, h2⟩ := Zt7 (k := k) t _ (Zm l 0) t.root rfl
  have h3 : (ZC l k).getLast? = some z := h2
  rw [h.last] at h3
  cases h3
  exact h1
 rw [e, List.flatMap_cons, List.flatMap_nil, List.append_nil, t.view_get h.mem, if_pos h.has]
def YP (k : Str) (A : List Msg) : Nat := (A.filter fun m => m.span.has k).length
theorem Zt8 (k : Str) (A B : List Msg) : YP k (A ++ B) = YP k A + YP k B := by simp [YP]
theorem Zt9 {k : Str} {A B : List Msg} (h : A.Perm B) : YP k A = YP k B := (List.Perm.filter _ h).length_eq
theorem Zlw (k : Str) : ∀ (L : List (List Msg)), YP k L.flatten = (L.map (YP k)).sum
 | [] => rfl
 | A :: L => by rw [List.flatten_cons, Zt8, Zlw k L]; simp
theorem Zlx {k : Str} {s : Span} (hk : s.has k = true) : ∀ (A : List Msg), YP k (Zc s A) = YP k A
 | [] => rfl
 | m :: A => by
  have ih := Zlx hk A
  have ec : YP k (m :: A) = (if m.span.has k = true then 1 else 0) + YP k A := by
   unfold YP; rw [List.filter_cons]; split <;> simp; omega
  rw [Xr, ec]
  cases h : (m.clip s).2
  ·rw [if_neg (by simp), ih]
   have := YO.1 (Jq.1 h) k
   rw [ZN, hk, Bool.and_true] at this
   rw [this]; simp
  ·rw [if_pos rfl]
   have e2 : YP k ((m.clip s).1 :: Zc s A) = (if (m.clip s).1.span.has k = true then 1 else 0) + YP k (Zc s A) := by
    unfold YP; rw [List.filter_cons]; split <;> simp; omega
   rw [e2, ih]
   congr 2
   by_cases h4 : m.kind = 4
   ·rw [Zb9 h h4, ZN, hk, Bool.and_true]
   ·rw [(Xb h).2, if_neg h4]
theorem Zly {k : Str} (hk : k.b.size < 140737488355328) : ∀ (A : List Msg), (Zc ⟨k, k.next, false⟩ A).length = YP k A
 | [] => rfl
 | m :: A => by
  have ih := Zly hk A
  rw [Xr]
  have e : (m.clip ⟨k, k.next, false⟩).2 = m.span.has k := by
   cases h : (m.clip ⟨k, k.next, false⟩).2
   ·have := YO.1 (Jq.1 h) k
    rw [ZN, J9 hk] at this
    simpa using this.symm
   ·cases h2 : m.span.has k
    ·exfalso
     have : (m.span.meet ⟨k, k.next, false⟩).empty = true := YO.2 fun q => by
      rw [ZN, J9 hk]
      by_cases e : q = k
      ·subst e; rw [h2]; rfl
      ·simp [e]
     rw [Jq.2 this] at h; cases h
    ·rfl
  unfold YP
  rw [List.filter_cons, e]
  split
  ·rw [List.length_cons, List.length_cons, ih]; rfl
  ·rw [ih]; rfl
def Zlz (k : Str) (l : List Nd) : Nat := (l.map fun n => YP k n.msgs).sum
theorem Tree.depth (t : Tree c l ss) {k : Str} (hk : k.b.size < 140737488355328) : (Zc ⟨k, k.next, false⟩ (Zn l k).ms).length = Zlz k l := by
 have h := t.leafOk k
 rw [Zly hk, Zt9 h.perm, Zlw, List.map_map]
 have e1 : ((ZC l k).map (YP k ∘ fun y => Zc (Zn l k).s y.n.msgs)) = (ZC l k).map fun y => YP k y.n.msgs :=
  List.map_congr_left fun y _ => Zlx h.has _
 rw [e1, ← t.way k]
 have e2 : ∀ (T : List Seat), (∀ x ∈ T, x ∈ ss) → ((XX k T).map fun y => YP k y.n.msgs).sum = (T.map fun y => YP k y.n.msgs).sum := by
  intro T
  induction T with
  | nil => intro _; rfl
  | cons x T ih =>
   intro hT
   have ih := ih (fun y hy => hT y (List.mem_cons_of_mem _ hy))
   unfold XX at *
   rw [List.filter_cons]
   cases hx : x.s.has k
   ·rw [if_neg (by simp), ih]
    have : YP k x.n.msgs = 0 := by
     unfold YP
     rw [List.length_eq_zero_iff, List.filter_eq_nil_iff]
     intro m hm
     obtain ⟨i, hi, rfl⟩ := List.getElem_of_mem hm
     have := (t.seat (hT x (by simp))).2.1.2.2.2 i hi
     have := congrArg (fun s : Span => s.has k) this
     simp only [ZN, Zaz, hx, Bool.and_false] at this
     rw [← this]; simp
    simp [this]
   ·rw [if_pos rfl]; simp [ih]
 rw [e2 ss (fun x hx => hx)]
 unfold Zlz
 have := (t.perm.map fun n : Nd => YP k n.msgs).sum_nat
 rw [← this, List.map_map]; rfl
variable {c : Cfg} {l : List Nd} {ss : List Seat}
structure At (l : List Nd) (ss : List Seat) (k : Str) (x : Seat) (P : List Seat) (lv : Int) : Prop where
 mem : x ∈ ss
 way : ZC l k = P ++ Xs l k x.n.level.toNat x
 lv : lv < 0 ∨ lv = x.n.level + 1
theorem At.init (t : Tree c l ss) (k : Str) : At l ss k (Zm l 0) [] (-1) := ⟨t.root, rfl, .inl om9⟩
theorem At.last {k : Str} {x : Seat} {P : List Seat} {lv : Int} (h : At l ss k x P lv) (h0 : x.n.level ≤ 0) : ZC l k = P ++ [x] := by
 rw [h.way, show x.n.level.toNat = 0 by omega]; rfl
theorem Tree.right (t : Tree c l ss) {x : Seat} (hx : x ∈ ss) (h0 : ¬ x.n.level ≤ 0) : Ys x.n.pivots x.n.kids.length = true := (Yc (t.kids hx) om9).2.2.1
theorem Tree.route (t : Tree c l ss) {x : Seat} (hx : x ∈ ss) (h0 : ¬ x.n.level ≤ 0) (k : Str) : Zg x.n.pivots k < x.n.kids.length := ZcW (t.right hx h0) k
theorem At.next (t : Tree c l ss) {k : Str} {x : Seat} {P : List Seat} {lv : Int} (h : At l ss k x P lv) (h0 : ¬ x.n.level ≤ 0) : At l ss k (Zb l x (Zg x.n.pivots k)) (P ++ [x]) x.n.level := by
 have ha := t.at h.mem om9 (t.route h.mem h0 k)
 refine ⟨ha.1, ?_, .inr om9⟩
 rw [h.way, show x.n.level.toNat = (Zb l x (Zg x.n.pivots k)).n.level.toNat + 1 by omega, Zeg (JW om9)]
 simp
theorem At.slot (t : Tree c l ss) {x : Seat} (hx : x ∈ ss) (h0 : ¬ x.n.level ≤ 0) (k : Str) : (Zb l x (Zg x.n.pivots k)).n.slot = x.n.kids[Zg x.n.pivots k]'(t.route hx h0 k) := by
 have ha := t.at hx om9 (t.route hx h0 k)
 rw [ha.2.2.1]
 exact (YN t.slot ha.2.1).1
theorem At.plen (t : Tree c l ss) {k : Str} {x : Seat} {P : List Seat} {lv : Int} (h : At l ss k x P lv) : P.length ≤ 100 := by
 have h1 := t.way_len k
 rw [h.way, List.length_append] at h1
 omega
theorem Tree.root0 (t : Tree c l ss) : (Zm l 0).n.slot = 0 := by
 rw [t.rootn]
 exact (YN t.slot ⟨Int.le_refl 0, by have := t.pos; omega⟩).1
theorem Tree.way_pos (t : Tree c l ss) (k : Str) : 0 < (ZC l k).length := by
 have h := (t.leafOk k).last
 cases e : ZC l k with
 | nil => rw [e] at h; cases h
 | cons a b => simp
theorem Tree.last_at (t : Tree c l ss) (k : Str) {i : Nat} (h : i < (ZC l k).length) (hi : i + 1 = (ZC l k).length) : (ZC l k)[i] = Zn l k := by
 have h2 := (t.leafOk k).last
 rw [List.getLast?_eq_getElem?, show (ZC l k).length - 1 = i by omega, List.getElem?_eq_getElem h] at h2
 exact Option.some.inj h2
theorem Tree.last_n (t : Tree c l ss) (k : Str) {i : Nat} (h : i < ((ZC l k).map fun y : Seat => y.n).length) (hi : i + 1 = (ZC l k).length) : ((ZC l k).map fun y : Seat => y.n)[i] = (Zn l k).n := by
 rw [List.getElem_map, t.last_at k om9 hi]
theorem Tree.last_s (t : Tree c l ss) (k : Str) {i : Nat} (h : i < ((ZC l k).map fun y : Seat => y.s).length) (hi : i + 1 = (ZC l k).length) : ((ZC l k).map fun y : Seat => y.s)[i] = (Zn l k).s := by
 rw [List.getElem_map, t.last_at k om9 hi]
theorem Tree.path_msgs (t : Tree c l ss) (k : Str) {s : Span} (hs : s = (Zn l k).s) : ZO (((((ZC l k).map fun y : Seat => y.n).map fun n : Nd => n.msgs)).map (Zc s)) = (Zn l k).ms := by
 rw [← t.path_ms k, hs, List.map_map, List.map_map]; rfl
theorem Tree.way_mem (t : Tree c l ss) {k : Str} {y : Seat} (h : y ∈ ZC l k) : y ∈ ss := ((t.leafOk k).all y h).1
theorem Tree.path_key (t : Tree c l ss) (k : Str) : ∀ i (h : i < (((ZC l k).map fun y : Seat => y.n).map fun n : Nd => n.msgs).length), ∀ m ∈ (((ZC l k).map fun y : Seat => y.n).map fun n : Nd => n.msgs)[i], m.key.b.size < 140737488355328 := by
 intro i h m hm
 simp only [List.getElem_map] at hm
 have := (Y5 ((t.msgs (t.way_mem (List.getElem_mem (by simpa using h)))).2.1 m hm)).1
 omega
theorem ZlA {b : Nat} : ∀ {C : Ls}, (∀ L ∈ C, L.length ≤ b) → YI C ≤ C.length * b
 | [], _ => Nat.zero_le _
 | A :: C, h => by
  have h1 := h A (by simp)
  have h2 := ZlA (b := b) (C := C) (fun L hL => h L (List.mem_cons_of_mem _ hL))
  rw [ZaP, List.length_cons, Nat.succ_mul]; omega
theorem Tree.path_tot (t : Tree c l ss) (k : Str) : YI (((ZC l k).map fun y : Seat => y.n).map fun n : Nd => n.msgs) ≤ 400000 := by
 have h1 := ZlA (b := 4000) (C := ((ZC l k).map fun y : Seat => y.n).map fun n : Nd => n.msgs) fun L hL => by
  obtain ⟨n, hn, rfl⟩ := List.mem_map.1 hL
  obtain ⟨y, hy, rfl⟩ := List.mem_map.1 hn
  exact (t.sml.at (.inr (t.nd (t.way_mem hy)).2.2)).2.2.1
 have h2 := t.way_len k
 simp only [List.length_map] at h1
 omega
theorem ZgH : ∀ {ms : List Msg}, (∀ m ∈ ms, m.R) → 4 * (ms.length : Int) ≤ Zw ms
 | [], _ => by simp [Zw]
 | m :: ms, h => by
  have h1 := ZgH (ms := ms) (fun a ha => h a (List.mem_cons_of_mem _ ha))
  have h2 := Zcl (Y5 (h m (by simp)))
  rw [Zc6, List.length_cons]; omega
theorem Tree.msgs_len (t : Tree c l ss) {x : Seat} (hx : x ∈ ss) : x.n.msgs.length ≤ 1024 := by
 by_cases h0 : x.n.level = 0
 ·rw [t.nomsgs hx h0]; exact Nat.zero_le _
 ·have h1 := (t.inner hx h0).2.2.2.1
  have h2 := ZgH (t.msgs hx).2.1
  have h3 := t.cfg.2.2.1.2
  omega
theorem Tree.rows_len (t : Tree c l ss) {x : Seat} (hx : x ∈ ss) : x.n.rows.length ≤ 64 := by
 by_cases h0 : x.n.level = 0
 ·have h1 := (t.leaf hx h0).2.1
  have h3 := t.cfg.2.1.2
  omega
 ·have := (t.inner hx h0).1.1
  omega
theorem Tree.ms_len (t : Tree c l ss) : ∀ x ∈ ss, x.ms.length ≤ 1024 * (100 - x.n.level.toNat) ∧ x.n.level ≤ 99 := by
 have hr := t.height
 refine t.ind ⟨Nat.zero_le _, om9⟩ fun x hx h0 ih j hj => ?_
 have ha := t.at hx h0 hj
 have hlx := t.lvl hx
 have hly := t.lvl ha.1
 have hms := congrArg List.length (t.kid_ms hx (t.rst x hx) j).1
 rw [List.length_append] at hms
 have c1 : (Zc (Zb l x j).s x.n.msgs).length ≤ x.n.msgs.length := ZaA
 have c2 : (Zc (Zb l x j).s x.ms).length ≤ x.ms.length := ZaA
 have c3 := t.msgs_len hx
 refine ⟨?_, om9⟩
 have : 100 - (Zb l x j).n.level.toNat = 100 - x.n.level.toNat + 1 := om9
 rw [this]
 omega
theorem Tree.lookup (t : Tree c l ss) (k : Str) : Eff.apply (YB (Zn l k).ms k) (Zi (Zn l k).n.rows k) = Zi (Zh l) k := by
 rw [t.get k, Zm4]
 intro m hm
 have := (t.fits _ (t.leafOk k).mem).2 m hm
 have h4 := MsgsR.kinds (l := [m]) (MsgsR.iff.2 ⟨by intro a ha; simp at ha; subst ha; exact this, List.pairwise_singleton _ _⟩) m (by simp)
 exact ⟨by have := (Y5 this).1; omega, h4.1, h4.2⟩
end Go.Fw

namespace Go.Fw
def Xt (l : List Pair) (n : Int) : Nat := (max 0 (min (l.length : Int) n)).toNat
theorem Zua (l : List Pair) (n : Int) : ((Xt l n : Nat) : Int) = max 0 (min (l.length : Int) n) := by unfold Xt; omega
def Zbi (l : List Pair) (s : Span) (ms : List Msg) (c : Str) (n : Int) : List Pair × Str × Bool :=
 if s.empty = true then ([], c, true) else ((Zu (l.filter fun p => Span.has s p.key) (Zc s ms)).take (Xt (Zu (l.filter fun p => Span.has s p.key) (Zc s ms)) n), (if s.opn = true then Str.nil else s.hi), s.opn || decide (n ≤ ((Zu (l.filter fun p => Span.has s p.key) (Zc s ms)).length : Int)))
theorem Zub {l : List Pair} {s : Span} {ms : List Msg} {c : Str} {n : Int} (h : s.empty = true) : Zbi l s ms c n = ([], c, true) := if_pos h
theorem ZgI {l : List Pair} {s : Span} {ms : List Msg} {c : Str} {n : Int} (h : s.empty = false) {x : Str} {b : Bool} (hx : x = if s.opn = true then Str.nil else s.hi) (hb : b = (s.opn || decide (n ≤ ((Zu (l.filter fun p => Span.has s p.key) (Zc s ms)).length : Int)))) :
  Zbi l s ms c n = ((Zu (l.filter fun p => Span.has s p.key) (Zc s ms)).take (Xt (Zu (l.filter fun p => Span.has s p.key) (Zc s ms)) n), x, b) := by rw [Zbi, if_neg (by simp [h]), hx, hb]
end Go.Fw
