/- Walks of library functions that delete in place. -/
import Derived.Test.YthmkpaoolhcibaaDoorW7
import Derived.Test.YthmkpaoolhcibaaDoorMh
namespace Go.Proofs.YthmkpaoolhcibaaDoor
open Go Go.Fw Go.RowKit
set_option maxRecDepth 100000
set_option maxHeartbeats 1600000
set_option linter.unusedVariables false
set_option linter.unusedSimpArgs false
set_option linter.unnecessarySimpa false
theorem wo1_fc {G : GH} (pk : Str) (pv : Str) (slo : Str) (shi : Str) (so : Bool) {b_s : Nat} (h_s : CellsG G b_s 0 [.string slo.b, .string shi.b, .bool so]) :
    Fc Tryd.prog 69 [.agg #[.string pk.b, .string pv.b], .pointer (some ⟨b_s, 0, none⟩)] G [] (fun v _ _ => v = .bool (Span.has ⟨slo, shi, so⟩ pk)) := by
 refine Fc.intro (rs := [.tmp 3]) cl69 Tryd.func69 rfl Tryd.ntmps69 rfl rfl (fun w0 => ?_)
 refine WC.seq ?_
 refine WC.region ?_
 refine W.box (L := [.string _, .string _]) rfl rfl (fun b1 => ?_)
 refine W.as ?_
 refine W.nil (thn_n ?_)
 refine WC.seq ?_
 refine WC.region ?_
 refine W.ok (ok_loadG (vs := [.string _, .string _, .bool _]) ty56 h_s rfl rfl rfl (by simp)) ?_
 refine W.ok (ok_fieldB fd45_0 rfl) ?_
 refine W.ok (ok_loadB (i := 0) (vs := [.string _]) ty9 rfl rfl rfl rfl (by simp)) ?_
 refine W.qcall (spanhas_fc _ _ _ _) rfl ?_
 refine W.as ?_
 refine W.nil (thn_n ?_)
 refine WC.ret ?_
 refine ⟨.inr rfl, [_], ⟨rfl, trivial⟩, [], List.nil_sublist _, ?_⟩
 rfl

theorem ixfp_fc {G : GH} {v_l : Value} {l : List Pair} {Ms_l : MH} (h_l : OwnR ePair 45 G v_l l Ms_l) (slo : Str) (shi : Str) (so : Bool) {b_s : Nat} (h_s : CellsG G b_s 0 [.string slo.b, .string shi.b, .bool so]) :
    Fc Tryd.prog 77 [v_l, .func (.func 69) #[] #[.pointer (some ⟨b_s, 0, none⟩)]] G Ms_l (fun v _ M' => v = .int .i64 (idxN (fun p : Pair => Span.has ⟨slo, shi, so⟩ p.key) l) ∧ Ms_l = M') := by
 have hl := h_l.len47
 refine Fc.intro (rs := [.tmp 4]) cl77 Tryd.func77 rfl Tryd.ntmps77 rfl rfl (fun w0 => ?_)
 refine WC.perm (M' := (Ms_l ++ [])) (by simp) ?_
 refine WC.seq ?_
 refine WC.region ?_
 refine W.as ?_
 refine W.nil (thn_n ?_)
 refine WC.seq ?_
 refine WC.seq ?_
 refine WC.region ?_
 refine W.mv ?_
 refine W.ok (ok_lenO sl25 h_l rfl) ?_
 refine W.mv ?_
 refine W.nil (thn_n ?_)
 refine WC.block ?_
 refine WC.loop (X := Nat) (fun k => [(8, .int .i64 ((k : Nat) : Int)), (0, v_l), (1, .func (.func 69) #[] #[.pointer (some ⟨b_s, 0, none⟩)]), (7, .int .i64 (((l).length : Nat) : Int))]) (fun k _ Ml => Ml = (Ms_l ++ []) ∧ k ≤ l.length ∧ ∀ j (h : j < l.length), j < k → (fun p : Pair => Span.has ⟨slo, shi, so⟩ p.key) l[j] = false) (fun k => l.length - k) 0 ⟨(by first | rfl | exact iv (by dsimp only; omega) | exact iv (by omega)), (by first | rfl | exact iv (by dsimp only; omega) | exact iv (by omega)), (by first | rfl | exact iv (by dsimp only; omega) | exact iv (by omega)), (by first | rfl | exact iv (by dsimp only; omega) | exact iv (by omega)), trivial⟩ ?_ ?_
 ·exact ⟨rfl, by omega, fun j _ h => by omega⟩
 ·rintro k gG2 G2 _ hG2 ⟨rfl, hk, hj⟩
  refine WC.seq ?_
  refine WC.region ?_
  refine W.ok (ok_lss rfl rfl) ?_
  refine W.nil (thn_n ?_)
  refine WC.seq ?_
  refine WC.cond (b := _) rfl (fun h9 => ?_) (fun h9 => ?_)
  ·have p9 := of_decide_eq_true h9
   refine WC.skip (thn_n ?_)
   refine WC.seq ?_
   refine WC.block ?_
   refine WC.seq ?_
   refine WC.region ?_
   refine W.mv ?_
   refine W.as ?_
   refine W.nil (thn_n ?_)
   refine WC.seq ?_
   refine WC.region ?_
   refine W.mv ?_
   refine W.mv ?_
   refine W.mv ?_
   have q5 := (h_l.mono hG2).at (i := k) (by omega)
   refine match q5 with | ⟨_, he3, e_4⟩ => ?_
   subst e_4
   refine W.ok (ok_indexAddrO (i := k) sl25 ty45 (h_l.mono hG2) rfl rfl ⟨by omega, by omega⟩) ?_
   refine W.ok (ok_loadO (vs := [.string _, .string _]) ty45 he3 (List.Perm.refl _) rfl rfl rfl (by simp)) ?_
   refine W.qcallV (fst := []) (caps := [.pointer (some ⟨b_s, 0, none⟩)]) rfl (wo1_fc _ _ _ _ _ (h_s.mono hG2)) rfl ?_
   refine W.nil (thn_n ?_)
   refine WC.cond (b := _) rfl (fun h16 => ?_) (fun h16 => ?_)
   ·refine WC.seq ?_
    refine WC.region ?_
    refine W.mv ?_
    refine W.as ?_
    refine W.nil (thn_n ?_)
    refine WC.ret (blk_r (thn_r (thn_r (blk_r (thn_r ?_)))))
    refine ⟨.inr rfl, [_], ⟨rfl, trivial⟩, Ms_l, List.sublist_append_left _ _, ?_⟩
    refine ⟨congrArg (Value.int .i64) ?_, rfl⟩
    exact (idxN_at (by omega) (h16) hj).symm
   ·refine WC.skip (blk_n (thn_n ?_))
    refine WC.region ?_
    refine W.ok (ok_add rfl rfl (by omega)) ?_
    refine W.mv ?_
    refine W.nil (thn_n ?_)
    exact ⟨Le.rfl, k + 1, ⟨(by first | rfl | exact iv (by dsimp only; omega) | exact iv (by omega)), (by first | rfl | exact iv (by dsimp only; omega) | exact iv (by omega)), (by first | rfl | exact iv (by dsimp only; omega) | exact iv (by omega)), (by first | rfl | exact iv (by dsimp only; omega) | exact iv (by omega)), trivial⟩, ⟨rfl, by omega, fun j h hji => by
      by_cases e2 : j = k
      · subst e2; exact h16
      · exact hj j h (by omega)⟩, by omega⟩
  ·have p9 := of_decide_eq_false h9
   refine WC.exit (thn_x (thn_x (blk_h (thn_n ?_))))
   refine WC.seq ?_
   refine WC.region ?_
   refine W.as ?_
   refine W.nil (thn_n ?_)
   refine WC.ret ?_
   refine ⟨.inr rfl, [_], ⟨rfl, trivial⟩, Ms_l, List.sublist_append_left _ _, ?_⟩
   refine ⟨congrArg (Value.int .i64) ?_, rfl⟩
   exact (idxN_no (fun j h => hj j h (by omega))).symm

theorem dfp_fc {G : GH} {v_l : Value} {l : List Pair} {Ms_l : MH} (h_l : OwnR ePair 45 G v_l l Ms_l) (slo : Str) (shi : Str) (so : Bool) {b_s : Nat} (h_s : CellsG G b_s 0 [.string slo.b, .string shi.b, .bool so]) :
    Fc Tryd.prog 68 [v_l, .func (.func 69) #[] #[.pointer (some ⟨b_s, 0, none⟩)]] G Ms_l (fun v G' M' => OwnR ePair 45 G' v (l.filter (fun a => !(fun p : Pair => Span.has ⟨slo, shi, so⟩ p.key) a)) M') := by
 have hl := h_l.len47
 have hix := idxN_le (fun p : Pair => Span.has ⟨slo, shi, so⟩ p.key) l
 refine Fc.intro (rs := [.tmp 4]) cl68 Tryd.func68 rfl Tryd.ntmps68 rfl rfl (fun w0 => ?_)
 refine WC.perm (M' := (Ms_l ++ [])) (by simp) ?_
 refine WC.seq ?_
 refine WC.region ?_
 refine W.as ?_
 refine W.nil (thn_n ?_)
 refine WC.seq ?_
 refine WC.region ?_
 refine W.mv ?_
 refine W.mv ?_
 refine W.call (Mp := Ms_l) (ixfp_fc h_l _ _ _ h_s) rfl (List.Perm.refl _) ?_
 intro _ G6 Ms8 hG6 q7
 refine match q7 with | ⟨e_9, e_10⟩ => ?_
 subst e_9
 subst e_10
 refine W.as ?_
 refine W.nil (thn_n ?_)
 refine WC.seq ?_
 refine WC.seq ?_
 refine WC.region ?_
 refine W.mv ?_
 refine W.ok (ok_eql rfl rfl) ?_
 refine W.nil (thn_n ?_)
 refine WC.cond (b := _) rfl (fun h12 => ?_) (fun h12 => ?_)
 ·have p12 := of_decide_eq_true h12
  try dsimp only at p12
  refine WC.seq ?_
  refine WC.region ?_
  refine W.mv ?_
  refine W.as ?_
  refine W.nil (thn_n ?_)
  refine WC.ret (thn_r ?_)
  refine ⟨.inr rfl, [_], ⟨rfl, trivial⟩, Ms_l, List.sublist_append_left _ _, ?_⟩
  have h := (h_l.mono hG6)
  rw [idx_none p12]
  exact h
 ·have p12 := of_decide_eq_false h12
  try dsimp only at p12
  refine WC.skip (thn_n ?_)
  refine WC.seq ?_
  refine WC.seq ?_
  refine WC.region ?_
  refine W.mv ?_
  refine W.ok (ok_add rfl rfl (by omega)) ?_
  refine W.as ?_
  refine W.nil (thn_n ?_)
  refine WC.block ?_
  refine WC.loop (X := (Nat × Nat × List Pair) × Value × MH) (fun x => [(5, .int .i64 ((x.1.1 : Nat) : Int)), (6, .int .i64 ((x.1.2.1 : Nat) : Int)), (1, .func (.func 69) #[] #[.pointer (some ⟨b_s, 0, none⟩)]), (0, x.2.1)]) (fun x G Ml => Ml = (x.2.2 ++ []) ∧ OwnR ePair 45 G x.2.1 (x.1.2.2) x.2.2 ∧ x.1.1 < x.1.2.1 ∧ x.1.2.1 ≤ l.length ∧ x.1.2.2.length = l.length ∧ x.1.2.2.take x.1.1 = (l.take x.1.2.1).filter (fun a => !(fun p : Pair => Span.has ⟨slo, shi, so⟩ p.key) a) ∧ x.1.2.2.drop x.1.2.1 = l.drop x.1.2.1) (fun x => l.length - x.1.2.1) (((idxN (fun p : Pair => Span.has ⟨slo, shi, so⟩ p.key) l).toNat, (idxN (fun p : Pair => Span.has ⟨slo, shi, so⟩ p.key) l).toNat + 1, l), v_l, Ms_l) ⟨(by first | rfl | exact iv (by dsimp only; omega) | exact iv (by omega)), (by first | rfl | exact iv (by dsimp only; omega) | exact iv (by omega)), (by first | rfl | exact iv (by dsimp only; omega) | exact iv (by omega)), (by first | rfl | exact iv (by dsimp only; omega) | exact iv (by omega)), trivial⟩ ?_ ?_
  ·exact ⟨rfl, (by exact (h_l.mono hG6)), by dsimp only; omega, by dsimp only; omega, rfl, idx_first p12, rfl⟩
  ·rintro ⟨⟨i, j, m⟩, v_0, M_0⟩ gG11 G11 _ hG11 ⟨rfl, ho_0, hij, hjl, hml, hmt, hmd⟩
   try dsimp only at ho_0 hij hjl hml hmt hmd
   have hmj := fun (h : j < l.length) => drop_get (by omega : j < m.length) h hmd
   refine WC.seq ?_
   refine WC.seq ?_
   refine WC.region ?_
   refine W.mv ?_
   refine W.mv ?_
   refine W.ok (ok_lenO sl25 ho_0 rfl) ?_
   refine W.ok (ok_lss rfl rfl) ?_
   refine W.nil (thn_n ?_)
   refine WC.cond (b := _) rfl (fun h19 => ?_) (fun h19 => ?_)
   ·have p19 := of_decide_eq_true h19
    try dsimp only at p19
    refine WC.skip (thn_n ?_)
    refine WC.seq ?_
    refine WC.block ?_
    refine WC.seq ?_
    refine WC.region ?_
    refine W.mv ?_
    refine W.mv ?_
    have q14 := ho_0.at (i := j) (by omega)
    refine match q14 with | ⟨_, he12, e_13⟩ => ?_
    subst e_13
    refine W.ok (ok_indexAddrO (i := j) sl25 ty45 ho_0 rfl rfl ⟨by dsimp only, by omega⟩) ?_
    refine W.ok (ok_loadO (vs := [.string _, .string _]) ty45 he12 (List.Perm.refl _) rfl rfl rfl (by simp)) ?_
    refine W.alloc zr45 (fun b15 => ?_)
    refine W.store (i := 0) (vs := [.string _, .string _]) (L' := [.string _, .string _]) ty45 rfl rfl rfl rfl rfl rfl rfl rfl ?_
    refine W.nil (thn_n ?_)
    refine WC.seq ?_
    refine WC.region ?_
    refine W.mv ?_
    refine W.ok (ok_loadB (i := 0) (vs := [.string _, .string _]) ty45 rfl rfl rfl rfl (by simp)) ?_
    refine W.qcallV (fst := []) (caps := [.pointer (some ⟨b_s, 0, none⟩)]) rfl (wo1_fc _ _ _ _ _ (h_s.mono (hG6.trans hG11))) rfl ?_
    refine W.ok (ok_not rfl) ?_
    refine W.nil (thn_n ?_)
    refine WC.cond (b := _) rfl (fun h29 => ?_) (fun h29 => ?_)
    ·refine WC.seq ?_
     refine WC.region ?_
     refine W.mv ?_
     refine W.mv ?_
     refine W.ok (ok_loadB (i := 0) (vs := [.string _, .string _]) ty45 rfl rfl rfl rfl (by simp)) ?_
     have q18 := ho_0.at (i := i) (by omega)
     refine match q18 with | ⟨_, he16, e_17⟩ => ?_
     subst e_17
     refine W.ok (ok_indexAddrO (i := i) sl25 ty45 ho_0 rfl rfl ⟨by dsimp only, by omega⟩) ?_
     refine W.storeO (i := i) (o := 0) (vs := [.string _, .string _]) (a' := m[j]) ty45 rfl rfl rfl rfl rfl (ho_0) (pmC (List.Perm.refl _)) (by omega) (by decide) (fun cs h => by first | (rw [h]; rfl) | (rw [h.1]; exact ⟨rfl, by assumption⟩)) (fun Ms19 ho20 => ?_)
     refine W.perm (pmC (List.Perm.refl _)).symm ?_
     refine W.nil (thn_n ?_)
     refine WC.region ?_
     refine W.mv ?_
     refine W.ok (ok_add rfl rfl (by dsimp only; omega)) ?_
     refine W.as ?_
     refine W.nil (blk_n (thn_n ?_))
     refine WC.region ?_
     refine W.mv ?_
     refine W.ok (ok_add rfl rfl (by dsimp only; omega)) ?_
     refine W.as ?_
     refine W.sub ((List.Sublist.refl _).cons _) ?_
     refine W.nil (thn_n ?_)
     exact ⟨Le.rfl, ((i + 1, j + 1, m.set i m[j]), v_0, Ms19), ⟨(by first | rfl | exact iv (by dsimp only; omega) | exact iv (by omega)), (by first | rfl | exact iv (by dsimp only; omega) | exact iv (by omega)), (by first | rfl | exact iv (by dsimp only; omega) | exact iv (by omega)), (by first | rfl | exact iv (by dsimp only; omega) | exact iv (by omega)), trivial⟩, ⟨rfl, (by exact ho20), by dsimp only; omega, by dsimp only; omega, by simpa using hml, (del_keep (p := (fun a => !(fun p : Pair => Span.has ⟨slo, shi, so⟩ p.key) a)) hij (by omega) hml hmt hmd (by rw [← hmj (by omega)]; simpa using h29)).1, (del_keep (p := (fun a => !(fun p : Pair => Span.has ⟨slo, shi, so⟩ p.key) a)) hij (by omega) hml hmt hmd (by rw [← hmj (by omega)]; simpa using h29)).2⟩, by dsimp only; omega⟩
    ·refine WC.skip (blk_n (thn_n ?_))
     refine WC.region ?_
     refine W.mv ?_
     refine W.ok (ok_add rfl rfl (by dsimp only; omega)) ?_
     refine W.as ?_
     refine W.sub ((List.Sublist.refl _).cons _) ?_
     refine W.nil (thn_n ?_)
     exact ⟨Le.rfl, ((i, j + 1, m), v_0, M_0), ⟨(by first | rfl | exact iv (by dsimp only; omega) | exact iv (by omega)), (by first | rfl | exact iv (by dsimp only; omega) | exact iv (by omega)), (by first | rfl | exact iv (by dsimp only; omega) | exact iv (by omega)), (by first | rfl | exact iv (by dsimp only; omega) | exact iv (by omega)), trivial⟩, ⟨rfl, (by exact ho_0), by dsimp only; omega, by dsimp only; omega, hml, (del_skip (p := (fun a => !(fun p : Pair => Span.has ⟨slo, shi, so⟩ p.key) a)) (by omega) hmt hmd (by rw [← hmj (by omega)]; simpa using h29)).1, (del_skip (p := (fun a => !(fun p : Pair => Span.has ⟨slo, shi, so⟩ p.key) a)) (by omega) hmt hmd (by rw [← hmj (by omega)]; simpa using h29)).2⟩, by dsimp only; omega⟩
   ·have p19 := of_decide_eq_false h19
    try dsimp only at p19
    refine WC.exit (thn_x (thn_x (blk_h (thn_n ?_))))
    refine WC.seq ?_
    refine WC.region ?_
    refine W.mv ?_
    refine W.mv ?_
    have q22 := ho_0.formB (by omega)
    refine match q22 with | ⟨b38, c38, e_21⟩ => ?_
    subst e_21
    have hc38 := ho_0.cap_le
    refine W.ok (ok_sliceO i m.length sl25 ty45 ho_0 rfl ⟨_, _, rfl, by first | omega | (dsimp only; omega) | dsimp only⟩ rfl ⟨by omega, .inl (by omega)⟩) ?_
    refine W.clearO (e := ePair) (lo := i) (hi := m.length) (m := i) sl25 ty45 zr45 rfl rfl ho_0 (List.Perm.refl _) rfl (by omega) hc38 ⟨_, rfl⟩ (by omega) (by omega) (fun Ms38 ho38 => ?_)
    refine W.nil (thn_n ?_)
    refine WC.seq ?_
    refine WC.region ?_
    refine W.mv ?_
    refine W.mv ?_
    refine W.ok (ok_sliceG 0 i sl25 ty45 rfl rfl ⟨_, _, rfl, by first | omega | (dsimp only; omega) | dsimp only⟩ ⟨by omega, by simp only [capV] at hc38; omega⟩) ?_
    refine W.as ?_
    refine W.nil (thn_n ?_)
    refine WC.ret ?_
    refine ⟨.inr rfl, [_], ⟨rfl, trivial⟩, Ms38, List.sublist_append_left _ _, ?_⟩
    have h := ho38
    rw [← List.take_of_length_le (l := l) (i := j) (by omega), ← hmt]
    exact h

end Go.Proofs.YthmkpaoolhcibaaDoor
