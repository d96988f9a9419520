/- Walks of library functions that delete in place. -/
import Derived.Test.YtcngningbcaggaaQgW7
import Derived.Test.YtcngningbcaggaaQgMh
set_option maxRecDepth 100000
set_option maxHeartbeats 1600000
set_option linter.unusedVariables false
set_option linter.unusedSimpArgs false
set_option linter.unnecessarySimpa false
namespace Go.Proofs.Ytcngningbcaggaa
open Go Go.Fw Go.RowKit
attribute [local irreducible] Ok W WC
theorem wo1_fc {G : GH} (pk : Str) (pv : Str) (slo : Str) (shi : Str) (so : Bool) {b_s : Nat} (h_s : CellsG G b_s 0 [sV slo.b, sV shi.b, .bool so]) :
    Fc Try.prog 135 [.agg #[sV pk.b, sV pv.b], pt9 b_s] G [] (fun v _ _ => v = .bool (Span.has ⟨slo, shi, so⟩ pk)) := by
 refine Fc.go [.tmp 3] Try.func135 Try.ntmps135 rfl (fun w0 => (g9 2 ?_))
 refine W.box (L := [sV _, sV _]) rfl rfl (fun b1 => (g9 5 ?_))
 refine W.ok (ok_loadG (vs := sp9) ty37 h_s rfl rfl rfl (by simp)) (g9 2 ?_)
 refine W.qcall (spanhas_fc _ _ _ _) rfl (g9 5 ?_)
 rfl

theorem ixfp_fc {G : GH} {v_l : Value} {l : List Pair} {Ms_l : MH} (h_l : OwnR ePair 68 G v_l l Ms_l) (slo : Str) (shi : Str) (so : Bool) {b_s : Nat} (h_s : CellsG G b_s 0 [sV slo.b, sV shi.b, .bool so]) :
    Fc Try.prog 133 [v_l, .func (.func 135) #[] #[pt9 b_s]] G Ms_l (fun v _ M' => v = iV (idxN (fun p : Pair => Span.has ⟨slo, shi, so⟩ p.key) l) ∧ Ms_l = M') := by
 have hl := h_l.len47
 refine Fc.go [.tmp 4] Try.func133 Try.ntmps133 rfl (fun w0 => (WC.perm (M' := (Ms_l ++ [])) (by simp) (g9 14 ?_)))
 refine WC.loop (X := Nat) (fun k => [(8, nt9 k), (0, v_l), (1, .func (.func 135) #[] #[pt9 b_s]), (7, nt9 ((l).length))]) (fun k _ Ml => Ml = (Ms_l ++ []) ∧ k ≤ l.length ∧ ∀ j (h : j < l.length), j < k → (fun p : Pair => Span.has ⟨slo, shi, so⟩ p.key) l[j] = false) (fun k => l.length - k) 0 hs9 ?_ ?_
 ·exact ⟨rfl, om9, fun j _ h => by omega⟩
 rintro k gG2 G2 _ hG2 ⟨rfl, hk, hj⟩
 refine g9 6 ?_
 refine WC.cd (fun h9 p9 => ?_) (fun h9 p9 => ?_)
 ·refine g9 15 ?_
  refine (h_l.mono hG2).a1 (i := k) om9 (fun he3 => (W.ok (ok_indexAddrO (i := k) sl31 ty68 (h_l.mono hG2) rfl rfl ⟨om9, om9⟩) (W.ok (ok_loadO (vs := pr29) ty68 he3 pr9 rfl rfl rfl (by simp)) (W.qcallV (fst := []) (caps := [pt9 b_s]) rfl (wo1_fc _ _ _ _ _ (h_s.mono hG2)) rfl (g9 2 ?_)))))
  refine WC.cond rfl (fun h16 => ?_) (fun h16 => ?_)
  ·refine g9 12 ?_
   refine ⟨.inr rfl, [_], ⟨rfl, trivial⟩, Ms_l, List.sublist_append_left _ _, ?_⟩
   refine ⟨congrArg (Value.int .i64) ?_, rfl⟩
   exact (idxN_at om9 (h16) hj).symm
  refine g9 8 ?_
  exact ⟨Le.rfl, k + 1, hs9, ⟨rfl, om9, fun j h hji => by
      by_cases e2 : j = k
      · subst e2; exact h16
      · exact hj j h om9⟩, om9⟩
 refine g9 11 ?_
 refine ⟨.inr rfl, [_], ⟨rfl, trivial⟩, Ms_l, List.sublist_append_left _ _, ?_⟩
 refine ⟨congrArg (Value.int .i64) ?_, rfl⟩
 exact (idxN_no (fun j h => hj j h om9)).symm

theorem dfp_fc {G : GH} {v_l : Value} {l : List Pair} {Ms_l : MH} (h_l : OwnR ePair 68 G v_l l Ms_l) (slo : Str) (shi : Str) (so : Bool) {b_s : Nat} (h_s : CellsG G b_s 0 [sV slo.b, sV shi.b, .bool so]) :
    Fc Try.prog 134 [v_l, .func (.func 135) #[] #[pt9 b_s]] G Ms_l (fun v G' M' => OwnR ePair 68 G' v (l.filter (fun a => !(fun p : Pair => Span.has ⟨slo, shi, so⟩ p.key) a)) M') := by
 have hl := h_l.len47
 have hix := idxN_le (fun p : Pair => Span.has ⟨slo, shi, so⟩ p.key) l
 refine Fc.go [.tmp 4] Try.func134 Try.ntmps134 rfl (fun w0 => (WC.perm (M' := (Ms_l ++ [])) (by simp) (g9 9 ?_)))
 refine W.call (Mp := Ms_l) (ixfp_fc h_l _ _ _ h_s) rfl pr9 ?_
 intro _ G6 Ms8 hG6 q7
 refine match q7 with | ⟨e_9, e_10⟩ => ?_
 subst e_9
 subst e_10
 refine g9 10 ?_
 refine WC.cd (fun h12 p12 => ?_) (fun h12 p12 => ?_)
 ·try dsimp only at p12
  refine g9 8 ?_
  refine ⟨.inr rfl, [_], ⟨rfl, trivial⟩, Ms_l, List.sublist_append_left _ _, ?_⟩
  have h := (h_l.mono hG6)
  rw [idx_none p12]
  exact h
 try dsimp only at p12
 refine g9 11 ?_
 refine WC.loop (X := (Nat × Nat × List Pair) × Value × MH) (fun x => [(5, nt9 x.1.1), (6, nt9 x.1.2.1), (1, .func (.func 135) #[] #[pt9 b_s]), (0, x.2.1)]) (fun x G Ml => Ml = (x.2.2 ++ []) ∧ OwnR ePair 68 G x.2.1 (x.1.2.2) x.2.2 ∧ x.1.1 < x.1.2.1 ∧ x.1.2.1 ≤ l.length ∧ x.1.2.2.length = l.length ∧ x.1.2.2.take x.1.1 = (l.take x.1.2.1).filter (fun a => !(fun p : Pair => Span.has ⟨slo, shi, so⟩ p.key) a) ∧ x.1.2.2.drop x.1.2.1 = l.drop x.1.2.1) (fun x => l.length - x.1.2.1) (((idxN (fun p : Pair => Span.has ⟨slo, shi, so⟩ p.key) l).toNat, (idxN (fun p : Pair => Span.has ⟨slo, shi, so⟩ p.key) l).toNat + 1, l), v_l, Ms_l) hs9 ?_ ?_
 ·exact ⟨rfl, (by exact (h_l.mono hG6)), by dsimp only; omega, by dsimp only; omega, rfl, idx_first p12, rfl⟩
 rintro ⟨⟨i, j, m⟩, v_0, M_0⟩ gG11 G11 _ hG11 ⟨rfl, ho_0, hij, hjl, hml, hmt, hmd⟩
 try dsimp only at ho_0 hij hjl hml hmt hmd
 have hmj := fun (h : j < l.length) => drop_get (by omega : j < m.length) h hmd
 refine g9 9 ?_
 refine WC.cd (fun h19 p19 => ?_) (fun h19 p19 => ?_)
 ·try dsimp only at p19
  refine g9 8 ?_
  refine ho_0.a1 (i := j) om9 (fun he12 => (W.ok (ok_indexAddrO (i := j) sl31 ty68 ho_0 rfl rfl ⟨by dsimp only, om9⟩) (W.ok (ok_loadO (vs := pr29) ty68 he12 pr9 rfl rfl rfl (by simp)) (W.alloc zr68 (fun b15 => (g9 7 ?_))))))
  refine W.qcallV (fst := []) (caps := [pt9 b_s]) rfl (wo1_fc _ _ _ _ _ (h_s.mono lec)) rfl (g9 3 ?_)
  refine WC.cond rfl (fun h29 => ?_) (fun h29 => ?_)
  ·refine g9 5 ?_
   refine ho_0.a1 (i := i) om9 (fun he16 => (W.ok (ok_indexAddrO (i := i) sl31 ty68 ho_0 rfl rfl ⟨by dsimp only, om9⟩) (W.storeO (i := i) (o := 0) (vs := pr29) (a' := m[j]) ty68 rfl rfl rfl rfl rfl (ho_0) (pmC pr9) om9 (by decide) (fun cs h => by first | (rw [h]; rfl) | (rw [h.1]; exact ⟨rfl, by assumption⟩)) (fun Ms19 ho20 => (W.perm (pmC pr9).symm (g9 13 ?_))))))
   refine W.sub (sr9.cons _) (g9 2 ?_)
   exact ⟨Le.rfl, ((i + 1, j + 1, m.set i m[j]), v_0, Ms19), hs9, ⟨rfl, (by exact ho20), by dsimp only; omega, by dsimp only; omega, by simpa using hml, (del_keep (p := (fun a => !(fun p : Pair => Span.has ⟨slo, shi, so⟩ p.key) a)) hij om9 hml hmt hmd (by rw [← hmj om9]; simpa using h29)).1, (del_keep (p := (fun a => !(fun p : Pair => Span.has ⟨slo, shi, so⟩ p.key) a)) hij om9 hml hmt hmd (by rw [← hmj om9]; simpa using h29)).2⟩, by dsimp only; omega⟩
  refine g9 7 ?_
  refine W.sub (sr9.cons _) (g9 2 ?_)
  exact ⟨Le.rfl, ((i, j + 1, m), v_0, M_0), hs9, ⟨rfl, (by exact ho_0), by dsimp only; omega, by dsimp only; omega, hml, (del_skip (p := (fun a => !(fun p : Pair => Span.has ⟨slo, shi, so⟩ p.key) a)) om9 hmt hmd (by rw [← hmj om9]; simpa using h29)).1, (del_skip (p := (fun a => !(fun p : Pair => Span.has ⟨slo, shi, so⟩ p.key) a)) om9 hmt hmd (by rw [← hmj om9]; simpa using h29)).2⟩, by dsimp only; omega⟩
 try dsimp only at p19
 refine g9 9 ?_
 have q22 := ho_0.formB om9
 refine match q22 with | ⟨b38, c38, e_21⟩ => ?_
 subst e_21
 have hc38 := ho_0.cap_le
 refine W.ok (ok_sliceO i m.length sl31 ty68 ho_0 rfl ⟨_, _, rfl, by first | omega | (dsimp only; omega) | dsimp only⟩ rfl ⟨om9, .inl om9⟩) (W.clearO (e := ePair) (lo := i) (hi := m.length) (m := i) sl31 ty68 zr68 rfl rfl ho_0 pr9 rfl om9 hc38 ⟨_, rfl⟩ om9 om9 (fun Ms38 ho38 => (g9 6 ?_)))
 refine W.ok (ok_sliceG 0 i sl31 ty68 rfl rfl ⟨_, _, rfl, by first | omega | (dsimp only; omega) | dsimp only⟩ ⟨om9, by simp only [capV] at hc38; omega⟩) (g9 4 ?_)
 refine ⟨.inr rfl, [_], ⟨rfl, trivial⟩, Ms38, List.sublist_append_left _ _, ?_⟩
 have h := ho38
 rw [← List.take_of_length_le (l := l) (i := j) om9, ← hmt]
 exact h

end Go.Proofs.Ytcngningbcaggaa
