/- Walks of functions on keys and spans. -/
import Derived.Test.YtfmigmijckdldaaGreatQgNc
set_option maxRecDepth 100000
set_option maxHeartbeats 1600000
set_option linter.unusedVariables false
set_option linter.unusedSimpArgs false
set_option linter.unnecessarySimpa false
namespace Go.Proofs.YtfmigmijckdldaaGreat
open Go Go.Fw Go.RowKit
attribute [local irreducible] Ok W WC
theorem less_fc {G : GH} (a : Str) (b : Str) :
    Fc Tryz.prog 50 [sV a.b, sV b.b] G [] (fun v _ _ => v = .bool (Str.lt a b)) := by
 have ha := a.le
 have hb := b.le
 refine Fc.go [.tmp 4] Tryz.func50 Tryz.ntmps50 rfl (fun w0 => (g9 12 ?_))
 refine WC.loop (X := Nat) (fun k => [(5, nt9 k), (0, sV a.b), (1, sV b.b)]) (fun k _ Ml => Ml = [] ∧ k ≤ a.b.size ∧ k ≤ b.b.size ∧ ∀ i, i < k → a.b[i]? = b.b[i]?) (fun k => a.b.size - k) 0 hs9 ?_ ?_
 ·exact ⟨rfl, om9, om9, fun i hi => by omega⟩
 rintro k gG1 G1 _ hG1 ⟨rfl, hk1, hk2, hk3⟩
 refine g9 8 ?_
 refine W.sd 10 (fun h9 p9 => ?_) (fun h9 p9 => ?_)
 ·refine g9 11 ?_
  refine WC.cd (fun h14 p14 => ?_) (fun h14 p14 => ?_)
  ·refine g9 8 ?_
   refine W.ok (ok_indexS (i := k) st9 rfl rfl ⟨om9, om9⟩) (g9 2 ?_)
   refine W.ok (ok_indexS (i := k) st9 rfl rfl ⟨om9, om9⟩) (g9 3 ?_)
   refine WC.cn (fun h24 p24 => ?_) (fun h24 p24 => ?_)
   ·refine g9 4 ?_
    refine W.ok (ok_indexS (i := k) st9 rfl rfl ⟨om9, om9⟩) (g9 2 ?_)
    refine W.ok (ok_indexS (i := k) st9 rfl rfl ⟨om9, om9⟩) (g9 11 ?_)
    exact congrArg Value.bool (blt_at hk3 _ _ om9)
   refine g9 9 ?_
   exact ⟨Le.rfl, k + 1, hs9, ⟨rfl, om9, om9, same_succ hk3 om9 om9 p24⟩, om9⟩
  refine g9 17 ?_
  exact congrArg Value.bool (blt_end hk3 om9 om9 om9)
 refine g9 25 ?_
 exact congrArg Value.bool (blt_end hk3 om9 om9 om9)

theorem has_fc {G : GH} (slo : Str) (shi : Str) (so : Bool) (k : Str) :
    Fc Tryz.prog 18 [.agg #[sV slo.b, sV shi.b, .bool so], sV k.b] G [] (fun v _ _ => v = .bool (Span.has ⟨slo, shi, so⟩ k)) := by
 refine Fc.go [.tmp 4] Tryz.func18 Tryz.ntmps18 rfl (fun w0 => (g9 2 ?_))
 refine W.box (L := [sV _, sV _, .bool _]) rfl rfl (fun b2 => (g9 8 ?_))
 refine W.qcall (less_fc _ _) rfl (g9 2 ?_)
 refine W.sp 10 rfl (fun h9 => ?_) (fun h9 => ?_)
 ·refine g9 6 ?_
  refine W.sp 13 rfl (fun ha_so => ?_) (fun ha_so => ?_)
  ·refine g9 12 ?_
   refine congrArg Value.bool ?_
   simp_all [Span.has]
  refine g9 7 ?_
  refine W.qcall (less_fc _ _) rfl (g9 8 ?_)
  refine congrArg Value.bool ?_
  simp_all [Span.has]
 refine g9 14 ?_
 refine congrArg Value.bool ?_
 simp_all [Span.has]

theorem empty_fc {G : GH} (slo : Str) (shi : Str) (so : Bool) :
    Fc Tryz.prog 121 [.agg #[sV slo.b, sV shi.b, .bool so]] G [] (fun v _ _ => v = .bool (Span.empty ⟨slo, shi, so⟩)) := by
 refine Fc.go [.tmp 2] Tryz.func121 Tryz.ntmps121 rfl (fun w0 => (g9 2 ?_))
 refine W.box (L := [sV _, sV _, .bool _]) rfl rfl (fun b3 => (g9 8 ?_))
 refine W.qcall (has_fc _ _ _ _) rfl (g9 6 ?_)
 refine congrArg Value.bool ?_
 exact Span.empty_eq ⟨slo, shi, so⟩

theorem norm_fc {G : GH} (slo : Str) (shi : Str) (so : Bool) :
    Fc Tryz.prog 85 [.agg #[sV slo.b, sV shi.b, .bool so]] G [] (fun v _ _ => v = .agg (List.toArray ((Span.norm ⟨slo, shi, so⟩ : Span).cells))) := by
 refine Fc.go [.cell 2 55] Tryz.func85 Tryz.ntmps85 rfl (fun w0 => (g9 2 ?_))
 refine W.box (L := [sV _, sV _, .bool _]) rfl rfl (fun b4 => (W.alloc zr55 (fun b5 => (g9 6 ?_))))
 refine W.qcall (empty_fc _ _ _) rfl (g9 2 ?_)
 refine WC.cond rfl (fun h4 => ?_) (fun h4 => ?_)
 ·refine g9 2 ?_
  refine W.ok (ok_build (L := [sV _, sV _, .bool _]) pl55 zr55 rfl rfl rfl) (g9 6 ?_)
  refine congrArg (fun l => Value.agg (List.toArray l)) ?_
  show [Value.string _, Value.string _, Value.bool _] = _
  simp_all [Span.norm, Span.cells, Span.zero, Str.nil, setAt]
 refine g9 9 ?_
 refine WC.cond rfl (fun ha_so => ?_) (fun ha_so => ?_)
 ·refine g9 13 ?_
  refine congrArg (fun l => Value.agg (List.toArray l)) ?_
  show [Value.string _, Value.string _, Value.bool _] = _
  simp_all [Span.norm, Span.cells, Span.zero, Str.nil, setAt]
 refine g9 10 ?_
 refine congrArg (fun l => Value.agg (List.toArray l)) ?_
 show [Value.string _, Value.string _, Value.bool _] = _
 simp_all [Span.norm, Span.cells, Span.zero, Str.nil, setAt]

theorem spanall_fc {G : GH}  :
    Fc Tryz.prog 122 [] G [] (fun v _ _ => v = .agg (List.toArray ((Span.all : Span).cells))) := by
 refine Fc.go [.cell 0 55] Tryz.func122 Tryz.ntmps122 rfl (fun w0 => (g9 2 ?_))
 refine W.alloc zr55 (fun b6 => (g9 4 ?_))
 refine W.ok (ok_build (L := [sV _, sV _, .bool _]) pl55 zr55 rfl rfl rfl) (g9 5 ?_)
 rfl

theorem spanempty_fc {G : GH} (slo : Str) (shi : Str) (so : Bool) :
    Fc Tryz.prog 152 [.agg #[sV slo.b, sV shi.b, .bool so]] G [] (fun v _ _ => v = .bool (Span.empty ⟨slo, shi, so⟩)) := by
 refine Fc.go [.tmp 2] Tryz.func152 Tryz.ntmps152 rfl (fun w0 => (g9 2 ?_))
 refine W.box (L := [sV _, sV _, .bool _]) rfl rfl (fun b7 => (g9 9 ?_))
 refine W.sp 6 rfl (fun h5 => ?_) (fun h5 => ?_)
 ·refine g9 9 ?_
  refine W.ok (ok_geqS rfl rfl) (g9 6 ?_)
  refine congrArg Value.bool ?_
  simp_all [Span.empty, Str.lt]
 refine g9 11 ?_
 refine congrArg Value.bool ?_
 simp_all [Span.empty, Str.lt]

theorem spannorm_fc {G : GH} (slo : Str) (shi : Str) (so : Bool) :
    Fc Tryz.prog 136 [.agg #[sV slo.b, sV shi.b, .bool so]] G [] (fun v _ _ => v = .agg (List.toArray ((Span.norm ⟨slo, shi, so⟩ : Span).cells))) := by
 refine Fc.go [.cell 2 55] Tryz.func136 Tryz.ntmps136 rfl (fun w0 => (g9 2 ?_))
 refine W.box (L := [sV _, sV _, .bool _]) rfl rfl (fun b8 => (W.alloc zr55 (fun b9 => (g9 7 ?_))))
 refine W.qcall (spanempty_fc _ _ _) rfl (g9 3 ?_)
 refine WC.cond rfl (fun h5 => ?_) (fun h5 => ?_)
 ·refine g9 2 ?_
  refine W.ok (ok_build (L := [sV _, sV _, .bool _]) pl55 zr55 rfl rfl rfl) (g9 7 ?_)
  refine congrArg (fun l => Value.agg (List.toArray l)) ?_
  show [Value.string _, Value.string _, Value.bool _] = _
  simp_all [Span.norm, Span.cells, Span.zero, Str.nil, setAt]
 refine g9 7 ?_
 refine WC.cond rfl (fun ha_so => ?_) (fun ha_so => ?_)
 ·refine g9 14 ?_
  refine congrArg (fun l => Value.agg (List.toArray l)) ?_
  show [Value.string _, Value.string _, Value.bool _] = _
  simp_all [Span.norm, Span.cells, Span.zero, Str.nil, setAt]
 refine g9 11 ?_
 refine congrArg (fun l => Value.agg (List.toArray l)) ?_
 show [Value.string _, Value.string _, Value.bool _] = _
 simp_all [Span.norm, Span.cells, Span.zero, Str.nil, setAt]

theorem spanhas_fc {G : GH} (slo : Str) (shi : Str) (so : Bool) (k : Str) :
    Fc Tryz.prog 145 [.agg #[sV slo.b, sV shi.b, .bool so], sV k.b] G [] (fun v _ _ => v = .bool (Span.has ⟨slo, shi, so⟩ k)) := by
 refine Fc.go [.tmp 4] Tryz.func145 Tryz.ntmps145 rfl (fun w0 => (g9 2 ?_))
 refine W.box (L := [sV _, sV _, .bool _]) rfl rfl (fun b10 => (g9 8 ?_))
 refine W.ok (ok_geqS rfl rfl) (W.mv ?_)
 refine W.sp 9 rfl (fun h8 => ?_) (fun h8 => ?_)
 ·refine g9 6 ?_
  refine W.sp 12 rfl (fun ha_so => ?_) (fun ha_so => ?_)
  ·refine g9 12 ?_
   refine congrArg Value.bool ?_
   simp_all [Span.has, Str.lt]
  refine g9 16 ?_
  refine congrArg Value.bool ?_
  simp_all [Span.has, Str.lt]
 refine g9 14 ?_
 refine congrArg Value.bool ?_
 simp_all [Span.has, Str.lt]

theorem rising_fc {G : GH} {v_l : Value} {l : List Str} (h_l : SlR eStr G v_l l) :
    Fc Tryz.prog 88 [v_l] G [] (fun v _ _ => v = .bool (rising l)) := by
 obtain ⟨sa_l, sc_l, rfl⟩ := h_l.form
 have hl := h_l.len47
 refine Fc.go [.tmp 2] Tryz.func88 Tryz.ntmps88 rfl (fun w0 => (g9 12 ?_))
 refine WC.loop (X := Nat) (fun k => [(3, nt9 (k + 1)), (0, lV sa_l l.length sc_l)]) (fun k _ Ml => Ml = [] ∧ ∀ i (h : i + 1 < l.length), i < k → l[i].lt l[i + 1] = true) (fun k => l.length - k) 0 hs9 ?_ ?_
 ·exact ⟨rfl, fun i _ h => by omega⟩
 rintro k gG11 G11 _ hG11 ⟨rfl, hk⟩
 refine g9 9 ?_
 refine WC.cd (fun h7 p7 => ?_) (fun h7 p7 => ?_)
 ·refine g9 9 ?_
  refine (h_l.mono hG11).a1 (i := k) om9 (fun he12 => (W.ok (ok_indexAddr (i := k) sl49 ty9 (h_l.mono hG11) rfl rfl ⟨om9, om9⟩) (g9 3 ?_)))
  refine (h_l.mono hG11).a1 (i := k + 1) om9 (fun he15 => (W.ok (ok_indexAddr (i := k + 1) sl49 ty9 (h_l.mono hG11) rfl rfl ⟨om9, om9⟩) (g9 1 ?_)))
  refine W.qcall (less_fc _ _) rfl (g9 3 ?_)
  refine WC.cond rfl (fun h20 => ?_) (fun h20 => ?_)
  ·refine g9 12 ?_
   refine congrArg Value.bool ?_
   exact (rising_not (i := k) om9 (by simpa using h20)).symm
  refine g9 9 ?_
  exact ⟨Le.rfl, k + 1, hs9, ⟨rfl, fun i h hi => by
      by_cases e : i = k
      · subst e; simpa using h20
      · exact hk i h om9⟩, om9⟩
 refine g9 12 ?_
 refine congrArg Value.bool ?_
 exact (rising_iff.2 (fun i h => hk i h om9)).symm

theorem bright_fc {G : GH} {v_p : Value} {p : List Str} (h_p : SlR eStr G v_p p) {v_c : Value} {c : List Int} (h_c : SlR eInt G v_c c) :
    Fc Tryz.prog 123 [v_p, v_c] G [] (fun v _ _ => v = .bool (rightN p c.length)) := by
 obtain ⟨sa_p, sc_p, rfl⟩ := h_p.form
 obtain ⟨sa_c, sc_c, rfl⟩ := h_c.form
 have hc := h_c.len47
 have hp := h_p.len47
 refine Fc.go [.tmp 4] Tryz.func123 Tryz.ntmps123 rfl (fun w0 => (g9 12 ?_))
 refine WC.loop (X := Nat) (fun k => [(5, nt9 (k + 1)), (0, lV sa_p p.length sc_p), (1, lV sa_c c.length sc_c)]) (fun k _ Ml => Ml = [] ∧ ∀ i (h : i + 1 < p.length), i < k → p[i].lt p[i + 1] = true) (fun k => p.length - k) 0 hs9 ?_ ?_
 ·exact ⟨rfl, fun i _ h => by omega⟩
 rintro k gG18 G18 _ hG18 ⟨rfl, hk⟩
 refine g9 9 ?_
 refine WC.cd (fun h9 p9 => ?_) (fun h9 p9 => ?_)
 ·refine g9 9 ?_
  refine (h_p.mono hG18).a1 (i := k) om9 (fun he19 => (W.ok (ok_indexAddr (i := k) sl49 ty9 (h_p.mono hG18) rfl rfl ⟨om9, om9⟩) (g9 3 ?_)))
  refine (h_p.mono hG18).a1 (i := k + 1) om9 (fun he22 => (W.ok (ok_indexAddr (i := k + 1) sl49 ty9 (h_p.mono hG18) rfl rfl ⟨om9, om9⟩) (g9 1 ?_)))
  refine W.ok (ok_geqS rfl rfl) (g9 2 ?_)
  refine WC.cond rfl (fun h21 => ?_) (fun h21 => ?_)
  ·refine g9 12 ?_
   refine congrArg Value.bool ?_
   simp [rightN, rising_not (l := p) (i := k) om9 (by simpa [Str.lt] using h21)]
  refine g9 9 ?_
  exact ⟨Le.rfl, k + 1, hs9, ⟨rfl, fun i h hi => by
      by_cases e : i = k
      · subst e; simpa [Str.lt] using h21
      · exact hk i h om9⟩, om9⟩
 refine g9 11 ?_
 refine W.sd 25 (fun h24 p24 => ?_) (fun h24 p24 => ?_)
 ·refine g9 18 ?_
  refine congrArg Value.bool ?_
  simp only [rightN, rising_iff.2 (fun i h => hk i h om9), Bool.true_and]
  first | (rw [decide_eq_decide]; omega) | (symm; rw [decide_eq_false_iff_not]; omega)
 refine g9 12 ?_
 refine congrArg Value.bool ?_
 simp only [rightN, rising_iff.2 (fun i h => hk i h om9), Bool.true_and]
 first | (rw [decide_eq_decide]; omega) | (symm; rw [decide_eq_false_iff_not]; omega)

theorem rright_fc {G : GH} {v_p : Value} {p : List Str} (h_p : SlR eStr G v_p p) {v_c : Value} {c : List Int} (h_c : SlR eInt G v_c c) :
    Fc Tryz.prog 45 [v_p, v_c] G [] (fun v _ _ => v = .bool (rightN p c.length)) := by
 obtain ⟨sa_p, sc_p, rfl⟩ := h_p.form
 obtain ⟨sa_c, sc_c, rfl⟩ := h_c.form
 have hc := h_c.len47
 have hp := h_p.len47
 refine Fc.go [.tmp 4] Tryz.func45 Tryz.ntmps45 rfl (fun w0 => (g9 8 ?_))
 refine W.qcall (rising_fc h_p) rfl (W.mv ?_)
 refine W.sp 7 rfl (fun h6 => ?_) (fun h6 => ?_)
 ·refine g9 18 ?_
  refine congrArg Value.bool ?_
  simp only [rightN, h6, Bool.true_and, Bool.false_and]
  rw [decide_eq_decide]; omega
 refine g9 12 ?_
 refine congrArg Value.bool ?_
 simp only [rightN, h6, Bool.true_and, Bool.false_and]

theorem isnan_fc {G : GH} (a : Str) :
    Fc Tryz.prog 141 [sV a.b] G [] (fun v _ _ => v = .bool (false)) := by
 refine Fc.go [.tmp 2] Tryz.func141 Tryz.ntmps141 rfl (fun w0 => (g9 15 ?_))
 refine congrArg Value.bool ?_
 simp

theorem sisnan_fc {G : GH} (a : Str) :
    Fc Tryz.prog 129 [sV a.b] G [] (fun v _ _ => v = .bool (false)) := by
 refine Fc.go [.tmp 2] Tryz.func129 Tryz.ntmps129 rfl (fun w0 => (g9 15 ?_))
 refine congrArg Value.bool ?_
 simp

theorem cmpless_fc {G : GH} (a : Str) (b : Str) :
    Fc Tryz.prog 128 [sV a.b, sV b.b] G [] (fun v _ _ => v = .bool (Str.lt a b)) := by
 refine Fc.go [.tmp 4] Tryz.func128 Tryz.ntmps128 rfl (fun w0 => (g9 8 ?_))
 refine W.qcall (isnan_fc _) rfl (W.mv ?_)
 refine W.sp 7 rfl (fun h6 => ?_) (fun h6 => ?_)
 ·cases h6
 refine g9 17 ?_
 refine congrArg Value.bool ?_
 rfl

theorem bsearch_fc {G : GH} {v_l : Value} {l : List Str} (h_l : SlR eStr G v_l l) (k : Str) (hr : rising l = true) :
    Fc Tryz.prog 94 [v_l, sV k.b] G [] (fun v _ _ => v = .tuple #[iV (((lowerN l k : Nat) : Int)), .bool (decide (l[lowerN l k]? = some k))]) := by
 obtain ⟨sa_l, sc_l, rfl⟩ := h_l.form
 have hlen := h_l.len47
 refine Fc.go [.tmp 4, .tmp 5] Tryz.func94 Tryz.ntmps94 rfl (fun w0 => (g9 22 ?_))
 refine WC.loop (X := Nat × Nat) (fun x => [(6, nt9 l.length), (7, nt9 x.1), (8, nt9 x.2), (0, lV sa_l l.length sc_l), (1, sV k.b)]) (fun x _ Ml => Ml = [] ∧ x.1 ≤ x.2 ∧ x.2 ≤ l.length ∧ (∀ q (h : q < l.length), q < x.1 → l[q].lt k = true) ∧ (∀ q (h : q < l.length), x.2 ≤ q → l[q].lt k = false)) (fun x => x.2 - x.1) (0, l.length) hs9 ?_ ?_
 ·exact ⟨rfl, by simp, by simp, (fun q _ h => by simp at h), (fun q h h' => by simp at h'; omega)⟩
 rintro ⟨i, j⟩ gG25 G25 _ hG25 ⟨rfl, hi, hj, h1, h2⟩
 dsimp only at hi hj h1 h2
 refine g9 8 ?_
 refine WC.cd (fun h15 p15 => ?_) (fun h15 p15 => ?_)
 ·refine g9 8 ?_
  refine W.ok (ok_convU un3 un175 rfl om9) (W.ok (ok_shr1 rfl rfl om9) (W.ok (ok_convI un175 un3 rfl om9) (g9 7 ?_)))
  refine (h_l.mono hG25).a1 (i := (i + j) / 2) om9 (fun he26 => (W.ok (ok_indexAddr (i := (i + j) / 2) sl49 ty9 (h_l.mono hG25) rfl rfl ⟨by dsimp only; omega, om9⟩) (g9 2 ?_)))
  refine W.qcall (cmpless_fc _ _) rfl (g9 2 ?_)
  refine WC.cond rfl (fun h27 => ?_) (fun h27 => ?_)
  ·refine g9 7 ?_
   exact ⟨Le.rfl, ((i + j) / 2 + 1, j), hs9, ⟨rfl, by dsimp only; omega, by dsimp only; omega, (fun q h hq => rising_below hr om9 h27 q h (by dsimp only at hq; omega)), h2⟩, by dsimp only; omega⟩
  refine g9 6 ?_
  exact ⟨Le.rfl, (i, (i + j) / 2), hs9, ⟨rfl, by dsimp only; omega, by dsimp only; omega, h1, (fun q h hq => rising_above hr om9 h27 q h (by dsimp only at hq; omega))⟩, by dsimp only; omega⟩
 refine g9 12 ?_
 refine W.sd 35 (fun h34 p34 => ?_) (fun h34 p34 => ?_)
 ·refine g9 5 ?_
  refine (h_l.mono hG25).a1 (i := i) om9 (fun he29 => (g9 9 ?_))
  refine W.sd 42 (fun h41 p41 => ?_) (fun h41 p41 => ?_)
  ·refine g9 18 ?_
   have hlow : lowerN l k = i := lower_split om9 h1 (fun q h hq => h2 q h om9)
   refine tup2 (by rw [hlow]) ?_
   rw [hlow]
   simp only [Str.b_inj] at p41
   rw [List.getElem?_eq_getElem om9]
   simp [p41]
  refine g9 5 ?_
  refine (h_l.mono hG25).a1 (i := i) om9 (fun he32 => (g9 4 ?_))
  refine W.qcall (sisnan_fc _) rfl (g9 2 ?_)
  refine W.sp 48 rfl (fun h47 => ?_) (fun h47 => ?_)
  ·cases h47
  refine g9 13 ?_
  have hlow : lowerN l k = i := lower_split om9 h1 (fun q h hq => h2 q h om9)
  refine tup2 (by rw [hlow]) ?_
  rw [hlow]
  simp only [Str.b_inj] at p41
  rw [List.getElem?_eq_getElem om9]
  simp [p41]
 refine g9 24 ?_
 have hlow : lowerN l k = i := lower_split om9 h1 (fun q h hq => h2 q h om9)
 refine tup2 (by rw [hlow]) ?_
 rw [hlow]
 rw [List.getElem?_eq_none om9] <;> simp

theorem broute_fc {G : GH} {v_l : Value} {l : List Str} (h_l : SlR eStr G v_l l) (k : Str) (hr : rising l = true) :
    Fc Tryz.prog 59 [v_l, sV k.b] G [] (fun v _ _ => v = iV (((routeN l k : Nat) : Int))) := by
 obtain ⟨sa_l, sc_l, rfl⟩ := h_l.form
 have hlo := lowerN_le l k
 have hlen := h_l.len47
 refine Fc.go [.tmp 4] Tryz.func59 Tryz.ntmps59 rfl (fun w0 => (g9 9 ?_))
 refine W.qcall (bsearch_fc h_l _ (by assumption)) rfl (g9 13 ?_)
 refine WC.cond rfl (fun h10_1 => ?_) (fun h10_1 => ?_)
 ·refine g9 14 ?_
  exact iv (route_lower_yes hr (odt h10_1))
 refine g9 10 ?_
 exact iv (route_lower_no hr (odf h10_1))

theorem rroute_fc {G : GH} {v_l : Value} {l : List Str} (h_l : SlR eStr G v_l l) (k : Str) :
    Fc Tryz.prog 74 [v_l, sV k.b] G [] (fun v _ _ => v = iV (((routeN l k : Nat) : Int))) := by
 obtain ⟨sa_l, sc_l, rfl⟩ := h_l.form
 have hl := h_l.len47
 refine Fc.go [.tmp 4] Tryz.func74 Tryz.ntmps74 rfl (fun w0 => (g9 17 ?_))
 refine WC.loop (X := Nat) (fun i => [(5, nt9 (routeN (l.take i) k)), (6, nt9 i), (0, lV sa_l l.length sc_l), (1, sV k.b)]) (fun i _ Ml => Ml = [] ∧ i ≤ l.length) (fun i => l.length - i) 0 hs9 ?_ ?_
 ·exact ⟨rfl, om9⟩
 rintro i gG35 G35 _ hG35 ⟨rfl, hi⟩
 have hrt := routeN_take_le l k i
 refine g9 9 ?_
 refine WC.cd (fun h10 p10 => ?_) (fun h10 p10 => ?_)
 ·refine g9 9 ?_
  refine (h_l.mono hG35).a1 (i := i) om9 (fun he36 => (g9 2 ?_))
  refine W.qcall (less_fc _ _) rfl (g9 3 ?_)
  refine WC.cond rfl (fun h19 => ?_) (fun h19 => ?_)
  ·refine g9 13 ?_
   exact ⟨Le.rfl, i + 1, ⟨(iv (by rw [routeN_succ (by omega : i < l.length)]; simp only [Bool.not_eq_true', Bool.not_eq_false'] at h19; simp [h19])), eqv, eqv, eqv, trivial⟩, ⟨rfl, om9⟩, om9⟩
  refine g9 9 ?_
  exact ⟨Le.rfl, i + 1, ⟨(iv (by rw [routeN_succ (by omega : i < l.length)]; simp only [Bool.not_eq_true', Bool.not_eq_false'] at h19; simp [h19])), eqv, eqv, eqv, trivial⟩, ⟨rfl, om9⟩, om9⟩
 refine g9 13 ?_
 exact iv (by rw [List.take_of_length_le om9])

theorem rrange_fc {G : GH} {v_l : Value} {l : List Str} (h_l : SlR eStr G v_l l) (i : Int) (hi : i64 i) :
    Fc Tryz.prog 47 [v_l, iV i] G [] (fun v _ _ => v = .agg (List.toArray ((rangeN l i : Span).cells))) := by
 obtain ⟨sa_l, sc_l, rfl⟩ := h_l.form
 have hl := h_l.len47
 obtain ⟨hi1, hi2⟩ := hi
 refine Fc.go [.cell 4 55] Tryz.func47 Tryz.ntmps47 rfl (fun w0 => (g9 2 ?_))
 refine W.alloc zr55 (fun b39 => (g9 4 ?_))
 refine W.ok (ok_build (L := [sV _, sV _, .bool _]) pl55 zr55 rfl rfl rfl) (W.alloc zr55 (fun b40 => (g9 9 ?_)))
 refine W.sd 9 (fun h8 p8 => ?_) (fun h8 p8 => ?_)
 ·refine g9 10 ?_
  refine W.ok (ok_build (L := [sV _, sV _, .bool _]) pl55 zr55 rfl rfl rfl) (g9 6 ?_)
  refine congrArg (fun l => Value.agg (List.toArray l)) ?_
  show [Value.string _, Value.string _, Value.bool _] = _
  rw [rangeN_out om9]; rfl
 refine g9 11 ?_
 refine WC.cd (fun h13 p13 => ?_) (fun h13 p13 => ?_)
 ·refine g9 2 ?_
  refine W.ok (ok_build (L := [sV _, sV _, .bool _]) pl55 zr55 rfl rfl rfl) (g9 6 ?_)
  refine congrArg (fun l => Value.agg (List.toArray l)) ?_
  show [Value.string _, Value.string _, Value.bool _] = _
  rw [rangeN_out om9]; rfl
 refine g9 9 ?_
 refine WC.cd (fun h17 p17 => ?_) (fun h17 p17 => ?_)
 ·refine g9 4 ?_
  refine h_l.a1 (i := (i - 1).toNat) om9 (fun he41 => (W.ok (ok_indexAddr (i := (i - 1).toNat) sl49 ty9 h_l rfl rfl ⟨om9, om9⟩) (g9 14 ?_)))
  refine WC.cd (fun h27 p27 => ?_) (fun h27 p27 => ?_)
  ·refine g9 9 ?_
   refine h_l.a1 (i := i.toNat) om9 (fun he44 => (W.ok (ok_indexAddr (i := i.toNat) sl49 ty9 h_l rfl rfl ⟨om9, om9⟩) (g9 8 ?_)))
   refine W.qcall (norm_fc _ _ _) rfl (g9 5 ?_)
   exact congrArg (fun s : Span => Value.agg (List.toArray s.cells)) (rangeN_tt p17 p27 om9 om9)
  refine g9 5 ?_
  refine W.qcall (norm_fc _ Str.nil _) rfl (g9 5 ?_)
  exact congrArg (fun s : Span => Value.agg (List.toArray s.cells)) (rangeN_tf p17 p27 om9 om9)
 refine g9 11 ?_
 refine WC.cd (fun h27 p27 => ?_) (fun h27 p27 => ?_)
 ·refine g9 9 ?_
  refine h_l.a1 (i := i.toNat) om9 (fun he47 => (W.ok (ok_indexAddr (i := i.toNat) sl49 ty9 h_l rfl rfl ⟨om9, om9⟩) (g9 8 ?_)))
  refine W.qcall (norm_fc Str.nil _ _) rfl (g9 5 ?_)
  exact congrArg (fun s : Span => Value.agg (List.toArray s.cells)) (rangeN_ft om9 p17 p27 om9)
 refine g9 5 ?_
 refine W.qcall (norm_fc Str.nil Str.nil _) rfl (g9 5 ?_)
 exact congrArg (fun s : Span => Value.agg (List.toArray s.cells)) (rangeN_ff om9 p17 p27 om9)

theorem brange_fc {G : GH} {v_l : Value} {l : List Str} (h_l : SlR eStr G v_l l) (i : Int) (hi : i64 i) :
    Fc Tryz.prog 109 [v_l, iV i] G [] (fun v _ _ => v = .agg (List.toArray ((rangeN l i : Span).cells))) := by
 obtain ⟨sa_l, sc_l, rfl⟩ := h_l.form
 have hl := h_l.len47
 obtain ⟨hi1, hi2⟩ := hi
 refine Fc.go [.cell 4 55] Tryz.func109 Tryz.ntmps109 rfl (fun w0 => (WC.sr (W.alloc zr55 (fun b50 => (W.nt (WC.seq (WC.sr (W.mv (W.ok (ok_lss rfl rfl) (W.mv ?_))))))))))
 refine W.sd 8 (fun h7 p7 => ?_) (fun h7 p7 => ?_)
 ·refine W.n8 h7 rfl (W.n8 h7 rfl (W.n8 h7 rfl (W.n8 h7 rfl (W.ok (ok_pick_t rfl h7) (W.nt (WC.cond_t rfl rfl (WC.sr (W.ok (ok_build (L := [sV _, sV _, .bool _]) pl55 zr55 rfl rfl rfl) (W.st 0 sp9 sp9 ty55 rfl (W.nt (WC.rt ?_)))))))))))
  refine ⟨.inr rfl, [_], ⟨⟨_, _, _, _, _, rfl, nthM_mem (i := 0) rfl, ty55, (by simp), rfl, rfl⟩, trivial⟩, [], sn9, ?_⟩
  refine congrArg (fun l => Value.agg (List.toArray l)) ?_
  show [Value.string _, Value.string _, Value.bool _] = _
  rw [rangeN_out om9]; rfl
 refine W.y9 h7 rfl (W.mv (W.y9 h7 rfl (W.mv (W.y9 h7 rfl (W.ok (ok_len sl49 h_l rfl) (W.y9 h7 rfl (W.ok (ok_gtr rfl rfl) (W.ok (ok_pick_f rfl h7) (W.nt ?_)))))))))
 refine WC.cd (fun h12 p12 => ?_) (fun h12 p12 => ?_)
 ·refine WC.sr (W.ok (ok_build (L := [sV _, sV _, .bool _]) pl55 zr55 rfl rfl rfl) (W.st 0 sp9 sp9 ty55 rfl (W.nt (WC.rt ?_))))
  refine ⟨.inr rfl, [_], ⟨⟨_, _, _, _, _, rfl, nthM_mem (i := 0) rfl, ty55, (by simp), rfl, rfl⟩, trivial⟩, [], sn9, ?_⟩
  refine congrArg (fun l => Value.agg (List.toArray l)) ?_
  show [Value.string _, Value.string _, Value.bool _] = _
  rw [rangeN_out om9]; rfl
 refine WC.sk (WC.sr (W.qcall (spanall_fc) rfl (W.alloc zr55 (fun b51 => (W.st 0 sp9 sp9 ty55 rfl (W.nt (WC.seq (WC.sr (W.mv (W.ok (ok_gtr rfl rfl) (W.nt ?_)))))))))))
 refine WC.cd (fun h17 p17 => ?_) (fun h17 p17 => ?_)
 ·refine WC.region (W.mv (W.mv (W.ok (ok_sub rfl rfl om9) (h_l.a1 (i := (i - 1).toNat) om9 (fun he52 => (W.ok (ok_indexAddr (i := (i - 1).toNat) sl49 ty9 h_l rfl rfl ⟨om9, om9⟩) (W.ok (ok_loadE (vs := sc9) ty9 he52 rfl rfl rfl (by simp)) (W.fb fd55_0 rfl (W.st 0 sc9 sp9 ty9 rfl (W.nt (WC.seq (WC.sr (W.mv (W.mv ?_))))))))))))))
  refine W.ok (ok_len sl49 h_l rfl) (W.ok (ok_lss rfl rfl) (W.nt ?_))
  refine WC.cd (fun h27 p27 => ?_) (fun h27 p27 => ?_)
  ·refine WC.region (W.mv (W.mv (h_l.a1 (i := i.toNat) om9 (fun he55 => (W.ok (ok_indexAddr (i := i.toNat) sl49 ty9 h_l rfl rfl ⟨om9, om9⟩) (W.ok (ok_loadE (vs := sc9) ty9 he55 rfl rfl rfl (by simp)) (W.fb fd55_1 rfl (W.st 0 sc9 sp9 ty9 rfl (W.fb fd55_2 rfl (W.st 0 bc9 sp9 ty4 rfl (W.ns (W.ok (ok_ld 0 sp9 ty55 rfl) (W.qcall (spannorm_fc _ _ _) rfl (W.st 1 sp9 sp9 ty55 rfl ?_))))))))))))))
   refine W.nt (WC.ret ?_)
   refine ⟨.inr rfl, [_], ⟨⟨_, _, _, _, _, rfl, nthM_mem (i := 1) rfl, ty55, (by simp), rfl, rfl⟩, trivial⟩, [], sn9, ?_⟩
   exact congrArg (fun s : Span => Value.agg (List.toArray s.cells)) (rangeN_tt p17 p27 om9 om9)
  refine WC.sk (WC.sr (W.ok (ok_ld 0 sp9 ty55 rfl) (W.qcall (spannorm_fc _ _ _) rfl (W.st 1 sp9 sp9 ty55 rfl (W.nt (WC.ret ?_))))))
  refine ⟨.inr rfl, [_], ⟨⟨_, _, _, _, _, rfl, nthM_mem (i := 1) rfl, ty55, (by simp), rfl, rfl⟩, trivial⟩, [], sn9, ?_⟩
  exact congrArg (fun s : Span => Value.agg (List.toArray s.cells)) (rangeN_tf p17 p27 om9 om9)
 refine WC.sk (WC.seq (WC.sr (W.mv (W.mv (W.ok (ok_len sl49 h_l rfl) (W.ok (ok_lss rfl rfl) (W.nt ?_)))))))
 refine WC.cd (fun h27 p27 => ?_) (fun h27 p27 => ?_)
 ·refine WC.region (W.mv (W.mv (h_l.a1 (i := i.toNat) om9 (fun he58 => (W.ok (ok_indexAddr (i := i.toNat) sl49 ty9 h_l rfl rfl ⟨om9, om9⟩) (W.ok (ok_loadE (vs := sc9) ty9 he58 rfl rfl rfl (by simp)) (W.fb fd55_1 rfl (W.st 0 sc9 sp9 ty9 rfl (W.fb fd55_2 rfl (W.st 0 bc9 sp9 ty4 rfl (W.ns (W.ok (ok_ld 0 sp9 ty55 rfl) (W.qcall (spannorm_fc _ _ _) rfl (W.st 1 sp9 sp9 ty55 rfl ?_))))))))))))))
  refine W.nt (WC.ret ?_)
  refine ⟨.inr rfl, [_], ⟨⟨_, _, _, _, _, rfl, nthM_mem (i := 1) rfl, ty55, (by simp), rfl, rfl⟩, trivial⟩, [], sn9, ?_⟩
  exact congrArg (fun s : Span => Value.agg (List.toArray s.cells)) (rangeN_ft om9 p17 p27 om9)
 refine WC.sk (WC.sr (W.ok (ok_ld 0 sp9 ty55 rfl) (W.qcall (spannorm_fc _ _ _) rfl (W.st 1 sp9 sp9 ty55 rfl (W.nt (WC.ret ?_))))))
 refine ⟨.inr rfl, [_], ⟨⟨_, _, _, _, _, rfl, nthM_mem (i := 1) rfl, ty55, (by simp), rfl, rfl⟩, trivial⟩, [], sn9, ?_⟩
 exact congrArg (fun s : Span => Value.agg (List.toArray s.cells)) (rangeN_ff om9 p17 p27 om9)

theorem rlong_fc {G : GH} {v_l : Value} {l : List Str} (h_l : SlR eStr G v_l l) (m : Int) (hm : 0 ≤ m ∧ m ≤ 1073741824) :
    Fc Tryz.prog 52 [v_l, iV m] G [] (fun v _ _ => v = iV (longN l 0 m)) := by
 obtain ⟨sa_l, sc_l, rfl⟩ := h_l.form
 have hl := h_l.len47
 refine Fc.go [.tmp 4] Tryz.func52 Tryz.ntmps52 rfl (fun w0 => (g9 17 ?_))
 refine WC.loop (X := Nat × Int) (fun x => [(5, iV x.2), (6, nt9 x.1), (0, lV sa_l l.length sc_l), (1, iV m)]) (fun x _ Ml => Ml = [] ∧ x.1 ≤ l.length ∧ 0 ≤ x.2 ∧ x.2 ≤ 140738562097154 ∧ longN (l.drop x.1) x.2 m = longN l 0 m) (fun x => l.length - x.1) (0, 0) hs9 ?_ ?_
 ·exact ⟨rfl, by simp, by simp, by simp, by simp⟩
 rintro ⟨k, n⟩ gG61 G61 _ hG61 ⟨rfl, hk, hn, hn2, hlg⟩
 dsimp only at hk hn hn2 hlg
 refine g9 8 ?_
 refine W.sd 11 (fun h10 p10 => ?_) (fun h10 p10 => ?_)
 ·refine g9 9 ?_
  refine WC.cd (fun h14 p14 => ?_) (fun h14 p14 => ?_)
  ·refine g9 8 ?_
   refine (h_l.mono hG61).a1 (i := k) om9 (fun he62 => (g9 3 ?_))
   refine W.ok (ok_add rfl rfl (by have := (l[k]).le; omega)) (W.ok (ok_add rfl rfl (by have := (l[k]).le; dsimp only; omega)) (g9 10 ?_))
   exact ⟨Le.rfl, (k + 1, n + (((l[k]).b.size : Nat) + 1)), hs9, ⟨rfl, by dsimp only; omega, by dsimp only; omega, by have := (l[k]).le; dsimp only; omega, (longN_step om9 p14).symm.trans hlg⟩, by dsimp only; omega⟩
  refine g9 13 ?_
  refine congrArg (Value.int .i64) ?_
  rw [← hlg]
  exact (longN_stop om9).symm
 refine g9 20 ?_
 refine congrArg (Value.int .i64) ?_
 rw [← hlg]
 rw [List.drop_eq_nil_of_le om9]; rfl

end Go.Proofs.YtfmigmijckdldaaGreat
namespace Go.Proofs.YtfmigmijckdldaaGreat
open Go Go.Fw Go.RowKit
attribute [local irreducible] Ok W WC
theorem rmeet_fc {G : GH} (alo : Str) (ahi : Str) (ao : Bool) (blo : Str) (bhi : Str) (bo : Bool) :
    Fc Tryz.prog 46 [.agg #[sV alo.b, sV ahi.b, .bool ao], .agg #[sV blo.b, sV bhi.b, .bool bo]] G [] (fun v _ _ => v = .agg (List.toArray ((Span.meet ⟨alo, ahi, ao⟩ ⟨blo, bhi, bo⟩ : Span).cells))) := by
 refine Fc.go [.cell 4 55] Tryz.func46 Tryz.ntmps46 rfl (fun w0 => (g9 2 ?_))
 refine W.box (L := [sV _, sV _, .bool _]) rfl rfl (fun b1 => (W.box (L := [sV _, sV _, .bool _]) rfl rfl (fun b2 => (W.alloc zr55 (fun b3 => (g9 5 ?_))))))
 refine W.alloc zr55 (fun b4 => (g9 10 ?_))
 refine W.qcall (less_fc _ _) rfl (g9 2 ?_)
 refine WC.cond rfl (fun h11 => ?_) (fun h11 => ?_)
 ·refine g9 14 ?_
  refine W.sp 18 rfl (fun h17 => ?_) (fun h17 => ?_)
  ·refine g9 6 ?_
   refine W.sp 21 rfl (fun ha_ao => ?_) (fun ha_ao => ?_)
   ·refine g9 27 ?_
    refine W.qcall (norm_fc _ _ _) rfl (g9 5 ?_)
    refine congrArg (fun l => Value.agg (List.toArray l)) ?_
    show [Value.string _, Value.string _, Value.bool _] = _
    simp_all [Span.meet, setAt] <;> rfl
   refine g9 9 ?_
   refine W.qcall (less_fc _ _) rfl (g9 5 ?_)
   refine WC.cond rfl (fun h26 => ?_) (fun h26 => ?_)
   ·refine g9 16 ?_
    refine W.qcall (norm_fc _ _ _) rfl (g9 5 ?_)
    refine congrArg (fun l => Value.agg (List.toArray l)) ?_
    show [Value.string _, Value.string _, Value.bool _] = _
    simp_all [Span.meet, setAt] <;> rfl
   refine g9 5 ?_
   refine W.qcall (norm_fc _ _ _) rfl (g9 5 ?_)
   refine congrArg (fun l => Value.agg (List.toArray l)) ?_
   show [Value.string _, Value.string _, Value.bool _] = _
   simp_all [Span.meet, setAt] <;> rfl
  refine g9 18 ?_
  refine W.qcall (norm_fc _ _ _) rfl (g9 5 ?_)
  refine congrArg (fun l => Value.agg (List.toArray l)) ?_
  show [Value.string _, Value.string _, Value.bool _] = _
  simp_all [Span.meet, setAt] <;> rfl
 refine g9 9 ?_
 refine W.sp 18 rfl (fun h17 => ?_) (fun h17 => ?_)
 ·refine g9 6 ?_
  refine W.sp 21 rfl (fun ha_ao => ?_) (fun ha_ao => ?_)
  ·refine g9 27 ?_
   refine W.qcall (norm_fc _ _ _) rfl (g9 5 ?_)
   refine congrArg (fun l => Value.agg (List.toArray l)) ?_
   show [Value.string _, Value.string _, Value.bool _] = _
   simp_all [Span.meet, setAt] <;> rfl
  refine g9 9 ?_
  refine W.qcall (less_fc _ _) rfl (g9 5 ?_)
  refine WC.cond rfl (fun h26 => ?_) (fun h26 => ?_)
  ·refine g9 16 ?_
   refine W.qcall (norm_fc _ _ _) rfl (g9 5 ?_)
   refine congrArg (fun l => Value.agg (List.toArray l)) ?_
   show [Value.string _, Value.string _, Value.bool _] = _
   simp_all [Span.meet, setAt] <;> rfl
  refine g9 5 ?_
  refine W.qcall (norm_fc _ _ _) rfl (g9 5 ?_)
  refine congrArg (fun l => Value.agg (List.toArray l)) ?_
  show [Value.string _, Value.string _, Value.bool _] = _
  simp_all [Span.meet, setAt] <;> rfl
 refine g9 18 ?_
 refine W.qcall (norm_fc _ _ _) rfl (g9 5 ?_)
 refine congrArg (fun l => Value.agg (List.toArray l)) ?_
 show [Value.string _, Value.string _, Value.bool _] = _
 simp_all [Span.meet, setAt] <;> rfl

theorem smeet_fc {G : GH} (alo : Str) (ahi : Str) (ao : Bool) (blo : Str) (bhi : Str) (bo : Bool) :
    Fc Tryz.prog 124 [.agg #[sV alo.b, sV ahi.b, .bool ao], .agg #[sV blo.b, sV bhi.b, .bool bo]] G [] (fun v _ _ => v = .agg (List.toArray ((Span.meet ⟨alo, ahi, ao⟩ ⟨blo, bhi, bo⟩ : Span).cells))) := by
 refine Fc.go [.cell 4 55] Tryz.func124 Tryz.ntmps124 rfl (fun w0 => (g9 2 ?_))
 refine W.box (L := [sV _, sV _, .bool _]) rfl rfl (fun b5 => (W.box (L := [sV _, sV _, .bool _]) rfl rfl (fun b6 => (W.alloc zr55 (fun b7 => (g9 8 ?_))))))
 refine W.ok (ok_maxS rfl rfl) (g9 3 ?_)
 refine W.sp 13 rfl (fun ha_ao => ?_) (fun ha_ao => ?_)
 ·refine g9 5 ?_
  refine W.ok (ok_build (L := [sV _, sV _, .bool _]) pl55 zr55 rfl rfl rfl) (W.alloc zr55 (fun b8 => (g9 24 ?_)))
  refine W.qcall (spannorm_fc _ _ _) rfl (g9 5 ?_)
  refine congrArg (fun l => Value.agg (List.toArray l)) ?_
  show [Value.string _, Value.string _, Value.bool _] = _
  rw [← smeet_eq]
  simp_all [setAt] <;> rfl
 refine g9 3 ?_
 refine W.ok (ok_build (L := [sV _, sV _, .bool _]) pl55 zr55 rfl rfl rfl) (W.alloc zr55 (fun b9 => (g9 20 ?_)))
 refine WC.cond rfl (fun ha_bo => ?_) (fun ha_bo => ?_)
 ·refine g9 11 ?_
  refine W.qcall (spannorm_fc _ _ _) rfl (g9 5 ?_)
  refine congrArg (fun l => Value.agg (List.toArray l)) ?_
  show [Value.string _, Value.string _, Value.bool _] = _
  rw [← smeet_eq]
  simp_all [setAt] <;> rfl
 refine g9 5 ?_
 refine W.ok (ok_minS rfl rfl) (g9 8 ?_)
 refine W.qcall (spannorm_fc _ _ _) rfl (g9 5 ?_)
 refine congrArg (fun l => Value.agg (List.toArray l)) ?_
 show [Value.string _, Value.string _, Value.bool _] = _
 rw [← smeet_eq]
 simp_all [setAt] <;> rfl

theorem knext_fc {G : GH} (k : Str) (hk : k.b.size < 140737488355328) :
    Fc Tryz.prog 173 [sV k.b] G [] (fun v _ _ => v = sV (Str.b (k.next))) := by
 refine Fc.go [.tmp 2] Tryz.func173 Tryz.ntmps173 rfl (fun w0 => (g9 8 ?_))
 refine W.ok (ok_addS rfl rfl (by show _ + 1 ≤ _; omega)) (g9 5 ?_)
 refine congrArg Value.string ?_
 exact (Str.next_b hk).symm

theorem point_fc {G : GH} (k : Str) (hk : k.b.size < 140737488355328) :
    Fc Tryz.prog 164 [sV k.b] G [] (fun v _ _ => v = .agg (List.toArray ((⟨k, k.next, false⟩ : Span).cells))) := by
 refine Fc.go [.cell 2 55] Tryz.func164 Tryz.ntmps164 rfl (fun w0 => (g9 2 ?_))
 refine W.alloc zr55 (fun b10 => (g9 6 ?_))
 refine W.qcall (knext_fc _ (by first | assumption | omega | (dsimp only; omega))) rfl (W.ok (ok_build (L := [sV _, sV _, .bool _]) pl55 zr55 rfl rfl rfl) (g9 5 ?_))
 rfl

theorem mspan_fc {G : GH} (ms : Int) (mk : Int) (mkey : Str) (mhi : Str) (mo : Bool) (mv : Str) (hk : mkey.b.size < 140737488355328) :
    Fc Tryz.prog 151 [.agg #[iV ms, iV mk, sV mkey.b, sV mhi.b, .bool mo, sV mv.b]] G [] (fun v _ _ => v = .agg (List.toArray ((Msg.span (⟨ms, mk, mkey, mhi, mo, mv⟩ : Msg) : Span).cells))) := by
 refine Fc.go [.cell 2 55] Tryz.func151 Tryz.ntmps151 rfl (fun w0 => (g9 2 ?_))
 refine W.box (L := [iV _, iV _, sV _, sV _, .bool _, sV _]) rfl rfl (fun b11 => (W.alloc zr55 (fun b12 => (g9 10 ?_))))
 refine WC.cd (fun h5 p5 => ?_) (fun h5 p5 => ?_)
 ·refine g9 8 ?_
  refine W.ok (ok_build (L := [sV _, sV _, .bool _]) pl55 zr55 rfl rfl rfl) (g9 6 ?_)
  refine congrArg (fun l => Value.agg (List.toArray l)) ?_
  rw [Msg.span, if_pos p5]; rfl
 refine g9 6 ?_
 refine W.qcall (point_fc _ (by first | assumption | omega | (dsimp only; omega))) rfl (g9 5 ?_)
 refine congrArg (fun l => Value.agg (List.toArray l)) ?_
 rw [Msg.span, if_neg p5] <;> simp [Span.cells, Str.next_b hk, setAt]

theorem rspan_fc {G : GH} (ms : Int) (mk : Int) (mkey : Str) (mhi : Str) (mo : Bool) (mv : Str) (hk : mkey.b.size < 140737488355328) :
    Fc Tryz.prog 84 [.agg #[iV ms, iV mk, sV mkey.b, sV mhi.b, .bool mo, sV mv.b]] G [] (fun v _ _ => v = .agg (List.toArray ((Msg.span (⟨ms, mk, mkey, mhi, mo, mv⟩ : Msg) : Span).cells))) := by
 refine Fc.go [.cell 2 55] Tryz.func84 Tryz.ntmps84 rfl (fun w0 => (g9 2 ?_))
 refine W.box (L := [iV _, iV _, sV _, sV _, .bool _, sV _]) rfl rfl (fun b13 => (W.alloc zr55 (fun b14 => (g9 10 ?_))))
 refine WC.cd (fun h5 p5 => ?_) (fun h5 p5 => ?_)
 ·refine g9 8 ?_
  refine W.ok (ok_build (L := [sV _, sV _, .bool _]) pl55 zr55 rfl rfl rfl) (g9 6 ?_)
  refine congrArg (fun l => Value.agg (List.toArray l)) ?_
  rw [Msg.span, if_pos p5]; rfl
 refine g9 8 ?_
 refine W.ok (ok_addS rfl rfl (by show _ + 1 ≤ _; omega)) (W.ok (ok_build (L := [sV _, sV _, .bool _]) pl55 zr55 rfl rfl rfl) (g9 5 ?_))
 refine congrArg (fun l => Value.agg (List.toArray l)) ?_
 rw [Msg.span, if_neg p5] <;> simp [Span.cells, Str.next_b hk, setAt]

theorem touch_fc {G : GH} (alo : Str) (ahi : Str) (ao : Bool) (blo : Str) (bhi : Str) (bo : Bool) :
    Fc Tryz.prog 163 [.agg #[sV alo.b, sV ahi.b, .bool ao], .agg #[sV blo.b, sV bhi.b, .bool bo]] G [] (fun v _ _ => v = .bool (!(Span.meet ⟨alo, ahi, ao⟩ ⟨blo, bhi, bo⟩).empty)) := by
 refine Fc.go [.tmp 4] Tryz.func163 Tryz.ntmps163 rfl (fun w0 => (g9 2 ?_))
 refine W.box (L := [sV _, sV _, .bool _]) rfl rfl (fun b15 => (W.box (L := [sV _, sV _, .bool _]) rfl rfl (fun b16 => (g9 7 ?_))))
 refine W.qcall (smeet_fc _ _ _ _ _ _) rfl (W.qcall (spanempty_fc _ _ _) rfl (g9 6 ?_))
 rfl

theorem touches_fc {G : GH} (ms : Int) (mk : Int) (mkey : Str) (mhi : Str) (mo : Bool) (mv : Str) (alo : Str) (ahi : Str) (ao : Bool) (hk : mkey.b.size < 140737488355328) :
    Fc Tryz.prog 150 [.agg #[iV ms, iV mk, sV mkey.b, sV mhi.b, .bool mo, sV mv.b], .agg #[sV alo.b, sV ahi.b, .bool ao]] G [] (fun v _ _ => v = .bool (!((Msg.span (⟨ms, mk, mkey, mhi, mo, mv⟩ : Msg)).meet ⟨alo, ahi, ao⟩).empty)) := by
 refine Fc.go [.tmp 4] Tryz.func150 Tryz.ntmps150 rfl (fun w0 => (g9 2 ?_))
 refine W.box (L := [iV _, iV _, sV _, sV _, .bool _, sV _]) rfl rfl (fun b17 => (W.box (L := [sV _, sV _, .bool _]) rfl rfl (fun b18 => (g9 6 ?_))))
 refine W.qcall (mspan_fc _ _ _ _ _ _ (by first | assumption | omega | (dsimp only; omega))) rfl (g9 1 ?_)
 refine W.qcall (touch_fc _ _ _ _ _ _) rfl (g9 5 ?_)
 rfl

theorem msize_fc {G : GH} (ms : Int) (mk : Int) (mkey : Str) (mhi : Str) (mo : Bool) (mv : Str) :
    Fc Tryz.prog 111 [.agg #[iV ms, iV mk, sV mkey.b, sV mhi.b, .bool mo, sV mv.b]] G [] (fun v _ _ => v = iV (Msg.size (⟨ms, mk, mkey, mhi, mo, mv⟩ : Msg))) := by
 have h1 := mkey.le
 have h2 := mv.le
 refine Fc.go [.tmp 2] Tryz.func111 Tryz.ntmps111 rfl (fun w0 => (g9 2 ?_))
 refine W.box (L := [iV _, iV _, sV _, sV _, .bool _, sV _]) rfl rfl (fun b19 => (g9 11 ?_))
 refine WC.cd (fun h5 p5 => ?_) (fun h5 p5 => ?_)
 ·refine g9 8 ?_
  refine congrArg (Value.int .i64) ?_
  rw [Msg.size, if_pos p5]
 refine g9 17 ?_
 refine congrArg (Value.int .i64) ?_
 rw [Msg.size, if_neg p5]

theorem rclip_fc {G : GH} (ms : Int) (mk : Int) (mkey : Str) (mhi : Str) (mo : Bool) (mv : Str) (alo : Str) (ahi : Str) (ao : Bool) (hk : mkey.b.size < 140737488355328) :
    Fc Tryz.prog 89 [.agg #[iV ms, iV mk, sV mkey.b, sV mhi.b, .bool mo, sV mv.b], .agg #[sV alo.b, sV ahi.b, .bool ao]] G [] (fun v _ _ => v = .tuple #[.agg (List.toArray ((Msg.clip (⟨ms, mk, mkey, mhi, mo, mv⟩ : Msg) ⟨alo, ahi, ao⟩).1.cells)), .bool ((Msg.clip (⟨ms, mk, mkey, mhi, mo, mv⟩ : Msg) ⟨alo, ahi, ao⟩).2)]) := by
 refine Fc.go [.cell 4 90, .tmp 5] Tryz.func89 Tryz.ntmps89 rfl (fun w0 => (g9 2 ?_))
 refine W.box (L := [iV _, iV _, sV _, sV _, .bool _, sV _]) rfl rfl (fun b20 => (W.box (L := [sV _, sV _, .bool _]) rfl rfl (fun b21 => (W.alloc zr90 (fun b22 => (g9 4 ?_))))))
 refine WC.dw ((sr9.k9.k9).k9) (d9 [0, 2] ?_)
 refine WD.any [1, 4] (by kernel_rfl) rfl ⟨WD.ap ?_, WD.ap ?_, trivial⟩
 ·refine W.qcall (rspan_fc _ _ _ _ _ _ (by first | assumption | omega | (dsimp only; omega))) rfl (W.nn ?_)
  refine WD.any [3, 4] (by kernel_rfl) rfl ⟨WD.ap ?_, WD.ap ?_, trivial⟩
  ·refine W.qcall (rmeet_fc _ _ _ _ _ _) rfl (W.nn (WD.a1 4 rfl (W.alloc zr55 (fun b23 => (W.nn (d9 [5] ?_))))))
   refine g9 6 ?_
   refine W.qcall (empty_fc _ _ _) rfl (g9 2 ?_)
   refine WC.cond rfl (fun h12 => ?_) (fun h12 => ?_)
   ·refine g9 2 ?_
    refine W.ok (ok_build (L := [iV _, iV _, sV _, sV _, .bool _, sV _]) pl90 zr90 rfl rfl rfl) (g9 7 ?_)
    show Value.tuple #[Value.agg (List.toArray [_, _, _, _, _, _]), Value.bool _] = _
    rw [clip_e h12]; rfl
   refine g9 10 ?_
   refine WC.cd (fun h16 p16 => ?_) (fun h16 p16 => ?_)
   ·refine g9 32 ?_
    show Value.tuple #[Value.agg (List.toArray [_, _, _, _, _, _]), Value.bool _] = _
    rw [clip_4 h12 p16]; rfl
   refine g9 11 ?_
   show Value.tuple #[Value.agg (List.toArray [_, _, _, _, _, _]), Value.bool _] = _
   rw [clip_n h12 p16]; rfl
  refine W.alloc zr55 (fun b24 => (W.nn (WD.a1 3 rfl (W.qcall (rmeet_fc _ _ _ _ _ _) rfl (W.nn (d9 [5] ?_))))))
  refine g9 6 ?_
  refine W.qcall (empty_fc _ _ _) rfl (g9 2 ?_)
  refine WC.cond rfl (fun h12 => ?_) (fun h12 => ?_)
  ·refine g9 2 ?_
   refine W.ok (ok_build (L := [iV _, iV _, sV _, sV _, .bool _, sV _]) pl90 zr90 rfl rfl rfl) (g9 7 ?_)
   show Value.tuple #[Value.agg (List.toArray [_, _, _, _, _, _]), Value.bool _] = _
   rw [clip_e h12]; rfl
  refine g9 10 ?_
  refine WC.cd (fun h16 p16 => ?_) (fun h16 p16 => ?_)
  ·refine g9 32 ?_
   show Value.tuple #[Value.agg (List.toArray [_, _, _, _, _, _]), Value.bool _] = _
   rw [clip_4 h12 p16]; rfl
  refine g9 11 ?_
  show Value.tuple #[Value.agg (List.toArray [_, _, _, _, _, _]), Value.bool _] = _
  rw [clip_n h12 p16]; rfl
 refine W.alloc zr55 (fun b25 => (W.nn (WD.a1 1 rfl (W.qcall (rspan_fc _ _ _ _ _ _ (by first | assumption | omega | (dsimp only; omega))) rfl (W.nn (WD.a1 3 rfl (W.qcall (rmeet_fc _ _ _ _ _ _) rfl (W.nn (d9 [5] ?_)))))))))
 refine g9 6 ?_
 refine W.qcall (empty_fc _ _ _) rfl (g9 2 ?_)
 refine WC.cond rfl (fun h12 => ?_) (fun h12 => ?_)
 ·refine g9 2 ?_
  refine W.ok (ok_build (L := [iV _, iV _, sV _, sV _, .bool _, sV _]) pl90 zr90 rfl rfl rfl) (g9 7 ?_)
  show Value.tuple #[Value.agg (List.toArray [_, _, _, _, _, _]), Value.bool _] = _
  rw [clip_e h12]; rfl
 refine g9 10 ?_
 refine WC.cd (fun h16 p16 => ?_) (fun h16 p16 => ?_)
 ·refine g9 32 ?_
  show Value.tuple #[Value.agg (List.toArray [_, _, _, _, _, _]), Value.bool _] = _
  rw [clip_4 h12 p16]; rfl
 refine g9 11 ?_
 show Value.tuple #[Value.agg (List.toArray [_, _, _, _, _, _]), Value.bool _] = _
 rw [clip_n h12 p16]; rfl

theorem mclip_fc {G : GH} (ms : Int) (mk : Int) (mkey : Str) (mhi : Str) (mo : Bool) (mv : Str) (alo : Str) (ahi : Str) (ao : Bool) (hk : mkey.b.size < 140737488355328) :
    Fc Tryz.prog 135 [.agg #[iV ms, iV mk, sV mkey.b, sV mhi.b, .bool mo, sV mv.b], .agg #[sV alo.b, sV ahi.b, .bool ao]] G [] (fun v _ _ => v = .tuple #[.agg (List.toArray ((Msg.clip (⟨ms, mk, mkey, mhi, mo, mv⟩ : Msg) ⟨alo, ahi, ao⟩).1.cells)), .bool ((Msg.clip (⟨ms, mk, mkey, mhi, mo, mv⟩ : Msg) ⟨alo, ahi, ao⟩).2)]) := by
 refine Fc.go [.cell 4 90, .tmp 5] Tryz.func135 Tryz.ntmps135 rfl (fun w0 => (g9 2 ?_))
 refine W.box (L := [iV _, iV _, sV _, sV _, .bool _, sV _]) rfl rfl (fun b26 => (W.box (L := [sV _, sV _, .bool _]) rfl rfl (fun b27 => (W.alloc zr90 (fun b28 => (g9 8 ?_))))))
 refine W.qcall (touches_fc _ _ _ _ _ _ _ _ _ (by first | assumption | omega | (dsimp only; omega))) rfl (g9 3 ?_)
 refine WC.cond rfl (fun h10 => ?_) (fun h10 => ?_)
 ·refine g9 2 ?_
  refine W.ok (ok_build (L := [iV _, iV _, sV _, sV _, .bool _, sV _]) pl90 zr90 rfl rfl rfl) (g9 7 ?_)
  show Value.tuple #[Value.agg (List.toArray [_, _, _, _, _, _]), Value.bool _] = _
  rw [clip_e (by simpa using h10)]; rfl
 refine g9 10 ?_
 refine WC.cd (fun h14 p14 => ?_) (fun h14 p14 => ?_)
 ·refine WC.seq (WC.dw ((sr9.k9.k9).k9) (d9 [0, 2] ?_))
  refine WD.any [1, 4] (by kernel_rfl) rfl ⟨WD.ap ?_, WD.ap ?_, trivial⟩
  ·refine W.qcall (mspan_fc _ _ _ _ _ _ (by first | assumption | omega | (dsimp only; omega))) rfl (W.nn ?_)
   refine WD.any [3, 4] (by kernel_rfl) rfl ⟨WD.ap ?_, WD.ap ?_, trivial⟩
   ·refine W.qcall (smeet_fc _ _ _ _ _ _) rfl (W.nn (WD.a1 4 rfl (W.alloc zr55 (fun b29 => (W.nn (d9 [5] ?_))))))
    refine g9 2 ?_
    refine WC.dw ((((sr9.cons _).k9).k9).k9) (d9 [0, 1, 2, 3, 4, 5, 6, 7, 8, 9, 10, 11] ?_)
    refine g9 11 ?_
    show Value.tuple #[Value.agg (List.toArray [_, _, _, _, _, _]), Value.bool _] = _
    rw [clip_4 (by simpa using h10) p14]; rfl
   refine W.alloc zr55 (fun b30 => (W.nn (WD.a1 3 rfl (W.qcall (smeet_fc _ _ _ _ _ _) rfl (W.nn (d9 [5] ?_))))))
   refine g9 2 ?_
   refine WC.dw ((((sr9.cons _).k9).k9).k9) (d9 [0, 1, 2, 3, 4, 5, 6, 7, 8, 9, 10, 11] ?_)
   refine g9 11 ?_
   show Value.tuple #[Value.agg (List.toArray [_, _, _, _, _, _]), Value.bool _] = _
   rw [clip_4 (by simpa using h10) p14]; rfl
  refine W.alloc zr55 (fun b31 => (W.nn (WD.a1 1 rfl (W.qcall (mspan_fc _ _ _ _ _ _ (by first | assumption | omega | (dsimp only; omega))) rfl (W.nn (WD.a1 3 rfl (W.qcall (smeet_fc _ _ _ _ _ _) rfl (W.nn (d9 [5] ?_)))))))))
  refine g9 2 ?_
  refine WC.dw ((((sr9.cons _).k9).k9).k9) (d9 [0, 1, 2, 3, 4, 5, 6, 7, 8, 9, 10, 11] ?_)
  refine g9 11 ?_
  show Value.tuple #[Value.agg (List.toArray [_, _, _, _, _, _]), Value.bool _] = _
  rw [clip_4 (by simpa using h10) p14]; rfl
 refine g9 11 ?_
 show Value.tuple #[Value.agg (List.toArray [_, _, _, _, _, _]), Value.bool _] = _
 rw [clip_n (by simpa using h10) p14]; rfl

end Go.Proofs.YtfmigmijckdldaaGreat
