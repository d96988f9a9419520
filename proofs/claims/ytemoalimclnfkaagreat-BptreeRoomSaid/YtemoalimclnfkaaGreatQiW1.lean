/- Walks of functions on keys and spans. -/
import Derived.Test.YtemoalimclnfkaaGreatQiFt
import Derived.Test.YtemoalimclnfkaaGreatQiX3
set_option maxRecDepth 100000
set_option maxHeartbeats 1600000
set_option linter.unusedVariables false
set_option linter.unusedSimpArgs false
set_option linter.unnecessarySimpa false
namespace Go.Proofs.YtemoalimclnfkaaGreat
open Go Go.Fw Go.RowKit
attribute [local irreducible] Ok W WC
def S_ : Str := ⟨⟨#[]⟩, by decide⟩
theorem less_fc {G : GH} (a : Str) (b : Str) :
    Fc Tryz.prog 89 [sV a.b, sV b.b] G [] (fun v _ _ => v = .bool (Str.lt a b)) := by
 have ha := a.le
 have hb := b.le
 refine Fc.go [.tmp 4] Tryz.func89 Tryz.ntmps89 rfl (fun w0 => (g9 12 ?_))
 refine WC.loop (X := Nat) (fun k => [(5, nt9 k), (0, sV a.b), (1, sV b.b)]) (fun k _ Ml => Ml = [] ∧ k ≤ a.b.size ∧ k ≤ b.b.size ∧ ∀ i, i < k → a.b[i]? = b.b[i]?) (fun k => a.b.size - k) 0 hs9 ?_ ?_
 ·exact ⟨rfl, om9, om9, fun i hi => by omega⟩
 rintro k gG1 G1 _ hG1 ⟨rfl, hk1, hk2, hk3⟩
 refine g9 8 ?_
 refine W.sd 10 (fun h9 p9 => ?_) (fun h9 p9 => ?_)
 ·refine g9 11 ?_
  refine WC.cd (fun h14 p14 => ?_) (fun h14 p14 => ?_)
  ·refine g9 8 ?_
   refine W.ok (ok_indexS (i := k) st9 rfl rfl ⟨om9, om9⟩) (g9 2 ?_)
   refine W.ok (ok_indexS (i := k) st9 rfl rfl ⟨om9, om9⟩) (g9 3 ?_)
   refine WC.cn (fun h24 p24 => ?_) (fun h24 p24 => ?_)
   ·refine g9 4 ?_
    refine W.ok (ok_indexS (i := k) st9 rfl rfl ⟨om9, om9⟩) (g9 2 ?_)
    refine W.ok (ok_indexS (i := k) st9 rfl rfl ⟨om9, om9⟩) (g9 11 ?_)
    exact congrArg Value.bool (blt_at hk3 _ _ om9)
   refine g9 9 ?_
   exact ⟨Le.rfl, k + 1, hs9, ⟨rfl, om9, om9, same_succ hk3 om9 om9 p24⟩, om9⟩
  refine g9 17 ?_
  exact congrArg Value.bool (blt_end hk3 om9 om9 om9)
 refine g9 25 ?_
 exact congrArg Value.bool (blt_end hk3 om9 om9 om9)

theorem has_fc {G : GH} (slo : Str) (shi : Str) (so : Bool) (k : Str) :
    Fc Tryz.prog 56 [.agg #[sV slo.b, sV shi.b, .bool so], sV k.b] G [] (fun v _ _ => v = .bool (Span.has ⟨slo, shi, so⟩ k)) := by
 refine Fc.go [.tmp 4] Tryz.func56 Tryz.ntmps56 rfl (fun w0 => (g9 2 ?_))
 refine W.box (L := [sV _, sV _, .bool _]) rfl rfl (fun b2 => (g9 8 ?_))
 refine W.qcall (less_fc _ _) rfl (g9 2 ?_)
 refine W.sp 10 rfl (fun h9 => ?_) (fun h9 => ?_)
 ·refine g9 6 ?_
  refine W.sp 13 rfl (fun ha_so => ?_) (fun ha_so => ?_)
  ·refine g9 12 ?_
   refine congrArg Value.bool ?_
   simp_all [Span.has]
  refine g9 7 ?_
  refine W.qcall (less_fc _ _) rfl (g9 8 ?_)
  refine congrArg Value.bool ?_
  simp_all [Span.has]
 refine g9 14 ?_
 refine congrArg Value.bool ?_
 simp_all [Span.has]

theorem empty_fc {G : GH} (slo : Str) (shi : Str) (so : Bool) :
    Fc Tryz.prog 55 [.agg #[sV slo.b, sV shi.b, .bool so]] G [] (fun v _ _ => v = .bool (Span.empty ⟨slo, shi, so⟩)) := by
 refine Fc.go [.tmp 2] Tryz.func55 Tryz.ntmps55 rfl (fun w0 => (g9 2 ?_))
 refine W.box (L := [sV _, sV _, .bool _]) rfl rfl (fun b3 => (g9 8 ?_))
 refine W.qcall (has_fc _ _ _ _) rfl (g9 6 ?_)
 refine congrArg Value.bool ?_
 exact Span.empty_eq ⟨slo, shi, so⟩

theorem norm_fc {G : GH} (slo : Str) (shi : Str) (so : Bool) :
    Fc Tryz.prog 110 [.agg #[sV slo.b, sV shi.b, .bool so]] G [] (fun v _ _ => v = .agg (List.toArray ((Span.norm ⟨slo, shi, so⟩ : Span).cells))) := by
 refine Fc.go [.cell 2 74] Tryz.func110 Tryz.ntmps110 rfl (fun w0 => (g9 2 ?_))
 refine W.box (L := [sV _, sV _, .bool _]) rfl rfl (fun b4 => (W.alloc zr74 (fun b5 => (g9 6 ?_))))
 refine W.qcall (empty_fc _ _ _) rfl (g9 2 ?_)
 refine WC.cond rfl (fun h4 => ?_) (fun h4 => ?_)
 ·refine g9 2 ?_
  refine W.ok (ok_build (L := [sV _, sV _, .bool _]) pl74 zr74 rfl rfl rfl) (g9 6 ?_)
  refine congrArg (fun l => Value.agg (List.toArray l)) ?_
  show [Value.string _, Value.string _, Value.bool _] = _
  simp_all [Span.norm, Span.cells, Span.zero, Str.nil, setAt]
 refine g9 9 ?_
 refine WC.cond rfl (fun ha_so => ?_) (fun ha_so => ?_)
 ·refine g9 13 ?_
  refine congrArg (fun l => Value.agg (List.toArray l)) ?_
  show [Value.string _, Value.string _, Value.bool _] = _
  simp_all [Span.norm, Span.cells, Span.zero, Str.nil, setAt]
 refine g9 10 ?_
 refine congrArg (fun l => Value.agg (List.toArray l)) ?_
 show [Value.string _, Value.string _, Value.bool _] = _
 simp_all [Span.norm, Span.cells, Span.zero, Str.nil, setAt]

theorem spanall_fc {G : GH}  :
    Fc Tryz.prog 41 [] G [] (fun v _ _ => v = .agg (List.toArray ((Span.all : Span).cells))) := by
 refine Fc.go [.cell 0 74] Tryz.func41 Tryz.ntmps41 rfl (fun w0 => (g9 2 ?_))
 refine W.alloc zr74 (fun b6 => (g9 4 ?_))
 refine W.ok (ok_build (L := [sV _, sV _, .bool _]) pl74 zr74 rfl rfl rfl) (g9 5 ?_)
 rfl

theorem spanempty_fc {G : GH} (slo : Str) (shi : Str) (so : Bool) :
    Fc Tryz.prog 64 [.agg #[sV slo.b, sV shi.b, .bool so]] G [] (fun v _ _ => v = .bool (Span.empty ⟨slo, shi, so⟩)) := by
 refine Fc.go [.tmp 2] Tryz.func64 Tryz.ntmps64 rfl (fun w0 => (g9 2 ?_))
 refine W.box (L := [sV _, sV _, .bool _]) rfl rfl (fun b7 => (g9 9 ?_))
 refine W.sp 6 rfl (fun h5 => ?_) (fun h5 => ?_)
 ·refine g9 9 ?_
  refine W.ok (ok_geqS rfl rfl) (g9 6 ?_)
  refine congrArg Value.bool ?_
  simp_all [Span.empty, Str.lt]
 refine g9 11 ?_
 refine congrArg Value.bool ?_
 simp_all [Span.empty, Str.lt]

theorem spannorm_fc {G : GH} (slo : Str) (shi : Str) (so : Bool) :
    Fc Tryz.prog 96 [.agg #[sV slo.b, sV shi.b, .bool so]] G [] (fun v _ _ => v = .agg (List.toArray ((Span.norm ⟨slo, shi, so⟩ : Span).cells))) := by
 refine Fc.go [.cell 2 74] Tryz.func96 Tryz.ntmps96 rfl (fun w0 => (g9 2 ?_))
 refine W.box (L := [sV _, sV _, .bool _]) rfl rfl (fun b8 => (W.alloc zr74 (fun b9 => (g9 7 ?_))))
 refine W.qcall (spanempty_fc _ _ _) rfl (g9 3 ?_)
 refine WC.cond rfl (fun h5 => ?_) (fun h5 => ?_)
 ·refine g9 2 ?_
  refine W.ok (ok_build (L := [sV _, sV _, .bool _]) pl74 zr74 rfl rfl rfl) (g9 7 ?_)
  refine congrArg (fun l => Value.agg (List.toArray l)) ?_
  show [Value.string _, Value.string _, Value.bool _] = _
  simp_all [Span.norm, Span.cells, Span.zero, Str.nil, setAt]
 refine g9 7 ?_
 refine WC.cond rfl (fun ha_so => ?_) (fun ha_so => ?_)
 ·refine g9 14 ?_
  refine congrArg (fun l => Value.agg (List.toArray l)) ?_
  show [Value.string _, Value.string _, Value.bool _] = _
  simp_all [Span.norm, Span.cells, Span.zero, Str.nil, setAt]
 refine g9 11 ?_
 refine congrArg (fun l => Value.agg (List.toArray l)) ?_
 show [Value.string _, Value.string _, Value.bool _] = _
 simp_all [Span.norm, Span.cells, Span.zero, Str.nil, setAt]

theorem spanhas_fc {G : GH} (slo : Str) (shi : Str) (so : Bool) (k : Str) :
    Fc Tryz.prog 78 [.agg #[sV slo.b, sV shi.b, .bool so], sV k.b] G [] (fun v _ _ => v = .bool (Span.has ⟨slo, shi, so⟩ k)) := by
 refine Fc.go [.tmp 4] Tryz.func78 Tryz.ntmps78 rfl (fun w0 => (g9 2 ?_))
 refine W.box (L := [sV _, sV _, .bool _]) rfl rfl (fun b10 => (g9 8 ?_))
 refine W.ok (ok_geqS rfl rfl) (W.mv ?_)
 refine W.sp 9 rfl (fun h8 => ?_) (fun h8 => ?_)
 ·refine g9 6 ?_
  refine W.sp 12 rfl (fun ha_so => ?_) (fun ha_so => ?_)
  ·refine g9 12 ?_
   refine congrArg Value.bool ?_
   simp_all [Span.has, Str.lt]
  refine g9 16 ?_
  refine congrArg Value.bool ?_
  simp_all [Span.has, Str.lt]
 refine g9 14 ?_
 refine congrArg Value.bool ?_
 simp_all [Span.has, Str.lt]

theorem rising_fc {G : GH} {v_l : Value} {l : List Str} (h_l : SlR eStr G v_l l) :
    Fc Tryz.prog 109 [v_l] G [] (fun v _ _ => v = .bool (rising l)) := by
 obtain ⟨sa_l, sc_l, rfl⟩ := h_l.form
 have hl := h_l.len47
 refine Fc.go [.tmp 2] Tryz.func109 Tryz.ntmps109 rfl (fun w0 => (g9 12 ?_))
 refine WC.loop (X := Nat) (fun k => [(3, nt9 (k + 1)), (0, lV sa_l l.length sc_l)]) (fun k _ Ml => Ml = [] ∧ ∀ i (h : i + 1 < l.length), i < k → l[i].lt l[i + 1] = true) (fun k => l.length - k) 0 hs9 ?_ ?_
 ·exact ⟨rfl, fun i _ h => by omega⟩
 rintro k gG11 G11 _ hG11 ⟨rfl, hk⟩
 refine g9 9 ?_
 refine WC.cd (fun h7 p7 => ?_) (fun h7 p7 => ?_)
 ·refine g9 9 ?_
  refine (h_l.mono hG11).a1 (i := k) om9 (fun he12 => (W.ok (ok_indexAddr (i := k) sl54 ty9 (h_l.mono hG11) rfl rfl ⟨om9, om9⟩) (g9 3 ?_)))
  refine (h_l.mono hG11).a1 (i := k + 1) om9 (fun he15 => (W.ok (ok_indexAddr (i := k + 1) sl54 ty9 (h_l.mono hG11) rfl rfl ⟨om9, om9⟩) (g9 1 ?_)))
  refine W.qcall (less_fc _ _) rfl (g9 3 ?_)
  refine WC.cond rfl (fun h20 => ?_) (fun h20 => ?_)
  ·refine g9 12 ?_
   refine congrArg Value.bool ?_
   exact (rising_not (i := k) om9 (by simpa using h20)).symm
  refine g9 9 ?_
  exact ⟨Le.rfl, k + 1, hs9, ⟨rfl, fun i h hi => by
      by_cases e : i = k
      · subst e; simpa using h20
      · exact hk i h om9⟩, om9⟩
 refine g9 12 ?_
 refine congrArg Value.bool ?_
 exact (rising_iff.2 (fun i h => hk i h om9)).symm

theorem rright_fc {G : GH} {v_p : Value} {p : List Str} (h_p : SlR eStr G v_p p) {v_c : Value} {c : List Int} (h_c : SlR eInt G v_c c) :
    Fc Tryz.prog 82 [v_p, v_c] G [] (fun v _ _ => v = .bool (rightN p c.length)) := by
 obtain ⟨sa_p, sc_p, rfl⟩ := h_p.form
 obtain ⟨sa_c, sc_c, rfl⟩ := h_c.form
 have hc := h_c.len47
 have hp := h_p.len47
 refine Fc.go [.tmp 4] Tryz.func82 Tryz.ntmps82 rfl (fun w0 => (g9 8 ?_))
 refine W.qcall (rising_fc h_p) rfl (W.mv ?_)
 refine W.sp 7 rfl (fun h6 => ?_) (fun h6 => ?_)
 ·refine g9 18 ?_
  refine congrArg Value.bool ?_
  simp only [rightN, h6, Bool.true_and, Bool.false_and]
  rw [decide_eq_decide]; omega
 refine g9 12 ?_
 refine congrArg Value.bool ?_
 simp only [rightN, h6, Bool.true_and, Bool.false_and]

theorem isnan_fc {G : GH} (a : Str) :
    Fc Tryz.prog 131 [sV a.b] G [] (fun v _ _ => v = .bool (false)) := by
 refine Fc.go [.tmp 2] Tryz.func131 Tryz.ntmps131 rfl (fun w0 => (g9 15 ?_))
 refine congrArg Value.bool ?_
 simp

theorem sisnan_fc {G : GH} (a : Str) :
    Fc Tryz.prog 115 [sV a.b] G [] (fun v _ _ => v = .bool (false)) := by
 refine Fc.go [.tmp 2] Tryz.func115 Tryz.ntmps115 rfl (fun w0 => (g9 15 ?_))
 refine congrArg Value.bool ?_
 simp

theorem cmpless_fc {G : GH} (a : Str) (b : Str) :
    Fc Tryz.prog 114 [sV a.b, sV b.b] G [] (fun v _ _ => v = .bool (Str.lt a b)) := by
 refine Fc.go [.tmp 4] Tryz.func114 Tryz.ntmps114 rfl (fun w0 => (g9 8 ?_))
 refine W.qcall (isnan_fc _) rfl (W.mv ?_)
 refine W.sp 7 rfl (fun h6 => ?_) (fun h6 => ?_)
 ·cases h6
 refine g9 17 ?_
 refine congrArg Value.bool ?_
 rfl

theorem bsearch_fc {G : GH} {v_l : Value} {l : List Str} (h_l : SlR eStr G v_l l) (k : Str) (hr : rising l = true) :
    Fc Tryz.prog 91 [v_l, sV k.b] G [] (fun v _ _ => v = .tuple #[iV (((lowerN l k : Nat) : Int)), .bool (decide (l[lowerN l k]? = some k))]) := by
 obtain ⟨sa_l, sc_l, rfl⟩ := h_l.form
 have hlen := h_l.len47
 refine Fc.go [.tmp 4, .tmp 5] Tryz.func91 Tryz.ntmps91 rfl (fun w0 => (g9 22 ?_))
 refine WC.loop (X := Nat × Nat) (fun x => [(6, nt9 l.length), (7, nt9 x.1), (8, nt9 x.2), (0, lV sa_l l.length sc_l), (1, sV k.b)]) (fun x _ Ml => Ml = [] ∧ x.1 ≤ x.2 ∧ x.2 ≤ l.length ∧ (∀ q (h : q < l.length), q < x.1 → l[q].lt k = true) ∧ (∀ q (h : q < l.length), x.2 ≤ q → l[q].lt k = false)) (fun x => x.2 - x.1) (0, l.length) hs9 ?_ ?_
 ·exact ⟨rfl, by simp, by simp, (fun q _ h => by simp at h), (fun q h h' => by simp at h'; omega)⟩
 rintro ⟨i, j⟩ gG25 G25 _ hG25 ⟨rfl, hi, hj, h1, h2⟩
 dsimp only at hi hj h1 h2
 refine g9 8 ?_
 refine WC.cd (fun h15 p15 => ?_) (fun h15 p15 => ?_)
 ·refine g9 8 ?_
  refine W.ok (ok_convU un3 un51 rfl om9) (W.ok (ok_shr1 rfl rfl om9) (W.ok (ok_convI un51 un3 rfl om9) (g9 7 ?_)))
  refine (h_l.mono hG25).a1 (i := (i + j) / 2) om9 (fun he26 => (W.ok (ok_indexAddr (i := (i + j) / 2) sl54 ty9 (h_l.mono hG25) rfl rfl ⟨by dsimp only; omega, om9⟩) (g9 2 ?_)))
  refine W.qcall (cmpless_fc _ _) rfl (g9 2 ?_)
  refine WC.cond rfl (fun h27 => ?_) (fun h27 => ?_)
  ·refine g9 7 ?_
   exact ⟨Le.rfl, ((i + j) / 2 + 1, j), hs9, ⟨rfl, by dsimp only; omega, by dsimp only; omega, (fun q h hq => rising_below hr om9 h27 q h (by dsimp only at hq; omega)), h2⟩, by dsimp only; omega⟩
  refine g9 6 ?_
  exact ⟨Le.rfl, (i, (i + j) / 2), hs9, ⟨rfl, by dsimp only; omega, by dsimp only; omega, h1, (fun q h hq => rising_above hr om9 h27 q h (by dsimp only at hq; omega))⟩, by dsimp only; omega⟩
 refine g9 12 ?_
 refine W.sd 35 (fun h34 p34 => ?_) (fun h34 p34 => ?_)
 ·refine g9 5 ?_
  refine (h_l.mono hG25).a1 (i := i) om9 (fun he29 => (g9 9 ?_))
  refine W.sd 42 (fun h41 p41 => ?_) (fun h41 p41 => ?_)
  ·refine g9 18 ?_
   have hlow : lowerN l k = i := lower_split om9 h1 (fun q h hq => h2 q h om9)
   refine tup2 (by rw [hlow]) ?_
   rw [hlow]
   simp only [Str.b_inj] at p41
   rw [List.getElem?_eq_getElem om9]
   simp [p41]
  refine g9 5 ?_
  refine (h_l.mono hG25).a1 (i := i) om9 (fun he32 => (g9 4 ?_))
  refine W.qcall (sisnan_fc _) rfl (g9 2 ?_)
  refine W.sp 48 rfl (fun h47 => ?_) (fun h47 => ?_)
  ·cases h47
  refine g9 13 ?_
  have hlow : lowerN l k = i := lower_split om9 h1 (fun q h hq => h2 q h om9)
  refine tup2 (by rw [hlow]) ?_
  rw [hlow]
  simp only [Str.b_inj] at p41
  rw [List.getElem?_eq_getElem om9]
  simp [p41]
 refine g9 24 ?_
 have hlow : lowerN l k = i := lower_split om9 h1 (fun q h hq => h2 q h om9)
 refine tup2 (by rw [hlow]) ?_
 rw [hlow]
 rw [List.getElem?_eq_none om9] <;> simp

theorem broute_fc {G : GH} {v_l : Value} {l : List Str} (h_l : SlR eStr G v_l l) (k : Str) (hr : rising l = true) :
    Fc Tryz.prog 65 [v_l, sV k.b] G [] (fun v _ _ => v = iV (((routeN l k : Nat) : Int))) := by
 obtain ⟨sa_l, sc_l, rfl⟩ := h_l.form
 have hlo := lowerN_le l k
 have hlen := h_l.len47
 refine Fc.go [.tmp 4] Tryz.func65 Tryz.ntmps65 rfl (fun w0 => (g9 9 ?_))
 refine W.qcall (bsearch_fc h_l _ (by assumption)) rfl (g9 13 ?_)
 refine WC.cond rfl (fun h10_1 => ?_) (fun h10_1 => ?_)
 ·refine g9 14 ?_
  exact iv (route_lower_yes hr (odt h10_1))
 refine g9 10 ?_
 exact iv (route_lower_no hr (odf h10_1))

theorem rrange_fc {G : GH} {v_l : Value} {l : List Str} (h_l : SlR eStr G v_l l) (i : Int) (hi : i64 i) :
    Fc Tryz.prog 84 [v_l, iV i] G [] (fun v _ _ => v = .agg (List.toArray ((rangeN l i : Span).cells))) := by
 obtain ⟨sa_l, sc_l, rfl⟩ := h_l.form
 have hl := h_l.len47
 obtain ⟨hi1, hi2⟩ := hi
 refine Fc.go [.cell 4 74] Tryz.func84 Tryz.ntmps84 rfl (fun w0 => (g9 2 ?_))
 refine W.alloc zr74 (fun b35 => (g9 4 ?_))
 refine W.ok (ok_build (L := [sV _, sV _, .bool _]) pl74 zr74 rfl rfl rfl) (W.alloc zr74 (fun b36 => (g9 9 ?_)))
 refine W.sd 9 (fun h8 p8 => ?_) (fun h8 p8 => ?_)
 ·refine g9 10 ?_
  refine W.ok (ok_build (L := [sV _, sV _, .bool _]) pl74 zr74 rfl rfl rfl) (g9 6 ?_)
  refine congrArg (fun l => Value.agg (List.toArray l)) ?_
  show [Value.string _, Value.string _, Value.bool _] = _
  rw [rangeN_out om9]; rfl
 refine g9 11 ?_
 refine WC.cd (fun h13 p13 => ?_) (fun h13 p13 => ?_)
 ·refine g9 2 ?_
  refine W.ok (ok_build (L := [sV _, sV _, .bool _]) pl74 zr74 rfl rfl rfl) (g9 6 ?_)
  refine congrArg (fun l => Value.agg (List.toArray l)) ?_
  show [Value.string _, Value.string _, Value.bool _] = _
  rw [rangeN_out om9]; rfl
 refine g9 9 ?_
 refine WC.cd (fun h17 p17 => ?_) (fun h17 p17 => ?_)
 ·refine g9 4 ?_
  refine h_l.a1 (i := (i - 1).toNat) om9 (fun he37 => (W.ok (ok_indexAddr (i := (i - 1).toNat) sl54 ty9 h_l rfl rfl ⟨om9, om9⟩) (g9 14 ?_)))
  refine WC.cd (fun h27 p27 => ?_) (fun h27 p27 => ?_)
  ·refine g9 9 ?_
   refine h_l.a1 (i := i.toNat) om9 (fun he40 => (W.ok (ok_indexAddr (i := i.toNat) sl54 ty9 h_l rfl rfl ⟨om9, om9⟩) (g9 8 ?_)))
   refine W.qcall (norm_fc _ _ _) rfl (g9 5 ?_)
   exact congrArg (fun s : Span => Value.agg (List.toArray s.cells)) (rangeN_tt p17 p27 om9 om9)
  refine g9 5 ?_
  refine W.qcall (norm_fc _ Str.nil _) rfl (g9 5 ?_)
  exact congrArg (fun s : Span => Value.agg (List.toArray s.cells)) (rangeN_tf p17 p27 om9 om9)
 refine g9 11 ?_
 refine WC.cd (fun h27 p27 => ?_) (fun h27 p27 => ?_)
 ·refine g9 9 ?_
  refine h_l.a1 (i := i.toNat) om9 (fun he43 => (W.ok (ok_indexAddr (i := i.toNat) sl54 ty9 h_l rfl rfl ⟨om9, om9⟩) (g9 8 ?_)))
  refine W.qcall (norm_fc Str.nil _ _) rfl (g9 5 ?_)
  exact congrArg (fun s : Span => Value.agg (List.toArray s.cells)) (rangeN_ft om9 p17 p27 om9)
 refine g9 5 ?_
 refine W.qcall (norm_fc Str.nil Str.nil _) rfl (g9 5 ?_)
 exact congrArg (fun s : Span => Value.agg (List.toArray s.cells)) (rangeN_ff om9 p17 p27 om9)

theorem brange_fc {G : GH} {v_l : Value} {l : List Str} (h_l : SlR eStr G v_l l) (i : Int) (hi : i64 i) :
    Fc Tryz.prog 69 [v_l, iV i] G [] (fun v _ _ => v = .agg (List.toArray ((rangeN l i : Span).cells))) := by
 obtain ⟨sa_l, sc_l, rfl⟩ := h_l.form
 have hl := h_l.len47
 obtain ⟨hi1, hi2⟩ := hi
 refine Fc.go [.cell 4 74] Tryz.func69 Tryz.ntmps69 rfl (fun w0 => (WC.sr (W.alloc zr74 (fun b46 => (W.nt (WC.seq (WC.sr (W.mv (W.ok (ok_lss rfl rfl) (W.mv ?_))))))))))
 refine W.sd 8 (fun h7 p7 => ?_) (fun h7 p7 => ?_)
 ·refine W.n8 h7 rfl (W.n8 h7 rfl (W.n8 h7 rfl (W.n8 h7 rfl (W.ok (ok_pick_t rfl h7) (W.nt (WC.cond_t rfl rfl (WC.sr (W.ok (ok_build (L := [sV _, sV _, .bool _]) pl74 zr74 rfl rfl rfl) (W.st 0 sp9 sp9 ty74 rfl (W.nt (WC.rt ?_)))))))))))
  refine ⟨.inr rfl, [_], ⟨⟨_, _, _, _, _, rfl, nthM_mem (i := 0) rfl, ty74, (by simp), rfl, rfl⟩, trivial⟩, [], sn9, ?_⟩
  refine congrArg (fun l => Value.agg (List.toArray l)) ?_
  show [Value.string _, Value.string _, Value.bool _] = _
  rw [rangeN_out om9]; rfl
 refine W.y9 h7 rfl (W.mv (W.y9 h7 rfl (W.mv (W.y9 h7 rfl (W.ok (ok_len sl54 h_l rfl) (W.y9 h7 rfl (W.ok (ok_gtr rfl rfl) (W.ok (ok_pick_f rfl h7) (W.nt ?_)))))))))
 refine WC.cd (fun h12 p12 => ?_) (fun h12 p12 => ?_)
 ·refine WC.sr (W.ok (ok_build (L := [sV _, sV _, .bool _]) pl74 zr74 rfl rfl rfl) (W.st 0 sp9 sp9 ty74 rfl (W.nt (WC.rt ?_))))
  refine ⟨.inr rfl, [_], ⟨⟨_, _, _, _, _, rfl, nthM_mem (i := 0) rfl, ty74, (by simp), rfl, rfl⟩, trivial⟩, [], sn9, ?_⟩
  refine congrArg (fun l => Value.agg (List.toArray l)) ?_
  show [Value.string _, Value.string _, Value.bool _] = _
  rw [rangeN_out om9]; rfl
 refine WC.sk (WC.sr (W.qcall (spanall_fc) rfl (W.alloc zr74 (fun b47 => (W.st 0 sp9 sp9 ty74 rfl (W.nt (WC.seq (WC.sr (W.mv (W.ok (ok_gtr rfl rfl) (W.nt ?_)))))))))))
 refine WC.cd (fun h17 p17 => ?_) (fun h17 p17 => ?_)
 ·refine WC.region (W.mv (W.mv (W.ok (ok_sub rfl rfl om9) (h_l.a1 (i := (i - 1).toNat) om9 (fun he48 => (W.ok (ok_indexAddr (i := (i - 1).toNat) sl54 ty9 h_l rfl rfl ⟨om9, om9⟩) (W.ok (ok_loadE (vs := sc9) ty9 he48 rfl rfl rfl (by simp)) (W.fb fd74_0 rfl (W.st 0 sc9 sp9 ty9 rfl (W.nt (WC.seq (WC.sr (W.mv (W.mv ?_))))))))))))))
  refine W.ok (ok_len sl54 h_l rfl) (W.ok (ok_lss rfl rfl) (W.nt ?_))
  refine WC.cd (fun h27 p27 => ?_) (fun h27 p27 => ?_)
  ·refine WC.region (W.mv (W.mv (h_l.a1 (i := i.toNat) om9 (fun he51 => (W.ok (ok_indexAddr (i := i.toNat) sl54 ty9 h_l rfl rfl ⟨om9, om9⟩) (W.ok (ok_loadE (vs := sc9) ty9 he51 rfl rfl rfl (by simp)) (W.fb fd74_1 rfl (W.st 0 sc9 sp9 ty9 rfl (W.fb fd74_2 rfl (W.st 0 bc9 sp9 ty4 rfl (W.ns (W.ok (ok_ld 0 sp9 ty74 rfl) (W.qcall (spannorm_fc _ _ _) rfl (W.st 1 sp9 sp9 ty74 rfl ?_))))))))))))))
   refine W.nt (WC.ret ?_)
   refine ⟨.inr rfl, [_], ⟨⟨_, _, _, _, _, rfl, nthM_mem (i := 1) rfl, ty74, (by simp), rfl, rfl⟩, trivial⟩, [], sn9, ?_⟩
   exact congrArg (fun s : Span => Value.agg (List.toArray s.cells)) (rangeN_tt p17 p27 om9 om9)
  refine WC.sk (WC.sr (W.ok (ok_ld 0 sp9 ty74 rfl) (W.qcall (spannorm_fc _ _ _) rfl (W.st 1 sp9 sp9 ty74 rfl (W.nt (WC.ret ?_))))))
  refine ⟨.inr rfl, [_], ⟨⟨_, _, _, _, _, rfl, nthM_mem (i := 1) rfl, ty74, (by simp), rfl, rfl⟩, trivial⟩, [], sn9, ?_⟩
  exact congrArg (fun s : Span => Value.agg (List.toArray s.cells)) (rangeN_tf p17 p27 om9 om9)
 refine WC.sk (WC.seq (WC.sr (W.mv (W.mv (W.ok (ok_len sl54 h_l rfl) (W.ok (ok_lss rfl rfl) (W.nt ?_)))))))
 refine WC.cd (fun h27 p27 => ?_) (fun h27 p27 => ?_)
 ·refine WC.region (W.mv (W.mv (h_l.a1 (i := i.toNat) om9 (fun he54 => (W.ok (ok_indexAddr (i := i.toNat) sl54 ty9 h_l rfl rfl ⟨om9, om9⟩) (W.ok (ok_loadE (vs := sc9) ty9 he54 rfl rfl rfl (by simp)) (W.fb fd74_1 rfl (W.st 0 sc9 sp9 ty9 rfl (W.fb fd74_2 rfl (W.st 0 bc9 sp9 ty4 rfl (W.ns (W.ok (ok_ld 0 sp9 ty74 rfl) (W.qcall (spannorm_fc _ _ _) rfl (W.st 1 sp9 sp9 ty74 rfl ?_))))))))))))))
  refine W.nt (WC.ret ?_)
  refine ⟨.inr rfl, [_], ⟨⟨_, _, _, _, _, rfl, nthM_mem (i := 1) rfl, ty74, (by simp), rfl, rfl⟩, trivial⟩, [], sn9, ?_⟩
  exact congrArg (fun s : Span => Value.agg (List.toArray s.cells)) (rangeN_ft om9 p17 p27 om9)
 refine WC.sk (WC.sr (W.ok (ok_ld 0 sp9 ty74 rfl) (W.qcall (spannorm_fc _ _ _) rfl (W.st 1 sp9 sp9 ty74 rfl (W.nt (WC.ret ?_))))))
 refine ⟨.inr rfl, [_], ⟨⟨_, _, _, _, _, rfl, nthM_mem (i := 1) rfl, ty74, (by simp), rfl, rfl⟩, trivial⟩, [], sn9, ?_⟩
 exact congrArg (fun s : Span => Value.agg (List.toArray s.cells)) (rangeN_ff om9 p17 p27 om9)

end Go.Proofs.YtemoalimclnfkaaGreat
