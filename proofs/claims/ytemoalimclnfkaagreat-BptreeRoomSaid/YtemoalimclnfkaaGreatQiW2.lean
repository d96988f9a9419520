/- Walks of comparisons and copies. -/
import Derived.Test.YtemoalimclnfkaaGreatQiW3
import Derived.Test.YtemoalimclnfkaaGreatQiU2
set_option maxRecDepth 100000
set_option maxHeartbeats 1600000
set_option linter.unusedVariables false
set_option linter.unusedSimpArgs false
set_option linter.unnecessarySimpa false
namespace Go.Proofs.YtemoalimclnfkaaGreat
open Go Go.Fw Go.RowKit
attribute [local irreducible] Ok W WC
theorem samep_fc {G : GH} {v_a : Value} {a : List Pair} (h_a : SlR ePair G v_a a) {v_b : Value} {b : List Pair} (h_b : SlR ePair G v_b b) :
    Fc Tryz.prog 12 [v_a, v_b] G [] (fun v _ _ => v = .bool (decide (a = b))) := by
 obtain ⟨sa_a, sc_a, rfl⟩ := h_a.form
 obtain ⟨sa_b, sc_b, rfl⟩ := h_b.form
 have ha := h_a.len47
 have hb := h_b.len47
 refine Fc.go [.tmp 4] Tryz.func12 Tryz.ntmps12 rfl (fun w0 => (g9 15 ?_))
 refine WC.cn (fun h10 p10 => ?_) (fun h10 p10 => ?_)
 ·refine g9 8 ?_
  refine congrArg Value.bool ?_
  exact (decide_eq_false fun e => by subst e; omega).symm
 have hab : a.length = b.length := by omega
 refine g9 9 ?_
 refine WC.loop (X := Nat) (fun k => [(5, nt9 k), (0, lV sa_a a.length sc_a), (1, lV sa_b b.length sc_b)]) (fun k _ Ml => Ml = [] ∧ k ≤ a.length ∧ ∀ i (h : i < a.length) (h2 : i < b.length), i < k → a[i] = b[i]) (fun k => a.length - k) 0 hs9 ?_ ?_
 ·exact ⟨rfl, om9, fun i _ _ h => by omega⟩
 rintro k gG1 G1 _ hG1 ⟨rfl, hk0, hk⟩
 refine g9 9 ?_
 refine WC.cd (fun h14 p14 => ?_) (fun h14 p14 => ?_)
 ·refine g9 8 ?_
  refine (h_a.mono hG1).a1 (i := k) om9 (fun he2 => (g9 4 ?_))
  refine (h_b.mono hG1).a1 (i := k) om9 (fun he5 => (g9 2 ?_))
  refine W.ok (ok_neqA (L1 := [sV _, sV _]) (L2 := [sV _, sV _]) eq84 rfl rfl rfl rfl) (g9 2 ?_)
  refine WC.cond rfl (fun h25 => ?_) (fun h25 => ?_)
  ·refine g9 12 ?_
   refine congrArg Value.bool ?_
   exact (decide_eq_false fun e => by subst e; exact Pair.ne_of h25 rfl).symm
  refine g9 9 ?_
  exact ⟨Le.rfl, k + 1, hs9, ⟨rfl, om9, fun i h h2 hi => by
      by_cases e : i = k
      · subst e; exact Pair.eq_of h25
      · exact hk i h h2 om9⟩, om9⟩
 refine g9 12 ?_
 refine congrArg Value.bool ?_
 exact (decide_eq_true (List.ext_getElem om9 fun i h h2 => hk i h h2 om9)).symm

theorem rightp_fc {G : GH} {v_l : Value} {l : List Pair} (h_l : SlR ePair G v_l l) :
    Fc Tryz.prog 85 [v_l] G [] (fun v _ _ => v = .bool (decide (PairsR l))) := by
 obtain ⟨sa_l, sc_l, rfl⟩ := h_l.form
 have hl := h_l.len47
 refine Fc.go [.tmp 2] Tryz.func85 Tryz.ntmps85 rfl (fun w0 => (g9 12 ?_))
 refine WC.loop (X := Nat) (fun k => [(3, nt9 k), (0, lV sa_l l.length sc_l)]) (fun k _ Ml => Ml = [] ∧ ∀ i (h : i < l.length), i < k → (l[i].key.b.size ≤ 16 ∧ l[i].val.b.size ≤ 16) ∧ (0 < i → (l[i - 1]'om9).key.lt l[i].key = true)) (fun k => l.length - k) 0 hs9 ?_ ?_
 ·exact ⟨rfl, fun i _ h => by omega⟩
 rintro k gG8 G8 _ hG8 ⟨rfl, hk⟩
 refine g9 9 ?_
 refine WC.cd (fun h7 p7 => ?_) (fun h7 p7 => ?_)
 ·refine g9 8 ?_
  refine (h_l.mono hG8).a1 (i := k) om9 (fun he9 => (g9 6 ?_))
  refine W.sd 17 (fun h16 p16 => ?_) (fun h16 p16 => ?_)
  ·refine g9 42 ?_
   refine congrArg Value.bool ?_
   exact (decide_eq_false fun h => by have := h k om9; omega).symm
  refine g9 5 ?_
  refine (h_l.mono hG8).a1 (i := k) om9 (fun he12 => (g9 11 ?_))
  refine W.sd 26 (fun h24 p24 => ?_) (fun h24 p24 => ?_)
  ·refine g9 33 ?_
   refine congrArg Value.bool ?_
   exact (decide_eq_false fun h => by have := h k om9; omega).symm
  refine g9 6 ?_
  refine W.sd 29 (fun h28 p28 => ?_) (fun h28 p28 => ?_)
  ·refine g9 7 ?_
   refine (h_l.mono hG8).a1 (i := k - 1) om9 (fun he15 => (W.ok (ok_indexAddr (i := k - 1) sl31 ty84 (h_l.mono hG8) rfl rfl ⟨om9, om9⟩) (g9 9 ?_)))
   refine (h_l.mono hG8).a1 (i := k) om9 (fun he18 => (g9 6 ?_))
   refine W.qcall (less_fc _ _) rfl (g9 7 ?_)
   refine WC.cond rfl (fun h42 => ?_) (fun h42 => ?_)
   ·refine g9 12 ?_
    refine congrArg Value.bool ?_
    exact (decide_eq_false fun h => by have := h k om9; have h1 := this.2 om9; simp [h1] at h42).symm
   refine g9 9 ?_
   exact ⟨Le.rfl, k + 1, hs9, ⟨rfl, fun i h hi => by
      by_cases e : i = k
      · subst e; exact ⟨⟨om9, om9⟩, fun h0 => by simpa using h42⟩
      · exact hk i h om9⟩, om9⟩
  refine g9 28 ?_
  exact ⟨Le.rfl, k + 1, hs9, ⟨rfl, fun i h hi => by
      by_cases e : i = k
      · subst e; exact ⟨⟨om9, om9⟩, fun h0 => by omega⟩
      · exact hk i h om9⟩, om9⟩
 refine g9 12 ?_
 refine congrArg Value.bool ?_
 exact (decide_eq_true fun i h => hk i h om9).symm

theorem clonep_fc {G : GH} {v_a : Value} {a : List Pair} (h_a : SlR ePair G v_a a) :
    Fc Tryz.prog 47 [v_a] G [] (fun v G' M' => M' = [] ∧ ∃ u0, v = u0 ∧ SlR ePair G' u0 (a)) := by
 obtain ⟨sa_a, sc_a, rfl⟩ := h_a.form
 have ha := h_a.bytes
 refine Fc.go [.tmp 2] Tryz.func47 Tryz.ntmps47 rfl (fun w0 => (g9 9 ?_))
 refine W.ok (ok_eqlNil sl31 rfl rfl) (g9 2 ?_)
 refine WC.cond rfl (fun h4 => ?_) (fun h4 => ?_)
 ·have hn := SlR.isNone h_a h4
  subst hn
  refine g9 8 ?_
  refine ⟨rfl, _, rfl, ?_⟩
  · exact SlR.nil
 refine g9 4 ?_
 refine W.lit0 (e := ePair) sl31 ty84 zr84 rfl (fun v21 Ms22 ho23 => (W.mv (W.app (e := ePair) sl31 ty84 zr84 rfl by84 rfl rfl (ho23) (h_a) pr9 (by simpa using ha) (fun v24 Ms25 ho26 => (g9 3 ?_)))))
 refine WC.giveO ho26 pr9 (fun G27 hG27 hv27 => (g9 2 ?_))
 refine ⟨rfl, _, rfl, ?_⟩
 · exact hv27

theorem rget_fc {G : GH} {v_l : Value} {l : List Pair} (h_l : SlR ePair G v_l l) (k : Str) :
    Fc Tryz.prog 15 [v_l, sV k.b] G [] (fun v _ _ => v = .tuple #[sV (Str.b ((getN l k).getD Str.nil)), .bool ((getN l k).isSome)]) := by
 obtain ⟨sa_l, sc_l, rfl⟩ := h_l.form
 have hl := h_l.len47
 refine Fc.go [.tmp 4, .tmp 5] Tryz.func15 Tryz.ntmps15 rfl (fun w0 => (g9 13 ?_))
 refine WC.loop (X := Nat) (fun i => [(6, nt9 i), (0, lV sa_l l.length sc_l), (1, sV k.b)]) (fun i _ Ml => Ml = [] ∧ i ≤ l.length ∧ ∀ j (h : j < l.length), j < i → l[j].key ≠ k) (fun i => l.length - i) 0 hs9 ?_ ?_
 ·exact ⟨rfl, om9, fun j _ h => by omega⟩
 rintro i gG1 G1 _ hG1 ⟨rfl, hi, hj⟩
 refine g9 9 ?_
 refine WC.cd (fun h10 p10 => ?_) (fun h10 p10 => ?_)
 ·refine g9 8 ?_
  refine (h_l.mono hG1).a1 (i := i) om9 (fun he2 => (g9 7 ?_))
  refine WC.cd (fun h19 p19 => ?_) (fun h19 p19 => ?_)
  ·refine g9 4 ?_
   refine (h_l.mono hG1).a1 (i := i) om9 (fun he5 => (g9 14 ?_))
   show Value.tuple #[Value.string _, Value.bool _] = _
   have e1 : l[i].key = k := Str.ext' p19
   have e := getN_at (by omega : i < l.length) (fun j h hji => by rw [e1]; exact hj j h hji)
   rw [e1] at e
   rw [e]; rfl
  refine g9 9 ?_
  exact ⟨Le.rfl, i + 1, hs9, ⟨rfl, om9, fun j h hji e => by
      by_cases e2 : j = i
      · subst e2; exact p19 (congrArg Str.b e)
      · exact hj j h om9 e⟩, om9⟩
 refine g9 13 ?_
 show Value.tuple #[Value.string _, Value.bool _] = _
 rw [getN_no (fun j h => hj j h om9)]; rfl

theorem cmp_fc {G : GH} (a : Str) (b : Str) :
    Fc Tryz.prog 116 [sV a.b, sV b.b] G [] (fun v _ _ => v = iV (cmpN a b)) := by
 refine Fc.go [.tmp 4] Tryz.func116 Tryz.ntmps116 rfl (fun w0 => (g9 8 ?_))
 refine W.qcall (isnan_fc _) rfl (g9 6 ?_)
 refine W.qcall (isnan_fc _) rfl (g9 9 ?_)
 refine WC.cond rfl (fun h8 => ?_) (fun h8 => ?_)
 ·cases h8
 refine g9 8 ?_
 refine WC.cond rfl (fun h10 => ?_) (fun h10 => ?_)
 ·cases h10
 refine g9 10 ?_
 refine WC.cond rfl (fun h16 => ?_) (fun h16 => ?_)
 ·refine g9 8 ?_
  refine congrArg (Value.int .i64) ?_
  simp_all [cmpN, Str.lt]
 refine g9 7 ?_
 refine W.ok (ok_gtrS rfl rfl) (g9 2 ?_)
 refine WC.cond rfl (fun h19 => ?_) (fun h19 => ?_)
 ·refine g9 8 ?_
  refine congrArg (Value.int .i64) ?_
  simp_all [cmpN, Str.lt]
 refine g9 9 ?_
 refine congrArg (Value.int .i64) ?_
 simp_all [cmpN, Str.lt]

theorem kcmp_fc {G : GH} (a : Str) (b : Str) :
    Fc Tryz.prog 94 [sV a.b, sV b.b] G [] (fun v _ _ => v = iV (cmpN a b)) := by
 refine Fc.go [.tmp 4] Tryz.func94 Tryz.ntmps94 rfl (fun w0 => (g9 9 ?_))
 refine W.qcall (cmp_fc _ _) rfl (g9 5 ?_)
 rfl

theorem cl_m_fc {G : GH} (pk : Str) (pv : Str) (k : Str) :
    Fc Tryz.prog 93 [.agg #[sV pk.b, sV pv.b], sV k.b] G [] (fun v _ _ => v = iV (cmpN pk k)) := by
 refine Fc.go [.tmp 4] Tryz.func93 Tryz.ntmps93 rfl (fun w0 => (g9 2 ?_))
 refine W.box (L := [sV _, sV _]) rfl rfl (fun b8 => (g9 8 ?_))
 refine W.qcall (kcmp_fc _ _) rfl (g9 5 ?_)
 rfl

theorem cl_r_fc {G : GH} (pk : Str) (pv : Str) (k : Str) :
    Fc Tryz.prog 124 [.agg #[sV pk.b, sV pv.b], sV k.b] G [] (fun v _ _ => v = iV (cmpN pk k)) := by
 refine Fc.go [.tmp 4] Tryz.func124 Tryz.ntmps124 rfl (fun w0 => (g9 2 ?_))
 refine W.box (L := [sV _, sV _]) rfl rfl (fun b9 => (g9 8 ?_))
 refine W.qcall (kcmp_fc _ _) rfl (g9 5 ?_)
 rfl

theorem bsfm_fc {G : GH} {v_l : Value} {l : List Pair} (h_l : SlR ePair G v_l l) (k : Str) (hr : Srt l) :
    Fc Tryz.prog 92 [v_l, sV k.b, .func (.func 93) #[] #[]] G [] (fun v _ _ => v = .tuple #[nt9 (fndN l k), .bool ((getN l k).isSome)]) := by
 obtain ⟨sa_l, sc_l, rfl⟩ := h_l.form
 have hlen := h_l.len47
 refine Fc.go [.tmp 6, .tmp 7] Tryz.func92 Tryz.ntmps92 rfl (fun w0 => (g9 22 ?_))
 refine WC.loop (X := Nat × Nat) (fun x => [(9, nt9 x.1), (10, nt9 x.2), (0, lV sa_l l.length sc_l), (1, sV k.b), (2, .func (.func 93) #[] #[]), (8, nt9 ((l).length))]) (fun x _ Ml => Ml = [] ∧ x.1 ≤ x.2 ∧ x.2 ≤ l.length ∧ (∀ q (h : q < l.length), q < x.1 → l[q].key.lt k = true) ∧ (∀ q (h : q < l.length), x.2 ≤ q → l[q].key.lt k = false)) (fun x => x.2 - x.1) (0, l.length) hs9 ?_ ?_
 ·exact ⟨rfl, by simp, by simp, (fun q _ h => by simp at h), (fun q h h' => by simp at h'; omega)⟩
 rintro ⟨i, j⟩ gG10 G10 _ hG10 ⟨rfl, hi, hj, h1, h2⟩
 dsimp only at hi hj h1 h2
 refine g9 8 ?_
 refine WC.cd (fun h17 p17 => ?_) (fun h17 p17 => ?_)
 ·refine g9 8 ?_
  refine W.ok (ok_convU un3 un51 rfl om9) (W.ok (ok_shr1 rfl rfl om9) (W.ok (ok_convI un51 un3 rfl om9) (g9 8 ?_)))
  refine (h_l.mono hG10).a1 (i := (i + j) / 2) om9 (fun he11 => (W.ok (ok_indexAddr (i := (i + j) / 2) sl31 ty84 (h_l.mono hG10) rfl rfl ⟨by dsimp only; omega, om9⟩) (g9 2 ?_)))
  refine W.qcallV (fst := []) (caps := []) rfl (cl_m_fc _ _ _) rfl (g9 3 ?_)
  refine WC.cd (fun h31 p31 => ?_) (fun h31 p31 => ?_)
  ·refine g9 7 ?_
   exact ⟨Le.rfl, ((i + j) / 2 + 1, j), hs9, ⟨rfl, by dsimp only; omega, by dsimp only; omega, (fun q h hq => hr.below om9 (cmpN_neg.1 p31) q h (by dsimp only at hq; omega)), h2⟩, by dsimp only; omega⟩
  refine g9 6 ?_
  exact ⟨Le.rfl, (i, (i + j) / 2), hs9, ⟨rfl, by dsimp only; omega, by dsimp only; omega, h1, (fun q h hq => hr.above om9 (cmpN_nn p31) q h (by dsimp only at hq; omega))⟩, by dsimp only; omega⟩
 refine g9 12 ?_
 refine W.sd 39 (fun h38 p38 => ?_) (fun h38 p38 => ?_)
 ·refine g9 7 ?_
  refine (h_l.mono hG10).a1 (i := i) om9 (fun he14 => (g9 6 ?_))
  refine W.qcallV (fst := []) (caps := []) rfl (cl_m_fc _ _ _) rfl (g9 9 ?_)
  have hlow : fndN l k = i := fnd_eq om9 h1 (fun q h hq => h2 q h om9)
  refine tup2 (by rw [hlow]) ?_
  rw [hr.has]
  rw [cmpN_zero_d]
  exact decide_eq_decide.2 ⟨fun e => ⟨om9, by simp only [hlow]; exact e⟩, fun ⟨_, e⟩ => by simp only [hlow] at e; exact e⟩
 refine g9 15 ?_
 have hlow : fndN l k = i := fnd_eq om9 h1 (fun q h hq => h2 q h om9)
 refine tup2 (by rw [hlow]) ?_
 rw [hr.has]
 exact (decide_eq_false (by rintro ⟨h, _⟩; omega)).symm

theorem bsfr_fc {G : GH} {v_l : Value} {l : List Pair} (h_l : SlR ePair G v_l l) (k : Str) (hr : Srt l) :
    Fc Tryz.prog 92 [v_l, sV k.b, .func (.func 124) #[] #[]] G [] (fun v _ _ => v = .tuple #[nt9 (fndN l k), .bool ((getN l k).isSome)]) := by
 obtain ⟨sa_l, sc_l, rfl⟩ := h_l.form
 have hlen := h_l.len47
 refine Fc.go [.tmp 6, .tmp 7] Tryz.func92 Tryz.ntmps92 rfl (fun w0 => (g9 22 ?_))
 refine WC.loop (X := Nat × Nat) (fun x => [(9, nt9 x.1), (10, nt9 x.2), (0, lV sa_l l.length sc_l), (1, sV k.b), (2, .func (.func 124) #[] #[]), (8, nt9 ((l).length))]) (fun x _ Ml => Ml = [] ∧ x.1 ≤ x.2 ∧ x.2 ≤ l.length ∧ (∀ q (h : q < l.length), q < x.1 → l[q].key.lt k = true) ∧ (∀ q (h : q < l.length), x.2 ≤ q → l[q].key.lt k = false)) (fun x => x.2 - x.1) (0, l.length) hs9 ?_ ?_
 ·exact ⟨rfl, by simp, by simp, (fun q _ h => by simp at h), (fun q h h' => by simp at h'; omega)⟩
 rintro ⟨i, j⟩ gG17 G17 _ hG17 ⟨rfl, hi, hj, h1, h2⟩
 dsimp only at hi hj h1 h2
 refine g9 8 ?_
 refine WC.cd (fun h17 p17 => ?_) (fun h17 p17 => ?_)
 ·refine g9 8 ?_
  refine W.ok (ok_convU un3 un51 rfl om9) (W.ok (ok_shr1 rfl rfl om9) (W.ok (ok_convI un51 un3 rfl om9) (g9 8 ?_)))
  refine (h_l.mono hG17).a1 (i := (i + j) / 2) om9 (fun he18 => (W.ok (ok_indexAddr (i := (i + j) / 2) sl31 ty84 (h_l.mono hG17) rfl rfl ⟨by dsimp only; omega, om9⟩) (g9 2 ?_)))
  refine W.qcallV (fst := []) (caps := []) rfl (cl_r_fc _ _ _) rfl (g9 3 ?_)
  refine WC.cd (fun h31 p31 => ?_) (fun h31 p31 => ?_)
  ·refine g9 7 ?_
   exact ⟨Le.rfl, ((i + j) / 2 + 1, j), hs9, ⟨rfl, by dsimp only; omega, by dsimp only; omega, (fun q h hq => hr.below om9 (cmpN_neg.1 p31) q h (by dsimp only at hq; omega)), h2⟩, by dsimp only; omega⟩
  refine g9 6 ?_
  exact ⟨Le.rfl, (i, (i + j) / 2), hs9, ⟨rfl, by dsimp only; omega, by dsimp only; omega, h1, (fun q h hq => hr.above om9 (cmpN_nn p31) q h (by dsimp only at hq; omega))⟩, by dsimp only; omega⟩
 refine g9 12 ?_
 refine W.sd 39 (fun h38 p38 => ?_) (fun h38 p38 => ?_)
 ·refine g9 7 ?_
  refine (h_l.mono hG17).a1 (i := i) om9 (fun he21 => (g9 6 ?_))
  refine W.qcallV (fst := []) (caps := []) rfl (cl_r_fc _ _ _) rfl (g9 9 ?_)
  have hlow : fndN l k = i := fnd_eq om9 h1 (fun q h hq => h2 q h om9)
  refine tup2 (by rw [hlow]) ?_
  rw [hr.has]
  rw [cmpN_zero_d]
  exact decide_eq_decide.2 ⟨fun e => ⟨om9, by simp only [hlow]; exact e⟩, fun ⟨_, e⟩ => by simp only [hlow] at e; exact e⟩
 refine g9 15 ?_
 have hlow : fndN l k = i := fnd_eq om9 h1 (fun q h hq => h2 q h om9)
 refine tup2 (by rw [hlow]) ?_
 rw [hr.has]
 exact (decide_eq_false (by rintro ⟨h, _⟩; omega)).symm

theorem find_fc {G : GH} {v_l : Value} {l : List Pair} (h_l : SlR ePair G v_l l) (k : Str) (hr : Srt l) :
    Fc Tryz.prog 66 [v_l, sV k.b] G [] (fun v _ _ => v = .tuple #[nt9 (fndN l k), .bool ((getN l k).isSome)]) := by
 obtain ⟨sa_l, sc_l, rfl⟩ := h_l.form
 refine Fc.go [.tmp 4, .tmp 5] Tryz.func66 Tryz.ntmps66 rfl (fun w0 => (g9 10 ?_))
 refine W.qcall (bsfm_fc h_l k hr) rfl (g9 8 ?_)
 rfl

theorem rfind_fc {G : GH} {v_l : Value} {l : List Pair} (h_l : SlR ePair G v_l l) (k : Str) (hr : Srt l) :
    Fc Tryz.prog 103 [v_l, sV k.b] G [] (fun v _ _ => v = .tuple #[nt9 (fndN l k), .bool ((getN l k).isSome)]) := by
 obtain ⟨sa_l, sc_l, rfl⟩ := h_l.form
 refine Fc.go [.tmp 4, .tmp 5] Tryz.func103 Tryz.ntmps103 rfl (fun w0 => (g9 10 ?_))
 refine W.qcall (bsfr_fc h_l k hr) rfl (g9 8 ?_)
 rfl

theorem mget_fc {G : GH} {v_l : Value} {l : List Pair} (h_l : SlR ePair G v_l l) (k : Str) (hr : Srt l) :
    Fc Tryz.prog 34 [v_l, sV k.b] G [] (fun v _ _ => v = .tuple #[sV (Str.b ((getN l k).getD Str.nil)), .bool ((getN l k).isSome)]) := by
 obtain ⟨sa_l, sc_l, rfl⟩ := h_l.form
 have hlen := h_l.len47
 have hh := hr.has k
 refine Fc.go [.tmp 4, .tmp 5] Tryz.func34 Tryz.ntmps34 rfl (fun w0 => (g9 10 ?_))
 refine W.qcall (find_fc h_l _ (by assumption)) rfl (g9 14 ?_)
 refine WC.cond rfl (fun h15 => ?_) (fun h15 => ?_)
 ·refine g9 9 ?_
  show Value.tuple #[Value.string _, Value.bool _] = _
  have e : getN l k = none := by simpa using h15
  rw [e]; rfl
 have hs : (getN l k).isSome = true := by simpa using h15
 obtain ⟨q1, q2⟩ := odt (hh.symm.trans hs)
 have hv := hr.val q1 q2
 refine g9 6 ?_
 refine h_l.a1 (i := fndN l k) (q1) (fun he24 => (W.ok (ok_indexAddr (i := fndN l k) sl31 ty84 h_l rfl rfl ⟨om9, q1⟩) (g9 8 ?_)))
 show Value.tuple #[Value.string _, Value.bool _] = _
 rw [hv]; rfl

theorem rscan_fc {G : GH} {v_l : Value} {l : List Pair} (h_l : SlR ePair G v_l l) (slo : Str) (shi : Str) (so : Bool) (n : Int) (hn : l.length ≤ 100000000) :
    Fc Tryz.prog 29 [v_l, .agg #[sV slo.b, sV shi.b, .bool so], iV n] G [] (fun v G' M' => M' = [] ∧ ∃ u0, v = u0 ∧ SlR ePair G' u0 (scanN l ⟨slo, shi, so⟩ n)) := by
 obtain ⟨sa_l, sc_l, rfl⟩ := h_l.form
 have hl := h_l.len47
 refine Fc.go [.tmp 6] Tryz.func29 Tryz.ntmps29 rfl (fun w0 => (g9 2 ?_))
 refine W.box (L := [sV _, sV _, .bool _]) rfl rfl (fun b1 => (g9 15 ?_))
 refine WC.loop (X := (Nat) × Value × MH) (fun i => [(8, nt9 i.1), (4, pt9 b1), (0, lV sa_l l.length sc_l), (2, iV n), (7, i.2.1)]) (fun i G Ml => Ml = ((b1, ce9 74 [sV slo.b, sV shi.b, .bool so]) :: (i.2.2 ++ [])) ∧ OwnR ePair 84 G i.2.1 (scanN (l.take i.1) ⟨slo, shi, so⟩ n) i.2.2 ∧ i.1 ≤ l.length) (fun i => l.length - i.1) (0, lV none 0 0, ([] : MH)) hs9 ?_ ?_
 ·exact ⟨rfl, (by simpa [scanN] using OwnR.nil), om9⟩
 rintro ⟨i, v_7, M_7⟩ gG2 G2 _ hG2 ⟨rfl, ho_7, hi⟩
 try dsimp only at ho_7 hi
 have hsl := scan_len (l := l.take i) (s := ⟨slo, shi, so⟩) (n := n)
 have htl : (l.take i).length ≤ i := by simp; omega
 refine WC.fr (f := setL gG2 [(8, nt9 i), (4, pt9 b1), (0, lV sa_l l.length sc_l), (2, iV n), (7, v_7)]) rfl (g9 9 ?_)
 refine WC.cd (fun h12 p12 => ?_) (fun h12 p12 => ?_)
 ·refine g9 9 ?_
  refine (h_l.mono hG2).a1 (i := i) om9 (fun he3 => (g9 3 ?_))
  refine W.qcall (has_fc _ _ _ _) rfl (W.mv ?_)
  refine W.sp 22 rfl (fun h21 => ?_) (fun h21 => ?_)
  ·refine g9 11 ?_
   refine WC.cd (fun h26 p26 => ?_) (fun h26 p26 => ?_)
   ·refine g9 4 ?_
    refine (h_l.mono hG2).a1 (i := i) om9 (fun he6 => (g9 2 ?_))
    refine W.lit (e := ePair) (l := [((l)[i])]) (css := [[sV _, sV _]]) sl31 ty84 zr84 rfl rfl rfl rfl rfl rfl ⟨rfl, trivial⟩ (fun bl9 G9 hG9 hv9 => (W.app (e := ePair) sl31 ty84 zr84 rfl by84 rfl rfl ((ho_7.mono hG9)) (hv9) (pmC pr9) (by show (_ + 1) * 32 ≤ _; (try simp only [List.length_append] at *); omega) (fun v10 Ms11 ho12 => (W.perm (pmC pr9).symm (g9 10 ?_)))))
    exact ⟨hG9, (i + 1, v10, Ms11), hs9, ⟨rfl, (by have h := ho12; rw [scan_succ_t om9 om9 (by simpa using h21)]; exact h), om9⟩, om9⟩
   refine g9 9 ?_
   exact ⟨Le.rfl, (i + 1, v_7, M_7), hs9, ⟨rfl, (by have h := ho_7; rw [scan_full' om9 om9]; exact h), om9⟩, om9⟩
  refine g9 17 ?_
  exact ⟨Le.rfl, (i + 1, v_7, M_7), hs9, ⟨rfl, (by have h := ho_7; rw [scan_succ_f om9 (by simpa using h21)]; exact h), om9⟩, om9⟩
 refine g9 11 ?_
 refine WC.giveO ho_7 (pmC pr9) (fun G13 hG13 hv13 => (g9 2 ?_))
 refine ⟨rfl, _, rfl, ?_⟩
 · have h := hv13; rw [List.take_of_length_le om9] at h; exact h

theorem within_fc {G : GH} {v_l : Value} {l : List Pair} (h_l : SlR ePair G v_l l) (slo : Str) (shi : Str) (so : Bool) (hn : l.length ≤ 1000000) :
    Fc Tryz.prog 67 [v_l, .agg #[sV slo.b, sV shi.b, .bool so]] G [] (fun v G' M' => M' = [] ∧ ∃ u0, v = u0 ∧ SlR ePair G' u0 (l.filter (fun p : Pair => Span.has ⟨slo, shi, so⟩ p.key))) := by
 obtain ⟨sa_l, sc_l, rfl⟩ := h_l.form
 have hl := h_l.len47
 refine Fc.go [.tmp 4] Tryz.func67 Tryz.ntmps67 rfl (fun w0 => (g9 2 ?_))
 refine W.box (L := [sV _, sV _, .bool _]) rfl rfl (fun b14 => (g9 17 ?_))
 refine WC.loop (X := (Nat) × Value × MH) (fun i => [(10, nt9 i.1), (3, pt9 b14), (8, lV sa_l l.length sc_l), (9, nt9 ((l).length)), (5, i.2.1)]) (fun i G Ml => Ml = ((b14, ce9 74 [sV slo.b, sV shi.b, .bool so]) :: (i.2.2 ++ [])) ∧ OwnR ePair 84 G i.2.1 (List.filter (fun p : Pair => Span.has ⟨slo, shi, so⟩ p.key) (l.take i.1)) i.2.2 ∧ i.1 ≤ l.length) (fun i => l.length - i.1) (0, lV none 0 0, ([] : MH)) hs9 ?_ ?_
 ·exact ⟨rfl, (by simpa using OwnR.nil), om9⟩
 rintro ⟨i, v_5, M_5⟩ gG15 G15 _ hG15 ⟨rfl, ho_5, hi⟩
 try dsimp only at ho_5 hi
 have hfl := filt_le (fun p : Pair => Span.has ⟨slo, shi, so⟩ p.key) l i
 refine WC.fr (f := setL gG15 [(10, nt9 i), (3, pt9 b14), (8, lV sa_l l.length sc_l), (9, nt9 ((l).length)), (5, v_5)]) rfl (g9 6 ?_)
 refine WC.cd (fun h11 p11 => ?_) (fun h11 p11 => ?_)
 ·refine g9 6 ?_
  refine (h_l.mono hG15).a1 (i := i) om9 (fun he16 => (g9 2 ?_))
  refine W.alloc zr84 (fun b19 => (g9 8 ?_))
  refine W.qcall (spanhas_fc _ _ _ _) rfl (g9 2 ?_)
  refine WC.cond rfl (fun h17 => ?_) (fun h17 => ?_)
  ·refine g9 3 ?_
   refine W.lit (e := ePair) (l := [⟨((l)[i]).key, ((l)[i]).val⟩]) (css := [[sV _, sV _]]) sl31 ty84 zr84 rfl rfl rfl rfl rfl rfl ⟨rfl, trivial⟩ (fun bl20 G20 hG20 hv20 => (W.app (e := ePair) sl31 ty84 zr84 rfl by84 rfl rfl ((ho_5.mono hG20)) (hv20) (pmC (pmC pr9)) (by show (_ + 1) * 32 ≤ _; (try simp only [List.length_append] at *); omega) (fun v21 Ms22 ho23 => (W.perm (pmC (pmC pr9)).symm (g9 7 ?_)))))
   refine W.sub (sr9.cons _) (g9 2 ?_)
   exact ⟨hG20, (i + 1, v21, Ms22), hs9, ⟨rfl, (by have h := ho23; rw [filt_t (p := (fun p : Pair => Span.has ⟨slo, shi, so⟩ p.key)) om9 (by simpa using h17)]; exact h), om9⟩, om9⟩
  refine g9 6 ?_
  refine W.sub (sr9.cons _) (g9 2 ?_)
  exact ⟨Le.rfl, (i + 1, v_5, M_5), hs9, ⟨rfl, (by have h := ho_5; rw [filt_f (p := (fun p : Pair => Span.has ⟨slo, shi, so⟩ p.key)) om9 (by simpa using h17)]; exact h), om9⟩, om9⟩
 refine g9 11 ?_
 refine WC.giveO ho_5 (pmC pr9) (fun G24 hG24 hv24 => (g9 2 ?_))
 refine ⟨rfl, _, rfl, ?_⟩
 · have h := hv24; rw [List.take_of_length_le om9] at h; exact h

theorem ghasp_fc {G : GH} {ba : Nat} {vc vu vf : Value} {cells : List (Option Nat)} {u : List Bool} (hA : CellsG G ba 0 [vc, vu, vf]) (hc : SlR ePt G vc cells) (hu : SlR eBool G vu u) (i : Int) :
    Fc Tryz.prog 101 [pt9 ba, iV i] G [] (fun v _ _ => v = .bool (hasN u i)) := by
 obtain ⟨sa_hc, sc_hc, rfl⟩ := hc.form
 obtain ⟨sa_hu, sc_hu, rfl⟩ := hu.form
 have hl := hu.len47
 refine Fc.go [.tmp 4] Tryz.func101 Tryz.ntmps101 rfl (fun w0 => (g9 8 ?_))
 refine W.ok (ok_neqPN pp61 rfl rfl) (g9 7 ?_)
 refine W.sd 11 (fun h9 p9 => ?_) (fun h9 p9 => ?_)
 ·refine g9 9 ?_
  refine W.ok (ok_loadG (vs := lc9) ty111 (hA.drop 1) rfl rfl rfl (by simp)) (g9 6 ?_)
  refine W.sd 20 (fun h18 p18 => ?_) (fun h18 p18 => ?_)
  ·refine g9 7 ?_
   refine W.ok (ok_loadG (vs := lc9) ty111 (hA.drop 1) rfl rfl rfl (by simp)) (g9 3 ?_)
   refine hu.a1 (i := i.toNat) om9 (fun he1 => (W.ok (ok_indexAddr (i := i.toNat) sl111 ty4 hu rfl rfl ⟨om9, om9⟩) (g9 8 ?_)))
   exact congrArg Value.bool (hasN_get om9 om9)
  refine g9 13 ?_
  exact congrArg Value.bool (hasN_big om9)
 refine g9 22 ?_
 exact congrArg Value.bool (hasN_neg om9)

theorem ggetp_fc {G : GH} {ba : Nat} {vc vu vf : Value} {cells : List (Option Nat)} {u : List Bool} (hA : CellsG G ba 0 [vc, vu, vf]) (hc : SlR ePt G vc cells) (hu : SlR eBool G vu u) (i : Int) (b : Nat) (hb : Blk cells i b) (hh : hasN u i = true) (hcu : cells.length = u.length) :
    Fc Tryz.prog 80 [pt9 ba, iV i] G [] (fun v _ _ => v = .tuple #[pt9 b, .bool true]) := by
 obtain ⟨sa_hc, sc_hc, rfl⟩ := hc.form
 obtain ⟨sa_hu, sc_hu, rfl⟩ := hu.form
 have hl := hu.len47
 obtain ⟨hi0, hi1, hi2⟩ := hasN_lt hh
 have hci : cells[i.toNat]'om9 = some b := by have h9 := hb.2; rw [List.getElem?_eq_getElem om9] at h9; simpa using h9
 refine Fc.go [.tmp 4, .tmp 5] Tryz.func80 Tryz.ntmps80 rfl (fun w0 => (g9 11 ?_))
 refine W.qcall (ghasp_fc hA hc hu _) rfl (g9 3 ?_)
 refine WC.cond rfl (fun h9 => ?_) (fun h9 => ?_)
 ·exact absurd h9 (by rw [hh]; simp)
 refine g9 7 ?_
 refine W.ok (ok_loadG (vs := lc9) ty80 hA rfl rfl rfl (by simp)) (W.mv (hc.a1 (i := i.toNat) om9 (fun he5 => (W.ok (ok_indexAddr (i := i.toNat) sl80 ty64 hc rfl rfl ⟨om9, om9⟩) (g9 7 ?_)))))
 exact by rw [hci]; rfl

theorem groom9_fc {G : GH} {ba : Nat} {vc vu vf : Value} {f : List Int} {u : List Bool} (hA : CellsG G ba 0 [vc, vu, vf]) (hu : SlR eBool G vu u) (hf : SlR eInt G vf f) :
    Fc Tryz.prog 75 [pt9 ba] G [] (fun v _ _ => v = iV ((f.length : Int))) := by
 obtain ⟨sa_hu, sc_hu, rfl⟩ := hu.form
 obtain ⟨sa_hf, sc_hf, rfl⟩ := hf.form
 have hl := hf.len47
 refine Fc.go [.tmp 2] Tryz.func75 Tryz.ntmps75 rfl (fun w0 => (g9 9 ?_))
 refine W.ok (ok_eqlPN pp61 rfl rfl) (g9 10 ?_)
 refine W.ok (ok_loadG (vs := lc9) ty112 (hA.drop 2) rfl rfl rfl (by simp)) (g9 6 ?_)
 rfl

theorem groomp_fc {G : GH} {bt ba : Nat} {root fan leaf : Int} {cells : List (Option Nat)} {u : List Bool} (h_t : TrG bt ba root fan leaf cells u G) : Fc Tryz.prog 75 [pt9 ba] G [] (fun v _ _ => v = iV ((freeN u).length : Int)) := by
  obtain ⟨hT, vc, vu, vf, hA, hc, hu, hcu, hn, f, hf, hfl⟩ := h_t
  rw [← hfl]; exact groom9_fc hA hu hf
theorem bat_fc {G : GH} {bt ba : Nat} {root fan leaf : Int} {cells : List (Option Nat)} {u : List Bool} (h_t : TrG bt ba root fan leaf cells u G) (i : Int) (b : Nat) (hb : Blk cells i b) (hh : hasN u i = true) :
    Fc Tryz.prog 43 [pt9 bt, iV i] G [] (fun v _ _ => v = pt9 b) := by
 obtain ⟨hT, vc, vu, vf, hA, hc, hu, hcu, hn, hf9⟩ := h_t
 have h_t : TrG bt ba root fan leaf cells u G := ⟨hT, vc, vu, vf, hA, hc, hu, hcu, hn, hf9⟩
 obtain ⟨sa_hc, sc_hc, rfl⟩ := hc.form
 obtain ⟨sa_hu, sc_hu, rfl⟩ := hu.form
 refine Fc.go [.tmp 4] Tryz.func43 Tryz.ntmps43 rfl (fun w0 => (g9 10 ?_))
 refine W.ok (ok_loadG (vs := [.pointer _]) ty61 hT rfl rfl rfl (by simp)) (W.mv (W.qcall (ggetp_fc hA hc hu i b hb hh hcu) rfl (g9 15 ?_)))
 rfl

theorem bfull_fc {G : GH} {bt ba : Nat} {root fan leaf : Int} {cells : List (Option Nat)} {u : List Bool} (h_t : TrG bt ba root fan leaf cells u G) {b_n : Nat} {n : BNd} (h_n : BoxG b_n n G) :
    Fc Tryz.prog 105 [pt9 bt, pt9 b_n] G [] (fun v _ _ => v = .bool (fulN fan leaf n)) := by
 obtain ⟨hT, vc, vu, vf, hA, hc, hu, hcu, hn, hf9⟩ := h_t
 have h_t : TrG bt ba root fan leaf cells u G := ⟨hT, vc, vu, vf, hA, hc, hu, hcu, hn, hf9⟩
 obtain ⟨sa_hc, sc_hc, rfl⟩ := hc.form
 obtain ⟨sa_hu, sc_hu, rfl⟩ := hu.form
 refine match h_n with | ⟨vp_n, vk_n, vr_n, hN_n, hp_n, hk_n, hr_n⟩ => ?_
 refine match hp_n.form with | ⟨_, _, eV_⟩ => ?_
 subst eV_
 refine match hk_n.form with | ⟨_, _, eV_⟩ => ?_
 subst eV_
 refine match hr_n.form with | ⟨_, _, eV_⟩ => ?_
 subst eV_
 have hl1 := hk_n.len47
 have hl2 := hr_n.len47
 refine Fc.go [.tmp 4] Tryz.func105 Tryz.ntmps105 rfl (fun w0 => (g9 11 ?_))
 refine W.ok (ok_loadG (vs := ic9) ty3 hN_n rfl rfl rfl (by simp)) (g9 3 ?_)
 refine WC.cd (fun h9 p9 => ?_) (fun h9 p9 => ?_)
 ·refine g9 5 ?_
  refine W.ok (ok_loadG (vs := lc9) ty31 (hN_n.drop 3) rfl rfl rfl (by simp)) (g9 4 ?_)
  refine W.ok (ok_loadG (vs := ic9) ty3 (hT.drop 3) rfl rfl rfl (by simp)) (g9 7 ?_)
  refine congrArg Value.bool ?_
  unfold fulN
  rw [if_pos p9]
 refine g9 7 ?_
 refine W.ok (ok_loadG (vs := lc9) ty55 (hN_n.drop 2) rfl rfl rfl (by simp)) (g9 4 ?_)
 refine W.ok (ok_loadG (vs := ic9) ty3 (hT.drop 2) rfl rfl rfl (by simp)) (g9 6 ?_)
 refine congrArg Value.bool ?_
 unfold fulN
 rw [if_neg p9]

theorem bfew_fc {G : GH} {bt ba : Nat} {root fan leaf : Int} {cells : List (Option Nat)} {u : List Bool} (h_t : TrG bt ba root fan leaf cells u G) {b_n : Nat} {n : BNd} (h_n : BoxG b_n n G) (hfl : 0 ≤ fan ∧ fan ≤ 4096 ∧ 0 ≤ leaf ∧ leaf ≤ 4096) :
    Fc Tryz.prog 99 [pt9 bt, pt9 b_n] G [] (fun v _ _ => v = .bool (fewN fan leaf n)) := by
 obtain ⟨hT, vc, vu, vf, hA, hc, hu, hcu, hn, hf9⟩ := h_t
 have h_t : TrG bt ba root fan leaf cells u G := ⟨hT, vc, vu, vf, hA, hc, hu, hcu, hn, hf9⟩
 obtain ⟨sa_hc, sc_hc, rfl⟩ := hc.form
 obtain ⟨sa_hu, sc_hu, rfl⟩ := hu.form
 refine match h_n with | ⟨vp_n, vk_n, vr_n, hN_n, hp_n, hk_n, hr_n⟩ => ?_
 refine match hp_n.form with | ⟨_, _, eV_⟩ => ?_
 subst eV_
 refine match hk_n.form with | ⟨_, _, eV_⟩ => ?_
 subst eV_
 refine match hr_n.form with | ⟨_, _, eV_⟩ => ?_
 subst eV_
 have hl1 := hk_n.len47
 have hl2 := hr_n.len47
 refine Fc.go [.tmp 4] Tryz.func99 Tryz.ntmps99 rfl (fun w0 => (g9 11 ?_))
 refine W.ok (ok_loadG (vs := ic9) ty3 hN_n rfl rfl rfl (by simp)) (g9 3 ?_)
 refine WC.cd (fun h9 p9 => ?_) (fun h9 p9 => ?_)
 ·refine g9 5 ?_
  refine W.ok (ok_loadG (vs := lc9) ty31 (hN_n.drop 3) rfl rfl rfl (by simp)) (g9 4 ?_)
  refine W.ok (ok_loadG (vs := ic9) ty3 (hT.drop 3) rfl rfl rfl (by simp)) (W.ok (ok_quo' rfl rfl om9 om9 om9) (g9 7 ?_))
  refine congrArg Value.bool ?_
  unfold fewN
  rw [if_pos p9]
 refine g9 7 ?_
 refine W.ok (ok_loadG (vs := lc9) ty55 (hN_n.drop 2) rfl rfl rfl (by simp)) (g9 4 ?_)
 refine W.ok (ok_loadG (vs := ic9) ty3 (hT.drop 2) rfl rfl rfl (by simp)) (W.ok (ok_quo' rfl rfl om9 om9 om9) (g9 6 ?_))
 refine congrArg Value.bool ?_
 unfold fewN
 rw [if_neg p9]

theorem bneeds_fc {G : GH} {bt ba : Nat} {root fan leaf : Int} {cells : List (Option Nat)} {u : List Bool} (h_t : TrG bt ba root fan leaf cells u G) {v_p : Value} {p : List (Option Nat)} (h_p : SlR ePt G v_p p) (L : List BNd) (hpL : p = (L.map (ptB cells))) (hL : NsG cells L G) :
    Fc Tryz.prog 76 [pt9 bt, v_p] G [] (fun v _ _ => v = nt9 (needN (L.map (fulN fan leaf)))) := by
 obtain ⟨hT, vc, vu, vf, hA, hc, hu, hcu, hn, hf9⟩ := h_t
 have h_t : TrG bt ba root fan leaf cells u G := ⟨hT, vc, vu, vf, hA, hc, hu, hcu, hn, hf9⟩
 obtain ⟨sa_hc, sc_hc, rfl⟩ := hc.form
 obtain ⟨sa_hu, sc_hu, rfl⟩ := hu.form
 obtain ⟨sa_p, sc_p, rfl⟩ := h_p.form
 have hl0 := h_p.len47
 have hlm : p.length = L.length := by rw [hpL]; exact List.length_map ..
 refine Fc.go [.tmp 4] Tryz.func76 Tryz.ntmps76 rfl (fun w0 => (g9 20 ?_))
 refine WC.loop (X := Nat) (fun j => [(5, nt9 j), (6, iV ((L.length : Int) - 1 - (j : Int))), (0, pt9 bt), (1, lV sa_p p.length sc_p)]) (fun j _ Ml => Ml = [] ∧ j ≤ L.length ∧ ∀ i (h : i < (L.map (fulN fan leaf)).length), L.length - j ≤ i → (L.map (fulN fan leaf))[i] = true) (fun j => L.length - j) 0 hs9 ?_ ?_
 ·exact ⟨rfl, om9, fun i h hi => by rw [List.length_map] at h; omega⟩
 rintro j gG1 G1 _ hG1 ⟨rfl, hj, hfj⟩
 refine g9 7 ?_
 refine WC.cd (fun h11 p11 => ?_) (fun h11 p11 => ?_)
 ·refine g9 10 ?_
  refine (h_p.mono hG1).a1 (i := L.length - 1 - j) om9 (fun he2 => (W.ok (ok_indexAddr (i := L.length - 1 - j) sl80 ty64 (h_p.mono hG1) rfl rfl ⟨om9, om9⟩) (g9 1 ?_)))
  have q5 := hL _ (List.getElem_mem (by omega : L.length - 1 - j < L.length))
  refine match q5 with | ⟨b9, hb9, hB9⟩ => ?_
  have hpt9 : p[L.length - 1 - j]'om9 = some b9 := by subst hpL; rw [List.getElem_map]; exact hb9.pt
  refine W.qcall (show Fc _ _ [_, .pointer ((p[L.length - 1 - j]'om9).map fun b => ⟨b, 0, none⟩)] _ _ _ from (by rw [hpt9]; exact bfull_fc (h_t.mono hG1) (hB9.mono hG1))) rfl (g9 3 ?_)
  refine WC.cond rfl (fun h20 => ?_) (fun h20 => ?_)
  ·refine g9 14 ?_
   refine congrArg (Value.int .i64) ?_
   rw [need_stop (j := j) (by rw [List.length_map]; omega) (fun i h hi => hfj i h (by rw [List.length_map] at hi; omega)) (by rw [List.getElem_map]; simp only [List.length_map]; simpa using h20)]
  refine g9 15 ?_
  exact ⟨Le.rfl, j + 1, hs9, ⟨rfl, om9, fun i h hi => by
      by_cases e : i = L.length - 1 - j
      · subst e; rw [List.getElem_map]; simpa using h20
      · exact hfj i h om9⟩, om9⟩
 refine g9 14 ?_
 refine congrArg (Value.int .i64) ?_
 rw [need_all fun i h => hfj i h om9, List.length_map]; omega

theorem bpath_fc {G : GH} {bt ba : Nat} {root fan leaf : Int} {cells : List (Option Nat)} {u : List Bool} (h_t : TrG bt ba root fan leaf cells u G) (k : Str) (kk : Nat) (y : BT kk) (lo : Int) (hi : Int) (sp : Span) (hs : sp.norm = sp) (hok : BT.ok fan leaf kk lo hi sp y) (hNs : NsG cells (nds kk y) G) (hus : UsN u (nds kk y)) (hroot : root = y.slot) (hkk : kk ≤ 4096) :
    Fc Tryz.prog 33 [pt9 bt, sV k.b] G [] (fun v G' M' => OwnR ePt 64 G' v (((pathB k kk y).map (ptB cells))) M') := by
 obtain ⟨hT, vc, vu, vf, hA, hc, hu, hcu, hn, hf9⟩ := h_t
 have h_t : TrG bt ba root fan leaf cells u G := ⟨hT, vc, vu, vf, hA, hc, hu, hcu, hn, hf9⟩
 obtain ⟨sa_hc, sc_hc, rfl⟩ := hc.form
 obtain ⟨sa_hu, sc_hu, rfl⟩ := hu.form
 refine Fc.go [.tmp 4] Tryz.func33 Tryz.ntmps33 rfl (fun w0 => (g9 11 ?_))
 refine W.ok (ok_loadG (vs := ic9) ty3 (hT.drop 1) rfl rfl rfl (by simp)) ?_
 have hu9 := hus _ nds_head
 rw [ndB_slot] at hu9
 have q6 := hNs _ nds_head
 refine match q6 with | ⟨b0, hb0, hB0⟩ => ?_
 rw [ndB_slot] at hb0
 rw [← hroot] at hb0 hu9
 refine W.qcall (bat_fc h_t root b0 hb0 hu9) rfl (W.litO (e := ePt) (l := [(some b0)]) (css := [[.pointer _]]) sl80 ty64 zr64 rfl rfl rfl rfl rfl rfl ⟨rfl, trivial⟩ (fun v7 Ms8 ho9 => (g9 7 ?_)))
 refine ho9.a1 (i := 0) (by simp) (fun he10 => (W.ok (ok_indexAddrO (i := 0) sl80 ty64 ho9 rfl rfl ⟨om9, by simp⟩) (W.ok (ok_loadO (vs := [.pointer _]) ty64 he10 pr9 rfl rfl rfl (by simp)) (g9 4 ?_))))
 refine WC.loop (X := (List (Option Nat) × Nat × Nat) × Value × MH) (fun x => [(6, .pointer (some ⟨x.1.2.1, 0, none⟩)), (0, pt9 bt), (1, sV k.b), (5, x.2.1)]) (fun x G Ml => Ml = (x.2.2 ++ []) ∧ OwnR ePt 64 G x.2.1 (x.1.1) x.2.2 ∧ ∃ c : BT x.1.2.2, Blk cells c.slot x.1.2.1 ∧ x.1.1 ++ ((pathB k x.1.2.2 c).drop 1).map (ptB cells) = ((pathB k kk y).map (ptB cells)) ∧ NsG cells (nds x.1.2.2 c) G ∧ UsN u (nds x.1.2.2 c) ∧ (∃ lo hi sp, Span.norm sp = sp ∧ BT.ok fan leaf x.1.2.2 lo hi sp c) ∧ x.1.1.length + x.1.2.2 = kk + 1) (fun x => x.1.2.2) ((([some b0], b0, kk) : List (Option Nat) × Nat × Nat), v7, Ms8) hs9 ?_ ?_
 ·exact ⟨rfl, (by exact ho9), y, hroot ▸ hb0, by dsimp only; obtain ⟨l9, hl9⟩ := pathB_head (key := k) (k := kk) (y := y); rw [hl9, List.map_cons, (show ptB cells (ndB kk y) = some b0 from Blk.pt (by rw [ndB_slot, ← hroot]; exact hb0))]; rfl, hNs, hus, ⟨lo, hi, sp, hs, hok⟩, by simp; omega⟩
 rintro ⟨⟨out, b, j⟩, v_5, M_5⟩ gG13 G13 _ hG13 ⟨rfl, ho_5, ⟨c, hbc, hout, hNs2, hus2, ⟨lo2, hi2, sp2, hs2, hok2⟩, hlen2⟩⟩
 try dsimp only at ho_5 c hbc hout hNs2 hus2 lo2 hi2 sp2 hs2 hok2 hlen2
 have q9 := hNs2 _ nds_head
 refine match q9 with | ⟨b8, hb8, hBc⟩ => ?_
 rw [ndB_slot] at hb8
 have e8 := hbc.one hb8
 subst e8
 refine match hBc with | ⟨vp_c, vk_c, vr_c, hN_c, hp_c, hk_c, hr_c⟩ => ?_
 refine match hp_c.form with | ⟨_, _, eV_⟩ => ?_
 subst eV_
 refine match hk_c.form with | ⟨_, _, eV_⟩ => ?_
 subst eV_
 refine match hr_c.form with | ⟨_, _, eV_⟩ => ?_
 subst eV_
 refine WC.fr (f := setL gG13 [(6, pt9 b), (0, pt9 bt), (1, sV k.b), (5, v_5)]) rfl (g9 6 ?_)
 refine W.ok (ok_loadG (vs := ic9) ty3 hN_c rfl rfl rfl (by simp)) (g9 3 ?_)
 refine WC.cd (fun h21 p21 => ?_) (fun h21 p21 => ?_)
 ·try dsimp only at p21
  rw [ndB_lvl] at p21
  obtain ⟨j2, ej2⟩ : ∃ j2, j = j2 + 1 := ⟨j - 1, om9⟩
  subst ej2
  refine g9 9 ?_
  refine W.ok (ok_loadG (vs := lc9) ty55 (hN_c.drop 2) rfl rfl rfl (by simp)) (g9 3 ?_)
  refine W.ok (ok_loadG (vs := lc9) ty54 (hN_c.drop 1) rfl rfl rfl (by simp)) (W.mv (W.qcall (broute_fc hp_c _ (hok2.2.piv hs2).1) rfl (hk_c.a2 (i := routeN (ndP c) k) (by show _ < (List.map _ _).length; rw [List.length_map]; exact kid_at hs2 hok2 k) (fun he14 hi15 => (W.ok (ok_indexAddr (i := routeN (ndP c) k) sl55 ty3 hk_c rfl rfl ⟨rfl, by show _ < (List.map _ _).length; rw [List.length_map]; exact kid_at hs2 hok2 k⟩) (g9 1 ?_))))))
  have hkm9 : ndB j2 ((ndK c)[routeN (ndP c) k]'(kid_at hs2 hok2 k)) ∈ nds (j2 + 1) c := nds_kid (List.getElem_mem _) nds_head
  have q18 := hNs2 _ hkm9
  refine match q18 with | ⟨b9, hb9, hB9⟩ => ?_
  have hu9 := hus2 _ hkm9
  have hsl9 : (ndB (j2 + 1) c).K[routeN (ndP c) k]'(by show _ < (List.map _ _).length; rw [List.length_map]; exact kid_at hs2 hok2 k) = (ndB j2 ((ndK c)[routeN (ndP c) k]'(kid_at hs2 hok2 k))).slot := by rw [ndB_slot]; exact List.getElem_map ..
  refine W.qcall (bat_fc (h_t.mono hG13) _ b9 (by rw [← hsl9] at hb9; exact hb9) (by rw [← hsl9] at hu9; exact hu9)) rfl (g9 7 ?_)
  refine W.lit (e := ePt) (l := [(some b9)]) (css := [[.pointer _]]) sl80 ty64 zr64 rfl rfl rfl rfl rfl rfl ⟨rfl, trivial⟩ (fun bl19 G19 hG19 hv19 => (W.app (e := ePt) sl80 ty64 zr64 rfl by64 rfl rfl ((ho_5.mono hG19)) (hv19) pr9 (by show (_ + 1) * 8 ≤ _; omega) (fun v20 Ms21 ho22 => (g9 3 ?_))))
  exact ⟨hG19, (((out ++ [some b9], b9, j2) : List (Option Nat) × Nat × Nat), v20, Ms21), hs9, ⟨rfl, (by exact ho22), ⟨(ndK c)[routeN (ndP c) k]'(kid_at hs2 hok2 k), by rw [ndB_slot] at hb9; exact hb9, by dsimp only at hout ⊢; rw [← hout]; show _ = out ++ List.map _ (pathB k j2 ((ndK c).getD (routeN (ndP c) k) default)); rw [getD_lt (kid_at hs2 hok2 k)]; obtain ⟨l9, hl9⟩ := pathB_head (key := k) (k := j2) (y := (ndK c)[routeN (ndP c) k]'(kid_at hs2 hok2 k)); rw [hl9, List.map_cons, Blk.pt hb9]; simp, fun n hn => (hNs2.mono hG19) n (nds_kid (List.getElem_mem _) hn), fun n hn => hus2 n (nds_kid (List.getElem_mem _) hn), (by obtain ⟨u9, h9, v1, _, v3, _⟩ := hok2.2.at hs2 (i := routeN (ndP c) k) (List.length_filter_le _ _); exact ⟨_, _, u9, v1, v3⟩), by dsimp only at hlen2 ⊢; simp; omega⟩⟩, by dsimp only; omega⟩
 try dsimp only at p21
 rw [ndB_lvl] at p21
 obtain ej2 : j = 0 := by omega
 subst ej2
 have hout2 : out = ((pathB k kk y).map (ptB cells)) := by simpa [pathB] using hout
 refine g9 12 ?_
 refine ⟨.inr rfl, [_], ⟨rfl, trivial⟩, M_5, List.sublist_append_left _ _, ?_⟩
 rw [← hout2]
 exact ho_5

end Go.Proofs.YtemoalimclnfkaaGreat
