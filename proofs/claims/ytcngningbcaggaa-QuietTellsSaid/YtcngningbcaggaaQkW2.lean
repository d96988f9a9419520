/- Walks of comparisons and copies. -/
import Derived.Test.YtcngningbcaggaaQkFm
set_option maxRecDepth 100000
set_option maxHeartbeats 1600000
set_option linter.unusedVariables false
set_option linter.unusedSimpArgs false
set_option linter.unnecessarySimpa false
namespace Go.Proofs.Ytcngningbcaggaa
open Go Go.Fw Go.RowKit
attribute [local irreducible] Ok W WC
theorem ints_fc {G : GH} {v_a : Value} {a : List Int} (h_a : SlR eInt G v_a a) {v_b : Value} {b : List Int} (h_b : SlR eInt G v_b b) :
    Fc Try.prog 11 [v_a, v_b] G [] (fun v _ _ => v = .bool (decide (a = b))) := by
 obtain ⟨sa_a, sc_a, rfl⟩ := h_a.form
 obtain ⟨sa_b, sc_b, rfl⟩ := h_b.form
 have ha := h_a.len47
 have hb := h_b.len47
 refine Fc.go [.tmp 4] Try.func11 Try.ntmps11 rfl (fun w0 => (g9 15 ?_))
 refine WC.cn (fun h10 p10 => ?_) (fun h10 p10 => ?_)
 ·refine g9 8 ?_
  refine congrArg Value.bool ?_
  exact (decide_eq_false fun e => by subst e; omega).symm
 have hab : a.length = b.length := by omega
 refine g9 9 ?_
 refine WC.loop (X := Nat) (fun k => [(5, nt9 k), (0, lV sa_a a.length sc_a), (1, lV sa_b b.length sc_b)]) (fun k _ Ml => Ml = [] ∧ k ≤ a.length ∧ ∀ i (h : i < a.length) (h2 : i < b.length), i < k → a[i] = b[i]) (fun k => a.length - k) 0 hs9 ?_ ?_
 ·exact ⟨rfl, om9, fun i _ _ h => by omega⟩
 rintro k gG1 G1 _ hG1 ⟨rfl, hk0, hk⟩
 refine g9 9 ?_
 refine WC.cd (fun h14 p14 => ?_) (fun h14 p14 => ?_)
 ·refine g9 8 ?_
  refine (h_a.mono hG1).a2 (i := k) om9 (fun he2 hi3 => (g9 4 ?_))
  refine (h_b.mono hG1).a2 (i := k) om9 (fun he6 hi7 => (g9 5 ?_))
  refine WC.cn (fun h25 p25 => ?_) (fun h25 p25 => ?_)
  ·refine g9 12 ?_
   refine congrArg Value.bool ?_
   exact (decide_eq_false fun e => by subst e; exact p25 rfl).symm
  refine g9 9 ?_
  exact ⟨Le.rfl, k + 1, hs9, ⟨rfl, om9, fun i h h2 hi => by
      by_cases e : i = k
      · subst e; first | exact Decidable.not_not.1 p25 | exact Str.ext' p25 | omega
      · exact hk i h h2 om9⟩, om9⟩
 refine g9 12 ?_
 refine congrArg Value.bool ?_
 exact (decide_eq_true (List.ext_getElem om9 fun i h h2 => hk i h h2 om9)).symm

theorem samep_fc {G : GH} {v_a : Value} {a : List Pair} (h_a : SlR ePair G v_a a) {v_b : Value} {b : List Pair} (h_b : SlR ePair G v_b b) :
    Fc Try.prog 13 [v_a, v_b] G [] (fun v _ _ => v = .bool (decide (a = b))) := by
 obtain ⟨sa_a, sc_a, rfl⟩ := h_a.form
 obtain ⟨sa_b, sc_b, rfl⟩ := h_b.form
 have ha := h_a.len47
 have hb := h_b.len47
 refine Fc.go [.tmp 4] Try.func13 Try.ntmps13 rfl (fun w0 => (g9 15 ?_))
 refine WC.cn (fun h10 p10 => ?_) (fun h10 p10 => ?_)
 ·refine g9 8 ?_
  refine congrArg Value.bool ?_
  exact (decide_eq_false fun e => by subst e; omega).symm
 have hab : a.length = b.length := by omega
 refine g9 9 ?_
 refine WC.loop (X := Nat) (fun k => [(5, nt9 k), (0, lV sa_a a.length sc_a), (1, lV sa_b b.length sc_b)]) (fun k _ Ml => Ml = [] ∧ k ≤ a.length ∧ ∀ i (h : i < a.length) (h2 : i < b.length), i < k → a[i] = b[i]) (fun k => a.length - k) 0 hs9 ?_ ?_
 ·exact ⟨rfl, om9, fun i _ _ h => by omega⟩
 rintro k gG10 G10 _ hG10 ⟨rfl, hk0, hk⟩
 refine g9 9 ?_
 refine WC.cd (fun h14 p14 => ?_) (fun h14 p14 => ?_)
 ·refine g9 8 ?_
  refine (h_a.mono hG10).a1 (i := k) om9 (fun he11 => (g9 4 ?_))
  refine (h_b.mono hG10).a1 (i := k) om9 (fun he14 => (g9 2 ?_))
  refine W.ok (ok_neqA (L1 := [sV _, sV _]) (L2 := [sV _, sV _]) eq68 rfl rfl rfl rfl) (g9 2 ?_)
  refine WC.cond rfl (fun h25 => ?_) (fun h25 => ?_)
  ·refine g9 12 ?_
   refine congrArg Value.bool ?_
   exact (decide_eq_false fun e => by subst e; exact Pair.ne_of h25 rfl).symm
  refine g9 9 ?_
  exact ⟨Le.rfl, k + 1, hs9, ⟨rfl, om9, fun i h h2 hi => by
      by_cases e : i = k
      · subst e; exact Pair.eq_of h25
      · exact hk i h h2 om9⟩, om9⟩
 refine g9 12 ?_
 refine congrArg Value.bool ?_
 exact (decide_eq_true (List.ext_getElem om9 fun i h h2 => hk i h h2 om9)).symm

theorem longp_fc {G : GH} {v_l : Value} {l : List Pair} (h_l : SlR ePair G v_l l) (m : Int) (hm : 0 ≤ m ∧ m ≤ 1073741824) :
    Fc Try.prog 44 [v_l, iV m] G [] (fun v _ _ => v = .bool (decide (longG Pair.w l 0 m ≤ m))) := by
 obtain ⟨sa_l, sc_l, rfl⟩ := h_l.form
 have hl := h_l.len47
 refine Fc.go [.tmp 4] Try.func44 Try.ntmps44 rfl (fun w0 => (g9 17 ?_))
 refine WC.loop (X := Nat × Int) (fun x => [(5, iV x.2), (6, nt9 x.1), (0, lV sa_l l.length sc_l), (1, iV m)]) (fun x _ Ml => Ml = [] ∧ x.1 ≤ l.length ∧ 0 ≤ x.2 ∧ x.2 ≤ 1125899906842624 ∧ longG Pair.w (l.drop x.1) x.2 m = longG Pair.w l 0 m) (fun x => l.length - x.1) (0, 0) hs9 ?_ ?_
 ·exact ⟨rfl, by simp, by simp, by simp, by simp⟩
 rintro ⟨k, n⟩ gG17 G17 _ hG17 ⟨rfl, hk, hn, hn2, hlg⟩
 dsimp only at hk hn hn2 hlg
 refine g9 8 ?_
 refine W.sd 11 (fun h10 p10 => ?_) (fun h10 p10 => ?_)
 ·refine g9 9 ?_
  refine WC.cd (fun h14 p14 => ?_) (fun h14 p14 => ?_)
  ·refine g9 8 ?_
   refine (h_l.mono hG17).a1 (i := k) om9 (fun he18 => (g9 4 ?_))
   refine W.ok (ok_add rfl rfl (by have := (l[k]).key.le; have := (l[k]).val.le; omega)) (g9 2 ?_)
   refine (h_l.mono hG17).a1 (i := k) om9 (fun he21 => (g9 4 ?_))
   refine W.ok (ok_add rfl rfl (by have := (l[k]).key.le; have := (l[k]).val.le; omega)) (W.ok (ok_add rfl rfl (by have := (l[k]).key.le; have := (l[k]).val.le; dsimp only; omega)) (g9 10 ?_))
   exact ⟨Le.rfl, (k + 1, n + Pair.w l[k]), ⟨(by first | rfl | exact iv (by dsimp only [Pair.w]) | exact iv (by dsimp only [Pair.w]; omega)), eqv, eqv, eqv, trivial⟩, ⟨rfl, by dsimp only; omega, by have := Pair.w_pos l[k]; dsimp only; omega, by have := Pair.w_le l[k]; dsimp only; omega, (longG_step om9 p14).symm.trans hlg⟩, by dsimp only; omega⟩
  refine g9 15 ?_
  refine congrArg Value.bool ?_
  rw [← hlg]
  rw [longG_stop om9]
 refine g9 22 ?_
 refine congrArg Value.bool ?_
 rw [← hlg]
 rw [longG_end om9]

theorem few_fc {G : GH} {v_l : Value} {l : List Msg} (h_l : SlR eMsg G v_l l) (m : Int) (hm : 0 ≤ m ∧ m ≤ 1073741824) :
    Fc Try.prog 46 [v_l, iV m] G [] (fun v _ _ => v = .bool (decide (longG Msg.w l 0 m ≤ m))) := by
 obtain ⟨sa_l, sc_l, rfl⟩ := h_l.form
 have hl := h_l.len47
 refine Fc.go [.tmp 4] Try.func46 Try.ntmps46 rfl (fun w0 => (g9 17 ?_))
 refine WC.loop (X := Nat × Int) (fun x => [(5, iV x.2), (6, nt9 x.1), (0, lV sa_l l.length sc_l), (1, iV m)]) (fun x _ Ml => Ml = [] ∧ x.1 ≤ l.length ∧ 0 ≤ x.2 ∧ x.2 ≤ 1125899906842624 ∧ longG Msg.w (l.drop x.1) x.2 m = longG Msg.w l 0 m) (fun x => l.length - x.1) (0, 0) hs9 ?_ ?_
 ·exact ⟨rfl, by simp, by simp, by simp, by simp⟩
 rintro ⟨k, n⟩ gG24 G24 _ hG24 ⟨rfl, hk, hn, hn2, hlg⟩
 dsimp only at hk hn hn2 hlg
 refine g9 8 ?_
 refine W.sd 11 (fun h10 p10 => ?_) (fun h10 p10 => ?_)
 ·refine g9 9 ?_
  refine WC.cd (fun h14 p14 => ?_) (fun h14 p14 => ?_)
  ·refine g9 8 ?_
   refine (h_l.mono hG24).a2 (i := k) om9 (fun he25 hm26 => (g9 4 ?_))
   refine W.ok (ok_add rfl rfl (by have := (l[k]).key.le; have := (l[k]).val.le; have := (l[k]).hi.le; omega)) (g9 2 ?_)
   refine (h_l.mono hG24).a2 (i := k) om9 (fun he30 hm31 => (g9 4 ?_))
   refine W.ok (ok_add rfl rfl (by have := (l[k]).key.le; have := (l[k]).val.le; have := (l[k]).hi.le; omega)) (g9 2 ?_)
   refine (h_l.mono hG24).a2 (i := k) om9 (fun he35 hm36 => (g9 4 ?_))
   refine W.ok (ok_add rfl rfl (by have := (l[k]).key.le; have := (l[k]).val.le; have := (l[k]).hi.le; omega)) (W.ok (ok_add rfl rfl (by have := (l[k]).key.le; have := (l[k]).val.le; have := (l[k]).hi.le; dsimp only; omega)) (g9 10 ?_))
   exact ⟨Le.rfl, (k + 1, n + Msg.w l[k]), ⟨(by first | rfl | exact iv (by dsimp only [Msg.w]) | exact iv (by dsimp only [Msg.w]; omega)), eqv, eqv, eqv, trivial⟩, ⟨rfl, by dsimp only; omega, by have := Msg.w_pos l[k]; dsimp only; omega, by have := Msg.w_le l[k]; dsimp only; omega, (longG_step om9 p14).symm.trans hlg⟩, by dsimp only; omega⟩
  refine g9 15 ?_
  refine congrArg Value.bool ?_
  rw [← hlg]
  rw [longG_stop om9]
 refine g9 22 ?_
 refine congrArg Value.bool ?_
 rw [← hlg]
 rw [longG_end om9]

theorem rightp_fc {G : GH} {v_l : Value} {l : List Pair} (h_l : SlR ePair G v_l l) :
    Fc Try.prog 73 [v_l] G [] (fun v _ _ => v = .bool (decide (PairsR l))) := by
 obtain ⟨sa_l, sc_l, rfl⟩ := h_l.form
 have hl := h_l.len47
 refine Fc.go [.tmp 2] Try.func73 Try.ntmps73 rfl (fun w0 => (g9 12 ?_))
 refine WC.loop (X := Nat) (fun k => [(3, nt9 k), (0, lV sa_l l.length sc_l)]) (fun k _ Ml => Ml = [] ∧ ∀ i (h : i < l.length), i < k → (l[i].key.b.size ≤ 16 ∧ l[i].val.b.size ≤ 16) ∧ (0 < i → (l[i - 1]'om9).key.lt l[i].key = true)) (fun k => l.length - k) 0 hs9 ?_ ?_
 ·exact ⟨rfl, fun i _ h => by omega⟩
 rintro k gG40 G40 _ hG40 ⟨rfl, hk⟩
 refine g9 9 ?_
 refine WC.cd (fun h7 p7 => ?_) (fun h7 p7 => ?_)
 ·refine g9 8 ?_
  refine (h_l.mono hG40).a1 (i := k) om9 (fun he41 => (g9 6 ?_))
  refine W.sd 17 (fun h16 p16 => ?_) (fun h16 p16 => ?_)
  ·refine g9 42 ?_
   refine congrArg Value.bool ?_
   exact (decide_eq_false fun h => by have := h k om9; omega).symm
  refine g9 5 ?_
  refine (h_l.mono hG40).a1 (i := k) om9 (fun he44 => (g9 11 ?_))
  refine W.sd 26 (fun h24 p24 => ?_) (fun h24 p24 => ?_)
  ·refine g9 33 ?_
   refine congrArg Value.bool ?_
   exact (decide_eq_false fun h => by have := h k om9; omega).symm
  refine g9 6 ?_
  refine W.sd 29 (fun h28 p28 => ?_) (fun h28 p28 => ?_)
  ·refine g9 7 ?_
   refine (h_l.mono hG40).a1 (i := k - 1) om9 (fun he47 => (W.ok (ok_indexAddr (i := k - 1) sl31 ty68 (h_l.mono hG40) rfl rfl ⟨om9, om9⟩) (g9 9 ?_)))
   refine (h_l.mono hG40).a1 (i := k) om9 (fun he50 => (g9 6 ?_))
   refine W.qcall (less_fc _ _) rfl (g9 7 ?_)
   refine WC.cond rfl (fun h42 => ?_) (fun h42 => ?_)
   ·refine g9 12 ?_
    refine congrArg Value.bool ?_
    exact (decide_eq_false fun h => by have := h k om9; have h1 := this.2 om9; simp [h1] at h42).symm
   refine g9 9 ?_
   exact ⟨Le.rfl, k + 1, hs9, ⟨rfl, fun i h hi => by
      by_cases e : i = k
      · subst e; exact ⟨⟨om9, om9⟩, fun h0 => by simpa using h42⟩
      · exact hk i h om9⟩, om9⟩
  refine g9 28 ?_
  exact ⟨Le.rfl, k + 1, hs9, ⟨rfl, fun i h hi => by
      by_cases e : i = k
      · subst e; exact ⟨⟨om9, om9⟩, fun h0 => by omega⟩
      · exact hk i h om9⟩, om9⟩
 refine g9 12 ?_
 refine congrArg Value.bool ?_
 exact (decide_eq_true fun i h => hk i h om9).symm

theorem rget_fc {G : GH} {v_l : Value} {l : List Pair} (h_l : SlR ePair G v_l l) (k : Str) :
    Fc Try.prog 129 [v_l, sV k.b] G [] (fun v _ _ => v = .tuple #[sV (Str.b ((getN l k).getD Str.nil)), .bool ((getN l k).isSome)]) := by
 obtain ⟨sa_l, sc_l, rfl⟩ := h_l.form
 have hl := h_l.len47
 refine Fc.go [.tmp 4, .tmp 5] Try.func129 Try.ntmps129 rfl (fun w0 => (g9 13 ?_))
 refine WC.loop (X := Nat) (fun i => [(6, nt9 i), (0, lV sa_l l.length sc_l), (1, sV k.b)]) (fun i _ Ml => Ml = [] ∧ i ≤ l.length ∧ ∀ j (h : j < l.length), j < i → l[j].key ≠ k) (fun i => l.length - i) 0 hs9 ?_ ?_
 ·exact ⟨rfl, om9, fun j _ h => by omega⟩
 rintro i gG12 G12 _ hG12 ⟨rfl, hi, hj⟩
 refine g9 9 ?_
 refine WC.cd (fun h10 p10 => ?_) (fun h10 p10 => ?_)
 ·refine g9 8 ?_
  refine (h_l.mono hG12).a1 (i := i) om9 (fun he13 => (g9 7 ?_))
  refine WC.cd (fun h19 p19 => ?_) (fun h19 p19 => ?_)
  ·refine g9 4 ?_
   refine (h_l.mono hG12).a1 (i := i) om9 (fun he16 => (g9 14 ?_))
   show Value.tuple #[Value.string _, Value.bool _] = _
   have e1 : l[i].key = k := Str.ext' p19
   have e := getN_at (by omega : i < l.length) (fun j h hji => by rw [e1]; exact hj j h hji)
   rw [e1] at e
   rw [e]; rfl
  refine g9 9 ?_
  exact ⟨Le.rfl, i + 1, hs9, ⟨rfl, om9, fun j h hji e => by
      by_cases e2 : j = i
      · subst e2; exact p19 (congrArg Str.b e)
      · exact hj j h om9 e⟩, om9⟩
 refine g9 13 ?_
 show Value.tuple #[Value.string _, Value.bool _] = _
 rw [getN_no (fun j h => hj j h om9)]; rfl

theorem rscan_fc {G : GH} {v_l : Value} {l : List Pair} (h_l : SlR ePair G v_l l) (slo : Str) (shi : Str) (so : Bool) (n : Int) (hn : l.length ≤ 100000000) :
    Fc Try.prog 72 [v_l, .agg #[sV slo.b, sV shi.b, .bool so], iV n] G [] (fun v G' M' => M' = [] ∧ ∃ u0, v = u0 ∧ SlR ePair G' u0 (scanN l ⟨slo, shi, so⟩ n)) := by
 obtain ⟨sa_l, sc_l, rfl⟩ := h_l.form
 have hl := h_l.len47
 refine Fc.go [.tmp 6] Try.func72 Try.ntmps72 rfl (fun w0 => (g9 2 ?_))
 refine W.box (L := [sV _, sV _, .bool _]) rfl rfl (fun b1 => (g9 15 ?_))
 refine WC.loop (X := (Nat) × Value × MH) (fun i => [(8, nt9 i.1), (4, pt9 b1), (0, lV sa_l l.length sc_l), (2, iV n), (7, i.2.1)]) (fun i G Ml => Ml = ((b1, ce9 37 [sV slo.b, sV shi.b, .bool so]) :: (i.2.2 ++ [])) ∧ OwnR ePair 68 G i.2.1 (scanN (l.take i.1) ⟨slo, shi, so⟩ n) i.2.2 ∧ i.1 ≤ l.length) (fun i => l.length - i.1) (0, lV none 0 0, ([] : MH)) hs9 ?_ ?_
 ·exact ⟨rfl, (by simpa [scanN] using OwnR.nil), om9⟩
 rintro ⟨i, v_7, M_7⟩ gG2 G2 _ hG2 ⟨rfl, ho_7, hi⟩
 try dsimp only at ho_7 hi
 have hsl := scan_len (l := l.take i) (s := ⟨slo, shi, so⟩) (n := n)
 have htl : (l.take i).length ≤ i := by simp; omega
 refine WC.fr (f := setL gG2 [(8, nt9 i), (4, pt9 b1), (0, lV sa_l l.length sc_l), (2, iV n), (7, v_7)]) rfl (g9 9 ?_)
 refine WC.cd (fun h12 p12 => ?_) (fun h12 p12 => ?_)
 ·refine g9 9 ?_
  refine (h_l.mono hG2).a1 (i := i) om9 (fun he3 => (g9 3 ?_))
  refine W.qcall (has_fc _ _ _ _) rfl (W.mv ?_)
  refine W.sp 22 rfl (fun h21 => ?_) (fun h21 => ?_)
  ·refine g9 11 ?_
   refine WC.cd (fun h26 p26 => ?_) (fun h26 p26 => ?_)
   ·refine g9 4 ?_
    refine (h_l.mono hG2).a1 (i := i) om9 (fun he6 => (g9 2 ?_))
    refine W.lit (e := ePair) (l := [((l)[i])]) (css := [[sV _, sV _]]) sl31 ty68 zr68 rfl rfl rfl rfl rfl rfl ⟨rfl, trivial⟩ (fun bl9 G9 hG9 hv9 => (W.app (e := ePair) sl31 ty68 zr68 rfl by68 rfl rfl ((ho_7.mono hG9)) (hv9) (pmC pr9) (by show (_ + 1) * 32 ≤ _; (try simp only [List.length_append] at *); omega) (fun v10 Ms11 ho12 => (W.perm (pmC pr9).symm (g9 10 ?_)))))
    exact ⟨hG9, (i + 1, v10, Ms11), hs9, ⟨rfl, (by have h := ho12; rw [scan_succ_t om9 om9 (by simpa using h21)]; exact h), om9⟩, om9⟩
   refine g9 9 ?_
   exact ⟨Le.rfl, (i + 1, v_7, M_7), hs9, ⟨rfl, (by have h := ho_7; rw [scan_full' om9 om9]; exact h), om9⟩, om9⟩
  refine g9 17 ?_
  exact ⟨Le.rfl, (i + 1, v_7, M_7), hs9, ⟨rfl, (by have h := ho_7; rw [scan_succ_f om9 (by simpa using h21)]; exact h), om9⟩, om9⟩
 refine g9 11 ?_
 refine WC.giveO ho_7 (pmC pr9) (fun G13 hG13 hv13 => (g9 2 ?_))
 refine ⟨rfl, _, rfl, ?_⟩
 · have h := hv13; rw [List.take_of_length_le om9] at h; exact h

theorem rwith_fc {G : GH} {v_l : Value} {l : List Pair} (h_l : SlR ePair G v_l l) (k : Str) (ek : Int) (ev : Str) (hP : PairsR l) (hn : l.length ≤ 1000000) (he : ev.b.size ≤ 1048576) :
    Fc Try.prog 112 [v_l, sV k.b, .agg #[iV ek, sV ev.b]] G [] (fun v G' M' => M' = [] ∧ ∃ u0, v = u0 ∧ SlR ePair G' u0 (withN l k (⟨ek, ev⟩ : Eff))) := by
 obtain ⟨sa_l, sc_l, rfl⟩ := h_l.form
 have hl := h_l.len47
 have hgv := hP.val k
 refine Fc.go [.tmp 6] Try.func112 Try.ntmps112 rfl (fun w0 => (g9 2 ?_))
 refine W.box (L := [iV _, sV _]) rfl rfl (fun b1 => (g9 15 ?_))
 refine WC.loop (X := (Nat) × Value × MH) (fun i => [(8, nt9 i.1), (5, pt9 b1), (0, lV sa_l l.length sc_l), (1, sV k.b), (7, i.2.1)]) (fun i G Ml => Ml = ((b1, ce9 136 [iV ek, sV ev.b]) :: (i.2.2 ++ [])) ∧ OwnR ePair 68 G i.2.1 (List.filter (fun p : Pair => p.key.lt k) (l.take i.1)) i.2.2 ∧ i.1 ≤ l.length) (fun i => l.length - i.1) (0, lV none 0 0, ([] : MH)) hs9 ?_ ?_
 ·exact ⟨rfl, (by simpa using OwnR.nil), om9⟩
 rintro ⟨i, v_7, M_7⟩ gG2 G2 _ hG2 ⟨rfl, ho_7, hi⟩
 try dsimp only at ho_7 hi
 have hfl := filt_le (fun p : Pair => p.key.lt k) l i
 refine WC.fr (f := setL gG2 [(8, nt9 i), (5, pt9 b1), (0, lV sa_l l.length sc_l), (1, sV k.b), (7, v_7)]) rfl (g9 9 ?_)
 refine WC.cd (fun h17 p17 => ?_) (fun h17 p17 => ?_)
 ·refine g9 8 ?_
  refine (h_l.mono hG2).a1 (i := i) om9 (fun he3 => (g9 4 ?_))
  refine W.qcall (less_fc _ _) rfl (g9 2 ?_)
  refine WC.cond rfl (fun h26 => ?_) (fun h26 => ?_)
  ·refine g9 4 ?_
   refine (h_l.mono hG2).a1 (i := i) om9 (fun he6 => (g9 2 ?_))
   refine W.lit (e := ePair) (l := [((l)[i])]) (css := [[sV _, sV _]]) sl31 ty68 zr68 rfl rfl rfl rfl rfl rfl ⟨rfl, trivial⟩ (fun bl9 G9 hG9 hv9 => (W.app (e := ePair) sl31 ty68 zr68 rfl by68 rfl rfl ((ho_7.mono hG9)) (hv9) (pmC pr9) (by show (_ + 1) * 32 ≤ _; (try simp only [List.length_append] at *); omega) (fun v10 Ms11 ho12 => (W.perm (pmC pr9).symm (g9 10 ?_)))))
   exact ⟨hG9, (i + 1, v10, Ms11), hs9, ⟨rfl, (by have h := ho12; rw [filt_t (p := (fun p : Pair => p.key.lt k)) om9 (by simpa using h26)]; exact h), om9⟩, om9⟩
  refine g9 9 ?_
  exact ⟨Le.rfl, (i + 1, v_7, M_7), hs9, ⟨rfl, (by have h := ho_7; rw [filt_f (p := (fun p : Pair => p.key.lt k)) om9 (by simpa using h26)]; exact h), om9⟩, om9⟩
 refine g9 9 ?_
 refine W.qcall (rget_fc (h_l.mono hG2) _) rfl (g9 12 ?_)
 refine W.qcall (rapply_fc _ _ _ _ (by first | assumption | omega | (dsimp only; omega) | (simp; omega)) (by first | assumption | omega | (dsimp only; omega) | (simp; omega))) rfl (g9 13 ?_)
 refine WC.cond rfl (fun h44_0 => ?_) (fun h44_0 => ?_)
 ·refine g9 4 ?_
  refine W.ok (ok_build (L := [sV _, sV _]) pl68 zr68 rfl rfl rfl) (W.lit (e := ePair) (l := [⟨k, (((Eff.apply (⟨(ek), (ev)⟩ : Eff) (optS (((getN (l) (k)).isSome)) (((getN (l) (k)).getD Str.nil))))).getD Str.nil)⟩]) (css := [[sV _, sV _]]) sl31 ty68 zr68 rfl rfl rfl rfl rfl rfl ⟨rfl, trivial⟩ (fun bl13 G13 hG13 hv13 => (W.app (e := ePair) sl31 ty68 zr68 rfl by68 rfl rfl ((ho_7.mono hG13)) (hv13) (pmC pr9) (by show (_ + 1) * 32 ≤ _; (try simp only [List.length_append] at *); omega) (fun v14 Ms15 ho16 => (W.perm (pmC pr9).symm (g9 10 ?_))))))
  refine WC.loop (X := (Nat) × Value × MH) (fun i => [(13, nt9 i.1), (0, lV sa_l l.length sc_l), (1, sV k.b), (7, i.2.1)]) (fun i G Ml => Ml = ((b1, ce9 136 [iV ek, sV ev.b]) :: (i.2.2 ++ [])) ∧ OwnR ePair 68 G i.2.1 ((List.filter (fun p : Pair => p.key.lt k) l ++ midN (Eff.apply (⟨ek, ev⟩ : Eff) (getN l k)) k) ++ List.filter (fun p : Pair => k.lt p.key) (l.take i.1)) i.2.2 ∧ i.1 ≤ l.length) (fun i => l.length - i.1) (0, v14, Ms15) hs9 ?_ ?_
  ·exact ⟨rfl, (by have h := ho16; rw [List.take_of_length_le om9] at h; have hs := h44_0; rw [optS_get] at hs; rw [midN_some hs]; rw [optS_get] at h; simpa using h), om9⟩
  rintro ⟨i, v_7, M_7⟩ gG17 G17 _ hG17 ⟨rfl, ho_7, hi⟩
  try dsimp only at ho_7 hi
  have hfl := filt_le (fun p : Pair => k.lt p.key) l i
  have hfl2 := List.length_filter_le (fun p : Pair => p.key.lt k) l
  have hml := midN_le (Eff.apply (⟨ek, ev⟩ : Eff) (getN l k)) k
  refine WC.fr (f := setL gG17 [(13, nt9 i), (0, lV sa_l l.length sc_l), (1, sV k.b), (7, v_7)]) rfl (g9 9 ?_)
  refine WC.cd (fun h57 p57 => ?_) (fun h57 p57 => ?_)
  ·refine g9 9 ?_
   refine (h_l.mono ((hG2.trans hG13).trans hG17)).a1 (i := i) om9 (fun he18 => (g9 3 ?_))
   refine W.qcall (less_fc _ _) rfl (g9 2 ?_)
   refine WC.cond rfl (fun h66 => ?_) (fun h66 => ?_)
   ·refine g9 4 ?_
    refine (h_l.mono ((hG2.trans hG13).trans hG17)).a1 (i := i) om9 (fun he21 => (g9 2 ?_))
    refine W.lit (e := ePair) (l := [((l)[i])]) (css := [[sV _, sV _]]) sl31 ty68 zr68 rfl rfl rfl rfl rfl rfl ⟨rfl, trivial⟩ (fun bl24 G24 hG24 hv24 => (W.app (e := ePair) sl31 ty68 zr68 rfl by68 rfl rfl ((ho_7.mono hG24)) (hv24) (pmC pr9) (by show (_ + 1) * 32 ≤ _; (try simp only [List.length_append] at *); omega) (fun v25 Ms26 ho27 => (W.perm (pmC pr9).symm (g9 10 ?_)))))
    exact ⟨hG24, (i + 1, v25, Ms26), hs9, ⟨rfl, (by have h := ho27; rw [filt_t (p := (fun p : Pair => k.lt p.key)) om9 (by simpa using h66), ← List.append_assoc]; exact h), om9⟩, om9⟩
   refine g9 9 ?_
   exact ⟨Le.rfl, (i + 1, v_7, M_7), hs9, ⟨rfl, (by have h := ho_7; rw [filt_f (p := (fun p : Pair => k.lt p.key)) om9 (by simpa using h66)]; exact h), om9⟩, om9⟩
  refine g9 11 ?_
  refine WC.giveO ho_7 (pmC pr9) (fun G28 hG28 hv28 => (g9 2 ?_))
  refine ⟨rfl, _, rfl, ?_⟩
  · have h := hv28; rw [List.take_of_length_le om9, ← withN_mid] at h; exact h
 refine g9 9 ?_
 refine WC.loop (X := (Nat) × Value × MH) (fun i => [(13, nt9 i.1), (0, lV sa_l l.length sc_l), (1, sV k.b), (7, i.2.1)]) (fun i G Ml => Ml = ((b1, ce9 136 [iV ek, sV ev.b]) :: (i.2.2 ++ [])) ∧ OwnR ePair 68 G i.2.1 ((List.filter (fun p : Pair => p.key.lt k) l ++ midN (Eff.apply (⟨ek, ev⟩ : Eff) (getN l k)) k) ++ List.filter (fun p : Pair => k.lt p.key) (l.take i.1)) i.2.2 ∧ i.1 ≤ l.length) (fun i => l.length - i.1) (0, v_7, M_7) hs9 ?_ ?_
 ·exact ⟨rfl, (by have h := ho_7; rw [List.take_of_length_le om9] at h; have hs := h44_0; rw [optS_get] at hs; rw [midN_none hs]; simpa using h), om9⟩
 rintro ⟨i, v_7, M_7⟩ gG29 G29 _ hG29 ⟨rfl, ho_7, hi⟩
 try dsimp only at ho_7 hi
 have hfl := filt_le (fun p : Pair => k.lt p.key) l i
 have hfl2 := List.length_filter_le (fun p : Pair => p.key.lt k) l
 have hml := midN_le (Eff.apply (⟨ek, ev⟩ : Eff) (getN l k)) k
 refine WC.fr (f := setL gG29 [(13, nt9 i), (0, lV sa_l l.length sc_l), (1, sV k.b), (7, v_7)]) rfl (g9 9 ?_)
 refine WC.cd (fun h57 p57 => ?_) (fun h57 p57 => ?_)
 ·refine g9 9 ?_
  refine (h_l.mono (hG2.trans hG29)).a1 (i := i) om9 (fun he30 => (g9 3 ?_))
  refine W.qcall (less_fc _ _) rfl (g9 2 ?_)
  refine WC.cond rfl (fun h66 => ?_) (fun h66 => ?_)
  ·refine g9 4 ?_
   refine (h_l.mono (hG2.trans hG29)).a1 (i := i) om9 (fun he33 => (g9 2 ?_))
   refine W.lit (e := ePair) (l := [((l)[i])]) (css := [[sV _, sV _]]) sl31 ty68 zr68 rfl rfl rfl rfl rfl rfl ⟨rfl, trivial⟩ (fun bl36 G36 hG36 hv36 => (W.app (e := ePair) sl31 ty68 zr68 rfl by68 rfl rfl ((ho_7.mono hG36)) (hv36) (pmC pr9) (by show (_ + 1) * 32 ≤ _; (try simp only [List.length_append] at *); omega) (fun v37 Ms38 ho39 => (W.perm (pmC pr9).symm (g9 10 ?_)))))
   exact ⟨hG36, (i + 1, v37, Ms38), hs9, ⟨rfl, (by have h := ho39; rw [filt_t (p := (fun p : Pair => k.lt p.key)) om9 (by simpa using h66), ← List.append_assoc]; exact h), om9⟩, om9⟩
  refine g9 9 ?_
  exact ⟨Le.rfl, (i + 1, v_7, M_7), hs9, ⟨rfl, (by have h := ho_7; rw [filt_f (p := (fun p : Pair => k.lt p.key)) om9 (by simpa using h66)]; exact h), om9⟩, om9⟩
 refine g9 11 ?_
 refine WC.giveO ho_7 (pmC pr9) (fun G40 hG40 hv40 => (g9 2 ?_))
 refine ⟨rfl, _, rfl, ?_⟩
 · have h := hv40; rw [List.take_of_length_le om9, ← withN_mid] at h; exact h

end Go.Proofs.Ytcngningbcaggaa
