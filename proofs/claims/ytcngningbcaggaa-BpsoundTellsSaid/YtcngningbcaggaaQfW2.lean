/- Walks of comparisons and copies. -/
import Derived.Test.YtcngningbcaggaaQfW1
set_option maxRecDepth 100000
set_option maxHeartbeats 1600000
set_option linter.unusedVariables false
set_option linter.unusedSimpArgs false
set_option linter.unnecessarySimpa false
namespace Go.Proofs.Ytcngningbcaggaa
open Go Go.Fw Go.RowKit
attribute [local irreducible] Ok W WC
theorem samep_fc {G : GH} {v_a : Value} {a : List Pair} (h_a : SlR ePair G v_a a) {v_b : Value} {b : List Pair} (h_b : SlR ePair G v_b b) :
    Fc Try.prog 13 [v_a, v_b] G [] (fun v _ _ => v = .bool (decide (a = b))) := by
 obtain ⟨sa_a, sc_a, rfl⟩ := h_a.form
 obtain ⟨sa_b, sc_b, rfl⟩ := h_b.form
 have ha := h_a.len47
 have hb := h_b.len47
 refine Fc.go [.tmp 4] Try.func13 Try.ntmps13 rfl (fun w0 => (g9 15 ?_))
 refine WC.cn (fun h10 p10 => ?_) (fun h10 p10 => ?_)
 ·refine g9 8 ?_
  refine congrArg Value.bool ?_
  exact (decide_eq_false fun e => by subst e; omega).symm
 have hab : a.length = b.length := by omega
 refine g9 9 ?_
 refine WC.loop (X := Nat) (fun k => [(5, nt9 k), (0, lV sa_a a.length sc_a), (1, lV sa_b b.length sc_b)]) (fun k _ Ml => Ml = [] ∧ k ≤ a.length ∧ ∀ i (h : i < a.length) (h2 : i < b.length), i < k → a[i] = b[i]) (fun k => a.length - k) 0 hs9 ?_ ?_
 ·exact ⟨rfl, om9, fun i _ _ h => by omega⟩
 rintro k gG10 G10 _ hG10 ⟨rfl, hk0, hk⟩
 refine g9 9 ?_
 refine WC.cd (fun h14 p14 => ?_) (fun h14 p14 => ?_)
 ·refine g9 8 ?_
  refine (h_a.mono hG10).a1 (i := k) om9 (fun he11 => (g9 4 ?_))
  refine (h_b.mono hG10).a1 (i := k) om9 (fun he14 => (g9 2 ?_))
  refine W.ok (ok_neqA (L1 := [sV _, sV _]) (L2 := [sV _, sV _]) eq68 rfl rfl rfl rfl) (g9 2 ?_)
  refine WC.cond rfl (fun h25 => ?_) (fun h25 => ?_)
  ·refine g9 12 ?_
   refine congrArg Value.bool ?_
   exact (decide_eq_false fun e => by subst e; exact Pair.ne_of h25 rfl).symm
  refine g9 9 ?_
  exact ⟨Le.rfl, k + 1, hs9, ⟨rfl, om9, fun i h h2 hi => by
      by_cases e : i = k
      · subst e; exact Pair.eq_of h25
      · exact hk i h h2 om9⟩, om9⟩
 refine g9 12 ?_
 refine congrArg Value.bool ?_
 exact (decide_eq_true (List.ext_getElem om9 fun i h h2 => hk i h h2 om9)).symm

theorem longp_fc {G : GH} {v_l : Value} {l : List Pair} (h_l : SlR ePair G v_l l) (m : Int) (hm : 0 ≤ m ∧ m ≤ 1073741824) :
    Fc Try.prog 44 [v_l, iV m] G [] (fun v _ _ => v = .bool (decide (longG Pair.w l 0 m ≤ m))) := by
 obtain ⟨sa_l, sc_l, rfl⟩ := h_l.form
 have hl := h_l.len47
 refine Fc.go [.tmp 4] Try.func44 Try.ntmps44 rfl (fun w0 => (g9 17 ?_))
 refine WC.loop (X := Nat × Int) (fun x => [(5, iV x.2), (6, nt9 x.1), (0, lV sa_l l.length sc_l), (1, iV m)]) (fun x _ Ml => Ml = [] ∧ x.1 ≤ l.length ∧ 0 ≤ x.2 ∧ x.2 ≤ 1125899906842624 ∧ longG Pair.w (l.drop x.1) x.2 m = longG Pair.w l 0 m) (fun x => l.length - x.1) (0, 0) hs9 ?_ ?_
 ·exact ⟨rfl, by simp, by simp, by simp, by simp⟩
 rintro ⟨k, n⟩ gG17 G17 _ hG17 ⟨rfl, hk, hn, hn2, hlg⟩
 dsimp only at hk hn hn2 hlg
 refine g9 8 ?_
 refine W.sd 11 (fun h10 p10 => ?_) (fun h10 p10 => ?_)
 ·refine g9 9 ?_
  refine WC.cd (fun h14 p14 => ?_) (fun h14 p14 => ?_)
  ·refine g9 8 ?_
   refine (h_l.mono hG17).a1 (i := k) om9 (fun he18 => (g9 4 ?_))
   refine W.ok (ok_add rfl rfl (by have := (l[k]).key.le; have := (l[k]).val.le; omega)) (g9 2 ?_)
   refine (h_l.mono hG17).a1 (i := k) om9 (fun he21 => (g9 4 ?_))
   refine W.ok (ok_add rfl rfl (by have := (l[k]).key.le; have := (l[k]).val.le; omega)) (W.ok (ok_add rfl rfl (by have := (l[k]).key.le; have := (l[k]).val.le; dsimp only; omega)) (g9 10 ?_))
   exact ⟨Le.rfl, (k + 1, n + Pair.w l[k]), ⟨(by first | rfl | exact iv (by dsimp only [Pair.w]) | exact iv (by dsimp only [Pair.w]; omega)), eqv, eqv, eqv, trivial⟩, ⟨rfl, by dsimp only; omega, by have := Pair.w_pos l[k]; dsimp only; omega, by have := Pair.w_le l[k]; dsimp only; omega, (longG_step om9 p14).symm.trans hlg⟩, by dsimp only; omega⟩
  refine g9 15 ?_
  refine congrArg Value.bool ?_
  rw [← hlg]
  rw [longG_stop om9]
 refine g9 22 ?_
 refine congrArg Value.bool ?_
 rw [← hlg]
 rw [longG_end om9]

theorem few_fc {G : GH} {v_l : Value} {l : List Msg} (h_l : SlR eMsg G v_l l) (m : Int) (hm : 0 ≤ m ∧ m ≤ 1073741824) :
    Fc Try.prog 46 [v_l, iV m] G [] (fun v _ _ => v = .bool (decide (longG Msg.w l 0 m ≤ m))) := by
 obtain ⟨sa_l, sc_l, rfl⟩ := h_l.form
 have hl := h_l.len47
 refine Fc.go [.tmp 4] Try.func46 Try.ntmps46 rfl (fun w0 => (g9 17 ?_))
 refine WC.loop (X := Nat × Int) (fun x => [(5, iV x.2), (6, nt9 x.1), (0, lV sa_l l.length sc_l), (1, iV m)]) (fun x _ Ml => Ml = [] ∧ x.1 ≤ l.length ∧ 0 ≤ x.2 ∧ x.2 ≤ 1125899906842624 ∧ longG Msg.w (l.drop x.1) x.2 m = longG Msg.w l 0 m) (fun x => l.length - x.1) (0, 0) hs9 ?_ ?_
 ·exact ⟨rfl, by simp, by simp, by simp, by simp⟩
 rintro ⟨k, n⟩ gG24 G24 _ hG24 ⟨rfl, hk, hn, hn2, hlg⟩
 dsimp only at hk hn hn2 hlg
 refine g9 8 ?_
 refine W.sd 11 (fun h10 p10 => ?_) (fun h10 p10 => ?_)
 ·refine g9 9 ?_
  refine WC.cd (fun h14 p14 => ?_) (fun h14 p14 => ?_)
  ·refine g9 8 ?_
   refine (h_l.mono hG24).a2 (i := k) om9 (fun he25 hm26 => (g9 4 ?_))
   refine W.ok (ok_add rfl rfl (by have := (l[k]).key.le; have := (l[k]).val.le; have := (l[k]).hi.le; omega)) (g9 2 ?_)
   refine (h_l.mono hG24).a2 (i := k) om9 (fun he30 hm31 => (g9 4 ?_))
   refine W.ok (ok_add rfl rfl (by have := (l[k]).key.le; have := (l[k]).val.le; have := (l[k]).hi.le; omega)) (g9 2 ?_)
   refine (h_l.mono hG24).a2 (i := k) om9 (fun he35 hm36 => (g9 4 ?_))
   refine W.ok (ok_add rfl rfl (by have := (l[k]).key.le; have := (l[k]).val.le; have := (l[k]).hi.le; omega)) (W.ok (ok_add rfl rfl (by have := (l[k]).key.le; have := (l[k]).val.le; have := (l[k]).hi.le; dsimp only; omega)) (g9 10 ?_))
   exact ⟨Le.rfl, (k + 1, n + Msg.w l[k]), ⟨(by first | rfl | exact iv (by dsimp only [Msg.w]) | exact iv (by dsimp only [Msg.w]; omega)), eqv, eqv, eqv, trivial⟩, ⟨rfl, by dsimp only; omega, by have := Msg.w_pos l[k]; dsimp only; omega, by have := Msg.w_le l[k]; dsimp only; omega, (longG_step om9 p14).symm.trans hlg⟩, by dsimp only; omega⟩
  refine g9 15 ?_
  refine congrArg Value.bool ?_
  rw [← hlg]
  rw [longG_stop om9]
 refine g9 22 ?_
 refine congrArg Value.bool ?_
 rw [← hlg]
 rw [longG_end om9]

theorem rightp_fc {G : GH} {v_l : Value} {l : List Pair} (h_l : SlR ePair G v_l l) :
    Fc Try.prog 73 [v_l] G [] (fun v _ _ => v = .bool (decide (PairsR l))) := by
 obtain ⟨sa_l, sc_l, rfl⟩ := h_l.form
 have hl := h_l.len47
 refine Fc.go [.tmp 2] Try.func73 Try.ntmps73 rfl (fun w0 => (g9 12 ?_))
 refine WC.loop (X := Nat) (fun k => [(3, nt9 k), (0, lV sa_l l.length sc_l)]) (fun k _ Ml => Ml = [] ∧ ∀ i (h : i < l.length), i < k → (l[i].key.b.size ≤ 16 ∧ l[i].val.b.size ≤ 16) ∧ (0 < i → (l[i - 1]'om9).key.lt l[i].key = true)) (fun k => l.length - k) 0 hs9 ?_ ?_
 ·exact ⟨rfl, fun i _ h => by omega⟩
 rintro k gG40 G40 _ hG40 ⟨rfl, hk⟩
 refine g9 9 ?_
 refine WC.cd (fun h7 p7 => ?_) (fun h7 p7 => ?_)
 ·refine g9 8 ?_
  refine (h_l.mono hG40).a1 (i := k) om9 (fun he41 => (g9 6 ?_))
  refine W.sd 17 (fun h16 p16 => ?_) (fun h16 p16 => ?_)
  ·refine g9 42 ?_
   refine congrArg Value.bool ?_
   exact (decide_eq_false fun h => by have := h k om9; omega).symm
  refine g9 5 ?_
  refine (h_l.mono hG40).a1 (i := k) om9 (fun he44 => (g9 11 ?_))
  refine W.sd 26 (fun h24 p24 => ?_) (fun h24 p24 => ?_)
  ·refine g9 33 ?_
   refine congrArg Value.bool ?_
   exact (decide_eq_false fun h => by have := h k om9; omega).symm
  refine g9 6 ?_
  refine W.sd 29 (fun h28 p28 => ?_) (fun h28 p28 => ?_)
  ·refine g9 7 ?_
   refine (h_l.mono hG40).a1 (i := k - 1) om9 (fun he47 => (W.ok (ok_indexAddr (i := k - 1) sl31 ty68 (h_l.mono hG40) rfl rfl ⟨om9, om9⟩) (g9 9 ?_)))
   refine (h_l.mono hG40).a1 (i := k) om9 (fun he50 => (g9 6 ?_))
   refine W.qcall (less_fc _ _) rfl (g9 7 ?_)
   refine WC.cond rfl (fun h42 => ?_) (fun h42 => ?_)
   ·refine g9 12 ?_
    refine congrArg Value.bool ?_
    exact (decide_eq_false fun h => by have := h k om9; have h1 := this.2 om9; simp [h1] at h42).symm
   refine g9 9 ?_
   exact ⟨Le.rfl, k + 1, hs9, ⟨rfl, fun i h hi => by
      by_cases e : i = k
      · subst e; exact ⟨⟨om9, om9⟩, fun h0 => by simpa using h42⟩
      · exact hk i h om9⟩, om9⟩
  refine g9 28 ?_
  exact ⟨Le.rfl, k + 1, hs9, ⟨rfl, fun i h hi => by
      by_cases e : i = k
      · subst e; exact ⟨⟨om9, om9⟩, fun h0 => by omega⟩
      · exact hk i h om9⟩, om9⟩
 refine g9 12 ?_
 refine congrArg Value.bool ?_
 exact (decide_eq_true fun i h => hk i h om9).symm

end Go.Proofs.Ytcngningbcaggaa
