/- Walks of comparisons and copies. -/
import Derived.Test.YtcngningbcaggaaQgW1
set_option maxRecDepth 100000
set_option maxHeartbeats 1600000
set_option linter.unusedVariables false
set_option linter.unusedSimpArgs false
set_option linter.unnecessarySimpa false
namespace Go.Proofs.Ytcngningbcaggaa
open Go Go.Fw Go.RowKit
attribute [local irreducible] Ok W WC
theorem longp_fc {G : GH} {v_l : Value} {l : List Pair} (h_l : SlR ePair G v_l l) (m : Int) (hm : 0 ≤ m ∧ m ≤ 1073741824) :
    Fc Try.prog 44 [v_l, iV m] G [] (fun v _ _ => v = .bool (decide (longG Pair.w l 0 m ≤ m))) := by
 obtain ⟨sa_l, sc_l, rfl⟩ := h_l.form
 have hl := h_l.len47
 refine Fc.go [.tmp 4] Try.func44 Try.ntmps44 rfl (fun w0 => (g9 17 ?_))
 refine WC.loop (X := Nat × Int) (fun x => [(5, iV x.2), (6, nt9 x.1), (0, lV sa_l l.length sc_l), (1, iV m)]) (fun x _ Ml => Ml = [] ∧ x.1 ≤ l.length ∧ 0 ≤ x.2 ∧ x.2 ≤ 1125899906842624 ∧ longG Pair.w (l.drop x.1) x.2 m = longG Pair.w l 0 m) (fun x => l.length - x.1) (0, 0) hs9 ?_ ?_
 ·exact ⟨rfl, by simp, by simp, by simp, by simp⟩
 rintro ⟨k, n⟩ gG17 G17 _ hG17 ⟨rfl, hk, hn, hn2, hlg⟩
 dsimp only at hk hn hn2 hlg
 refine g9 8 ?_
 refine W.sd 11 (fun h10 p10 => ?_) (fun h10 p10 => ?_)
 ·refine g9 9 ?_
  refine WC.cd (fun h14 p14 => ?_) (fun h14 p14 => ?_)
  ·refine g9 8 ?_
   refine (h_l.mono hG17).a1 (i := k) om9 (fun he18 => (g9 4 ?_))
   refine W.ok (ok_add rfl rfl (by have := (l[k]).key.le; have := (l[k]).val.le; omega)) (g9 2 ?_)
   refine (h_l.mono hG17).a1 (i := k) om9 (fun he21 => (g9 4 ?_))
   refine W.ok (ok_add rfl rfl (by have := (l[k]).key.le; have := (l[k]).val.le; omega)) (W.ok (ok_add rfl rfl (by have := (l[k]).key.le; have := (l[k]).val.le; dsimp only; omega)) (g9 10 ?_))
   exact ⟨Le.rfl, (k + 1, n + Pair.w l[k]), ⟨(by first | rfl | exact iv (by dsimp only [Pair.w]) | exact iv (by dsimp only [Pair.w]; omega)), eqv, eqv, eqv, trivial⟩, ⟨rfl, by dsimp only; omega, by have := Pair.w_pos l[k]; dsimp only; omega, by have := Pair.w_le l[k]; dsimp only; omega, (longG_step om9 p14).symm.trans hlg⟩, by dsimp only; omega⟩
  refine g9 15 ?_
  refine congrArg Value.bool ?_
  rw [← hlg]
  rw [longG_stop om9]
 refine g9 22 ?_
 refine congrArg Value.bool ?_
 rw [← hlg]
 rw [longG_end om9]

theorem few_fc {G : GH} {v_l : Value} {l : List Msg} (h_l : SlR eMsg G v_l l) (m : Int) (hm : 0 ≤ m ∧ m ≤ 1073741824) :
    Fc Try.prog 46 [v_l, iV m] G [] (fun v _ _ => v = .bool (decide (longG Msg.w l 0 m ≤ m))) := by
 obtain ⟨sa_l, sc_l, rfl⟩ := h_l.form
 have hl := h_l.len47
 refine Fc.go [.tmp 4] Try.func46 Try.ntmps46 rfl (fun w0 => (g9 17 ?_))
 refine WC.loop (X := Nat × Int) (fun x => [(5, iV x.2), (6, nt9 x.1), (0, lV sa_l l.length sc_l), (1, iV m)]) (fun x _ Ml => Ml = [] ∧ x.1 ≤ l.length ∧ 0 ≤ x.2 ∧ x.2 ≤ 1125899906842624 ∧ longG Msg.w (l.drop x.1) x.2 m = longG Msg.w l 0 m) (fun x => l.length - x.1) (0, 0) hs9 ?_ ?_
 ·exact ⟨rfl, by simp, by simp, by simp, by simp⟩
 rintro ⟨k, n⟩ gG24 G24 _ hG24 ⟨rfl, hk, hn, hn2, hlg⟩
 dsimp only at hk hn hn2 hlg
 refine g9 8 ?_
 refine W.sd 11 (fun h10 p10 => ?_) (fun h10 p10 => ?_)
 ·refine g9 9 ?_
  refine WC.cd (fun h14 p14 => ?_) (fun h14 p14 => ?_)
  ·refine g9 8 ?_
   refine (h_l.mono hG24).a2 (i := k) om9 (fun he25 hm26 => (g9 4 ?_))
   refine W.ok (ok_add rfl rfl (by have := (l[k]).key.le; have := (l[k]).val.le; have := (l[k]).hi.le; omega)) (g9 2 ?_)
   refine (h_l.mono hG24).a2 (i := k) om9 (fun he30 hm31 => (g9 4 ?_))
   refine W.ok (ok_add rfl rfl (by have := (l[k]).key.le; have := (l[k]).val.le; have := (l[k]).hi.le; omega)) (g9 2 ?_)
   refine (h_l.mono hG24).a2 (i := k) om9 (fun he35 hm36 => (g9 4 ?_))
   refine W.ok (ok_add rfl rfl (by have := (l[k]).key.le; have := (l[k]).val.le; have := (l[k]).hi.le; omega)) (W.ok (ok_add rfl rfl (by have := (l[k]).key.le; have := (l[k]).val.le; have := (l[k]).hi.le; dsimp only; omega)) (g9 10 ?_))
   exact ⟨Le.rfl, (k + 1, n + Msg.w l[k]), ⟨(by first | rfl | exact iv (by dsimp only [Msg.w]) | exact iv (by dsimp only [Msg.w]; omega)), eqv, eqv, eqv, trivial⟩, ⟨rfl, by dsimp only; omega, by have := Msg.w_pos l[k]; dsimp only; omega, by have := Msg.w_le l[k]; dsimp only; omega, (longG_step om9 p14).symm.trans hlg⟩, by dsimp only; omega⟩
  refine g9 15 ?_
  refine congrArg Value.bool ?_
  rw [← hlg]
  rw [longG_stop om9]
 refine g9 22 ?_
 refine congrArg Value.bool ?_
 rw [← hlg]
 rw [longG_end om9]

theorem clonep_fc {G : GH} {v_a : Value} {a : List Pair} (h_a : SlR ePair G v_a a) :
    Fc Try.prog 97 [v_a] G [] (fun v G' M' => M' = [] ∧ ∃ u0, v = u0 ∧ SlR ePair G' u0 (a)) := by
 obtain ⟨sa_a, sc_a, rfl⟩ := h_a.form
 have ha := h_a.bytes
 refine Fc.go [.tmp 2] Try.func97 Try.ntmps97 rfl (fun w0 => (g9 9 ?_))
 refine W.ok (ok_eqlNil sl31 rfl rfl) (g9 2 ?_)
 refine WC.cond rfl (fun h4 => ?_) (fun h4 => ?_)
 ·have hn := SlR.isNone h_a h4
  subst hn
  refine g9 8 ?_
  refine ⟨rfl, _, rfl, ?_⟩
  · exact SlR.nil
 refine g9 4 ?_
 refine W.lit0 (e := ePair) sl31 ty68 zr68 rfl (fun v53 Ms54 ho55 => (W.mv (W.app (e := ePair) sl31 ty68 zr68 rfl by68 rfl rfl (ho55) (h_a) pr9 (by simpa using ha) (fun v56 Ms57 ho58 => (g9 3 ?_)))))
 refine WC.giveO ho58 pr9 (fun G59 hG59 hv59 => (g9 2 ?_))
 refine ⟨rfl, _, rfl, ?_⟩
 · exact hv59

end Go.Proofs.Ytcngningbcaggaa
