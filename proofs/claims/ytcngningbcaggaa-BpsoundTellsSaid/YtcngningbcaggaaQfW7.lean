/- Walks of functions that look through rows. -/
import Derived.Test.YtcngningbcaggaaQfW4
import Derived.Test.YtcngningbcaggaaQfW2
set_option maxRecDepth 100000
set_option maxHeartbeats 1600000
set_option linter.unusedVariables false
set_option linter.unusedSimpArgs false
set_option linter.unnecessarySimpa false
namespace Go.Proofs.Ytcngningbcaggaa
open Go Go.Fw Go.RowKit
attribute [local irreducible] Ok W WC
theorem mright9_fc {G : GH} {v_l : Value} {l : List Pair} (h_l : SlR ePair G v_l l) :
    Fc Try.prog 114 [v_l] G [] (fun v _ _ => v = .bool (decide (PairsR l))) := by
 obtain ⟨sa_l, sc_l, rfl⟩ := h_l.form
 have hl := h_l.len47
 refine Fc.go [.tmp 2] Try.func114 Try.ntmps114 rfl (fun w0 => (g9 14 ?_))
 refine WC.loop (X := Nat) (fun k => [(7, nt9 k), (0, lV sa_l l.length sc_l), (5, lV sa_l l.length sc_l), (6, nt9 ((l).length))]) (fun k _ Ml => Ml = [] ∧ ∀ i (h : i < l.length), i < k → (l[i].key.b.size ≤ 16 ∧ l[i].val.b.size ≤ 16) ∧ (0 < i → (l[i - 1]'om9).key.lt l[i].key = true)) (fun k => l.length - k) 0 hs9 ?_ ?_
 ·exact ⟨rfl, fun i _ h => by omega⟩
 rintro k gG25 G25 _ hG25 ⟨rfl, hk⟩
 refine g9 6 ?_
 refine WC.cd (fun h8 p8 => ?_) (fun h8 p8 => ?_)
 ·refine g9 7 ?_
  refine (h_l.mono hG25).a1 (i := k) om9 (fun he26 => (g9 2 ?_))
  refine W.alloc zr68 (fun b29 => (g9 8 ?_))
  refine W.qcall (kright_fc _) rfl (g9 2 ?_)
  refine W.sp 16 rfl (fun h15 => ?_) (fun h15 => ?_)
  ·refine g9 35 ?_
   refine congrArg Value.bool ?_
   exact (decide_eq_false fun h => by have := h k om9; simp_all).symm
  refine g9 5 ?_
  refine W.qcall (vright_fc _) rfl (g9 4 ?_)
  refine W.sp 22 rfl (fun h20 => ?_) (fun h20 => ?_)
  ·refine g9 29 ?_
   refine congrArg Value.bool ?_
   exact (decide_eq_false fun h => by have := h k om9; simp_all).symm
  refine g9 6 ?_
  refine W.sd 25 (fun h24 p24 => ?_) (fun h24 p24 => ?_)
  ·refine g9 7 ?_
   refine (h_l.mono hG25).a1 (i := k - 1) om9 (fun he30 => (W.ok (ok_indexAddr (i := k - 1) sl31 ty68 (h_l.mono hG25) rfl rfl ⟨om9, om9⟩) (g9 9 ?_)))
   refine W.ok (ok_geqS rfl rfl) (g9 5 ?_)
   refine WC.cond rfl (fun h34 => ?_) (fun h34 => ?_)
   ·refine g9 12 ?_
    refine congrArg Value.bool ?_
    exact (decide_eq_false fun h => by have := h k om9; have h1 := this.2 om9; simp [Str.lt] at h1; simp [h1] at h34).symm
   refine g9 6 ?_
   refine W.sub (sr9.cons _) (g9 2 ?_)
   exact ⟨Le.rfl, k + 1, hs9, ⟨rfl, fun i h hi => by
      by_cases e : i = k
      · subst e; exact ⟨⟨by simpa using h15, by simpa using h20⟩, fun h0 => by simpa [Str.lt] using h34⟩
      · exact hk i h om9⟩, om9⟩
  refine g9 21 ?_
  refine W.sub (sr9.cons _) (g9 2 ?_)
  exact ⟨Le.rfl, k + 1, hs9, ⟨rfl, fun i h hi => by
      by_cases e : i = k
      · subst e; exact ⟨⟨by simpa using h15, by simpa using h20⟩, fun h0 => by omega⟩
      · exact hk i h om9⟩, om9⟩
 refine g9 12 ?_
 refine congrArg Value.bool ?_
 exact (decide_eq_true fun i h => hk i h om9).symm

end Go.Proofs.Ytcngningbcaggaa
