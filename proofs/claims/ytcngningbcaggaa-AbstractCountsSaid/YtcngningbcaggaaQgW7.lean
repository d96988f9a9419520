/- Walks of functions that look through rows. -/
import Derived.Test.YtcngningbcaggaaQgW5
set_option maxRecDepth 100000
set_option maxHeartbeats 1600000
set_option linter.unusedVariables false
set_option linter.unusedSimpArgs false
set_option linter.unnecessarySimpa false
namespace Go.Proofs.Ytcngningbcaggaa
open Go Go.Fw Go.RowKit
attribute [local irreducible] Ok W WC
theorem within_fc {G : GH} {v_l : Value} {l : List Pair} (h_l : SlR ePair G v_l l) (slo : Str) (shi : Str) (so : Bool) (hn : l.length ≤ 1000000) :
    Fc Try.prog 78 [v_l, .agg #[sV slo.b, sV shi.b, .bool so]] G [] (fun v G' M' => M' = [] ∧ ∃ u0, v = u0 ∧ SlR ePair G' u0 (l.filter (fun p : Pair => Span.has ⟨slo, shi, so⟩ p.key))) := by
 obtain ⟨sa_l, sc_l, rfl⟩ := h_l.form
 have hl := h_l.len47
 refine Fc.go [.tmp 4] Try.func78 Try.ntmps78 rfl (fun w0 => (g9 2 ?_))
 refine W.box (L := [sV _, sV _, .bool _]) rfl rfl (fun b14 => (g9 17 ?_))
 refine WC.loop (X := (Nat) × Value × MH) (fun i => [(10, nt9 i.1), (3, pt9 b14), (8, lV sa_l l.length sc_l), (9, nt9 ((l).length)), (5, i.2.1)]) (fun i G Ml => Ml = ((b14, ce9 37 [sV slo.b, sV shi.b, .bool so]) :: (i.2.2 ++ [])) ∧ OwnR ePair 68 G i.2.1 (List.filter (fun p : Pair => Span.has ⟨slo, shi, so⟩ p.key) (l.take i.1)) i.2.2 ∧ i.1 ≤ l.length) (fun i => l.length - i.1) (0, lV none 0 0, ([] : MH)) hs9 ?_ ?_
 ·exact ⟨rfl, (by simpa using OwnR.nil), om9⟩
 rintro ⟨i, v_5, M_5⟩ gG15 G15 _ hG15 ⟨rfl, ho_5, hi⟩
 try dsimp only at ho_5 hi
 have hfl := filt_le (fun p : Pair => Span.has ⟨slo, shi, so⟩ p.key) l i
 refine WC.fr (f := setL gG15 [(10, nt9 i), (3, pt9 b14), (8, lV sa_l l.length sc_l), (9, nt9 ((l).length)), (5, v_5)]) rfl (g9 6 ?_)
 refine WC.cd (fun h11 p11 => ?_) (fun h11 p11 => ?_)
 ·refine g9 6 ?_
  refine (h_l.mono hG15).a1 (i := i) om9 (fun he16 => (g9 2 ?_))
  refine W.alloc zr68 (fun b19 => (g9 8 ?_))
  refine W.qcall (spanhas_fc _ _ _ _) rfl (g9 2 ?_)
  refine WC.cond rfl (fun h17 => ?_) (fun h17 => ?_)
  ·refine g9 3 ?_
   refine W.lit (e := ePair) (l := [⟨((l)[i]).key, ((l)[i]).val⟩]) (css := [[sV _, sV _]]) sl31 ty68 zr68 rfl rfl rfl rfl rfl rfl ⟨rfl, trivial⟩ (fun bl20 G20 hG20 hv20 => (W.app (e := ePair) sl31 ty68 zr68 rfl by68 rfl rfl ((ho_5.mono hG20)) (hv20) (pmC (pmC pr9)) (by show (_ + 1) * 32 ≤ _; (try simp only [List.length_append] at *); omega) (fun v21 Ms22 ho23 => (W.perm (pmC (pmC pr9)).symm (g9 7 ?_)))))
   refine W.sub (sr9.cons _) (g9 2 ?_)
   exact ⟨hG20, (i + 1, v21, Ms22), hs9, ⟨rfl, (by have h := ho23; rw [filt_t (p := (fun p : Pair => Span.has ⟨slo, shi, so⟩ p.key)) om9 (by simpa using h17)]; exact h), om9⟩, om9⟩
  refine g9 6 ?_
  refine W.sub (sr9.cons _) (g9 2 ?_)
  exact ⟨Le.rfl, (i + 1, v_5, M_5), hs9, ⟨rfl, (by have h := ho_5; rw [filt_f (p := (fun p : Pair => Span.has ⟨slo, shi, so⟩ p.key)) om9 (by simpa using h17)]; exact h), om9⟩, om9⟩
 refine g9 11 ?_
 refine WC.giveO ho_5 (pmC pr9) (fun G24 hG24 hv24 => (g9 2 ?_))
 refine ⟨rfl, _, rfl, ?_⟩
 · have h := hv24; rw [List.take_of_length_le om9] at h; exact h

end Go.Proofs.Ytcngningbcaggaa
