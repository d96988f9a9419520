/- Walks of nodes by their slots, and of seats. -/
import Derived.Test.YtcngningbcaggaaQfV4
import Derived.Test.YtcngningbcaggaaQfW2
import Derived.Test.YtcngningbcaggaaQfW3
import Derived.Test.YtcngningbcaggaaQfNm
set_option maxRecDepth 100000
set_option maxHeartbeats 1600000
set_option linter.unusedVariables false
set_option linter.unusedSimpArgs false
set_option linter.unnecessarySimpa false
namespace Go.Proofs.Ytcngningbcaggaa
open Go Go.Fw Go.RowKit
attribute [local irreducible] Ok W WC
theorem findnd_fc {G : GH} {v_l : Value} {l : List Nd} (h_l : SlR eNode G v_l l) (i : Int) :
    Fc Try.prog 21 [v_l, iV i] G [] (fun v G' M' => M' = [] ∧ ∃ u0, v = .tuple #[.agg (List.toArray u0), .bool ((findN l i).2)] ∧ NodeC G' u0 ((findN l i).1)) := by
 obtain ⟨sa_l, sc_l, rfl⟩ := h_l.form
 have hl := h_l.len47
 have hok : ∀ n ∈ l, n.Ok := h_l.nok
 refine Fc.go [.cell 4 35, .tmp 5] Try.func21 Try.ntmps21 rfl (fun w0 => (g9 2 ?_))
 refine W.alloc zr35 (fun b1 => (g9 5 ?_))
 refine W.ok (ok_build (L := [iV _, iV _, lV _ _ _, lV _ _ _, sV _, .bool _, iV _, iV _, lV _ _ _, lV _ _ _]) pl35 zr35 rfl rfl rfl) (W.alloc zr35 (fun b2 => (g9 15 ?_)))
 refine WC.loop (X := (Nat) × List Value) (fun k => [(7, nt9 ((atS (l.take k.1) i).length)), (8, nt9 k.1), (4, pt9 b1), (6, pt9 b2), (0, lV sa_l l.length sc_l), (1, iV i)]) (fun k G Ml => Ml = [(b2, .cells (List.toArray k.2) 35 (0, 0)), (b1, ce9 35 nz9)] ∧ NodeC G k.2 ((atS (l.take k.1) i).getLast?.getD Nd.zero) ∧ k.1 ≤ l.length) (fun k => l.length - k.1) (0, (nz9 : List Value)) hs9 ?_ ?_
 ·exact ⟨rfl, (by exact ⟨_, _, _, _, _, _, _, _, rfl, SlR.nil, SlR.nil, SlR.nil, SlR.nil, Nd.zero_ok⟩), om9⟩
 rintro ⟨k, C_6⟩ gG3 G3 _ hG3 ⟨rfl, ho_6, hk⟩
 try dsimp only at ho_6 hk
 have hal := atS_len l i k
 refine match ho_6 with | ⟨pa_nb4, pc_nb4, ka_nb4, kc_nb4, ma_nb4, mc_nb4, ra_nb4, rc_nb4, e_5, hp_nb4, hk_nb4, hm_nb4, hr_nb4, hok_nb4⟩ => ?_
 subst e_5
 refine WC.fr (f := setL gG3 [(7, nt9 ((atS (l.take k) i).length)), (8, nt9 k), (4, pt9 b1), (6, pt9 b2), (0, lV sa_l l.length sc_l), (1, iV i)]) rfl (g9 9 ?_)
 refine WC.cd (fun h13 p13 => ?_) (fun h13 p13 => ?_)
 ·refine g9 8 ?_
  refine (h_l.mono hG3).aN (i := k) om9 (fun _ _ _ _ _ _ _ _ he6 hp_n7 hk_n7 hm_n7 hr_n7 hok_n7 => (g9 7 ?_))
  refine WC.cd (fun h22 p22 => ?_) (fun h22 p22 => ?_)
  ·refine g9 4 ?_
   refine (h_l.mono hG3).aN (i := k) om9 (fun pa_n11 pc_n11 ka_n11 kc_n11 ma_n11 mc_n11 ra_n11 rc_n11 he10 hp_n11 hk_n11 hm_n11 hr_n11 hok_n11 => (g9 18 ?_))
   exact ⟨Le.rfl, (k + 1, (ndl ((l)[k]) pa_n11 pc_n11 ka_n11 kc_n11 ma_n11 mc_n11 ra_n11 rc_n11)), ⟨(congrArg (fun n : Nat => Value.int .i64 (n : Int)) (by rw [atS_t om9 p22]; simp)), eqv, eqv, eqv, eqv, eqv, trivial⟩, ⟨rfl, (by have h0 : NodeC _ _ (l[k]'om9) := (nk9 hp_n11 hk_n11 hm_n11 hr_n11 hok_n11); rw [atS_t om9 p22, last_snoc]; exact h0), om9⟩, om9⟩
  refine g9 9 ?_
  exact ⟨Le.rfl, (k + 1, (ndl ((atS (l.take k) i).getLast?.getD Nd.zero) pa_nb4 pc_nb4 ka_nb4 kc_nb4 ma_nb4 mc_nb4 ra_nb4 rc_nb4)), ⟨(congrArg (fun n : Nat => Value.int .i64 (n : Int)) (by rw [atS_f om9 p22])), eqv, eqv, eqv, eqv, eqv, trivial⟩, ⟨rfl, (by have h0 : NodeC _ _ ((atS (l.take k) i).getLast?.getD Nd.zero) := (nk9 hp_nb4 hk_nb4 hm_nb4 hr_nb4 hok_nb4); rw [atS_f om9 p22]; exact h0), om9⟩, om9⟩
 refine g9 16 ?_
 exact ⟨rfl, _, congrArg (fun b : Bool => Value.tuple #[.agg (List.toArray _), .bool b]) (find_b om9), NodeC.of (nk9 hp_nb4 hk_nb4 hm_nb4 hr_nb4 hok_nb4) (find_n om9)⟩

end Go.Proofs.Ytcngningbcaggaa
