/- Walks of lists of messages. -/
import Derived.Test.YtcngningbcaggaaQgW3
set_option maxRecDepth 100000
set_option maxHeartbeats 1600000
set_option linter.unusedVariables false
set_option linter.unusedSimpArgs false
set_option linter.unnecessarySimpa false
namespace Go.Proofs.Ytcngningbcaggaa
open Go Go.Fw Go.RowKit
attribute [local irreducible] Ok W WC
theorem bclips_fc {G : GH} {v_l : Value} {l : List Msg} (h_l : SlR eMsg G v_l l) (alo : Str) (ahi : Str) (ao : Bool) (hks : ∀ m ∈ l, m.key.b.size < 140737488355328) :
    Fc Try.prog 79 [v_l, .agg #[sV alo.b, sV ahi.b, .bool ao]] G [] (fun v G' M' => M' = [] ∧ ∃ u0, v = u0 ∧ SlR eMsg G' u0 (clips ⟨alo, ahi, ao⟩ l)) := by
 obtain ⟨sa_l, sc_l, rfl⟩ := h_l.form
 have hl := h_l.len47
 have hlb : l.length * 72 ≤ 140737488355328 := h_l.bytes
 refine Fc.go [.tmp 4] Try.func79 Try.ntmps79 rfl (fun w0 => (g9 2 ?_))
 refine W.box (L := [sV _, sV _, .bool _]) rfl rfl (fun b19 => (g9 17 ?_))
 refine WC.loop (X := (Nat) × Value × MH) (fun i => [(10, lV sa_l l.length sc_l), (11, nt9 l.length), (12, nt9 i.1), (3, pt9 b19), (5, i.2.1)]) (fun i G Ml => Ml = ((b19, ce9 37 [sV alo.b, sV ahi.b, .bool ao]) :: (i.2.2 ++ [])) ∧ OwnR eMsg 90 G i.2.1 (clips ⟨alo, ahi, ao⟩ (l.take i.1)) i.2.2 ∧ i.1 ≤ l.length) (fun i => l.length - i.1) (0, lV none 0 0, ([] : MH)) hs9 ?_ ?_
 ·exact ⟨rfl, (by exact OwnR.nil), om9⟩
 rintro ⟨i, v_5, M_5⟩ gG20 G20 _ hG20 ⟨rfl, ho_5, hi⟩
 try dsimp only at ho_5 hi
 have hcl := clips_le (s := ⟨alo, ahi, ao⟩) (l := l.take i)
 have htl : (l.take i).length ≤ i := by simp; omega
 refine WC.fr (f := setL gG20 [(10, lV sa_l l.length sc_l), (11, nt9 l.length), (12, nt9 i), (3, pt9 b19), (5, v_5)]) rfl (g9 6 ?_)
 refine WC.cd (fun h13 p13 => ?_) (fun h13 p13 => ?_)
 ·refine g9 6 ?_
  refine (h_l.mono hG20).a2 (i := i) om9 (fun he21 hm22 => (g9 2 ?_))
  refine W.alloc zr90 (fun b26 => (g9 7 ?_))
  refine W.qcall (mclip_fc _ _ _ _ _ _ _ _ _ (hks _ (List.getElem_mem _))) rfl (g9 3 ?_)
  refine W.alloc zr90 (fun b27 => (g9 9 ?_))
  refine WC.cond rfl (fun h19_1 => ?_) (fun h19_1 => ?_)
  ·refine g9 3 ?_
   refine W.lit (e := eMsg) (l := [(Msg.clip l[i] ⟨alo, ahi, ao⟩).1]) (css := [[iV _, iV _, sV _, sV _, .bool _, sV _]]) sl33 ty90 zr90 rfl rfl rfl rfl rfl rfl ⟨⟨rfl, clip_ok (by assumption)⟩, trivial⟩ (fun bl28 G28 hG28 hv28 => (W.app (e := eMsg) sl33 ty90 zr90 rfl by90 rfl rfl ((ho_5.mono hG28)) (hv28) (pmC (pmC (pmC pr9))) (by show ((clips ⟨alo, ahi, ao⟩ (l.take i)).length + 1) * 72 ≤ _; omega) (fun v29 Ms30 ho31 => (W.perm (pmC (pmC (pmC pr9))).symm (g9 7 ?_)))))
   refine W.sub ((sr9.cons _).cons _) (g9 2 ?_)
   exact ⟨hG28, (i + 1, v29, Ms30), hs9, ⟨rfl, (by have h := ho31; rw [clips_t om9 h19_1]; exact h), om9⟩, om9⟩
  refine g9 6 ?_
  refine W.sub ((sr9.cons _).cons _) (g9 2 ?_)
  exact ⟨Le.rfl, (i + 1, v_5, M_5), hs9, ⟨rfl, (by have h := ho_5; rw [clips_f om9 h19_1]; exact h), om9⟩, om9⟩
 refine g9 11 ?_
 refine WC.giveO ho_5 (pmC pr9) (fun G32 hG32 hv32 => (g9 2 ?_))
 refine ⟨rfl, _, rfl, ?_⟩
 · have h := hv32; rw [List.take_of_length_le om9] at h; exact h

end Go.Proofs.Ytcngningbcaggaa
