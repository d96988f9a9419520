/- Walks of what a key has behind messages. -/
import Derived.Test.YtebkfinhhpelbaaGreatQwW5
namespace Go.Proofs.YtebkfinhhpelbaaGreat
open Go Go.Fw Go.RowKit
set_option maxRecDepth 100000
set_option maxHeartbeats 1600000
set_option linter.unusedVariables false
set_option linter.unusedSimpArgs false
set_option linter.unnecessarySimpa false
theorem merget_fc {G : GH} {v_l : Value} {l : List Pair} (h_l : SlR ePair G v_l l) (k : Str) {v_ms : Value} {ms : List Msg} (h_ms : SlR eMsg G v_ms ms) (hP : PairsR l) (hm : ∀ m ∈ ms, m.key.b.size < 140737488355328 ∧ m.val.b.size ≤ 16) :
    Fc Tryz.prog 87 [v_l, .string k.b, v_ms] G [] (fun v _ _ => v = .tuple #[.string (Str.b ((Eff.apply (onsN ms k) (getN l k)).getD Str.nil)), .bool ((Eff.apply (onsN ms k) (getN l k)).isSome)]) := by
 obtain ⟨sa_l, sc_l, rfl⟩ := h_l.form
 obtain ⟨sa_ms, sc_ms, rfl⟩ := h_ms.form
 have hr := hP.srt
 have hgv := hP.val k
 have hov := onsN_val ms k (fun m h => (hm m h).2)
 have hos := optS_get (getN l k)
 refine Fc.intro (rs := [.tmp 6, .tmp 7]) cl87 Tryz.func87 rfl Tryz.ntmps87 rfl rfl (fun w0 => ?_)
 refine WC.seq (WC.region (W.as (W.as (W.nil (thn_n (WC.seq (WC.region (W.mv ?_))))))))
 refine W.mv (W.qcall (mget_fc h_l _ (by assumption)) rfl (W.mv (W.ok (ok_extract rfl rfl) (W.ok (ok_extract rfl rfl) (W.as (W.as (W.nil (thn_n ?_))))))))
 refine WC.seq (WC.region (W.mv (W.mv (W.qcall (bufon_fc h_ms _ (by assumption)) rfl (W.mv (W.mv (W.qcall (eapply_fc (onsN ms k).kind (onsN ms k).val (getN l k).isSome ((getN l k).getD Str.nil) (by omega) (by omega)) rfl ?_)))))))
 refine W.mv (W.ok (ok_extract rfl rfl) (W.ok (ok_extract rfl rfl) (W.as (W.as (W.nil (thn_n (WC.seq (WC.seq ?_))))))))
 refine WC.region (W.mv (W.ok (ok_not rfl) (W.nil (thn_n ?_))))
 refine WC.cond (b := _) rfl (fun h28 => ?_) (fun h28 => ?_)
 ·refine WC.seq (WC.region (W.as (W.as (W.nil (thn_n (WC.ret (thn_r ?_)))))))
  refine ⟨.inr rfl, [_, _], ⟨rfl, rfl, trivial⟩, [], List.nil_sublist _, ?_⟩
  show Value.tuple #[Value.string _, Value.bool _] = _
  have hx : Eff.apply (⟨(onsN ms k).kind, (onsN ms k).val⟩ : Eff) (optS (getN l k).isSome ((getN l k).getD Str.nil)) = Eff.apply (onsN ms k) (getN l k) := by rw [hos]
  rw [hx] at h28
  have e : Eff.apply (onsN ms k) (getN l k) = none := by simpa using h28
  rw [e]; rfl
 ·refine WC.skip (thn_n (WC.seq (WC.region (W.mv (W.as (W.as (W.nil (thn_n (WC.ret ?_)))))))))
  refine ⟨.inr rfl, [_, _], ⟨rfl, rfl, trivial⟩, [], List.nil_sublist _, ?_⟩
  show Value.tuple #[Value.string _, Value.bool _] = _
  have hx : Eff.apply (⟨(onsN ms k).kind, (onsN ms k).val⟩ : Eff) (optS (getN l k).isSome ((getN l k).getD Str.nil)) = Eff.apply (onsN ms k) (getN l k) := by rw [hos]
  rw [hx] at h28
  have e : (Eff.apply (onsN ms k) (getN l k)).isSome = true := by simpa using h28
  rw [hx, e]

end Go.Proofs.YtebkfinhhpelbaaGreat
