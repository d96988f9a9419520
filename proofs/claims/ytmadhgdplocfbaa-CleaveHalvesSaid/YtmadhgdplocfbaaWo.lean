/- Walks of the functions of chapter 22's law. -/
import Derived.Test.YtmadhgdplocfbaaWn
namespace Go.Proofs.Ytmadhgdplocfbaa
open Go Go.Fw Go.RowKit
set_option maxRecDepth 100000
set_option maxHeartbeats 1600000
set_option linter.unusedVariables false
theorem sound22_fc {G : GH} {cs_n : List Value} {n : Nd} (h_n : NodeC G cs_n n) :
    Fc Try.prog 51 [.agg (List.toArray cs_n)] G [] (fun v _ _ => v = .bool (decide n.sound)) := by
  obtain ⟨pa_n, pc_n, ka_n, kc_n, ma_n, mc_n, ra_n, rc_n, rfl, hp_n, hk_n, hm_n, hr_n, hok_n⟩ := h_n
  have h1 := hp_n.len47
  have h2 := hk_n.len47
  have h3 := hm_n.len47
  have h4 := hr_n.len47
  refine Fc.intro (rs := [.tmp 2]) cl51 Try.func51 rfl Try.ntmps51 rfl rfl (fun w0 => ?_)
  refine WC.seq ?_
  refine WC.region ?_
  refine W.box (L := [.int .i64 _, .int .i64 _, .slice _ _ _, .slice _ _ _, .string _, .bool _, .int .i64 _, .int .i64 _, .slice _ _ _, .slice _ _ _]) rfl rfl (fun b814 => ?_)
  refine W.as ?_
  refine W.nil (thn_n ?_)
  refine WC.seq ?_
  refine WC.seq ?_
  refine WC.region ?_
  refine W.ok (ok_loadB (i := 0) (vs := [.int .i64 _, .int .i64 _, .slice _ _ _, .slice _ _ _, .string _, .bool _, .int .i64 _, .int .i64 _, .slice _ _ _, .slice _ _ _]) ty45 rfl rfl rfl rfl (by simp)) ?_
  refine W.lit (e := eNode) (l := [_]) (css := [[.int .i64 _, .int .i64 _, .slice _ _ _, .slice _ _ _, .string _, .bool _, .int .i64 _, .int .i64 _, .slice _ _ _, .slice _ _ _]]) sl37 ty45 zr45 rfl rfl rfl rfl rfl rfl ⟨⟨_, _, _, _, _, _, _, _, rfl, hp_n, hk_n, hm_n, hr_n, hok_n⟩, trivial⟩ (fun bl815 G815 hG815 hv815 => ?_)
  refine W.qcall (light_fc hv815 _ _ (by omega)) rfl ?_
  refine W.ok (ok_not rfl) ?_
  refine W.nil (thn_n ?_)
  refine WC.cond (b := _) rfl (fun h6 => ?_) (fun h6 => ?_)
  · refine WC.seq ?_
    refine WC.region ?_
    refine W.as ?_
    refine W.nil (thn_n ?_)
    refine WC.ret (thn_r ?_)
    refine ⟨.inr rfl, [_], ⟨rfl, trivial⟩, [], List.nil_sublist _, ?_⟩
    refine congrArg Value.bool ?_
    exact (decide_eq_false fun h => by simp [h.1] at h6).symm
  · refine WC.skip (thn_n ?_)
    refine WC.seq ?_
    refine WC.seq ?_
    refine WC.region ?_
    refine W.ok (ok_fieldB fd45_1 rfl) ?_
    refine W.ok (ok_loadB (i := 0) (vs := [.int .i64 _]) ty3 rfl rfl rfl rfl (by simp)) ?_
    refine W.ok (ok_eql rfl rfl) ?_
    refine W.nil (thn_n ?_)
    refine WC.cond (b := _) rfl (fun h9 => ?_) (fun h9 => ?_)
    · have p9 := of_decide_eq_true h9
      refine WC.seq ?_
      refine WC.region ?_
      refine W.ok (ok_fieldB fd45_9 rfl) ?_
      refine W.ok (ok_loadB (i := 0) (vs := [.slice _ _ _]) ty42 rfl rfl rfl rfl (by simp)) ?_
      refine W.qcall (rightp_fc (hr_n.mono hG815)) rfl ?_
      refine W.as ?_
      refine W.nil (thn_n ?_)
      refine WC.ret (thn_r ?_)
      refine ⟨.inr rfl, [_], ⟨rfl, trivial⟩, [], List.nil_sublist _, ?_⟩
      refine congrArg Value.bool ?_
      exact decide_eq_decide.2 ⟨fun q => ⟨by simpa using h6, by rw [if_pos p9]; exact q⟩, fun h => by have h := h.2; rw [if_pos p9] at h; exact h⟩
    · have p9 := of_decide_eq_false h9
      refine WC.skip (thn_n ?_)
      refine WC.seq ?_
      refine WC.region ?_
      refine W.ok (ok_fieldB fd45_8 rfl) ?_
      refine W.ok (ok_loadB (i := 0) (vs := [.slice _ _ _]) ty43 rfl rfl rfl rfl (by simp)) ?_
      refine W.qcall (mall_fc (hm_n.mono hG815)) rfl ?_
      refine W.as ?_
      refine W.nil (thn_n ?_)
      refine WC.ret ?_
      refine ⟨.inr rfl, [_], ⟨rfl, trivial⟩, [], List.nil_sublist _, ?_⟩
      refine congrArg Value.bool ?_
      exact decide_eq_decide.2 ⟨fun q => ⟨by simpa using h6, by rw [if_neg p9]; exact q⟩, fun h => by have h := h.2; rw [if_neg p9] at h; exact h⟩

end Go.Proofs.Ytmadhgdplocfbaa
