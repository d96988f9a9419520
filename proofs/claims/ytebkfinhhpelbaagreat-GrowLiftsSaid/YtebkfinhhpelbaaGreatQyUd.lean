/- Walks of the ways of texts. -/
import Derived.Test.YtebkfinhhpelbaaGreatQyUc
import Derived.Test.YtebkfinhhpelbaaGreatQyNq
import Derived.Test.YtebkfinhhpelbaaGreatQyU4
namespace Go.Proofs.YtebkfinhhpelbaaGreat
open Go Go.Fw Go.RowKit
set_option maxRecDepth 100000
set_option maxHeartbeats 1600000
set_option linter.unusedVariables false
set_option linter.unusedSimpArgs false
set_option linter.unnecessarySimpa false
theorem pnode_nil {G : GH}  (i : Int) :
    Fc Tryz.prog 54 [.pointer none, .int .i64 i] G [] (fun v G' M' => M' = [] ∧ ∃ u0, v = .tuple #[.agg (List.toArray u0), .bool (false)] ∧ NodeC G' u0 (Nd.zero)) := by
 refine Fc.intro (rs := [.cell 4 47, .tmp 5]) cl54 Tryz.func54 rfl Tryz.ntmps54 rfl rfl (fun w0 => ?_)
 refine WC.seq (WC.region (W.alloc zr47 (fun b1 => (W.as (W.nil (thn_n (WC.seq (WC.seq (WC.region ?_)))))))))
 refine W.mv (W.ok (ok_eqlPN pp27 rfl rfl) (W.nil (thn_n (WC.cond_t rfl rfl (WC.seq (WC.region (W.ok (ok_build (L := [.int .i64 _, .int .i64 _, .slice _ _ _, .slice _ _ _, .string _, .bool _, .int .i64 _, .int .i64 _, .slice _ _ _, .slice _ _ _]) pl47 zr47 rfl rfl rfl) (W.store (i := 0) (vs := [.int .i64 _, .int .i64 _, .slice _ _ _, .slice _ _ _, .string _, .bool _, .int .i64 _, .int .i64 _, .slice _ _ _, .slice _ _ _]) (L' := [.int .i64 _, .int .i64 _, .slice _ _ _, .slice _ _ _, .string _, .bool _, .int .i64 _, .int .i64 _, .slice _ _ _, .slice _ _ _]) ty47 rfl rfl rfl rfl rfl rfl rfl rfl ?_))))))))
 refine W.as (W.nil (thn_n (WC.ret (thn_r ?_))))
 refine ⟨.inr rfl, [_, _], ⟨⟨_, _, _, _, _, rfl, nthM_mem (i := 0) rfl, ty47, (by simp), rfl, rfl⟩, rfl, trivial⟩, [], List.nil_sublist _, ?_⟩
 exact ⟨rfl, _, rfl, _, _, _, _, _, _, _, _, rfl, SlR.nil, SlR.nil, SlR.nil, SlR.nil, Nd.zero_ok⟩

end Go.Proofs.YtebkfinhhpelbaaGreat
