/- The law StoreNobody is run by the evaluator. -/
import Derived.Test.YtmadhgdplocfbaaProg
import Derived.Test.YtmadhgdplocfbaaEm
namespace Go.Proofs.Ytmadhgdplocfbaa
open Go Go.Fw Go.RowKit
set_option maxRecDepth 1000000
set_option linter.unusedVariables false
theorem est_14 : Callable Try.prog 14 := callable_of Try.func14 rfl (by decide)
theorem est_33 : Callable Try.prog 33 := callable_of Try.func33 rfl (by decide)
theorem est_35 : Callable Try.prog 35 := callable_of Try.func35 rfl (by decide)
theorem est_42 : Callable Try.prog 42 := callable_of Try.func42 rfl (by decide)
theorem est_55 : Callable Try.prog 55 := callable_of Try.func55 rfl (by decide)
theorem est_87 : Callable Try.prog 87 := callable_of Try.func87 rfl (by decide)
theorem est_89 : Callable Try.prog 89 := callable_of Try.func89 rfl (by decide)
theorem est_90 : Callable Try.prog 90 := callable_of Try.func90 rfl (by decide)
theorem est_92 : Callable Try.prog 92 := callable_of Try.func92 rfl (by decide)
theorem est_94 : Callable Try.prog 94 := callable_of Try.func94 rfl (by decide)
theorem est_96 : Callable Try.prog 96 := callable_of Try.func96 rfl (by decide)
theorem est_99 : Callable Try.prog 99 := callable_of Try.func99 rfl (by decide)
theorem est_100 : Callable Try.prog 100 := callable_of Try.func100 rfl (by decide)
theorem est_101 : Callable Try.prog 101 := callable_of Try.func101 rfl (by decide)
theorem est_102 : Callable Try.prog 102 := callable_of Try.func102 rfl (by decide)
theorem est_113 : Callable Try.prog 113 := callable_of Try.func113 rfl (by decide)
theorem est_131 : Callable Try.prog 131 := callable_of Try.func131 rfl (by decide)
theorem est_132 : Callable Try.prog 132 := callable_of Try.func132 rfl (by decide)
theorem est_139 : Callable Try.prog 139 := callable_of Try.func139 rfl (by decide)
theorem est_143 : Callable Try.prog 143 := callable_of Try.func143 rfl (by decide)
theorem est_147 : Callable Try.prog 147 := callable_of Try.func147 rfl (by decide)
theorem est_154 : Callable Try.prog 154 := callable_of Try.func154 rfl (by decide)
theorem est_155 : Callable Try.prog 155 := callable_of Try.func155 rfl (by decide)
theorem est_156 : Callable Try.prog 156 := callable_of Try.func156 rfl (by decide)
theorem est_157 : Callable Try.prog 157 := callable_of Try.func157 rfl (by decide)
theorem est_158 : Callable Try.prog 158 := callable_of Try.func158 rfl (by decide)
theorem est_159 : Callable Try.prog 159 := callable_of Try.func159 rfl (by decide)
theorem est_160 : Callable Try.prog 160 := callable_of Try.func160 rfl (by decide)
theorem est_161 : Callable Try.prog 161 := callable_of Try.func161 rfl (by decide)
theorem est_162 : Callable Try.prog 162 := callable_of Try.func162 rfl (by decide)
theorem est_193 : Callable Try.prog 193 := callable_of Try.func193 rfl (by decide)
theorem est_194 : Callable Try.prog 194 := callable_of Try.func194 rfl (by decide)
theorem est_197 : Callable Try.prog 197 := callable_of Try.func197 rfl (by decide)
theorem est_201 : Callable Try.prog 201 := callable_of Try.func201 rfl (by decide)
theorem est_261 : Callable Try.prog 261 := callable_of Try.func261 rfl (by decide)
theorem est_262 : Callable Try.prog 262 := callable_of Try.func262 rfl (by decide)
theorem est_263 : Callable Try.prog 263 := callable_of Try.func263 rfl (by decide)
theorem est_264 : Callable Try.prog 264 := callable_of Try.func264 rfl (by decide)
theorem est_265 : Callable Try.prog 265 := callable_of Try.func265 rfl (by decide)
def pst_92003 : Plan := .step 0 (.step 1 (.step 2 (.step 3 (.step 4 (.step 5 (.step 6 (.alts [7] (.alt 7 (.alts [8] (.alt 8 (.step 9 (.done)) (.stop))) (.stop)))))))))
def pst_139001 : Plan := .step 0 (.step 1 (.step 3 (.step 4 (.alts [2] (.alt 2 (.step 6 (.alts [5] (.alt 5 (.alts [7] (.alt 7 (.step 8 (.alts [9] (.alt 9 (.done) (.stop)))) (.stop))) (.stop)))) (.stop))))))
def pst_139002 : Plan := .step 0 (.step 1 (.step 3 (.step 4 (.alts [2] (.alt 2 (.step 6 (.alts [5] (.alt 5 (.alts [7] (.alt 7 (.step 8 (.alts [9] (.alt 9 (.done) (.stop)))) (.stop))) (.stop)))) (.stop))))))
def pst_154003 : Plan := .step 0 (.step 2 (.alts [1, 3] (.alt 1 (.alts [3] (.alt 3 (.step 4 (.alts [5] (.alt 5 (.step 6 (.done)) (.stop)))) (.stop))) (.alt 3 (.alts [1] (.alt 1 (.step 4 (.alts [5] (.alt 5 (.step 6 (.done)) (.stop)))) (.stop))) (.stop)))))
def pst_157005 : Plan := .step 0 (.step 1 (.step 2 (.step 3 (.step 4 (.step 5 (.step 6 (.alts [7] (.alt 7 (.done) (.stop)))))))))
def pst_158006 : Plan := .step 0 (.step 1 (.step 2 (.step 3 (.step 4 (.step 5 (.step 6 (.step 7 (.step 8 (.step 9 (.step 10 (.step 11 (.alts [12] (.alt 12 (.step 13 (.alts [14] (.alt 14 (.done) (.stop)))) (.stop))))))))))))))
def pst_263000 : Plan := .step 0 (.step 1 (.step 2 (.step 3 (.step 4 (.step 5 (.step 6 (.step 7 (.step 8 (.step 9 (.step 10 (.step 11 (.step 12 (.alts [13] (.alt 13 (.step 14 (.alts [15] (.alt 15 (.done) (.stop)))) (.stop)))))))))))))))
def pst_265000 : Plan := .step 0 (.step 1 (.step 2 (.step 3 (.step 4 (.step 5 (.alts [6] (.alt 6 (.alts [7] (.alt 7 (.step 8 (.alts [9] (.alt 9 (.done) (.stop)))) (.stop))) (.stop))))))))
theorem mst : Try.prog.follows .mixedOrders = true := by kernel_rfl
theorem vst : ∃ C : Ctx, C.P = Try.prog ∧ COk C ∧ evB C 1000000 14 [.o 0] = some true :=
  ⟨{ P := Try.prog, fn := FT.get (.n 143 Try.f143 (.n 94 Try.f94 (.n 55 Try.f55 (.n 35 Try.f35 (.n 33 Try.f33 (.n 14 Try.f14 (.e) (.e)) (.e)) (.n 42 Try.f42 (.e) (.e))) (.n 90 Try.f90 (.n 89 Try.f89 (.n 87 Try.f87 (.e) (.e)) (.e)) (.n 92 Try.f92 (.e) (.e)))) (.n 102 Try.f102 (.n 100 Try.f100 (.n 99 Try.f99 (.n 96 Try.f96 (.e) (.e)) (.e)) (.n 101 Try.f101 (.e) (.e))) (.n 132 Try.f132 (.n 131 Try.f131 (.n 113 Try.f113 (.e) (.e)) (.e)) (.n 139 Try.f139 (.e) (.e))))) (.n 162 Try.f162 (.n 157 Try.f157 (.n 155 Try.f155 (.n 154 Try.f154 (.n 147 Try.f147 (.e) (.e)) (.e)) (.n 156 Try.f156 (.e) (.e))) (.n 160 Try.f160 (.n 159 Try.f159 (.n 158 Try.f158 (.e) (.e)) (.e)) (.n 161 Try.f161 (.e) (.e)))) (.n 261 Try.f261 (.n 197 Try.f197 (.n 194 Try.f194 (.n 193 Try.f193 (.e) (.e)) (.e)) (.n 201 Try.f201 (.e) (.e))) (.n 264 Try.f264 (.n 263 Try.f263 (.n 262 Try.f262 (.e) (.e)) (.e)) (.n 265 Try.f265 (.e) (.e)))))), plan := fun g r => PT.get (.n 157005 pst_157005 (.n 139002 pst_139002 (.n 139001 pst_139001 (.n 92003 pst_92003 (.e) (.e)) (.e)) (.n 154003 pst_154003 (.e) (.e))) (.n 263000 pst_263000 (.n 158006 pst_158006 (.e) (.e)) (.n 265000 pst_265000 (.e) (.e)))) (g * 1000 + r), prim := fun _ => none }, rfl, COk.of ⟨⟨Try.func143, est_143⟩, ⟨⟨Try.func94, est_94⟩, ⟨⟨Try.func55, est_55⟩, ⟨⟨Try.func35, est_35⟩, ⟨⟨Try.func33, est_33⟩, ⟨⟨Try.func14, est_14⟩, trivial, trivial⟩, trivial⟩, ⟨⟨Try.func42, est_42⟩, trivial, trivial⟩⟩, ⟨⟨Try.func90, est_90⟩, ⟨⟨Try.func89, est_89⟩, ⟨⟨Try.func87, est_87⟩, trivial, trivial⟩, trivial⟩, ⟨⟨Try.func92, est_92⟩, trivial, trivial⟩⟩⟩, ⟨⟨Try.func102, est_102⟩, ⟨⟨Try.func100, est_100⟩, ⟨⟨Try.func99, est_99⟩, ⟨⟨Try.func96, est_96⟩, trivial, trivial⟩, trivial⟩, ⟨⟨Try.func101, est_101⟩, trivial, trivial⟩⟩, ⟨⟨Try.func132, est_132⟩, ⟨⟨Try.func131, est_131⟩, ⟨⟨Try.func113, est_113⟩, trivial, trivial⟩, trivial⟩, ⟨⟨Try.func139, est_139⟩, trivial, trivial⟩⟩⟩⟩, ⟨⟨Try.func162, est_162⟩, ⟨⟨Try.func157, est_157⟩, ⟨⟨Try.func155, est_155⟩, ⟨⟨Try.func154, est_154⟩, ⟨⟨Try.func147, est_147⟩, trivial, trivial⟩, trivial⟩, ⟨⟨Try.func156, est_156⟩, trivial, trivial⟩⟩, ⟨⟨Try.func160, est_160⟩, ⟨⟨Try.func159, est_159⟩, ⟨⟨Try.func158, est_158⟩, trivial, trivial⟩, trivial⟩, ⟨⟨Try.func161, est_161⟩, trivial, trivial⟩⟩⟩, ⟨⟨Try.func261, est_261⟩, ⟨⟨Try.func197, est_197⟩, ⟨⟨Try.func194, est_194⟩, ⟨⟨Try.func193, est_193⟩, trivial, trivial⟩, trivial⟩, ⟨⟨Try.func201, est_201⟩, trivial, trivial⟩⟩, ⟨⟨Try.func264, est_264⟩, ⟨⟨Try.func263, est_263⟩, ⟨⟨Try.func262, est_262⟩, trivial, trivial⟩, trivial⟩, ⟨⟨Try.func265, est_265⟩, trivial, trivial⟩⟩⟩⟩⟩ mst, by kernel_rfl⟩
theorem st_fc {G : GH} (i : Int) : Fc Try.prog 14 [.int .i64 i] G [] (fun v _ _ => v = .bool true) := by
  obtain ⟨C, h1, h2, h3⟩ := vst
  rw [← h1]
  exact evB_ok h2 h3 (fun _ => .int .i64 i) (fun _ => rfl) (VRs.cons (by simp only [VR]) VRs.nil) G
end Go.Proofs.Ytmadhgdplocfbaa
