/- The law SlotsNobody is run by the evaluator. -/
import Derived.Test.YtmadhgdplocfbaaProg
import Derived.Test.YtmadhgdplocfbaaEm
namespace Go.Proofs.Ytmadhgdplocfbaa
open Go Go.Fw Go.RowKit
set_option maxRecDepth 1000000
set_option linter.unusedVariables false
theorem esn_10 : Callable Try.prog 10 := callable_of Try.func10 rfl (by decide)
theorem esn_59 : Callable Try.prog 59 := callable_of Try.func59 rfl (by decide)
theorem esn_70 : Callable Try.prog 70 := callable_of Try.func70 rfl (by decide)
theorem esn_71 : Callable Try.prog 71 := callable_of Try.func71 rfl (by decide)
theorem esn_72 : Callable Try.prog 72 := callable_of Try.func72 rfl (by decide)
theorem esn_73 : Callable Try.prog 73 := callable_of Try.func73 rfl (by decide)
theorem esn_74 : Callable Try.prog 74 := callable_of Try.func74 rfl (by decide)
theorem esn_75 : Callable Try.prog 75 := callable_of Try.func75 rfl (by decide)
theorem esn_76 : Callable Try.prog 76 := callable_of Try.func76 rfl (by decide)
theorem esn_143 : Callable Try.prog 143 := callable_of Try.func143 rfl (by decide)
theorem esn_144 : Callable Try.prog 144 := callable_of Try.func144 rfl (by decide)
theorem esn_146 : Callable Try.prog 146 := callable_of Try.func146 rfl (by decide)
theorem esn_147 : Callable Try.prog 147 := callable_of Try.func147 rfl (by decide)
theorem esn_148 : Callable Try.prog 148 := callable_of Try.func148 rfl (by decide)
theorem esn_197 : Callable Try.prog 197 := callable_of Try.func197 rfl (by decide)
theorem esn_198 : Callable Try.prog 198 := callable_of Try.func198 rfl (by decide)
theorem esn_261 : Callable Try.prog 261 := callable_of Try.func261 rfl (by decide)
theorem esn_262 : Callable Try.prog 262 := callable_of Try.func262 rfl (by decide)
theorem esn_263 : Callable Try.prog 263 := callable_of Try.func263 rfl (by decide)
theorem esn_264 : Callable Try.prog 264 := callable_of Try.func264 rfl (by decide)
theorem esn_265 : Callable Try.prog 265 := callable_of Try.func265 rfl (by decide)
def psn_70006 : Plan := .step 0 (.step 1 (.step 2 (.step 3 (.step 4 (.step 5 (.step 6 (.step 7 (.step 8 (.step 9 (.step 10 (.step 11 (.alts [12] (.alt 12 (.step 13 (.alts [14] (.alt 14 (.done) (.stop)))) (.stop))))))))))))))
def psn_72006 : Plan := .step 0 (.step 1 (.step 2 (.step 3 (.step 4 (.step 5 (.step 6 (.step 7 (.step 8 (.step 9 (.step 10 (.step 11 (.alts [12] (.alt 12 (.step 13 (.alts [14] (.alt 14 (.done) (.stop)))) (.stop))))))))))))))
def psn_144003 : Plan := .step 0 (.step 2 (.alts [1, 3] (.alt 1 (.alts [3] (.alt 3 (.step 4 (.alts [5] (.alt 5 (.step 6 (.done)) (.stop)))) (.stop))) (.alt 3 (.alts [1] (.alt 1 (.step 4 (.alts [5] (.alt 5 (.step 6 (.done)) (.stop)))) (.stop))) (.stop)))))
def psn_263000 : Plan := .step 0 (.step 1 (.step 2 (.step 3 (.step 4 (.step 5 (.step 6 (.step 7 (.step 8 (.step 9 (.step 10 (.step 11 (.step 12 (.alts [13] (.alt 13 (.step 14 (.alts [15] (.alt 15 (.done) (.stop)))) (.stop)))))))))))))))
def psn_265000 : Plan := .step 0 (.step 1 (.step 2 (.step 3 (.step 4 (.step 5 (.alts [6] (.alt 6 (.alts [7] (.alt 7 (.step 8 (.alts [9] (.alt 9 (.done) (.stop)))) (.stop))) (.stop))))))))
theorem msn : Try.prog.follows .mixedOrders = true := by kernel_rfl
theorem vsn : ∃ C : Ctx, C.P = Try.prog ∧ COk C ∧ evB C 1000000 10 [.o 0] = some true :=
  ⟨{ P := Try.prog, fn := FT.get (.n 144 Try.f144 (.n 73 Try.f73 (.n 70 Try.f70 (.n 59 Try.f59 (.n 10 Try.f10 (.e) (.e)) (.e)) (.n 72 Try.f72 (.n 71 Try.f71 (.e) (.e)) (.e))) (.n 76 Try.f76 (.n 75 Try.f75 (.n 74 Try.f74 (.e) (.e)) (.e)) (.n 143 Try.f143 (.e) (.e)))) (.n 261 Try.f261 (.n 148 Try.f148 (.n 147 Try.f147 (.n 146 Try.f146 (.e) (.e)) (.e)) (.n 198 Try.f198 (.n 197 Try.f197 (.e) (.e)) (.e))) (.n 264 Try.f264 (.n 263 Try.f263 (.n 262 Try.f262 (.e) (.e)) (.e)) (.n 265 Try.f265 (.e) (.e))))), plan := fun g r => PT.get (.n 144003 psn_144003 (.n 72006 psn_72006 (.n 70006 psn_70006 (.e) (.e)) (.e)) (.n 265000 psn_265000 (.n 263000 psn_263000 (.e) (.e)) (.e))) (g * 1000 + r), prim := fun _ => none }, rfl, COk.of ⟨⟨Try.func144, esn_144⟩, ⟨⟨Try.func73, esn_73⟩, ⟨⟨Try.func70, esn_70⟩, ⟨⟨Try.func59, esn_59⟩, ⟨⟨Try.func10, esn_10⟩, trivial, trivial⟩, trivial⟩, ⟨⟨Try.func72, esn_72⟩, ⟨⟨Try.func71, esn_71⟩, trivial, trivial⟩, trivial⟩⟩, ⟨⟨Try.func76, esn_76⟩, ⟨⟨Try.func75, esn_75⟩, ⟨⟨Try.func74, esn_74⟩, trivial, trivial⟩, trivial⟩, ⟨⟨Try.func143, esn_143⟩, trivial, trivial⟩⟩⟩, ⟨⟨Try.func261, esn_261⟩, ⟨⟨Try.func148, esn_148⟩, ⟨⟨Try.func147, esn_147⟩, ⟨⟨Try.func146, esn_146⟩, trivial, trivial⟩, trivial⟩, ⟨⟨Try.func198, esn_198⟩, ⟨⟨Try.func197, esn_197⟩, trivial, trivial⟩, trivial⟩⟩, ⟨⟨Try.func264, esn_264⟩, ⟨⟨Try.func263, esn_263⟩, ⟨⟨Try.func262, esn_262⟩, trivial, trivial⟩, trivial⟩, ⟨⟨Try.func265, esn_265⟩, trivial, trivial⟩⟩⟩⟩ msn, by kernel_rfl⟩
theorem sn_fc {G : GH} (i : Int) : Fc Try.prog 10 [.int .i64 i] G [] (fun v _ _ => v = .bool true) := by
  obtain ⟨C, h1, h2, h3⟩ := vsn
  rw [← h1]
  exact evB_ok h2 h3 (fun _ => .int .i64 i) (fun _ => rfl) (VRs.cons (by simp only [VR]) VRs.nil) G
end Go.Proofs.Ytmadhgdplocfbaa
