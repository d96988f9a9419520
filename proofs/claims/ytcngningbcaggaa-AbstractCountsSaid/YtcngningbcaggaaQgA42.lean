/- The example of chapter 42 is run by the evaluator. -/
import Derived.Test.YtcngningbcaggaaProg
import Derived.Test.YtcngningbcaggaaQgX5
set_option linter.unusedVariables false
set_option linter.unusedSimpArgs false
set_option linter.unnecessarySimpa false
namespace Go.Proofs.Ytcngningbcaggaa
open Go Go.Fw Go.RowKit
set_option maxRecDepth 1000000
theorem eawake42_13 : Callable Try.prog 13 := callable_of Try.func13 rfl (by decide)
theorem eawake42_26 : Callable Try.prog 26 := callable_of Try.func26 rfl (by decide)
theorem eawake42_27 : Callable Try.prog 27 := callable_of Try.func27 rfl (by decide)
theorem eawake42_29 : Callable Try.prog 29 := callable_of Try.func29 rfl (by decide)
theorem eawake42_30 : Callable Try.prog 30 := callable_of Try.func30 rfl (by decide)
theorem eawake42_52 : Callable Try.prog 52 := callable_of Try.func52 rfl (by decide)
theorem eawake42_53 : Callable Try.prog 53 := callable_of Try.func53 rfl (by decide)
theorem eawake42_54 : Callable Try.prog 54 := callable_of Try.func54 rfl (by decide)
theorem eawake42_55 : Callable Try.prog 55 := callable_of Try.func55 rfl (by decide)
theorem eawake42_56 : Callable Try.prog 56 := callable_of Try.func56 rfl (by decide)
theorem eawake42_57 : Callable Try.prog 57 := callable_of Try.func57 rfl (by decide)
theorem eawake42_77 : Callable Try.prog 77 := callable_of Try.func77 rfl (by decide)
theorem eawake42_78 : Callable Try.prog 78 := callable_of Try.func78 rfl (by decide)
theorem eawake42_79 : Callable Try.prog 79 := callable_of Try.func79 rfl (by decide)
theorem eawake42_80 : Callable Try.prog 80 := callable_of Try.func80 rfl (by decide)
theorem eawake42_81 : Callable Try.prog 81 := callable_of Try.func81 rfl (by decide)
theorem eawake42_82 : Callable Try.prog 82 := callable_of Try.func82 rfl (by decide)
theorem eawake42_83 : Callable Try.prog 83 := callable_of Try.func83 rfl (by decide)
theorem eawake42_84 : Callable Try.prog 84 := callable_of Try.func84 rfl (by decide)
theorem eawake42_87 : Callable Try.prog 87 := callable_of Try.func87 rfl (by decide)
theorem eawake42_96 : Callable Try.prog 96 := callable_of Try.func96 rfl (by decide)
theorem eawake42_97 : Callable Try.prog 97 := callable_of Try.func97 rfl (by decide)
theorem eawake42_98 : Callable Try.prog 98 := callable_of Try.func98 rfl (by decide)
theorem eawake42_99 : Callable Try.prog 99 := callable_of Try.func99 rfl (by decide)
theorem eawake42_100 : Callable Try.prog 100 := callable_of Try.func100 rfl (by decide)
theorem eawake42_101 : Callable Try.prog 101 := callable_of Try.func101 rfl (by decide)
theorem eawake42_102 : Callable Try.prog 102 := callable_of Try.func102 rfl (by decide)
theorem eawake42_105 : Callable Try.prog 105 := callable_of Try.func105 rfl (by decide)
theorem eawake42_106 : Callable Try.prog 106 := callable_of Try.func106 rfl (by decide)
theorem eawake42_108 : Callable Try.prog 108 := callable_of Try.func108 rfl (by decide)
theorem eawake42_117 : Callable Try.prog 117 := callable_of Try.func117 rfl (by decide)
theorem eawake42_118 : Callable Try.prog 118 := callable_of Try.func118 rfl (by decide)
theorem eawake42_119 : Callable Try.prog 119 := callable_of Try.func119 rfl (by decide)
theorem eawake42_120 : Callable Try.prog 120 := callable_of Try.func120 rfl (by decide)
theorem eawake42_121 : Callable Try.prog 121 := callable_of Try.func121 rfl (by decide)
theorem eawake42_122 : Callable Try.prog 122 := callable_of Try.func122 rfl (by decide)
theorem eawake42_123 : Callable Try.prog 123 := callable_of Try.func123 rfl (by decide)
theorem eawake42_124 : Callable Try.prog 124 := callable_of Try.func124 rfl (by decide)
theorem eawake42_125 : Callable Try.prog 125 := callable_of Try.func125 rfl (by decide)
theorem eawake42_126 : Callable Try.prog 126 := callable_of Try.func126 rfl (by decide)
theorem eawake42_133 : Callable Try.prog 133 := callable_of Try.func133 rfl (by decide)
theorem eawake42_134 : Callable Try.prog 134 := callable_of Try.func134 rfl (by decide)
theorem eawake42_135 : Callable Try.prog 135 := callable_of Try.func135 rfl (by decide)
theorem eawake42_136 : Callable Try.prog 136 := callable_of Try.func136 rfl (by decide)
theorem eawake42_137 : Callable Try.prog 137 := callable_of Try.func137 rfl (by decide)
theorem eawake42_138 : Callable Try.prog 138 := callable_of Try.func138 rfl (by decide)
theorem eawake42_139 : Callable Try.prog 139 := callable_of Try.func139 rfl (by decide)
theorem eawake42_140 : Callable Try.prog 140 := callable_of Try.func140 rfl (by decide)
theorem eawake42_142 : Callable Try.prog 142 := callable_of Try.func142 rfl (by decide)
theorem eawake42_144 : Callable Try.prog 144 := callable_of Try.func144 rfl (by decide)
theorem eawake42_145 : Callable Try.prog 145 := callable_of Try.func145 rfl (by decide)
theorem eawake42_146 : Callable Try.prog 146 := callable_of Try.func146 rfl (by decide)
theorem eawake42_163 : Callable Try.prog 163 := callable_of Try.func163 rfl (by decide)
theorem eawake42_164 : Callable Try.prog 164 := callable_of Try.func164 rfl (by decide)
theorem eawake42_165 : Callable Try.prog 165 := callable_of Try.func165 rfl (by decide)
theorem eawake42_166 : Callable Try.prog 166 := callable_of Try.func166 rfl (by decide)
def pawake42_53001 : Plan := .step 0 (.step 1 (.step 2 (.step 3 (.step 4 (.step 5 (.step 6 (.alts [7] (.alt 7 [2, 4, 6, 1, 3, 5] (.alts [8] (.alt 8 [0, 7, 2, 4, 6, 1, 3, 5] (.alts [9] (.alt 9 [0, 2, 4, 6] (.done) (.stop))) (.stop))) (.stop)))))))))
def pawake42_54001 : Plan := .step 0 (.step 1 (.step 3 (.step 4 (.alts [2] (.alt 2 [1] (.alts [5] (.alt 5 [2, 3, 4, 0, 1] (.alts [6] (.alt 6 [2, 5, 0, 1, 3, 4] (.step 7 (.done)) (.stop))) (.stop))) (.stop))))))
def pawake42_55005 : Plan := .step 0 (.step 1 (.step 2 (.step 3 (.step 4 (.step 5 (.alts [6] (.alt 6 [3, 4, 5, 2, 1, 0] (.done) (.stop))))))))
def pawake42_55009 : Plan := .step 0 (.step 1 (.step 2 (.step 3 (.step 4 (.alts [5, 7] (.alt 5 [3, 4, 2] (.alts [6, 7] (.alt 6 [1, 5, 0, 3, 4, 2] (.alts [7] (.alt 7 [] (.alts [8] (.alt 8 [1, 3] (.done) (.stop))) (.stop))) (.alt 7 [] (.alts [6] (.alt 6 [1, 5, 0, 3, 4, 2] (.alts [8] (.alt 8 [1, 3] (.done) (.stop))) (.stop))) (.stop)))) (.alt 7 [] (.alts [5] (.alt 5 [3, 4, 2] (.alts [6] (.alt 6 [1, 5, 0, 3, 4, 2] (.alts [8] (.alt 8 [1, 3] (.done) (.stop))) (.stop))) (.stop))) (.stop))))))))
def pawake42_55010 : Plan := .step 0 (.step 1 (.step 2 (.step 4 (.step 5 (.step 6 (.alts [3] (.alt 3 [1, 2, 0] (.alts [7] (.alt 7 [3, 5, 6, 1, 2, 4, 0] (.alts [8] (.alt 8 [3, 7, 1, 2, 5, 6, 0, 4] (.alts [9] (.alt 9 [7, 8, 3, 5, 6, 1, 2, 4, 0] (.step 10 (.done)) (.stop))) (.stop))) (.stop))) (.stop))))))))
def pawake42_98003 : Plan := .step 0 (.step 1 (.step 2 (.step 3 (.step 4 (.step 5 (.alts [6] (.alt 6 [3, 5, 4] (.alts [7] (.alt 7 [0, 2, 6, 1, 3, 5, 4] (.step 8 (.done)) (.stop))) (.stop))))))))
def pawake42_99004 : Plan := .step 0 (.step 2 (.alts [1, 4] (.alt 1 [0] (.alts [3, 4] (.alt 3 [1, 2, 0] (.alts [4] (.alt 4 [] (.alts [5] (.alt 5 [0, 2] (.done) (.stop))) (.stop))) (.alt 4 [] (.alts [3] (.alt 3 [1, 2, 0] (.alts [5] (.alt 5 [0, 2] (.done) (.stop))) (.stop))) (.stop)))) (.alt 4 [] (.alts [1] (.alt 1 [0] (.alts [3] (.alt 3 [1, 2, 0] (.alts [5] (.alt 5 [0, 2] (.done) (.stop))) (.stop))) (.stop))) (.stop)))))
def pawake42_99005 : Plan := .step 0 (.step 1 (.step 2 (.step 3 (.step 4 (.step 5 (.step 6 (.alts [7] (.alt 7 [1] (.step 8 (.alts [9] (.alt 9 [1, 3] (.step 10 (.alts [11] (.alt 11 [1, 3, 5] (.done) (.stop)))) (.stop)))) (.stop)))))))))
def pawake42_120001 : Plan := .step 0 (.step 2 (.alts [1] (.alt 1 [0] (.alts [3] (.alt 3 [1, 2, 0] (.step 4 (.done)) (.stop))) (.stop))))
def pawake42_137011 : Plan := .step 0 (.step 1 (.step 2 (.step 3 (.step 4 (.step 5 (.step 6 (.step 7 (.alts [8] (.alt 8 [4, 7, 0, 3, 5, 6, 1, 2] (.done) (.stop))))))))))
def pawake42_137015 : Plan := .step 0 (.step 1 (.step 2 (.step 3 (.step 4 (.step 5 (.step 6 (.step 7 (.alts [8] (.alt 8 [4, 7, 0, 3, 5, 6, 1, 2] (.done) (.stop))))))))))
def pawake42_138005 : Plan := .step 0 (.step 1 (.step 2 (.step 3 (.step 4 (.step 5 (.alts [6] (.alt 6 [2, 5, 0, 1, 3, 4] (.step 7 (.done)) (.stop))))))))
def pawake42_146003 : Plan := .step 0 (.step 1 (.step 2 (.step 3 (.step 4 (.step 5 (.step 6 (.step 7 (.step 8 (.step 9 (.step 10 (.step 11 (.step 12 (.alts [13] (.alt 13 [0, 1, 4, 5, 6, 7, 11, 12, 10, 8, 9] (.step 14 (.alts [15] (.alt 15 [7, 11] (.done) (.stop)))) (.stop)))))))))))))))
def pawake42_163001 : Plan := .step 0 (.step 1 (.step 2 (.step 3 (.step 4 (.step 5 (.step 6 (.step 7 (.alts [8, 9] (.alt 8 [] (.alts [9] (.alt 9 [] (.alts [10] (.alt 10 [3] (.alts [11] (.alt 11 [3, 7] (.done) (.stop))) (.stop))) (.stop))) (.alt 9 [] (.alts [8] (.alt 8 [] (.alts [10] (.alt 10 [3] (.alts [11] (.alt 11 [3, 7] (.done) (.stop))) (.stop))) (.stop))) (.stop)))))))))))
def pawake42_165000 : Plan := .step 0 (.step 1 (.step 2 (.step 3 (.step 4 (.step 5 (.alts [6] (.alt 6 [5, 4] (.alts [7] (.alt 7 [3, 6, 2, 5, 1, 4] (.step 8 (.alts [9] (.alt 9 [3] (.done) (.stop)))) (.stop))) (.stop))))))))
def pawake42_166000 : Plan := .step 0 (.step 1 (.step 2 (.step 3 (.step 4 (.step 5 (.step 6 (.step 7 (.step 8 (.step 9 (.step 10 (.step 11 (.step 12 (.alts [13] (.alt 13 [0, 1, 4, 5, 6, 7, 11, 12, 10, 8, 9] (.step 14 (.alts [15] (.alt 15 [7, 11] (.done) (.stop)))) (.stop)))))))))))))))
theorem mawake42 : Try.prog.follows .mixedOrders = true := by kernel_rfl
theorem vawake42 : ∃ C : Ctx, C.P = Try.prog ∧ COk C ∧ evB C 1000000 26 [] = some true :=
  ⟨{ P := Try.prog, fn := FT.get (.n 106 Try.f106 (.n 80 Try.f80 (.n 54 Try.f54 (.n 29 Try.f29 (.n 26 Try.f26 (.n 13 Try.f13 (.e) (.e)) (.n 27 Try.f27 (.e) (.e))) (.n 52 Try.f52 (.n 30 Try.f30 (.e) (.e)) (.n 53 Try.f53 (.e) (.e)))) (.n 77 Try.f77 (.n 56 Try.f56 (.n 55 Try.f55 (.e) (.e)) (.n 57 Try.f57 (.e) (.e))) (.n 79 Try.f79 (.n 78 Try.f78 (.e) (.e)) (.e)))) (.n 97 Try.f97 (.n 84 Try.f84 (.n 82 Try.f82 (.n 81 Try.f81 (.e) (.e)) (.n 83 Try.f83 (.e) (.e))) (.n 96 Try.f96 (.n 87 Try.f87 (.e) (.e)) (.e))) (.n 101 Try.f101 (.n 99 Try.f99 (.n 98 Try.f98 (.e) (.e)) (.n 100 Try.f100 (.e) (.e))) (.n 105 Try.f105 (.n 102 Try.f102 (.e) (.e)) (.e))))) (.n 135 Try.f135 (.n 122 Try.f122 (.n 119 Try.f119 (.n 117 Try.f117 (.n 108 Try.f108 (.e) (.e)) (.n 118 Try.f118 (.e) (.e))) (.n 121 Try.f121 (.n 120 Try.f120 (.e) (.e)) (.e))) (.n 126 Try.f126 (.n 124 Try.f124 (.n 123 Try.f123 (.e) (.e)) (.n 125 Try.f125 (.e) (.e))) (.n 134 Try.f134 (.n 133 Try.f133 (.e) (.e)) (.e)))) (.n 144 Try.f144 (.n 139 Try.f139 (.n 137 Try.f137 (.n 136 Try.f136 (.e) (.e)) (.n 138 Try.f138 (.e) (.e))) (.n 142 Try.f142 (.n 140 Try.f140 (.e) (.e)) (.e))) (.n 164 Try.f164 (.n 146 Try.f146 (.n 145 Try.f145 (.e) (.e)) (.n 163 Try.f163 (.e) (.e))) (.n 166 Try.f166 (.n 165 Try.f165 (.e) (.e)) (.e)))))), plan := fun g r => PT.get (.n 120001 pawake42_120001 (.n 55010 pawake42_55010 (.n 55005 pawake42_55005 (.n 54001 pawake42_54001 (.n 53001 pawake42_53001 (.e) (.e)) (.e)) (.n 55009 pawake42_55009 (.e) (.e))) (.n 99004 pawake42_99004 (.n 98003 pawake42_98003 (.e) (.e)) (.n 99005 pawake42_99005 (.e) (.e)))) (.n 146003 pawake42_146003 (.n 137015 pawake42_137015 (.n 137011 pawake42_137011 (.e) (.e)) (.n 138005 pawake42_138005 (.e) (.e))) (.n 165000 pawake42_165000 (.n 163001 pawake42_163001 (.e) (.e)) (.n 166000 pawake42_166000 (.e) (.e))))) (g * 1000 + r), prim := fun _ => none }, rfl, COk.of ⟨⟨Try.func106, eawake42_106⟩, ⟨⟨Try.func80, eawake42_80⟩, ⟨⟨Try.func54, eawake42_54⟩, ⟨⟨Try.func29, eawake42_29⟩, ⟨⟨Try.func26, eawake42_26⟩, ⟨⟨Try.func13, eawake42_13⟩, trivial, trivial⟩, ⟨⟨Try.func27, eawake42_27⟩, trivial, trivial⟩⟩, ⟨⟨Try.func52, eawake42_52⟩, ⟨⟨Try.func30, eawake42_30⟩, trivial, trivial⟩, ⟨⟨Try.func53, eawake42_53⟩, trivial, trivial⟩⟩⟩, ⟨⟨Try.func77, eawake42_77⟩, ⟨⟨Try.func56, eawake42_56⟩, ⟨⟨Try.func55, eawake42_55⟩, trivial, trivial⟩, ⟨⟨Try.func57, eawake42_57⟩, trivial, trivial⟩⟩, ⟨⟨Try.func79, eawake42_79⟩, ⟨⟨Try.func78, eawake42_78⟩, trivial, trivial⟩, trivial⟩⟩⟩, ⟨⟨Try.func97, eawake42_97⟩, ⟨⟨Try.func84, eawake42_84⟩, ⟨⟨Try.func82, eawake42_82⟩, ⟨⟨Try.func81, eawake42_81⟩, trivial, trivial⟩, ⟨⟨Try.func83, eawake42_83⟩, trivial, trivial⟩⟩, ⟨⟨Try.func96, eawake42_96⟩, ⟨⟨Try.func87, eawake42_87⟩, trivial, trivial⟩, trivial⟩⟩, ⟨⟨Try.func101, eawake42_101⟩, ⟨⟨Try.func99, eawake42_99⟩, ⟨⟨Try.func98, eawake42_98⟩, trivial, trivial⟩, ⟨⟨Try.func100, eawake42_100⟩, trivial, trivial⟩⟩, ⟨⟨Try.func105, eawake42_105⟩, ⟨⟨Try.func102, eawake42_102⟩, trivial, trivial⟩, trivial⟩⟩⟩⟩, ⟨⟨Try.func135, eawake42_135⟩, ⟨⟨Try.func122, eawake42_122⟩, ⟨⟨Try.func119, eawake42_119⟩, ⟨⟨Try.func117, eawake42_117⟩, ⟨⟨Try.func108, eawake42_108⟩, trivial, trivial⟩, ⟨⟨Try.func118, eawake42_118⟩, trivial, trivial⟩⟩, ⟨⟨Try.func121, eawake42_121⟩, ⟨⟨Try.func120, eawake42_120⟩, trivial, trivial⟩, trivial⟩⟩, ⟨⟨Try.func126, eawake42_126⟩, ⟨⟨Try.func124, eawake42_124⟩, ⟨⟨Try.func123, eawake42_123⟩, trivial, trivial⟩, ⟨⟨Try.func125, eawake42_125⟩, trivial, trivial⟩⟩, ⟨⟨Try.func134, eawake42_134⟩, ⟨⟨Try.func133, eawake42_133⟩, trivial, trivial⟩, trivial⟩⟩⟩, ⟨⟨Try.func144, eawake42_144⟩, ⟨⟨Try.func139, eawake42_139⟩, ⟨⟨Try.func137, eawake42_137⟩, ⟨⟨Try.func136, eawake42_136⟩, trivial, trivial⟩, ⟨⟨Try.func138, eawake42_138⟩, trivial, trivial⟩⟩, ⟨⟨Try.func142, eawake42_142⟩, ⟨⟨Try.func140, eawake42_140⟩, trivial, trivial⟩, trivial⟩⟩, ⟨⟨Try.func164, eawake42_164⟩, ⟨⟨Try.func146, eawake42_146⟩, ⟨⟨Try.func145, eawake42_145⟩, trivial, trivial⟩, ⟨⟨Try.func163, eawake42_163⟩, trivial, trivial⟩⟩, ⟨⟨Try.func166, eawake42_166⟩, ⟨⟨Try.func165, eawake42_165⟩, trivial, trivial⟩, trivial⟩⟩⟩⟩⟩ mawake42, by kernel_rfl⟩
theorem awake42_fc {G : GH}  : Fc Try.prog 26 [] G [] (fun v _ _ => v = .bool true) := by
  obtain ⟨C, h1, h2, h3⟩ := vawake42
  rw [← h1]
  exact evB_ok h2 h3 (fun _ => .bool true) (fun _ => rfl) VRs.nil G
end Go.Proofs.Ytcngningbcaggaa
