/- The example of chapter 22 is run by the evaluator. -/
import Derived.Test.YtmadhgdplocfbaaProg
import Derived.Test.YtmadhgdplocfbaaEn
namespace Go.Proofs.Ytmadhgdplocfbaa
open Go Go.Fw Go.RowKit
set_option maxRecDepth 1000000
set_option linter.unusedVariables false
theorem eawake22_22 : Callable Try.prog 22 := callable_of Try.func22 rfl (by decide)
theorem eawake22_40 : Callable Try.prog 40 := callable_of Try.func40 rfl (by decide)
theorem eawake22_52 : Callable Try.prog 52 := callable_of Try.func52 rfl (by decide)
theorem eawake22_53 : Callable Try.prog 53 := callable_of Try.func53 rfl (by decide)
theorem eawake22_122 : Callable Try.prog 122 := callable_of Try.func122 rfl (by decide)
theorem eawake22_131 : Callable Try.prog 131 := callable_of Try.func131 rfl (by decide)
theorem eawake22_132 : Callable Try.prog 132 := callable_of Try.func132 rfl (by decide)
theorem eawake22_138 : Callable Try.prog 138 := callable_of Try.func138 rfl (by decide)
theorem eawake22_139 : Callable Try.prog 139 := callable_of Try.func139 rfl (by decide)
theorem eawake22_173 : Callable Try.prog 173 := callable_of Try.func173 rfl (by decide)
theorem eawake22_177 : Callable Try.prog 177 := callable_of Try.func177 rfl (by decide)
theorem eawake22_192 : Callable Try.prog 192 := callable_of Try.func192 rfl (by decide)
theorem eawake22_193 : Callable Try.prog 193 := callable_of Try.func193 rfl (by decide)
theorem eawake22_194 : Callable Try.prog 194 := callable_of Try.func194 rfl (by decide)
theorem eawake22_212 : Callable Try.prog 212 := callable_of Try.func212 rfl (by decide)
theorem eawake22_218 : Callable Try.prog 218 := callable_of Try.func218 rfl (by decide)
theorem eawake22_221 : Callable Try.prog 221 := callable_of Try.func221 rfl (by decide)
theorem eawake22_229 : Callable Try.prog 229 := callable_of Try.func229 rfl (by decide)
theorem eawake22_230 : Callable Try.prog 230 := callable_of Try.func230 rfl (by decide)
theorem eawake22_233 : Callable Try.prog 233 := callable_of Try.func233 rfl (by decide)
theorem eawake22_240 : Callable Try.prog 240 := callable_of Try.func240 rfl (by decide)
theorem eawake22_241 : Callable Try.prog 241 := callable_of Try.func241 rfl (by decide)
theorem eawake22_244 : Callable Try.prog 244 := callable_of Try.func244 rfl (by decide)
def pawake22_40004 : Plan := .step 0 (.step 1 (.step 2 (.step 3 (.step 5 (.step 6 (.step 7 (.step 9 (.step 10 (.step 11 (.step 12 (.step 13 (.step 14 (.step 15 (.step 16 (.step 18 (.step 19 (.step 20 (.alts [4] (.alt 4 [3, 0, 2, 1] (.alts [8] (.alt 8 [4, 7, 3, 5, 6, 0, 2, 1] (.alts [17] (.alt 17 [8, 16, 4, 7, 14, 15, 3, 5, 6, 0, 2, 1] (.alts [21] (.alt 21 [17, 20, 8, 16, 18, 19, 4, 7, 14, 15, 3, 5, 6, 0, 2, 1] (.step 22 (.step 23 (.step 24 (.step 25 (.step 26 (.step 27 (.done))))))) (.stop))) (.stop))) (.stop))) (.stop))))))))))))))))))))
def pawake22_53006 : Plan := .step 0 (.step 2 (.step 4 (.alts [1] (.alt 1 [0] (.alts [3] (.alt 3 [1, 2, 0] (.alts [5] (.alt 5 [0, 1, 3, 2] (.alts [6] (.alt 6 [0, 2] (.step 7 (.step 8 (.done))) (.stop))) (.stop))) (.stop))) (.stop)))))
def pawake22_138001 : Plan := .step 0 (.step 1 (.alts [2] (.alt 2 [0] (.alts [3] (.alt 3 [0, 1] (.done) (.stop))) (.stop))))
def pawake22_138004 : Plan := .step 0 (.step 1 (.step 2 (.step 3 (.alts [4] (.alt 4 [0] (.alts [5] (.alt 5 [0, 1] (.step 6 (.step 7 (.done))) (.stop))) (.stop))))))
def pawake22_138006 : Plan := .step 0 (.step 1 (.alts [2] (.alt 2 [0] (.alts [3] (.alt 3 [0, 1] (.step 4 (.step 5 (.done))) (.stop))) (.stop))))
def pawake22_138008 : Plan := .step 0 (.step 1 (.step 2 (.step 3 (.step 5 (.step 6 (.step 7 (.step 8 (.alts [4] (.alt 4 [1, 3, 0, 2] (.step 10 (.alts [9] (.alt 9 [4, 6, 8, 1, 3, 5, 7, 0, 2] (.alts [11] (.alt 11 [0, 1, 2, 3, 4, 9, 10, 6, 8, 5, 7] (.step 12 (.alts [13] (.alt 13 [1, 6] (.done) (.stop)))) (.stop))) (.stop)))) (.stop))))))))))
def pawake22_138009 : Plan := .step 0 (.step 1 (.step 2 (.step 3 (.alts [4] (.alt 4 [0] (.alts [5] (.alt 5 [0, 1] (.step 6 (.step 7 (.done))) (.stop))) (.stop))))))
def pawake22_139001 : Plan := .step 0 (.step 1 (.step 3 (.step 4 (.alts [2] (.alt 2 [1, 0] (.step 6 (.alts [5] (.alt 5 [2, 4, 1, 3, 0] (.alts [7] (.alt 7 [1, 4] (.step 8 (.alts [9] (.alt 9 [1, 4] (.done) (.stop)))) (.stop))) (.stop)))) (.stop))))))
def pawake22_139002 : Plan := .step 0 (.step 1 (.step 3 (.step 4 (.alts [2] (.alt 2 [1, 0] (.step 6 (.alts [5] (.alt 5 [2, 4, 1, 3, 0] (.alts [7] (.alt 7 [1, 4] (.step 8 (.alts [9] (.alt 9 [1, 4] (.done) (.stop)))) (.stop))) (.stop)))) (.stop))))))
def pawake22_192004 : Plan := .step 0 (.step 1 (.step 2 (.step 3 (.step 4 (.step 5 (.step 6 (.step 7 (.step 8 (.step 9 (.step 10 (.alts [11] (.alt 11 [5, 10, 4, 9, 3, 8, 0, 2, 6, 7, 1] (.step 12 (.step 13 (.step 14 (.step 15 (.done))))) (.stop)))))))))))))
def pawake22_192005 : Plan := .step 0 (.step 1 (.step 2 (.step 4 (.step 5 (.step 6 (.step 8 (.alts [3] (.alt 3 [2, 0, 1] (.alts [7] (.alt 7 [3, 6, 2, 4, 5, 0, 1] (.step 9 (.step 10 (.step 11 (.step 12 (.done))))) (.stop))) (.stop)))))))))
def pawake22_212004 : Plan := .step 0 (.step 2 (.alts [1, 4] (.alt 1 [0] (.alts [3, 4] (.alt 3 [1, 2, 0] (.alts [4] (.alt 4 [] (.alts [5] (.alt 5 [0, 2] (.done) (.stop))) (.stop))) (.alt 4 [] (.alts [3] (.alt 3 [1, 2, 0] (.alts [5] (.alt 5 [0, 2] (.done) (.stop))) (.stop))) (.stop)))) (.alt 4 [] (.alts [1] (.alt 1 [0] (.alts [3] (.alt 3 [1, 2, 0] (.alts [5] (.alt 5 [0, 2] (.done) (.stop))) (.stop))) (.stop))) (.stop)))))
def pawake22_212005 : Plan := .step 0 (.step 1 (.step 2 (.step 3 (.step 4 (.step 5 (.step 6 (.alts [7] (.alt 7 [1] (.step 8 (.alts [9] (.alt 9 [1, 3] (.step 10 (.alts [11] (.alt 11 [1, 3, 5] (.done) (.stop)))) (.stop)))) (.stop)))))))))
def pawake22_229001 : Plan := .step 0 (.step 2 (.alts [1] (.alt 1 [0] (.alts [3] (.alt 3 [1, 2, 0] (.step 4 (.done)) (.stop))) (.stop))))
theorem mawake22 : Try.prog.follows .mixedOrders = true := by kernel_rfl
theorem vawake22 : ∃ C : Ctx, C.P = Try.prog ∧ COk C ∧ evB C 1000000 52 [] = some true :=
  ⟨{ P := Try.prog, fn := FT.get (.n 192 Try.f192 (.n 131 Try.f131 (.n 52 Try.f52 (.n 40 Try.f40 (.n 22 Try.f22 (.e) (.e)) (.e)) (.n 122 Try.f122 (.n 53 Try.f53 (.e) (.e)) (.e))) (.n 139 Try.f139 (.n 138 Try.f138 (.n 132 Try.f132 (.e) (.e)) (.e)) (.n 177 Try.f177 (.n 173 Try.f173 (.e) (.e)) (.e)))) (.n 229 Try.f229 (.n 212 Try.f212 (.n 194 Try.f194 (.n 193 Try.f193 (.e) (.e)) (.e)) (.n 221 Try.f221 (.n 218 Try.f218 (.e) (.e)) (.e))) (.n 240 Try.f240 (.n 233 Try.f233 (.n 230 Try.f230 (.e) (.e)) (.e)) (.n 244 Try.f244 (.n 241 Try.f241 (.e) (.e)) (.e))))), plan := fun g r => PT.get (.n 139001 pawake22_139001 (.n 138004 pawake22_138004 (.n 53006 pawake22_53006 (.n 40004 pawake22_40004 (.e) (.e)) (.n 138001 pawake22_138001 (.e) (.e))) (.n 138008 pawake22_138008 (.n 138006 pawake22_138006 (.e) (.e)) (.n 138009 pawake22_138009 (.e) (.e)))) (.n 212004 pawake22_212004 (.n 192004 pawake22_192004 (.n 139002 pawake22_139002 (.e) (.e)) (.n 192005 pawake22_192005 (.e) (.e))) (.n 229001 pawake22_229001 (.n 212005 pawake22_212005 (.e) (.e)) (.e)))) (g * 1000 + r), prim := fun _ => none }, rfl, COk.of ⟨⟨Try.func192, eawake22_192⟩, ⟨⟨Try.func131, eawake22_131⟩, ⟨⟨Try.func52, eawake22_52⟩, ⟨⟨Try.func40, eawake22_40⟩, ⟨⟨Try.func22, eawake22_22⟩, trivial, trivial⟩, trivial⟩, ⟨⟨Try.func122, eawake22_122⟩, ⟨⟨Try.func53, eawake22_53⟩, trivial, trivial⟩, trivial⟩⟩, ⟨⟨Try.func139, eawake22_139⟩, ⟨⟨Try.func138, eawake22_138⟩, ⟨⟨Try.func132, eawake22_132⟩, trivial, trivial⟩, trivial⟩, ⟨⟨Try.func177, eawake22_177⟩, ⟨⟨Try.func173, eawake22_173⟩, trivial, trivial⟩, trivial⟩⟩⟩, ⟨⟨Try.func229, eawake22_229⟩, ⟨⟨Try.func212, eawake22_212⟩, ⟨⟨Try.func194, eawake22_194⟩, ⟨⟨Try.func193, eawake22_193⟩, trivial, trivial⟩, trivial⟩, ⟨⟨Try.func221, eawake22_221⟩, ⟨⟨Try.func218, eawake22_218⟩, trivial, trivial⟩, trivial⟩⟩, ⟨⟨Try.func240, eawake22_240⟩, ⟨⟨Try.func233, eawake22_233⟩, ⟨⟨Try.func230, eawake22_230⟩, trivial, trivial⟩, trivial⟩, ⟨⟨Try.func244, eawake22_244⟩, ⟨⟨Try.func241, eawake22_241⟩, trivial, trivial⟩, trivial⟩⟩⟩⟩ mawake22, by kernel_rfl⟩
theorem awake22_fc {G : GH}  : Fc Try.prog 52 [] G [] (fun v _ _ => v = .bool true) := by
  obtain ⟨C, h1, h2, h3⟩ := vawake22
  rw [← h1]
  exact evB_ok h2 h3 (fun _ => .bool true) (fun _ => rfl) VRs.nil G
end Go.Proofs.Ytmadhgdplocfbaa
