/-
  DERIVED. GIVEN WITH THE SEED: THE CARDS: each row of YthmkpaoolhcibaaDoorRows.lean that lists a variable, with what it lists TIED to the program's text (the seventh form; the later family's looks); each row that meets fmt, with fmt's text TOLD by the authors' own Lean function (tested against real Go, not proved from fmt's source: count such statements apart). THE CARD IS WHAT COUNTS. Prove the row's statement (the work); the ties are given (YthmkpaoolhcibaaDoorTie.lean); close each card by the builder's one call (the guide's Derived/Test/ToyasCard.lean, 'card_holds'). Laid BY PROGRAM, IN A SANDBOX (cutbox-door.mjs). By AI agents, Wed Nov 11 2026. No macro, syntax, notation, axiom, sorry.
-/
import Derived.Test.YthmkpaoolhcibaaDoorRows
import GoSem.ClaimSeven
namespace Go.Proofs.YthmkpaoolhcibaaDoor
namespace Rows

/-- THE TIED CARD OF 'percolatelaw10.AnswerLines'. -/
def answerLinesCard : Claim7 := { stood := { row := answerLinesRow, standIns := [], harness := (true, "b80de7a04c482fb8cbe9c5d6c95051a36a40f730897490ef19c695e174839f5a"), looks := false }, kinds := [], alts := [], laidByText := true, laidKinds := [.data, .data, .data], laidTests := true, laidLooks := .later }
def AnswerLinesCardSaid : Prop := Claim7.holds Tryd.pinned (.plain (OpenSpec.ofChange answerLinesSpec)) answerLinesCard

/-- THE TIED CARD OF 'percolatelaw10.AnswerDoes'. -/
def answerDoesCard : Claim7 := { stood := { row := answerDoesRow, standIns := [], harness := (true, "b80de7a04c482fb8cbe9c5d6c95051a36a40f730897490ef19c695e174839f5a"), looks := false }, kinds := [], alts := [], laidByText := true, laidKinds := [.data, .data, .data], laidTests := true, laidLooks := .later }
def AnswerDoesCardSaid : Prop := Claim7.holds Tryd.pinned (.plain (OpenSpec.ofChange answerDoesSpec)) answerDoesCard

/-- THE SECOND FORM's CARD OF 'percolatelaw10.AnswerLines'. -/
def answerLinesUptoCard : Claim7 := { stood := { row := answerLinesUptoRow, standIns := [], harness := (true, "b80de7a04c482fb8cbe9c5d6c95051a36a40f730897490ef19c695e174839f5a"), looks := false }, kinds := [], alts := [], laidByText := true, laidKinds := [.data, .data, .data], laidTests := true, laidLooks := .later }
def AnswerLinesUptoCardSaid : Prop := Claim7.holds Tryd.pinned (.plain (OpenSpec.upto answerLinesSpec)) answerLinesUptoCard

/-- THE SECOND FORM's CARD OF 'percolatelaw10.AnswerDoes'. -/
def answerDoesUptoCard : Claim7 := { stood := { row := answerDoesUptoRow, standIns := [], harness := (true, "b80de7a04c482fb8cbe9c5d6c95051a36a40f730897490ef19c695e174839f5a"), looks := false }, kinds := [], alts := [], laidByText := true, laidKinds := [.data, .data, .data], laidTests := true, laidLooks := .later }
def AnswerDoesUptoCardSaid : Prop := Claim7.holds Tryd.pinned (.plain (OpenSpec.upto answerDoesSpec)) answerDoesUptoCard
end Rows
end Go.Proofs.YthmkpaoolhcibaaDoor
