/- A node in two, case by case. No condition. -/
import Derived.Test.YtmadhgdplocfbaaMo
set_option linter.unusedVariables false
namespace Go.Fw
open Go
theorem cleave_lf {n : Nd} {i : Int} (h0 : n.level = 0) (h : n.rows.length < 2) : cleaveN n i = (Nd.zero, Nd.zero, Str.nil, false) :=
  cleaveN_f (by rw [halvesN_0 h0]; show (rowsN n.rows).2.2.2 = false; rw [rowsN_f h])
theorem cleave_lt {n : Nd} {i : Int} (h0 : n.level = 0) (h : ¬ n.rows.length < 2) : cleaveN n i =
    ({ n with rows := n.rows.take ((n.rows.length + 1) / 2), high := (betweenN (n.rows[(n.rows.length + 1) / 2 - 1]'(by omega)).key (n.rows[(n.rows.length + 1) / 2]'(by omega)).key).1, top := false, right := i },
     { n with rows := n.rows.drop ((n.rows.length + 1) / 2), slot := i }, (betweenN (n.rows[(n.rows.length + 1) / 2 - 1]'(by omega)).key (n.rows[(n.rows.length + 1) / 2]'(by omega)).key).1, true) := by
  have hh := halvesN_0 h0
  rw [rowsN_t h] at hh
  rw [cleaveN_t (by rw [hh]), hh]
theorem cleave_if {n : Nd} {i : Int} (h0 : ¬ n.level = 0) (h : n.kids.length < 4 ∨ rightN n.pivots n.kids.length = false) : cleaveN n i = (Nd.zero, Nd.zero, Str.nil, false) := by
  refine cleaveN_f ?_
  cases hr : rightN n.pivots n.kids.length
  · rw [halvesN_n h0 hr]
  · rw [halvesN_k h0 hr]
    show (halveN n.pivots n.kids).2.2.2.2.2 = false
    rw [halveN_f (by rcases h with h | h; exact .inl h; rw [h] at hr; cases hr)]
theorem cleave_it {n : Nd} {i : Int} (h0 : ¬ n.level = 0) (h : ¬ n.kids.length < 4) (hr : rightN n.pivots n.kids.length = true) (hl : n.kids.length = n.pivots.length + 1) : cleaveN n i =
    ({ n with pivots := n.pivots.take ((n.kids.length + 1) / 2 - 1), kids := n.kids.take ((n.kids.length + 1) / 2), msgs := clips ⟨Str.nil, n.pivots[(n.kids.length + 1) / 2 - 1]'(by omega), false⟩ n.msgs, high := n.pivots[(n.kids.length + 1) / 2 - 1]'(by omega), top := false, right := i },
     { n with pivots := n.pivots.drop ((n.kids.length + 1) / 2), kids := n.kids.drop ((n.kids.length + 1) / 2), msgs := clips ⟨n.pivots[(n.kids.length + 1) / 2 - 1]'(by omega), Str.nil, true⟩ n.msgs, slot := i }, n.pivots[(n.kids.length + 1) / 2 - 1]'(by omega), true) := by
  have hh := halvesN_k h0 hr
  rw [halveN_t (by omega)] at hh
  rw [cleaveN_t (by rw [hh]), hh]
end Go.Fw
