/- Lists of messages, each with its number, as they stand in a heap; the messages of some lists by their stamps. Plain Lean; nothing of the program is named here. No condition. -/
import Derived.Test.YtcngningbcaggaaQgNc
set_option linter.unusedVariables false
set_option linter.unusedSimpArgs false
set_option linter.unnecessarySimpa false

namespace Go.Fw
open Go Go.RowKit
abbrev Hd := List Msg × Int
def Hd.st (a : Hd) : Int := match a.1 with | [] => 0 | m :: _ => m.stamp
def Hd.lt (a b : Hd) : Bool := decide (a.st < b.st) || (decide (a.st = b.st) && decide (a.2 < b.2))
theorem Hd.st_at {a : Hd} (h : 0 < a.1.length) : a.st = a.1[0].stamp := by
 obtain ⟨l, n⟩ := a
 cases l with
 | nil => simp at h
 | cons m l => rfl
theorem Hd.lo : LO Hd.lt where
 asymm := fun {a b} h => by
  simp only [Hd.lt, Bool.or_eq_true, Bool.and_eq_true, decide_eq_true_eq] at h
  simp only [Hd.lt, Bool.or_eq_false_iff, Bool.and_eq_false_iff, decide_eq_false_iff_not]
  omega
 trans := fun {a b c} h1 h2 => by
  simp only [Hd.lt, Bool.or_eq_false_iff, Bool.and_eq_false_iff, decide_eq_false_iff_not] at h1 h2 ⊢
  omega
def HdC (G : GH) (cs : List Value) (a : Hd) : Prop := ∃ p c, cs = [.slice p a.1.length c, .int .i64 a.2] ∧ SlR eMsg G (.slice p a.1.length c) a.1 ∧ i64 a.2
theorem HdC.mono {G G' : GH} {cs a} (hl : Le G G') (h : HdC G cs a) : HdC G' cs a := by
 obtain ⟨p, c, h1, h2, h3⟩ := h; exact ⟨p, c, h1, h2.mono hl, h3⟩
def eHead : Enc Hd where
 k := 2
 w := 32
 R := HdC
 mono := fun hl h => h.mono hl
 len := fun h => by obtain ⟨p, c, h0, _⟩ := h; rw [h0]; rfl
 one := fun h u hu => by
  obtain ⟨p, c, h0, _⟩ := h
  rw [h0] at hu
  simp at hu
  rcases hu with rfl | rfl <;> rfl
end Go.Fw
