/- What a sweep gets of a leaf. Plain Lean; nothing of the program is named here. No condition. -/
import Derived.Test.YtcngningbcaggaaQgMi
set_option linter.unusedVariables false
set_option linter.unusedSimpArgs false
set_option linter.unnecessarySimpa false

namespace Go.Fw
def cutN (l : List Pair) (n : Int) : Nat := (max 0 (min (l.length : Int) n)).toNat
def partN (l : List Pair) (s : Span) (ms : List Msg) (c : Str) (n : Int) : List Pair × Str × Bool :=
 if s.empty = true then ([], c, true) else ((foldN (l.filter fun p => Span.has s p.key) (clips s ms)).take (cutN (foldN (l.filter fun p => Span.has s p.key) (clips s ms)) n), (if s.opn = true then Str.nil else s.hi), s.opn || decide (n ≤ ((foldN (l.filter fun p => Span.has s p.key) (clips s ms)).length : Int)))
theorem partN_n {l : List Pair} {s : Span} {ms : List Msg} {c : Str} {n : Int} (h : s.empty = false) {x : Str} {b : Bool} (hx : x = if s.opn = true then Str.nil else s.hi) (hb : b = (s.opn || decide (n ≤ ((foldN (l.filter fun p => Span.has s p.key) (clips s ms)).length : Int)))) :
  partN l s ms c n = ((foldN (l.filter fun p => Span.has s p.key) (clips s ms)).take (cutN (foldN (l.filter fun p => Span.has s p.key) (clips s ms)) n), x, b) := by rw [partN, if_neg (by simp [h]), hx, hb]
end Go.Fw
