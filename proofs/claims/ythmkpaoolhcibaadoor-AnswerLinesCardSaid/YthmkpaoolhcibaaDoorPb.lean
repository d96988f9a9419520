/- An answer as a line. Nothing of the program is named here. No condition. -/
import Derived.Test.YthmkpaoolhcibaaDoorOz
import Derived.Test.YthmkpaoolhcibaaDoorMl
import Derived.Lib.ItoaNum
set_option linter.unusedVariables false
set_option linter.unusedSimpArgs false
namespace Go.Fw
open Go Go.RowKit

def Str.app (a b : Str) : Str := mkStr (a.l ++ b.l)
theorem Str.b_mk (s : Str) : s.b = ⟨s.l.toArray⟩ := by simp [Str.l]
theorem app_b {a b : Str} (h : a.l.length + b.l.length ≤ 140737488355328) : a.b ++ b.b = (a.app b).b := by
  rw [a.b_mk, b.b_mk, b_add, Str.app, mkStr_b (by simpa using h)]
theorem mkStr_ll {l : List UInt8} (h : l.length ≤ 140737488355328) : (mkStr l).l = l := by simp [Str.l, mkStr_b h]
theorem mkStr_le (l : List UInt8) : (mkStr l).l.length ≤ l.length := by
  unfold mkStr
  split
  · simp [Str.l]
  · simp [Str.l, Str.nil]
theorem app_le (a b : Str) : (a.app b).l.length ≤ a.l.length + b.l.length := by have := mkStr_le (a.l ++ b.l); simpa [Str.app] using this
theorem quoN_le (s : Str) : (quoN s).l.length ≤ 3 * s.l.length + 1 := by
  unfold quoN
  split
  · simp [dashS, Str.l]
  · have := mkStr_le (quoL s.l); have := quoL_len s.l; omega
def decN (n : Int) : Str := mkStr (Lib.itoa n)
def txt (l : List UInt8) : Str := mkStr l
def errS : Str := ⟨⟨#[101, 114, 114, 111, 114, 32]⟩, by decide⟩
def hasS : Str := ⟨⟨#[104, 97, 115, 32]⟩, by decide⟩
def noneS : Str := ⟨⟨#[110, 111, 110, 101]⟩, by decide⟩
def pairsS : Str := ⟨⟨#[112, 97, 105, 114, 115, 32]⟩, by decide⟩
def okS : Str := ⟨⟨#[111, 107]⟩, by decide⟩
def blankS : Str := ⟨⟨#[32]⟩, by decide⟩
def eqS : Str := ⟨⟨#[61]⟩, by decide⟩
def rowS (p : Pair) : Str := ((blankS.app (quoN p.key)).app eqS).app (quoN p.val)
def rowsS (s : Str) : List Pair → Str
  | [] => s
  | p :: l => rowsS (s.app (rowS p)) l
def lineN (kind : Int) (a : Ans) : Str :=
  if a.err ≠ 0 then errS.app (decN a.err) else if kind = 5 then (if a.has = true then hasS.app (quoN a.val) else noneS)
  else if kind = 6 then rowsS (pairsS.app (decN (a.rows.length : Int))) a.rows else okS
theorem lineN_has {kind : Int} {a : Ans} (h : a.err = 0) (hk : kind = 5) (hh : a.has = true) : lineN kind a = hasS.app (quoN a.val) := by simp [lineN, h, hk, hh]

def exA : Str := ⟨⟨#[97]⟩, by decide⟩
def ex1 : Str := ⟨⟨#[49]⟩, by decide⟩
theorem ex10_R : PairsR [⟨exA, ex1⟩] := by decide +kernel
theorem ex10_do : doN [⟨exA, ex1⟩] ⟨5, exA, Str.nil, false, Str.nil, 0⟩ = ([⟨exA, ex1⟩], ⟨0, true, ex1, []⟩) := by decide +kernel
theorem ex10_line : (hasS.app (quoN ex1)).b = ⟨#[104, 97, 115, 32, 49]⟩ := by decide +kernel
end Go.Fw
