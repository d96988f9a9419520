/- More operations on strings. Nothing of the program is named here. No condition. -/
import Derived.Test.YtipdjeemjiimbaaFs
import Derived.Test.YtipdjeemjiimbaaDt
set_option linter.unusedVariables false
set_option linter.unusedSimpArgs false
set_option linter.unnecessarySimpa false
namespace Go.Fw
open Go Go.RowKit
def Str.max (a b : Str) : Str := if a.lt b = true then b else a
def Str.min (a b : Str) : Str := if (a.lt b || decide (a = b)) = true then a else b
section
variable {E : Env} {f : Fr} {G : GH} {M : MH} {d : Nat} {ty : TypeId} {pos : String} {aft : Array Edge} {t t' : TypeId} {x y : Operand} {a b : ByteArray}
theorem ok_addS (hx : ev f x = .string a) (hy : ev f y = .string b) (h : a.size + b.size ≤ 9223372036854775807) : Ok E f G M ⟨some d, .binOp .add t x y t', ty, pos, aft, none⟩ (.string (a ++ b)) := fun w _ => by
  have h2 : ¬ (((a.size + b.size : Nat) : Int) > IntKind.i64.max) := by simp [IntKind.max, IntKind.bits, IntKind.signed]; omega
  simp only [execOp, hx, hy, eqGuard, binOp, Op.stringOp]
  rw [if_neg h2]
  simp
theorem ok_maxS {a b : Str} (hx : ev f x = .string a.b) (hy : ev f y = .string b.b) {at' : Array TypeId} :
    Ok E f G M ⟨some d, .call { callee := .builtin .max, args := #[x, y], argTypes := at' }, ty, pos, aft, none⟩ (.string (Str.max a b).b) := fun _ _ => by
  simp [execOp, resolve, invoke, builtin, hx, hy, Builtin.max_, Builtin.max2, Str.max, Str.lt, blt, Op.stringOp, asBool]
  split <;> simp_all
theorem ok_minS {a b : Str} (hx : ev f x = .string a.b) (hy : ev f y = .string b.b) {at' : Array TypeId} :
    Ok E f G M ⟨some d, .call { callee := .builtin .min, args := #[x, y], argTypes := at' }, ty, pos, aft, none⟩ (.string (Str.min a b).b) := fun _ _ => by
  simp only [execOp, resolve, invoke, builtin, Builtin.min_, Builtin.min2, Str.min, Str.lt, blt, Op.stringOp, asBool, beq_toList]
  simp [hx, hy, Builtin.min2, Op.stringOp, asBool, beq_toList, ← Str.b_inj]
  split <;> simp_all
end
end Go.Fw
