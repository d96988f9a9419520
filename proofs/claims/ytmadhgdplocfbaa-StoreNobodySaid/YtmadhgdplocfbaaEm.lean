/- Tables for the evaluator. Nothing of the program is named here. No condition. -/
import Derived.Test.YtmadhgdplocfbaaEl
set_option linter.unusedVariables false
namespace Go.Fw
open Go Go.RowKit
/-- Functions by number. -/
inductive FT where
  | e
  | n (k : Nat) (f : Func) (l r : FT)
def FT.get : FT → Nat → Option Func
  | .e, _ => none
  | .n k f l r, g => bif Nat.beq g k then some f else bif Nat.blt g k then l.get g else r.get g
def FT.Ok (P : Program) : FT → Prop
  | .e => True
  | .n k f l r => (P.funcs[k]? = some f ∧ Callable P k) ∧ l.Ok P ∧ r.Ok P
theorem FT.get_ok {P : Program} : ∀ {t : FT} {g : Nat} {fn : Func}, t.Ok P → t.get g = some fn → P.funcs[g]? = some fn ∧ Callable P g
  | .e, _, _, _, h => by simp [FT.get] at h
  | .n k f l r, g, fn, ho, h => by
    simp only [FT.get] at h
    cases h1 : Nat.beq g k
    · simp only [h1, cond_false] at h
      cases h2 : Nat.blt g k
      · simp only [h2, cond_false] at h; exact FT.get_ok ho.2.2 h
      · simp only [h2, cond_true] at h; exact FT.get_ok ho.2.1 h
    · simp only [h1, cond_true, Option.some.injEq] at h
      have := Nat.eq_of_beq_eq_true h1
      subst this; subst h
      exact ho.1
/-- Plans by number. -/
inductive PT where
  | e
  | n (k : Nat) (p : Plan) (l r : PT)
def PT.get : PT → Nat → Option Plan
  | .e, _ => none
  | .n k p l r, g => bif Nat.beq g k then some p else bif Nat.blt g k then l.get g else r.get g
theorem COk.of {P : Program} {t : FT} {p : PT} (h : t.Ok P) (hm : P.follows .mixedOrders = true) : COk { P := P, fn := t.get, plan := fun g r => p.get (g * 1000 + r), prim := fun _ => none } :=
  ⟨fun g fn hg => FT.get_ok h hg, hm, fun g p args s v s' hp => by cases hp⟩
end Go.Fw
