/- Tables for the evaluator. Nothing of the program is named here. No condition. -/
import Derived.Test.YtipdjeemjiimbaaEl
set_option linter.unusedVariables false
set_option linter.unusedSimpArgs false
set_option linter.unnecessarySimpa false
namespace Go.Fw
open Go Go.RowKit
/-- Functions by number. -/
inductive FT where
  | e
  | n (k : Nat) (f : Func) (l r : FT)
def FT.get : FT → Nat → Option Func
  | .e, _ => none
  | .n k f l r, g => bif Nat.beq g k then some f else bif Nat.blt g k then l.get g else r.get g
def FT.Ok (P : Program) : FT → Prop
  | .e => True
  | .n k f l r => (P.funcs[k]? = some f ∧ Callable P k) ∧ l.Ok P ∧ r.Ok P
theorem FT.get_ok {P : Program} : ∀ {t : FT} {g : Nat} {fn : Func}, t.Ok P → t.get g = some fn → P.funcs[g]? = some fn ∧ Callable P g
  | .e, _, _, _, h => by simp [FT.get] at h
  | .n k f l r, g, fn, ho, h => by
    simp only [FT.get] at h
    cases h1 : Nat.beq g k
    · simp only [h1, cond_false] at h
      cases h2 : Nat.blt g k
      · simp only [h2, cond_false] at h; exact FT.get_ok ho.2.2 h
      · simp only [h2, cond_true] at h; exact FT.get_ok ho.2.1 h
    · simp only [h1, cond_true, Option.some.injEq] at h
      have := Nat.eq_of_beq_eq_true h1
      subst this; subst h
      exact ho.1
/-- Plans by number. -/
inductive PT where
  | e
  | n (k : Nat) (p : Plan) (l r : PT)
def PT.get : PT → Nat → Option Plan
  | .e, _ => none
  | .n k p l r, g => bif Nat.beq g k then some p else bif Nat.blt g k then l.get g else r.get g
theorem COk.of {P : Program} {t : FT} {p : PT} (h : t.Ok P) (hm : P.follows .mixedOrders = true) : COk { P := P, fn := t.get, plan := fun g r => p.get (g * 1000 + r), prim := fun _ => none } :=
  ⟨fun g fn hg => FT.get_ok h hg, hm, fun g p args s v s' hp => by cases hp⟩
/-- With a function that is known by a contract. -/
theorem COk.withPrim {P : Program} {t : FT} {p : PT} (pr : Nat → Option (List AV → St → Option (AV × St))) (h : t.Ok P) (hm : P.follows .mixedOrders = true)
    (hp : ∀ g p args s v s', pr g = some p → p args s = some (v, s') → CallS P g args s v s') : COk { P := P, fn := t.get, plan := fun g r => p.get (g * 1000 + r), prim := pr } :=
  ⟨fun g fn hg => FT.get_ok h hg, hm, hp⟩
/-- A world in which only new blocks have come. -/
theorem Sim.later {w0 w w' : World} {V : Vl} {s : St} (h : Sim w0 V s w) (h1 : w'.os = w.os) (h2 : w'.tape = w.tape) (h3 : w'.output = w.output) (h4 : w.heap.size ≤ w'.heap.size) (h5 : ∀ b, b < w.heap.size → w'.heap[b]? = w.heap[b]?) : Sim w0 V s w' := by
  refine ⟨h1.trans h.os, h2.trans h.tape, h3.trans h.output, Nat.le_trans h.size h4, fun b hb => ?_, h.fresh, fun id x hx => ?_, h.inj⟩
  · rw [h5 b (by have := h.size; omega)]; exact h.keep b hb
  · obtain ⟨b, o, k1, k2, k3, k4⟩ := h.live id x hx
    exact ⟨b, o, k1, k2, by rw [h5 b (Array.getElem?_eq_some_iff.1 k3).1]; exact k3, k4⟩
/-- A contract of a call that hands back a value without memory. -/
theorem CallS.of_fc {P : Program} {g : FuncId} {args : List AV} {s : St} {x : AV} (hcl : Callable P g) (h : ∀ (V : Vl) (vs : List Value), VRs V args vs → ∃ z, VR V x z ∧ ∀ G, Fc P g vs G [] (fun v _ _ => v = z)) : CallS P g args s x s := by
  refine ⟨hcl, fun w0 V w vs hs hv => ?_⟩
  obtain ⟨z, hz, hfc⟩ := h V vs hv
  have hw : Real w (fun b => b ∈ (([] : MH).map (·.1))) (fun b => w.heap[b]?) [] w := ⟨rfl, rfl, rfl, Nat.le_refl _, fun _ _ _ => rfl, fun _ _ h => h, (fun _ h => nomatch h), (fun _ h => nomatch h), List.nodup_nil, (fun _ h => nomatch h)⟩
  refine ((hfc (fun b => w.heap[b]?)).2 w hw).mono ?_
  rintro e w' ⟨v, G', M', rfl, h1, h2, h3, rfl⟩
  exact ⟨V, v, Vx.rfl, rfl, hz, hs.later h1.os h1.tape h1.output h1.size (fun b hb => h1.keep b hb (by simp)), Nat.le_refl _⟩
end Go.Fw
