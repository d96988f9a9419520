/- Regions that draw their order: several operations that may come up next. Nothing of the program is named here. No condition. -/
import Derived.Test.YtipdjeemjiimbaaFs
import Derived.Test.YtipdjeemjiimbaaDt
set_option linter.unusedVariables false
set_option linter.unusedSimpArgs false
set_option linter.unnecessarySimpa false
namespace Go.Fw
open Go Go.RowKit
def EachL (p : Nat → Prop) : List Nat → Prop
  | [] => True
  | i :: l => p i ∧ EachL p l
theorem EachL.mem {p : Nat → Prop} : ∀ {l : List Nat}, EachL p l → ∀ i ∈ l, p i
  | _ :: _, h, i, hi => by
    rcases List.mem_cons.1 hi with rfl | hi
    · exact h.1
    · exact h.2.mem i hi
theorem W.sub {E : Env} {f : Fr} {G : GH} {M M' : MH} {ops lo : List Oper} {K : Kt} (hs : M'.Sublist M) (h : W E ops.toArray false lo f G M' K) : W E ops.toArray false lo f G M K := fun a w Q hi hr hK => h a w Q hi (hr.sub hs) hK
section
variable {E : Env} {f : Fr} {G : GH} {M Mk : MH} {ops : Array Oper} {K : Kt} {fuel : Nat} {listed : Array Bool}
/-- Whichever comes up next: each by the rule of its kind. -/
theorem WD.any (rs : List Nat) (hr : Region.ready .any ops listed = rs) (hne : rs.isEmpty = false)
    (h : EachL (fun i => ∃ o, ops[i]? = some o ∧ o.guard = none ∧ W E [o].toArray false [o] f G M (fun f' G' M' => Le G G' ∧ Mk.Sublist M' ∧ ∃ Mk', Mk'.Sublist M' ∧ Mk.Sublist Mk' ∧ WD E ops fuel (listed.setIfInBounds i true) f' G' M' Mk' K)) rs) : WD E ops (fuel + 1) listed f G M Mk K := by
  intro hsub a w Q hi hw hp hK
  refine wpAnyH_all hr (by intro e; subst e; cases hne) ?_
  intro j hj
  obtain ⟨o, ho, hg, h⟩ := h.mem j hj
  have h1 := h a w (fun e a' w' => e = .normal ∧ E.real G Mk w' ∧ wpAnyH E.P .any ops Q (E.real G Mk) fuel (listed.setIfInBounds j true) a' w') hi hw (by
    rintro f' G' M' a' w' h2 h3 ⟨h4, h5, Mk', h6, h7, h8⟩
    have h9 : E.real G' Mk w' := ⟨h3.r.sub h5, h3.le, h3.nw⟩
    refine ⟨rfl, h9.anti h4 hw.le, ?_⟩
    refine wpAnyH_mono (S := E.real G' Mk') (fun w hw' => ?_) _ _ _ _ (h8 h6 a' w' Q h2 h3 hp hK)
    have h10 : E.real G' Mk w := ⟨hw'.r.sub h7, hw'.le, hw'.nw⟩
    exact h10.anti h4 hw.le)
  unfold wpList at h1
  rw [if_pos (by simp [Region.wanted, hg])] at h1
  unfold wpOp
  simp only [ho]
  rw [if_pos (by simp [Region.wanted, hg])]
  rcases h1 with h1 | ⟨_, a1, w1, h1, _⟩
  · left
    unfold Oper.wp at h1 ⊢
    exact upon_mono2 h1 (fun a' w' h2 => h2.2) (fun e a' w' he h2 => absurd h2.1 he)
  · cases h1
end

/-! ### Pieces of strings -/
def Str.cut (a : Str) (lo hi : Nat) : Str := ⟨a.b.extract lo hi, by have := a.le; rw [ByteArray.size_extract]; omega⟩
section
variable {E : Env} {f : Fr} {G : GH} {M : MH} {d : Nat} {ty : TypeId} {pos : String} {aft : Array Edge} {t : TypeId} {x : Operand}
theorem ok_sliceS {a : Str} {lo hi : Option Operand} (l h : Nat) (ht : E.P.underlying t = some .string) (hx : ev f x = .string a.b) (hlo : Bnd f 0 l lo) (hhi : Bnd f a.b.size h hi) (hab : l ≤ h ∧ h ≤ a.b.size) :
    Ok E f G M ⟨some d, .slice t x lo hi none, ty, pos, aft, none⟩ (.string (a.cut l h).b) := fun w _ => by
  obtain ⟨h1, h2⟩ := hab
  have hb : (Instr.sliceBounds false a.b.size a.b.size (lo.map (ev f)) (hi.map (ev f)) none).run E.P w = .ok (l, h, a.b.size) w := by
    cases lo with
    | none =>
      simp only [Bnd] at hlo
      subst hlo
      cases hi with
      | none => simp only [Bnd] at hhi; subst hhi; simp [Instr.sliceBounds]
      | some y =>
        have := run_bnd (P := E.P) (f := f) (x := y) (n := h) (y := a.b.size) (code := .sliceAlen) hhi (by omega) w
        simp [Instr.sliceBounds, this]
    | some z =>
      have hz := run_bnd (P := E.P) (f := f) (x := z) (n := l) (y := h) (code := .sliceB) hlo h1 w
      cases hi with
      | none => simp only [Bnd] at hhi; subst hhi; simp [Instr.sliceBounds, hz]
      | some y =>
        have := run_bnd (P := E.P) (f := f) (x := y) (n := h) (y := a.b.size) (code := .sliceAlen) hhi (by omega) w
        simp [Instr.sliceBounds, this, hz]
  simp only [execOp, Instr.sliceAt, Instr.slice, Sem.run_bind, run_underlying ht, Result.andThen_ok, Option.map_none, hx]
  simp [run_underlying ht, hb, Str.cut]
end
end Go.Fw
