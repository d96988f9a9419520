/- Regions that draw their order: operations with guards. Nothing of the program is named here. No condition. -/
import Derived.Test.YtipdjeemjiimbaaFi
set_option linter.unusedVariables false
set_option linter.unusedSimpArgs false
set_option linter.unnecessarySimpa false
namespace Go.Fw
open Go Go.RowKit
section
variable {E : Env} {f : Fr} {G : GH} {M Mk : MH} {ops : Array Oper} {K : Kt} {fuel : Nat} {listed : Array Bool}
theorem wanted_is {o : Oper} {j dj : Nat} {want b : Bool} (hg : o.guard = some (j, want)) (hj : (ops[j]?).bind (·.dst) = some dj) (hb : f dj = .bool b) (hdj : Nat.blt dj E.n = true) {a : Act} (hi : Is E.n a f) : Region.wanted o (yielded ops a.tmps) = (b == want) := by
  have hl : dj < a.tmps.size := by rw [hi.size]; have h1 := hdj; simp [Nat.blt] at h1; omega
  have := hi.get dj
  rw [Array.getD_eq_getD_getElem?, hb, Array.getElem?_eq_getElem hl] at this
  simp at this
  simp only [Region.wanted, hg, yielded, hj, Option.bind_some, Array.getElem?_eq_getElem hl, this]
  cases b <;> cases want <;> rfl
theorem wanted_un {o : Oper} {j dj : Nat} {want : Bool} (hg : o.guard = some (j, want)) (hj : (ops[j]?).bind (·.dst) = some dj) (hb : f dj = undef) {a : Act} (hi : Is E.n a f) : Region.wanted o (yielded ops a.tmps) = false := by
  have hgt : a.tmps[dj]? = some undef ∨ a.tmps[dj]? = none := by
    have := hi.get dj
    rw [Array.getD_eq_getD_getElem?, hb] at this
    cases h : a.tmps[dj]? with
    | none => exact .inr rfl
    | some x => rw [h] at this; simp at this; exact .inl (by rw [this])
  simp only [Region.wanted, hg, yielded, hj, Option.bind_some]
  rcases hgt with hgt | hgt <;> rw [hgt] <;> rfl
/-- A quiet operation whose guard says yes is taken first. -/
theorem WD.takeY (i dj : Nat) {o : Oper} {d j : Nat} {want b : Bool} {v : Value} (ho : ops[i]? = some o) (hdst : o.dst = some d) (hg : o.guard = some (j, want)) (hj : (ops[j]?).bind (·.dst) = some dj) (hb : f dj = .bool b) (hw : b = want) (hs : Region.noSelect ops = true) (hf : Region.free .any ops listed i = true)
    (hr : (Region.ready .any ops listed).contains i = true) (hok : Ok E f G Mk ⟨some d, o.op, o.type, o.pos, o.after, none⟩ v) (h : WD E ops fuel (listed.setIfInBounds i true) (upd f d v) G M Mk K) (hd : Nat.blt d E.n = true := by rfl) (hdj : Nat.blt dj E.n = true := by rfl) : WD E ops (fuel + 1) listed f G M Mk K := by
  intro hsub a w Q hi hw' hp hK
  have hS : E.real G Mk w := ⟨hw'.r.sub hsub, hw'.le, hw'.nw⟩
  refine wpAnyH_take ho hs hf hr (fun c a w h => absurd h (hp _ _ _)) (v := v) ?_ hS ?_
  · refine .inl ⟨by rw [wanted_is hg hj hb hdj hi, hw]; cases want <;> rfl, fun w' hw' => ?_⟩
    rw [hi.eval]
    have := hok w' hw'
    obtain ⟨o1, o2, o3, o4, o5, o6⟩ := o
    cases hdst
    exact this
  · rw [hdst]
    exact h hsub _ w Q (hi.put hd v) hw' hp hK
/-- An operation whose guard says no is taken first. -/
theorem WD.takeN (i dj : Nat) {o : Oper} {d j : Nat} {want b : Bool} (ho : ops[i]? = some o) (hdst : o.dst = some d) (hg : o.guard = some (j, want)) (hj : (ops[j]?).bind (·.dst) = some dj) (hb : f dj = .bool b) (hw : b = !want) (hs : Region.noSelect ops = true) (hf : Region.free .any ops listed i = true)
    (hr : (Region.ready .any ops listed).contains i = true) (h : WD E ops fuel (listed.setIfInBounds i true) (upd f d undef) G M Mk K) (hd : Nat.blt d E.n = true := by rfl) (hdj : Nat.blt dj E.n = true := by rfl) : WD E ops (fuel + 1) listed f G M Mk K := by
  intro hsub a w Q hi hw' hp hK
  have hS : E.real G Mk w := ⟨hw'.r.sub hsub, hw'.le, hw'.nw⟩
  refine wpAnyH_take ho hs hf hr (fun c a w h => absurd h (hp _ _ _)) (v := undef) ?_ hS ?_
  · exact .inr ⟨by rw [wanted_is hg hj hb hdj hi, hw]; cases want <;> rfl, rfl⟩
  · rw [hdst]
    exact h hsub _ w Q (hi.put hd undef) hw' hp hK
/-- An operation whose guard was not carried out is taken first. -/
theorem WD.takeU (i dj : Nat) {o : Oper} {d j : Nat} {want : Bool} (ho : ops[i]? = some o) (hdst : o.dst = some d) (hg : o.guard = some (j, want)) (hj : (ops[j]?).bind (·.dst) = some dj) (hb : f dj = undef) (hs : Region.noSelect ops = true) (hf : Region.free .any ops listed i = true)
    (hr : (Region.ready .any ops listed).contains i = true) (h : WD E ops fuel (listed.setIfInBounds i true) (upd f d undef) G M Mk K) (hd : Nat.blt d E.n = true := by rfl) : WD E ops (fuel + 1) listed f G M Mk K := by
  intro hsub a w Q hi hw' hp hK
  have hS : E.real G Mk w := ⟨hw'.r.sub hsub, hw'.le, hw'.nw⟩
  refine wpAnyH_take ho hs hf hr (fun c a w h => absurd h (hp _ _ _)) (v := undef) ?_ hS ?_
  · exact .inr ⟨wanted_un hg hj hb hi, rfl⟩
  · rw [hdst]
    exact h hsub _ w Q (hi.put hd undef) hw' hp hK
theorem WD.sp (dj : Nat) {b : Bool} (hb : f dj = .bool b) (ht : b = true → WD E ops fuel listed f G M Mk K) (hf : b = false → WD E ops fuel listed f G M Mk K) : WD E ops fuel listed f G M Mk K := by
  cases b
  · exact hf rfl
  · exact ht rfl
theorem upon_guard {P : Program} {o1 : Option Nat} {o2 : Op} {o3 : TypeId} {o4 : String} {o5 : Array Edge} {g g' : Option (Nat × Bool)} {a : Act} {nx : Act → World → Prop} {Q : Exit → Act → World → Prop} {r : Result Next} (h : (⟨o1, o2, o3, o4, o5, g⟩ : Oper).upon P a nx Q r) : (⟨o1, o2, o3, o4, o5, g'⟩ : Oper).upon P a nx Q r := by
  cases r with
  | ok n w' => cases n <;> exact h
  | halt x w' => cases x <;> exact h
/-- Does the guard say yes? -/
def GY (n : Nat) (f : Fr) (ops : Array Oper) (o : Oper) : Prop := o.guard = none ∨ ∃ j dj want b, o.guard = some (j, want) ∧ (ops[j]?).bind (·.dst) = some dj ∧ f dj = .bool b ∧ b = want ∧ Nat.blt dj n = true
/-- Whichever comes up next, with guards: each by the rule of its kind. -/
theorem WD.anyG (rs : List Nat) (hr : Region.ready .any ops listed = rs) (hne : rs.isEmpty = false)
    (h : EachL (fun i => ∃ o, ops[i]? = some o ∧ GY E.n f ops o ∧ W E [(⟨o.dst, o.op, o.type, o.pos, o.after, none⟩ : Oper)].toArray false [(⟨o.dst, o.op, o.type, o.pos, o.after, none⟩ : Oper)] f G M (fun f' G' M' => Le G G' ∧ Mk.Sublist M' ∧ ∃ Mk', Mk'.Sublist M' ∧ Mk.Sublist Mk' ∧ WD E ops fuel (listed.setIfInBounds i true) f' G' M' Mk' K)) rs) : WD E ops (fuel + 1) listed f G M Mk K := by
  intro hsub a w Q hi hw hp hK
  refine wpAnyH_all hr (by intro e; subst e; cases hne) ?_
  intro j hj
  obtain ⟨o, ho, hg, h⟩ := h.mem j hj
  have hwant : Region.wanted o (yielded ops a.tmps) = true := by
    rcases hg with hg | ⟨j', dj, want, b, g1, g2, g3, g4, g5⟩
    · simp [Region.wanted, hg]
    · rw [wanted_is g1 g2 g3 g5 hi, g4]; cases want <;> rfl
  have h1 := h a w (fun e a' w' => e = .normal ∧ E.real G Mk w' ∧ wpAnyH E.P .any ops Q (E.real G Mk) fuel (listed.setIfInBounds j true) a' w') hi hw (by
    rintro f' G' M' a' w' h2 h3 ⟨h4, h5, Mk', h6, h7, h8⟩
    have h9 : E.real G' Mk w' := ⟨h3.r.sub h5, h3.le, h3.nw⟩
    refine ⟨rfl, h9.anti h4 hw.le, ?_⟩
    refine wpAnyH_mono (S := E.real G' Mk') (fun w hw' => ?_) _ _ _ _ (h8 h6 a' w' Q h2 h3 hp hK)
    have h10 : E.real G' Mk w := ⟨hw'.r.sub h7, hw'.le, hw'.nw⟩
    exact h10.anti h4 hw.le)
  unfold wpList at h1
  rw [if_pos (by simp [Region.wanted])] at h1
  unfold wpOp
  simp only [ho]
  rw [if_pos hwant]
  rcases h1 with h1 | ⟨_, a1, w1, h1, _⟩
  · left
    unfold Oper.wp at h1 ⊢
    obtain ⟨o1, o2, o3, o4, o5, o6⟩ := o
    exact upon_mono2 (upon_guard h1) (fun a' w' h2 => h2.2) (fun e a' w' he h2 => absurd h2.1 he)
  · cases h1
end
end Go.Fw
