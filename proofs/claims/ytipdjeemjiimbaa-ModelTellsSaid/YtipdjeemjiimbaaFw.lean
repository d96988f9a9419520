/- The ground of all walks of this seat: a calculus for the model's code over frames as functions, a heap part that is only read, and objects that the call owns. Nothing of the program is named here. No condition. -/
import Derived.WalkKit
import Derived.Deep.Quiet
import Derived.Below
set_option linter.unusedVariables false
set_option linter.unusedSimpArgs false
set_option linter.unnecessarySimpa false
namespace Go.Fw
open Go Go.RowKit

/-! ## Frames -/
abbrev Fr := Nat → Value
def upd (f : Fr) (d : Nat) (v : Value) : Fr := fun t => bif Nat.beq t d then v else f t
def ev (f : Fr) : Operand → Value
  | .tmp t => f t
  | .const v => v
  | .global g => .pointer (some ⟨g, 0, none⟩)
  | .func g => .func (.func g) #[] #[]

/-- The frame 'a' of the model, as a function on slots. -/
structure Is (n : Nat) (a : Act) (f : Fr) : Prop where
  size : a.tmps.size = n
  get : ∀ t, a.tmps.getD t undef = f t
  dfr : a.defers = []

theorem Is.eval {n a f} (h : Is n a f) : a.eval = ev f := by
  funext x; cases x <;> simp [Act.eval, ev, h.get]

theorem Is.put {n a f} (h : Is n a f) {d : Nat} (hd : Nat.blt d n = true) (v : Value) : Is n (a.put (some d) v) (upd f d v) := by
  have hd' : d < n := by have h1 := hd; simp [Nat.blt] at h1; omega
  refine ⟨by simp [Act.put, h.size], fun t => ?_, by simp [Act.put, h.dfr]⟩
  simp only [Act.put, upd, Array.getD_eq_getD_getElem?, Array.getElem?_setIfInBounds]
  by_cases e : t = d
  · subst e
    simp [h.size, hd']
  · have e1 : Nat.beq t d = false := by
      cases hb : Nat.beq t d
      · rfl
      · exact absurd (Nat.eq_of_beq_eq_true hb) e
    have e2 : ¬ d = t := fun x => e x.symm
    simp only [e1, cond_false, e2, if_false]
    rw [← h.get t, Array.getD_eq_getD_getElem?]

theorem Is.put_none {n a f} (h : Is n a f) (v : Value) : Is n (a.put none v) f := ⟨by simp [Act.put, h.size], by simpa [Act.put] using h.get, by simp [Act.put, h.dfr]⟩

/-! ## Heaps -/
/-- A part of the heap that nobody writes. -/
abbrev GH := Nat → Option Obj
/-- The objects that the call owns. -/
abbrev MH := List (Nat × Obj)

def Le (G G' : GH) : Prop := ∀ b o, G b = some o → G' b = some o
theorem Le.rfl {G : GH} : Le G G := fun _ _ h => h
theorem Le.trans {A B C : GH} (h : Le A B) (k : Le B C) : Le A C := fun b o x => k b o (h b o x)

/-- The world 'w' bears the part G that is only read, and the owned objects M; all else that was there at 'w0' is as it was, but for the blocks 'own'. -/
structure Real (w0 : World) (own : Nat → Prop) (G : GH) (M : MH) (w : World) : Prop where
  os : w.os = w0.os
  tape : w.tape = w0.tape
  output : w.output = w0.output
  size : w0.heap.size ≤ w.heap.size
  keep : ∀ b, b < w0.heap.size → ¬ own b → w.heap[b]? = w0.heap[b]?
  ro : ∀ b o, G b = some o → w.heap[b]? = some o
  mu : ∀ p ∈ M, w.heap[p.1]? = some p.2
  dis : ∀ p ∈ M, G p.1 = none
  nd : (M.map (·.1)).Nodup
  lo : ∀ p ∈ M, w0.heap.size ≤ p.1 ∨ own p.1

section
variable {w0 : World} {own : Nat → Prop} {G : GH} {M : MH} {w : World}

theorem Real.drew (h : Real w0 own G M w) : Real w0 own G M { w with drawn := w.drawn + 1 } :=
  ⟨h.os, h.tape, h.output, h.size, h.keep, h.ro, h.mu, h.dis, h.nd, h.lo⟩

theorem Real.lt (h : Real w0 own G M w) {b o} (hb : G b = some o) : b < w.heap.size := by
  have := h.ro b o hb
  rw [Array.getElem?_eq_some_iff] at this
  exact this.1

theorem Real.ltM (h : Real w0 own G M w) {p} (hp : p ∈ M) : p.1 < w.heap.size := by
  have := h.mu p hp
  rw [Array.getElem?_eq_some_iff] at this
  exact this.1

/-- A new object. -/
theorem Real.alloc (h : Real w0 own G M w) (o : Obj) : Real w0 own G ((w.heap.size, o) :: M) { w with heap := w.heap.push o } := by
  refine ⟨h.os, h.tape, h.output, ?_, ?_, ?_, ?_, ?_, ?_, ?_⟩
  · have := h.size; simp only [Array.size_push]; omega
  · intro b hb ho
    have := h.size
    show (w.heap.push o)[b]? = _
    rw [Array.getElem?_push, if_neg (by omega)]
    exact h.keep b hb ho
  · intro b o' hb
    have := h.lt hb
    show (w.heap.push o)[b]? = _
    rw [Array.getElem?_push, if_neg (by omega)]
    exact h.ro b o' hb
  · intro p hp
    show (w.heap.push o)[p.1]? = _
    rcases List.mem_cons.1 hp with rfl | hp
    · simp
    · have := h.ltM hp
      rw [Array.getElem?_push, if_neg (by omega)]
      exact h.mu p hp
  · intro p hp
    rcases List.mem_cons.1 hp with rfl | hp
    · cases hg : G w.heap.size with
      | none => rfl
      | some o' => have := h.lt hg; omega
    · exact h.dis p hp
  · simp only [List.map_cons, List.nodup_cons]
    refine ⟨fun hm => ?_, h.nd⟩
    obtain ⟨p, hp, e⟩ := List.mem_map.1 hm
    have := h.ltM hp
    omega
  · intro p hp
    rcases List.mem_cons.1 hp with rfl | hp
    · exact .inl h.size
    · exact h.lo p hp

/-- An owned object is written anew. -/
theorem Real.set {M₁ M₂ : MH} {b : Nat} {o o' : Obj} (h : Real w0 own G (M₁ ++ (b, o) :: M₂) w) :
    Real w0 own G (M₁ ++ (b, o') :: M₂) { w with heap := w.heap.setIfInBounds b o' } := by
  have hb : b < w.heap.size := h.ltM (p := (b, o)) (by simp)
  have hnd := h.nd
  simp only [List.map_append, List.map_cons, List.nodup_append, List.nodup_cons] at hnd
  obtain ⟨n1, ⟨n2, n3⟩, n4⟩ := hnd
  have key : ∀ c, c ≠ b → (w.heap.setIfInBounds b o')[c]? = w.heap[c]? := fun c hc => by
    rw [Array.getElem?_setIfInBounds, if_neg (by omega)]
  refine ⟨h.os, h.tape, h.output, by simpa using h.size, ?_, ?_, ?_, ?_, ?_, ?_⟩
  · intro c hc ho
    rcases h.lo (b, o) (by simp) with hl | hl
    · rw [key c (by simp at hl; omega)]; exact h.keep c hc ho
    · rw [key c (fun e => ho (e ▸ hl))]; exact h.keep c hc ho
  · intro c oc hc
    rw [key c (fun e => by have := h.dis (b, o) (by simp); simp only at this; rw [e, this] at hc; cases hc)]
    exact h.ro c oc hc
  · intro p hp
    rcases List.mem_append.1 hp with hp | hp
    · rw [key p.1 (fun e => n4 p.1 (List.mem_map_of_mem hp) b (by simp) e)]
      exact h.mu p (by simp [hp])
    · rcases List.mem_cons.1 hp with rfl | hp
      · simp [hb]
      · rw [key p.1 (fun e => n2 (e ▸ List.mem_map_of_mem (f := Prod.fst) hp))]
        exact h.mu p (by simp [hp])
  · intro p hp
    rcases List.mem_append.1 hp with hp | hp
    · exact h.dis p (by simp [hp])
    · rcases List.mem_cons.1 hp with rfl | hp
      · exact h.dis (b, o) (by simp)
      · exact h.dis p (by simp [hp])
  · have := h.nd; simpa using this
  · intro p hp
    rcases List.mem_append.1 hp with hp | hp
    · exact h.lo p (by simp [hp])
    · rcases List.mem_cons.1 hp with rfl | hp
      · exact h.lo (b, o) (by simp)
      · exact h.lo p (by simp [hp])

/-- The owned objects in another order. -/
theorem Real.perm {M' : MH} (h : Real w0 own G M w) (hp : M'.Perm M) : Real w0 own G M' w :=
  ⟨h.os, h.tape, h.output, h.size, h.keep, h.ro, fun p q => h.mu p (hp.mem_iff.1 q), fun p q => h.dis p (hp.mem_iff.1 q),
    (hp.map _).nodup_iff.2 h.nd, fun p q => h.lo p (hp.mem_iff.1 q)⟩

/-- Owned objects are forgotten. -/
theorem Real.sub {M' : MH} (h : Real w0 own G M w) (hp : M'.Sublist M) : Real w0 own G M' w :=
  ⟨h.os, h.tape, h.output, h.size, h.keep, h.ro, fun p q => h.mu p (hp.subset q), fun p q => h.dis p (hp.subset q),
    h.nd.sublist (hp.map _), fun p q => h.lo p (hp.subset q)⟩

/-- The part that is only read, with one object more. -/
def put (G : GH) (b : Nat) (o : Obj) : GH := fun c => if c = b then some o else G c
theorem put_self (G : GH) (b : Nat) (o : Obj) : put G b o b = some o := by simp [put]
theorem le_put {G : GH} {b : Nat} {o : Obj} (h : G b = none) : Le G (put G b o) := fun c oc hc => by
  by_cases e : c = b
  · subst e; rw [h] at hc; cases hc
  · simp [put, e, hc]
def putAll (G : GH) : MH → GH
  | [] => G
  | p :: M => put (putAll G M) p.1 p.2

/-- An owned object is given up: from now on nobody writes it. -/
theorem Real.give {p : Nat × Obj} (h : Real w0 own G (p :: M) w) : Real w0 own (put G p.1 p.2) M w ∧ Le G (put G p.1 p.2) := by
  have hnd := h.nd
  simp only [List.map_cons, List.nodup_cons] at hnd
  refine ⟨⟨h.os, h.tape, h.output, h.size, h.keep, ?_, fun q hq => h.mu q (by simp [hq]), ?_, hnd.2, fun q hq => h.lo q (by simp [hq])⟩, le_put (h.dis p (by simp))⟩
  · intro b o hb
    by_cases e : b = p.1
    · subst e; rw [put_self] at hb; cases hb; exact h.mu p (by simp)
    · simp [put, e] at hb; exact h.ro b o hb
  · intro q hq
    have : q.1 ≠ p.1 := fun e => hnd.1 (e ▸ List.mem_map_of_mem (f := Prod.fst) hq)
    simp only [put, this, if_false]
    exact h.dis q (by simp [hq])
end

/-! ## Contracts -/
/-- New things lie in new blocks, or were the callee's own. -/
def Newer (s : Nat) (M : MH) (G G' : GH) : Prop := ∀ b, G b = none → G' b ≠ none → s ≤ b ∨ b ∈ M.map (·.1)

/-- The contract of a function: called with 'args' where the heap bears G and the objects M that it may write, it returns v, and leaves G' and M'. -/
def Fn (P : Program) (g : FuncId) (args : Array Value) (G : GH) (M : MH) (Q : Value → GH → MH → Prop) : Prop :=
  ∀ w, Real w (fun b => b ∈ M.map (·.1)) G M w → Calls P g args w fun e w' =>
    ∃ v G' M', e = .returned v ∧ Real w (fun b => b ∈ M.map (·.1)) G' M' w' ∧ Le G G' ∧ Newer w.heap.size M G G' ∧ Q v G' M'

theorem Fn.mono {P : Program} {g : FuncId} {args : Array Value} {G : GH} {M : MH} {Q Q' : Value → GH → MH → Prop} (h : Fn P g args G M Q) (hq : ∀ v G' M', Le G G' → Q v G' M' → Q' v G' M') : Fn P g args G M Q' :=
  fun w hw => (h w hw).mono fun _ _ ⟨v, G', M', a, b, c, d, e⟩ => ⟨v, G', M', a, b, c, d, hq _ _ _ c e⟩

/-- What a caller sees of a call: the rest of its objects is as it was. -/
theorem Real.call {w0 : World} {own : Nat → Prop} {G G' : GH} {Mp Mr M' : MH} {w w' : World} (h : Real w0 own G (Mp ++ Mr) w)
    (h' : Real w (fun b => b ∈ Mp.map (·.1)) G' M' w') (hn : Newer w.heap.size Mp G G') : Real w0 own G' (M' ++ Mr) w' := by
  have hnd := h.nd
  simp only [List.map_append, List.nodup_append] at hnd
  obtain ⟨n1, n2, n3⟩ := hnd
  have hr : ∀ p ∈ Mr, w'.heap[p.1]? = some p.2 := fun p hp => by
    rw [h'.keep p.1 (h.ltM (by simp [hp])) (fun hm => n3 p.1 hm p.1 (List.mem_map_of_mem hp) rfl)]
    exact h.mu p (by simp [hp])
  have hlo : ∀ p ∈ M', w.heap.size ≤ p.1 ∨ p.1 ∈ Mp.map (·.1) := h'.lo
  refine ⟨h'.os.trans h.os, h'.tape.trans h.tape, h'.output.trans h.output, Nat.le_trans h.size h'.size, ?_, h'.ro, ?_, ?_, ?_, ?_⟩
  · intro b hb ho
    have hs := h.size
    rw [h'.keep b (by omega) (fun hm => ?_)]
    · exact h.keep b hb ho
    · obtain ⟨p, hp, e⟩ := List.mem_map.1 hm
      rcases h.lo p (by simp [hp]) with hl | hl
      · omega
      · exact ho (e ▸ hl)
  · intro p hp
    rcases List.mem_append.1 hp with hp | hp
    · exact h'.mu p hp
    · exact hr p hp
  · intro p hp
    rcases List.mem_append.1 hp with hp | hp
    · exact h'.dis p hp
    · cases hg : G' p.1 with
      | none => rfl
      | some o =>
        rcases hn p.1 (h.dis p (by simp [hp])) (by simp [hg]) with hl | hl
        · have := h.ltM (p := p) (by simp [hp]); omega
        · exact absurd rfl (n3 p.1 hl p.1 (List.mem_map_of_mem hp))
  · simp only [List.map_append, List.nodup_append]
    refine ⟨h'.nd, n2, fun a ha b hb e => ?_⟩
    subst e
    obtain ⟨p, hp, e⟩ := List.mem_map.1 ha
    obtain ⟨q, hq, e'⟩ := List.mem_map.1 hb
    have hl := h.ltM (p := q) (by simp [hq])
    rcases hlo p hp with hl' | hl'
    · omega
    · exact n3 p.1 hl' q.1 (List.mem_map_of_mem hq) (by omega)
  · intro p hp
    rcases List.mem_append.1 hp with hp | hp
    · rcases hlo p hp with hl | hl
      · exact .inl (Nat.le_trans h.size hl)
      · obtain ⟨q, hq, e⟩ := List.mem_map.1 hl
        rcases h.lo q (by simp [hq]) with h2 | h2
        · exact .inl (by omega)
        · exact .inr (e ▸ h2)
    · exact h.lo p (by simp [hp])
end Go.Fw
