/- The ground of an evaluator for calls without unknown memory: tries, values with named blocks, how they stand for the model's values, and the memory that they name. Nothing of the program is named here. No condition. -/
import Derived.Test.YtipdjeemjiimbaaFs
set_option linter.unusedVariables false
set_option linter.unusedSimpArgs false
set_option linter.unnecessarySimpa false
namespace Go.Fw
open Go Go.RowKit

/-! ## Tries -/
inductive Tr (α : Type) where
  | e
  | n (v : Option α) (l r : Tr α)
namespace Tr
variable {α : Type}
def get : Tr α → Nat → Option α
  | .e, _ => none
  | .n v l r, k => bif Nat.beq k 0 then v else bif Nat.beq (k % 2) 1 then l.get (k / 2) else r.get (k / 2 - 1)
def setF : Nat → Tr α → Nat → Option α → Tr α
  | 0, t, _, _ => t
  | f + 1, .e, k, x => bif Nat.beq k 0 then .n x .e .e else bif Nat.beq (k % 2) 1 then .n none (setF f .e (k / 2) x) .e else .n none .e (setF f .e (k / 2 - 1) x)
  | f + 1, .n v l r, k, x => bif Nat.beq k 0 then .n x l r else bif Nat.beq (k % 2) 1 then .n v (setF f l (k / 2) x) r else .n v l (setF f r (k / 2 - 1) x)
def set (t : Tr α) (k : Nat) (x : Option α) : Tr α := setF (k + 1) t k x

theorem beq0 {k : Nat} : Nat.beq k 0 = decide (k = 0) := by cases k <;> rfl
theorem get_e (k : Nat) : (Tr.e : Tr α).get k = none := by unfold get; rfl
theorem get_setF : ∀ (f : Nat) (t : Tr α) (k j : Nat) (x : Option α), k < f → (setF f t k x).get j = if j = k then x else t.get j
  | 0, _, _, _, _, h => absurd h (Nat.not_lt_zero _)
  | f + 1, t, k, j, x, h => by
    have hb : ∀ a b : Nat, Nat.beq a b = decide (a = b) := fun a b => by
      cases hh : Nat.beq a b
      · exact (decide_eq_false fun e => by subst e; simp at hh).symm
      · exact (decide_eq_true (Nat.eq_of_beq_eq_true hh)).symm
    cases t with
    | e =>
      simp only [setF, hb]
      by_cases h0 : k = 0
      · subst h0
        by_cases hj : j = 0
        · simp [hj, get]
        · simp [hj, get, get_e, hb]
      · have h1 : k / 2 < f := by omega
        have h2 : k / 2 - 1 < f := by omega
        by_cases h3 : k % 2 = 1
        · simp only [h0, h3, decide_true, decide_false, cond_true, cond_false, get, hb, get_setF f .e (k / 2) _ x h1, get_e]
          by_cases hj : j = 0
          · subst hj; simp; exact fun e => absurd e.symm h0
          · by_cases hj2 : j % 2 = 1
            · simp only [hj, hj2, decide_true, decide_false, cond_true, cond_false]
              by_cases e : j = k
              · subst e; simp
              · rw [if_neg (by omega), if_neg e]
            · simp only [hj, hj2, decide_false, cond_false, get_e]
              rw [if_neg (by intro e; subst e; omega)]
        · simp only [h0, h3, decide_false, cond_false, get, hb, get_setF f .e (k / 2 - 1) _ x h2, get_e]
          by_cases hj : j = 0
          · subst hj; simp; exact fun e => absurd e.symm h0
          · by_cases hj2 : j % 2 = 1
            · simp only [hj, hj2, decide_true, decide_false, cond_true, cond_false, get_e]
              rw [if_neg (by intro e; subst e; omega)]
            · simp only [hj, hj2, decide_false, cond_false]
              by_cases e : j = k
              · subst e; simp
              · rw [if_neg (by omega), if_neg e]
    | n v l r =>
      simp only [setF, hb]
      by_cases h0 : k = 0
      · subst h0
        by_cases hj : j = 0
        · simp [hj, get]
        · simp [hj, get, hb]
      · have h1 : k / 2 < f := by omega
        have h2 : k / 2 - 1 < f := by omega
        by_cases h3 : k % 2 = 1
        · simp only [h0, h3, decide_true, decide_false, cond_true, cond_false, get, hb, get_setF f l (k / 2) _ x h1]
          by_cases hj : j = 0
          · subst hj; simp; exact fun e => absurd e.symm h0
          · by_cases hj2 : j % 2 = 1
            · simp only [hj, hj2, decide_true, decide_false, cond_true, cond_false]
              by_cases e : j = k
              · subst e; simp
              · rw [if_neg (by omega), if_neg e]
            · simp only [hj, hj2, decide_false, cond_false]
              rw [if_neg (by intro e; subst e; omega)]
        · simp only [h0, h3, decide_false, cond_false, get, hb, get_setF f r (k / 2 - 1) _ x h2]
          by_cases hj : j = 0
          · subst hj; simp; exact fun e => absurd e.symm h0
          · by_cases hj2 : j % 2 = 1
            · simp only [hj, hj2, decide_true, decide_false, cond_true, cond_false]
              rw [if_neg (by intro e; subst e; omega)]
            · simp only [hj, hj2, decide_false, cond_false]
              by_cases e : j = k
              · subst e; simp
              · rw [if_neg (by omega), if_neg e]
theorem get_set (t : Tr α) (k j : Nat) (x : Option α) : (t.set k x).get j = if j = k then x else t.get j := get_setF _ _ _ _ _ (by omega)
end Tr

/-! ## Values whose blocks have names of our own -/
inductive AV where
  /-- the model's 'undef' -/
  | und
  /-- anything -/
  | u
  | b (x : Bool)
  | i (k : IntKind) (n : Int)
  | s (l : List UInt8)
  /-- an address: a block's name, an offset -/
  | p (id off : Nat)
  | pn
  /-- a slice whose room is known -/
  | sl (id off len cap : Nat)
  /-- a slice of a block that grew by 'append': 'a' elements from its head; its room is what the block has -/
  | so (id a off len : Nat)
  | sn
  /-- some slice of length 0 that is not nil -/
  | sz
  | m (id : Nat)
  | mn
  | fn (f : Go.Fn) (first caps : List AV)
  | fnn
  | ic (t : TypeId) (v : AV)
  | icn
  | agg (l : List AV)
  | tup (l : List AV)
  /-- an unknown value of one cell -/
  | o (k : Nat)
  /-- an unknown number that is above nought, or is not -/
  | oi (k : Nat) (pos : Bool)

/-- Which block a name stands for, what room a block of ours has, what the unknown values are. -/
structure Vl where
  ρ : Nat → Option Nat
  κ : Nat → Nat
  σ : Nat → Value
  one : ∀ k, (σ k).oneCell' = true
def Vl.le (V V' : Vl) : Prop := (∀ id b, V.ρ id = some b → V'.ρ id = some b ∧ V'.κ id = V.κ id) ∧ V'.σ = V.σ
theorem Vl.le.rfl {V : Vl} : V.le V := ⟨fun _ _ h => ⟨h, Eq.refl _⟩, Eq.refl _⟩
theorem Vl.le.trans {A B C : Vl} (h : A.le B) (k : B.le C) : A.le C :=
  ⟨fun id b e => let ⟨h1, h2⟩ := h.1 id b e; let ⟨k1, k2⟩ := k.1 id b h1; ⟨k1, k2.trans h2⟩, k.2.trans h.2⟩

mutual
/-- 'x' stands for 'v'. -/
def VR (V : Vl) : AV → Value → Prop
  | .und, v => v = undef
  | .u, _ => True
  | .b x, v => v = .bool x
  | .i k n, v => v = .int k n
  | .s l, v => v = .string ⟨l.toArray⟩
  | .p id off, v => ∃ b, V.ρ id = some b ∧ v = .pointer (some ⟨b, off, none⟩)
  | .pn, v => v = .pointer none
  | .sl id off len cap, v => ∃ b, V.ρ id = some b ∧ v = .slice (some ⟨b, off, none⟩) len cap
  | .so id a off len, v => ∃ b, V.ρ id = some b ∧ a + len ≤ V.κ id ∧ v = .slice (some ⟨b, off, none⟩) len (V.κ id - a)
  | .sn, v => v = .slice none 0 0
  | .sz, v => ∃ a c, v = .slice (some a) 0 c
  | .m id, v => ∃ b, V.ρ id = some b ∧ v = .map (some b)
  | .mn, v => v = .map none
  | .fn f l c, v => ∃ vs ws, VRs V l vs ∧ VRs V c ws ∧ v = .func f vs.toArray ws.toArray
  | .fnn, v => v = .nilFunc
  | .ic t x, v => ∃ y, VR V x y ∧ v = .iface t y
  | .icn, v => v = .nilIface
  | .agg l, v => ∃ vs, VRs V l vs ∧ v = .agg vs.toArray
  | .tup l, v => ∃ vs, VRs V l vs ∧ v = .tuple vs.toArray
  | .o k, v => v = V.σ k
  | .oi k pos, v => ∃ n : Int, V.σ k = .int .i64 n ∧ pos = decide (0 < n) ∧ v = .int .i64 n
def VRs (V : Vl) : List AV → List Value → Prop
  | [], vs => vs = []
  | x :: l, vs => ∃ v t, VR V x v ∧ VRs V l t ∧ vs = v :: t
end

mutual
theorem VR.mono {V V' : Vl} (h : V.le V') : ∀ {x : AV} {v : Value}, VR V x v → VR V' x v
  | .und, _, e => by simpa only [VR] using e
  | .u, _, e => by simp only [VR]
  | .b _, _, e => by simpa only [VR] using e
  | .i _ _, _, e => by simpa only [VR] using e
  | .s _, _, e => by simpa only [VR] using e
  | .p _ _, _, e => by simp only [VR] at e ⊢; obtain ⟨b, h1, h2⟩ := e; exact ⟨b, (h.1 _ _ h1).1, h2⟩
  | .pn, _, e => by simpa only [VR] using e
  | .sl _ _ _ _, _, e => by simp only [VR] at e ⊢; obtain ⟨b, h1, h2⟩ := e; exact ⟨b, (h.1 _ _ h1).1, h2⟩
  | .so _ _ _ _, _, e => by simp only [VR] at e ⊢; obtain ⟨b, h1, h2⟩ := e; exact ⟨b, (h.1 _ _ h1).1, by rw [(h.1 _ _ h1).2]; exact h2⟩
  | .sn, _, e => by simpa only [VR] using e
  | .sz, _, e => by simpa only [VR] using e
  | .m _, _, e => by simp only [VR] at e ⊢; obtain ⟨b, h1, h2⟩ := e; exact ⟨b, (h.1 _ _ h1).1, h2⟩
  | .mn, _, e => by simpa only [VR] using e
  | .fn _ _ _, _, e => by simp only [VR] at e ⊢; obtain ⟨vs, ws, h1, h2, h3⟩ := e; exact ⟨vs, ws, VRs.mono h h1, VRs.mono h h2, h3⟩
  | .fnn, _, e => by simpa only [VR] using e
  | .ic _ _, _, e => by simp only [VR] at e ⊢; obtain ⟨y, h1, h2⟩ := e; exact ⟨y, VR.mono h h1, h2⟩
  | .icn, _, e => by simpa only [VR] using e
  | .agg _, _, e => by simp only [VR] at e ⊢; obtain ⟨vs, h1, h2⟩ := e; exact ⟨vs, VRs.mono h h1, h2⟩
  | .tup _, _, e => by simp only [VR] at e ⊢; obtain ⟨vs, h1, h2⟩ := e; exact ⟨vs, VRs.mono h h1, h2⟩
  | .o _, _, e => by simp only [VR] at e ⊢; rw [h.2]; exact e
  | .oi _ _, _, e => by simp only [VR] at e ⊢; rw [h.2]; exact e
theorem VRs.mono {V V' : Vl} (h : V.le V') : ∀ {l : List AV} {vs : List Value}, VRs V l vs → VRs V' l vs
  | [], _, e => by simpa only [VRs] using e
  | _ :: _, _, e => by simp only [VRs] at e ⊢; obtain ⟨v, t, h1, h2, h3⟩ := e; exact ⟨v, t, VR.mono h h1, VRs.mono h h2, h3⟩
end

section
variable {V : Vl}
theorem VRs.nil : VRs V [] [] := by simp only [VRs]
theorem VRs.cons {x : AV} {l : List AV} {v : Value} {vs : List Value} (h : VR V x v) (k : VRs V l vs) : VRs V (x :: l) (v :: vs) := by
  simp only [VRs]; exact ⟨v, vs, h, k, rfl⟩
theorem VRs.len : ∀ {l : List AV} {vs : List Value}, VRs V l vs → vs.length = l.length
  | [], _, h => by simp only [VRs] at h; subst h; rfl
  | _ :: l, _, h => by simp only [VRs] at h; obtain ⟨v, t, _, h2, rfl⟩ := h; simp [h2.len]
theorem VRs.append : ∀ {l m : List AV} {vs ws : List Value}, VRs V l vs → VRs V m ws → VRs V (l ++ m) (vs ++ ws)
  | [], _, _, _, h, k => by simp only [VRs] at h; subst h; exact k
  | _ :: l, _, _, _, h, k => by simp only [VRs] at h; obtain ⟨v, t, h1, h2, rfl⟩ := h; exact VRs.cons h1 (VRs.append h2 k)
theorem VRs.take : ∀ {l : List AV} {vs : List Value} (n : Nat), VRs V l vs → VRs V (l.take n) (vs.take n)
  | _, _, 0, _ => by simpa using VRs.nil
  | [], _, n + 1, h => by simp only [VRs] at h; subst h; simpa using VRs.nil
  | _ :: l, _, n + 1, h => by simp only [VRs] at h; obtain ⟨v, t, h1, h2, rfl⟩ := h; exact VRs.cons h1 (h2.take n)
theorem VRs.drop : ∀ {l : List AV} {vs : List Value} (n : Nat), VRs V l vs → VRs V (l.drop n) (vs.drop n)
  | _, _, 0, h => by simpa using h
  | [], _, n + 1, h => by simp only [VRs] at h; subst h; simpa using VRs.nil
  | _ :: l, _, n + 1, h => by simp only [VRs] at h; obtain ⟨v, t, h1, h2, rfl⟩ := h; exact h2.drop n
theorem VRs.get : ∀ {l : List AV} {vs : List Value} {n : Nat} {x : AV}, VRs V l vs → l[n]? = some x → ∃ v, vs[n]? = some v ∧ VR V x v
  | [], _, _, _, _, h => by simp at h
  | y :: l, _, 0, x, h, hx => by simp only [VRs] at h; obtain ⟨v, t, h1, h2, rfl⟩ := h; simp at hx; subst hx; exact ⟨v, rfl, h1⟩
  | y :: l, _, n + 1, x, h, hx => by simp only [VRs] at h; obtain ⟨v, t, h1, h2, rfl⟩ := h; simpa using h2.get (by simpa using hx)
theorem VRs.one {x : AV} {vs : List Value} (h : VRs V [x] vs) : ∃ v, VR V x v ∧ vs = [v] := by
  simp only [VRs] at h; obtain ⟨v, t, h1, rfl, rfl⟩ := h; exact ⟨v, h1, rfl⟩
end

/-- Is it a value of one cell? -/
def AV.one : AV → Bool
  | .und | .u | .agg _ | .tup _ => false
  | _ => true
def AV.ones : List AV → Bool
  | [] => true
  | x :: l => x.one && AV.ones l
theorem VR.one {V : Vl} {x : AV} {v : Value} (h : VR V x v) (k : x.one = true) : v.oneCell' = true := by
  cases x <;> simp only [AV.one, Bool.false_eq_true] at k <;> simp only [VR] at h <;> (try (obtain ⟨b, h1, rfl⟩ := h; rfl)) <;> (try (obtain ⟨b, h1, h2, rfl⟩ := h; rfl)) <;> (try (subst h; rfl))
  · obtain ⟨a, b, h1, h2, rfl⟩ := h; rfl
  · subst h; exact V.one _
theorem VRs.ones {V : Vl} : ∀ {l : List AV} {vs : List Value}, VRs V l vs → AV.ones l = true → ∀ v ∈ vs, v.oneCell' = true
  | [], _, h, _ => by simp only [VRs] at h; subst h; simp
  | x :: l, _, h, k => by
    simp only [VRs] at h; obtain ⟨v, t, h1, h2, rfl⟩ := h
    simp only [AV.ones, Bool.and_eq_true] at k
    intro u hu
    rcases List.mem_cons.1 hu with rfl | hu
    · exact h1.one k.1
    · exact h2.ones k.2 u hu
/-- Is it known what it is? -/
def AV.fine : AV → Bool
  | .u => false
  | _ => true
/-- Its cells. -/
def AV.cells : AV → Option (List AV)
  | .agg l => some l
  | .und | .u | .tup _ => none
  | x => some [x]
theorem cells_one {v : Value} (h : v.oneCell' = true) : v.cells = #[v] := by cases v <;> first | rfl | simp [Value.oneCell'] at h
theorem VR.cells {V : Vl} {x : AV} {v : Value} {l : List AV} (h : VR V x v) (k : x.cells = some l) : VRs V l v.cells.toList := by
  by_cases h1 : x.one = true
  · have h2 := cells_one (h.one h1)
    have : l = [x] := by cases x <;> simp_all [AV.cells, AV.one]
    subst this
    rw [h2]
    exact VRs.cons h VRs.nil
  · cases x <;> simp_all [AV.cells, AV.one]
    subst k
    simp only [VR] at h
    obtain ⟨vs, h1, rfl⟩ := h
    simpa [Value.cells] using h1

/-! ## Memory -/
inductive Blk where
  /-- a row of cells of type t; 'buf' = 0: all of it; 'buf' = k: it grew by 'append', an element has k cells, and more may follow -/
  | c (t : TypeId) (buf : Nat) (cs : List AV)
  /-- a map: key, value, stamp -/
  | m (es : List (AV × AV × Nat)) (clock : Nat)
structure St where
  h : Tr Blk
  n : Nat

def ERs (V : Vl) : List (AV × AV × Nat) → List MapEntry → Prop
  | [], es => es = []
  | (k, x, n) :: l, es => ∃ k' v t, VR V k k' ∧ VR V x v ∧ ERs V l t ∧ es = ⟨k', v, n⟩ :: t
theorem ERs.mono {V V' : Vl} (h : V.le V') : ∀ {l : List (AV × AV × Nat)} {es : List MapEntry}, ERs V l es → ERs V' l es
  | [], _, e => by simpa only [ERs] using e
  | (_, _, _) :: _, _, e => by simp only [ERs] at e ⊢; obtain ⟨k', v, t, h1, h2, h3, h4⟩ := e; exact ⟨k', v, t, h1.mono h, h2.mono h, h3.mono h, h4⟩

def BR (V : Vl) (id : Nat) : Blk → Obj → Prop
  | .c t k cs, o => ∃ vs rest, VRs V cs vs ∧ o = .cells (vs ++ rest).toArray t (0, 0) ∧ (k = 0 → rest = []) ∧ (0 < k → (vs ++ rest).length = V.κ id * k ∧ V.κ id ≤ maxLen)
  | .m es c, o => ∃ es', ERs V es es' ∧ o = .map es'.toArray c
theorem BR.mono {V V' : Vl} (h : V.le V') {id b : Nat} (hi : V.ρ id = some b) : ∀ {x : Blk} {o : Obj}, BR V id x o → BR V' id x o
  | .c _ _ _, _, ⟨vs, rest, h1, h2, h3, h4⟩ => ⟨vs, rest, h1.mono h, h2, h3, by rw [(h.1 _ _ hi).2]; exact h4⟩
  | .m _ _, _, ⟨es, h1, h2⟩ => ⟨es, h1.mono h, h2⟩

/-- The world w bears the memory s, above the world w0. -/
structure Sim (w0 : World) (V : Vl) (s : St) (w : World) : Prop where
  os : w.os = w0.os
  tape : w.tape = w0.tape
  output : w.output = w0.output
  size : w0.heap.size ≤ w.heap.size
  keep : ∀ b, b < w0.heap.size → w.heap[b]? = w0.heap[b]?
  fresh : ∀ id b, V.ρ id = some b → id < s.n
  live : ∀ id x, s.h.get id = some x → ∃ b o, V.ρ id = some b ∧ w0.heap.size ≤ b ∧ w.heap[b]? = some o ∧ BR V id x o
  inj : ∀ id id' b x x', s.h.get id = some x → s.h.get id' = some x' → V.ρ id = some b → V.ρ id' = some b → id = id'

section
variable {w0 w : World} {V : Vl} {s : St}
theorem Sim.drew (h : Sim w0 V s w) : Sim w0 V s { w with drawn := w.drawn + 1 } := ⟨h.os, h.tape, h.output, h.size, h.keep, h.fresh, h.live, h.inj⟩
theorem Sim.lt (h : Sim w0 V s w) {id b : Nat} {x : Blk} (hx : s.h.get id = some x) (hb : V.ρ id = some b) : b < w.heap.size := by
  obtain ⟨b', o, h1, h2, h3, h4⟩ := h.live id x hx
  rw [hb] at h1; cases h1
  exact (Array.getElem?_eq_some_iff.1 h3).1

/-- With one name more. -/
def Vl.add (V : Vl) (id b c : Nat) : Vl := { V with ρ := fun j => if j = id then some b else V.ρ j, κ := fun j => if j = id then c else V.κ j }
theorem Vl.le_add {V : Vl} {id b c : Nat} (h : V.ρ id = none) : V.le (V.add id b c) := ⟨fun j b' hj => by
  have : j ≠ id := fun e => by subst e; rw [h] at hj; cases hj
  simp [Vl.add, this, hj], rfl⟩
theorem Sim.unused (h : Sim w0 V s w) : V.ρ s.n = none := by
  cases e : V.ρ s.n with
  | none => rfl
  | some b => exact absurd (h.fresh _ _ e) (Nat.lt_irrefl _)
theorem Sim.dead (h : Sim w0 V s w) : s.h.get s.n = none := by
  cases e : s.h.get s.n with
  | none => rfl
  | some x => obtain ⟨b, o, h1, _⟩ := h.live _ _ e; rw [h.unused] at h1; cases h1

/-- 'V'' has more names than V: of those below n, at most nm. -/
def Vx (V V' : Vl) (n : Nat) (nm : Option Nat) : Prop := V.le V' ∧ ∀ id, id < n → some id ≠ nm → V.ρ id = none → V'.ρ id = none
theorem Vx.rfl {V : Vl} {n : Nat} {nm : Option Nat} : Vx V V n nm := ⟨Vl.le.rfl, fun _ _ _ h => h⟩
theorem Vx.trans {A B C : Vl} {n n' : Nat} {nm : Option Nat} (h : Vx A B n nm) (k : Vx B C n' nm) (hn : n ≤ n') : Vx A C n nm :=
  ⟨h.1.trans k.1, fun id h1 h2 h3 => k.2 id (by omega) h2 (h.2 id h1 h2 h3)⟩
theorem Vx.any {A B : Vl} {n : Nat} {nm : Option Nat} (h : Vx A B n none) : Vx A B n nm := ⟨h.1, fun id h1 _ h3 => h.2 id h1 (by simp) h3⟩
/-- The next name. -/
def St.fresh (s : St) : Option Nat → Option (Nat × Nat)
  | none => some (s.n, s.n + 1)
  | some q => bif Nat.blt q s.n then some (q, s.n) else none
theorem St.fresh_spec {s : St} {nm : Option Nat} {q n' : Nat} (h : s.fresh nm = some (q, n')) : q < n' ∧ s.n ≤ n' ∧ (nm = some q ∨ (nm = none ∧ q = s.n)) := by
  cases nm with
  | none => simp only [St.fresh, Option.some.injEq, Prod.mk.injEq] at h; obtain ⟨rfl, rfl⟩ := h; exact ⟨by omega, by omega, .inr ⟨rfl, rfl⟩⟩
  | some p =>
    simp only [St.fresh] at h
    cases hb : Nat.blt p s.n
    · simp [hb] at h
    · simp only [hb, cond_true, Option.some.injEq, Prod.mk.injEq] at h
      obtain ⟨rfl, rfl⟩ := h
      simp [Nat.blt] at hb
      exact ⟨by omega, by omega, .inl rfl⟩
theorem Sim.fresh' (h : Sim w0 V s w) {nm : Option Nat} {q n' : Nat} (hq : s.fresh nm = some (q, n')) (hn : ∀ p, nm = some p → V.ρ p = none) : V.ρ q = none := by
  obtain ⟨_, _, h3⟩ := St.fresh_spec hq
  rcases h3 with h3 | ⟨_, rfl⟩
  · exact hn q h3
  · exact h.unused
theorem Sim.dead' (h : Sim w0 V s w) {q : Nat} (hq : V.ρ q = none) : s.h.get q = none := by
  cases e : s.h.get q with
  | none => rfl
  | some x => obtain ⟨b, o, h1, _⟩ := h.live _ _ e; rw [hq] at h1; cases h1
theorem Vx.add {V : Vl} {s : St} {nm : Option Nat} {q n' b c : Nat} (hq : s.fresh nm = some (q, n')) (h : V.ρ q = none) : Vx V (V.add q b c) s.n nm := by
  obtain ⟨_, _, h3⟩ := St.fresh_spec hq
  refine ⟨Vl.le_add h, fun id h1 h2 h4 => ?_⟩
  have : id ≠ q := fun e => by subst e; rcases h3 with h3 | ⟨_, rfl⟩; exact h2 h3.symm; omega
  simp [Vl.add, this, h4]
/-- A new object. -/
theorem Sim.alloc (h : Sim w0 V s w) {nm : Option Nat} {q n' : Nat} (hq : s.fresh nm = some (q, n')) (hn : ∀ p, nm = some p → V.ρ p = none) (c : Nat) {x : Blk} {o : Obj} (hx : BR (V.add q w.heap.size c) q x o) :
    Sim w0 (V.add q w.heap.size c) ⟨s.h.set q (some x), n'⟩ { w with heap := w.heap.push o } := by
  have hqn := h.fresh' hq hn
  have hle := Vl.le_add (b := w.heap.size) (c := c) hqn
  obtain ⟨f1, f2, f3⟩ := St.fresh_spec hq
  refine ⟨h.os, h.tape, h.output, ?_, ?_, ?_, ?_, ?_⟩
  · have := h.size; simp only [Array.size_push]; omega
  · intro b hb
    have := h.size
    show (w.heap.push o)[b]? = _
    rw [Array.getElem?_push, if_neg (by omega)]
    exact h.keep b hb
  · intro id b hb
    show id < n'
    simp only [Vl.add] at hb
    split at hb
    · omega
    · have := h.fresh id b hb; omega
  · intro id x' hx'
    simp only [Tr.get_set] at hx'
    split at hx'
    · rename_i e
      subst e
      cases hx'
      exact ⟨w.heap.size, o, by simp [Vl.add], h.size, by simp, hx⟩
    · obtain ⟨b, o', h1, h2, h3, h4⟩ := h.live id x' hx'
      have := (Array.getElem?_eq_some_iff.1 h3).1
      exact ⟨b, o', (hle.1 _ _ h1).1, h2, by show (w.heap.push o)[b]? = _; rw [Array.getElem?_push, if_neg (by omega)]; exact h3, h4.mono hle h1⟩
  · intro id id' b x1 x2 h1 h2 h3 h4
    simp only [Tr.get_set] at h1 h2
    have key : ∀ j y, s.h.get j = some y → j ≠ q → (V.add q w.heap.size c).ρ j = V.ρ j := fun j y _ hj => by simp [Vl.add, hj]
    by_cases e1 : id = q
    · by_cases e2 : id' = q
      · omega
      · exfalso
        rw [if_neg e2] at h2
        rw [key id' _ h2 e2] at h4
        have := h.lt h2 h4
        simp [Vl.add, e1] at h3
        omega
    · rw [if_neg e1] at h1
      rw [key id _ h1 e1] at h3
      by_cases e2 : id' = q
      · exfalso
        have := h.lt h1 h3
        simp [Vl.add, e2] at h4
        omega
      · rw [if_neg e2] at h2
        rw [key id' _ h2 e2] at h4
        exact h.inj id id' b x1 x2 h1 h2 h3 h4

/-- An object is written anew. -/
theorem Sim.put (h : Sim w0 V s w) {id b : Nat} {x x' : Blk} {o : Obj} {hp : Array Obj} (hx : s.h.get id = some x) (hb : V.ρ id = some b) (ho : BR V id x' o)
    (hp1 : hp.size = w.heap.size) (hp2 : ∀ j, j ≠ b → hp[j]? = w.heap[j]?) (hp3 : hp[b]? = some o) : Sim w0 V ⟨s.h.set id (some x'), s.n⟩ { w with heap := hp } := by
  obtain ⟨b', o', h1, h2, h3, h4⟩ := h.live id x hx
  rw [hb] at h1; cases h1
  refine ⟨h.os, h.tape, h.output, by rw [show ({ w with heap := hp } : World).heap = hp from rfl, hp1]; exact h.size, ?_, h.fresh, ?_, ?_⟩
  · intro c hc
    show hp[c]? = _
    rw [hp2 c (by omega)]
    exact h.keep c hc
  · intro j y hy
    simp only [Tr.get_set] at hy
    split at hy
    · rename_i e; subst e; cases hy; exact ⟨b, o, hb, h2, hp3, ho⟩
    · rename_i e
      obtain ⟨c, oc, k1, k2, k3, k4⟩ := h.live j y hy
      refine ⟨c, oc, k1, k2, ?_, k4⟩
      show hp[c]? = _
      rw [hp2 c (fun ec => e (by subst ec; exact h.inj j id c y x hy hx k1 hb))]
      exact k3
  · intro j j' c y y' k1 k2 k3 k4
    simp only [Tr.get_set] at k1 k2
    have f1 : ∃ z, s.h.get j = some z := by
      by_cases e : j = id
      · exact ⟨x, by rw [e]; exact hx⟩
      · rw [if_neg e] at k1; exact ⟨_, k1⟩
    have f2 : ∃ z, s.h.get j' = some z := by
      by_cases e : j' = id
      · exact ⟨x, by rw [e]; exact hx⟩
      · rw [if_neg e] at k2; exact ⟨_, k2⟩
    obtain ⟨z1, f1⟩ := f1
    obtain ⟨z2, f2⟩ := f2
    exact h.inj j j' c z1 z2 f1 f2 k3 k4

/-- A name is forgotten. -/
theorem Sim.del (h : Sim w0 V s w) (id : Nat) : Sim w0 V ⟨s.h.set id .none, s.n⟩ w := by
  refine ⟨h.os, h.tape, h.output, h.size, h.keep, h.fresh, ?_, ?_⟩
  · intro j y hy
    simp only [Tr.get_set] at hy
    split at hy
    · cases hy
    · exact h.live j y hy
  · intro j j' c y y' k1 k2 k3 k4
    simp only [Tr.get_set] at k1 k2
    split at k1
    · cases k1
    · split at k2
      · cases k2
      · exact h.inj j j' c y y' k1 k2 k3 k4

/-- An object gets a new name; the old one is forgotten. -/
theorem Sim.rename (h : Sim w0 V s w) {nm : Option Nat} {q n' : Nat} (hq : s.fresh nm = some (q, n')) (hn : ∀ p, nm = some p → V.ρ p = none) {id b : Nat} {x x' : Blk} {o : Obj} (hx : s.h.get id = some x) (hb : V.ρ id = some b) (ho : w.heap[b]? = some o) (c : Nat) (hx' : BR (V.add q b c) q x' o) :
    Sim w0 (V.add q b c) ⟨(s.h.set id .none).set q (some x'), n'⟩ w := by
  have hqn := h.fresh' hq hn
  have hle := Vl.le_add (b := b) (c := c) hqn
  obtain ⟨f1, f2, f3⟩ := St.fresh_spec hq
  obtain ⟨b', o', h1, h2, h3, h4⟩ := h.live id x hx
  rw [hb] at h1; cases h1
  refine ⟨h.os, h.tape, h.output, h.size, h.keep, ?_, ?_, ?_⟩
  · intro j c' hj
    show j < n'
    simp only [Vl.add] at hj
    split at hj
    · omega
    · have := h.fresh j c' hj; omega
  · intro j y hy
    simp only [Tr.get_set] at hy
    split at hy
    · rename_i e; subst e; cases hy; exact ⟨b, o, by simp [Vl.add], h2, ho, hx'⟩
    · split at hy
      · cases hy
      · obtain ⟨c', oc, k1, k2, k3, k4⟩ := h.live j y hy
        exact ⟨c', oc, (hle.1 _ _ k1).1, k2, k3, k4.mono hle k1⟩
  · intro j j' d y y' k1 k2 k3 k4
    simp only [Tr.get_set] at k1 k2
    have key : ∀ j, j ≠ q → (V.add q b c).ρ j = V.ρ j := fun j hj => by simp [Vl.add, hj]
    by_cases e1 : j = q
    · by_cases e2 : j' = q
      · omega
      · exfalso
        rw [if_neg e2] at k2
        split at k2
        · cases k2
        · rename_i e3
          rw [key j' e2] at k4
          simp [Vl.add, e1] at k3
          subst k3
          exact e3 (h.inj j' id b y' x k2 hx k4 hb)
    · rw [if_neg e1] at k1
      split at k1
      · cases k1
      · rename_i e3
        rw [key j e1] at k3
        by_cases e2 : j' = q
        · exfalso
          simp [Vl.add, e2] at k4
          subst k4
          exact e3 (h.inj j id b y x k1 hx k3 hb)
        · rw [if_neg e2] at k2
          split at k2
          · cases k2
          · rw [key j' e2] at k4
            exact h.inj j j' d y y' k1 k2 k3 k4
end
end Go.Fw
