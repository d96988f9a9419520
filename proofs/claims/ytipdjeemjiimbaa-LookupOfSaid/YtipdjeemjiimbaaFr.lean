/- The rules of the calculus: one for each kind of code and of operation. Nothing of the program is named here. No condition. -/
import Derived.Test.YtipdjeemjiimbaaFw
import Derived.Deep.LoopGhost
set_option linter.unusedVariables false
set_option linter.unusedSimpArgs false
set_option linter.unnecessarySimpa false
namespace Go.Fw
open Go Go.RowKit

/-- What a walk of one function body keeps: the program, how many slots, the world at the call, the blocks that it may write. -/
structure Env where
  P : Program
  n : Nat
  w0 : World
  own : Nat → Prop
  G0 : GH

/-- A continuation. -/
abbrev Kt := Fr → GH → MH → Prop

def NewO (s : Nat) (own : Nat → Prop) (G G' : GH) : Prop := ∀ b, G b = none → G' b ≠ none → s ≤ b ∨ own b
structure Env.real (E : Env) (G : GH) (M : MH) (w : World) : Prop where
  r : Real E.w0 E.own G M w
  le : Le E.G0 G
  nw : NewO E.w0.heap.size E.own E.G0 G

theorem Env.real.anti {E : Env} {G G' : GH} {M : MH} {w : World} (h : E.real G' M w) (hl : Le G G') (h0 : Le E.G0 G) : E.real G M w :=
  ⟨⟨h.r.os, h.r.tape, h.r.output, h.r.size, h.r.keep, fun b o hb => h.r.ro b o (hl b o hb), h.r.mu, fun p hp => by
      cases hg : G p.1 with
      | none => rfl
      | some o => rw [← h.r.dis p hp, hl _ _ hg],
    h.r.nd, h.r.lo⟩, h0, fun b h1 h2 => h.nw b h1 (fun h3 => by
      cases hg : G b with
      | none => exact h2 hg
      | some o => rw [hl _ _ hg] at h3; cases h3)⟩
theorem Env.real.drew {E : Env} {G : GH} {M : MH} {w : World} (h : E.real G M w) : E.real G M { w with drawn := w.drawn + 1 } := ⟨h.r.drew, h.le, h.nw⟩

def lift (E : Env) (Q : Exit → Kt) (e : Exit) (a : Act) (w : World) : Prop := ∃ f G M, Is E.n a f ∧ E.real G M w ∧ Q e f G M

/-- Operations of a region: 'q = false': carried out as they stand; 'q = true': in a region that draws its order, each quiet. -/
def W (E : Env) (ops : Array Oper) : Bool → List Oper → Fr → GH → MH → Kt → Prop
  | false, l, f, G, M, K => ∀ a w (Q : Exit → Act → World → Prop), Is E.n a f → E.real G M w → (∀ f G M a w, Is E.n a f → E.real G M w → K f G M → Q .normal a w) → wpList E.P ops Q l a w
  | true, l, f, G, M, K => ∀ a, Is E.n a f → wpQuiet E.P ops (E.real G M) (fun a' => ∃ f', Is E.n a' f' ∧ K f' G M) l a

/-- A code. -/
def WC (E : Env) (c : Code) (Q : Exit → Kt) (f : Fr) (G : GH) (M : MH) : Prop := ∀ a w, Is E.n a f → E.real G M w → c.wp E.P (lift E Q) a w

/-! ## Code -/
def thn (K : Kt) (Q : Exit → Kt) : Exit → Kt
  | .normal => K
  | e => Q e
def blk (id : Nat) (Q : Exit → Kt) : Exit → Kt
  | .exit id' => if id' = id then Q .normal else Q (.exit id')
  | e => Q e

section
variable {E : Env} {Q : Exit → Kt} {f : Fr} {G : GH} {M : MH}

theorem WC.seq {x y : Code} (h : WC E x (thn (WC E y Q) Q) f G M) : WC E (.seq x y) Q f G M := by
  intro a w hi hr
  refine wp_seq (wp_mono (h a w hi hr) ?_)
  rintro e a' w' ⟨f', G', M', h1, h2, h3⟩
  cases e with
  | normal => exact h3 a' w' h1 h2
  | _ => exact ⟨f', G', M', h1, h2, h3⟩

theorem WC.skip (h : Q .normal f G M) : WC E .skip Q f G M := fun _ _ hi hr => wp_skip ⟨f, G, M, hi, hr, h⟩
theorem WC.exit {id : Nat} (h : Q (.exit id) f G M) : WC E (.exit id) Q f G M := fun _ _ hi hr => wp_exit ⟨f, G, M, hi, hr, h⟩
theorem WC.ret (h : Q .ret f G M) : WC E .ret Q f G M := fun _ _ hi hr => wp_ret ⟨f, G, M, hi, hr, h⟩

theorem WC.block {id : Nat} {c : Code} (h : WC E c (blk id Q) f G M) : WC E (.block id c) Q f G M := by
  intro a w hi hr
  refine wp_block (wp_mono (h a w hi hr) ?_)
  rintro e a' w' ⟨f', G', M', h1, h2, h3⟩
  cases e with
  | exit id' =>
    simp only [blk] at h3
    simp only [Exit.inBlock]
    by_cases e : id' = id
    · simp only [e, if_true] at h3 ⊢; exact ⟨f', G', M', h1, h2, h3⟩
    · simp only [e, if_false] at h3 ⊢; exact ⟨f', G', M', h1, h2, h3⟩
  | _ => exact ⟨f', G', M', h1, h2, h3⟩

theorem WC.cond {c : Operand} {x y : Code} {b : Bool} (hc : ev f c = .bool b) (ht : b = true → WC E x Q f G M) (hf : b = false → WC E y Q f G M) : WC E (.cond c x y) Q f G M :=
  fun a w hi hr => wp_cond_split (by rw [hi.eval]; exact hc) (fun h => ht h a w hi hr) (fun h => hf h a w hi hr)
theorem WC.cond_t {c : Operand} {x y : Code} {b : Bool} (hc : ev f c = .bool b) (hb : b = true) (h : WC E x Q f G M) : WC E (.cond c x y) Q f G M :=
  WC.cond hc (fun _ => h) (fun e => absurd hb (by simp [e]))
theorem WC.cond_f {c : Operand} {x y : Code} {b : Bool} (hc : ev f c = .bool b) (hb : b = false) (h : WC E y Q f G M) : WC E (.cond c x y) Q f G M :=
  WC.cond hc (fun e => absurd hb (by simp [e])) (fun _ => h)

theorem WC.region {id : Nat} {l : List Oper} (h : W E l.toArray false l f G M (Q .normal)) : WC E (.region id l.toArray false) Q f G M :=
  fun a w hi hr => wp_region_lit (h a w _ hi hr fun _ _ _ _ _ h1 h2 h3 => ⟨_, _, _, h1, h2, h3⟩)

theorem WC.draw {id : Nat} {l : List Oper} (hm : E.P.follows .mixedOrders = true) (hB : Region.lexB .any l.toArray = true) (h : W E l.toArray true l f G M (Q .normal)) :
    WC E (.region id l.toArray true) Q f G M := by
  intro a w hi hr
  refine wp_region_quiet (C := E.real G M) hm hB hr.drew ?_
  have key : ∀ (l' : List Oper) (a : Act), wpQuiet E.P l.toArray (E.real G M) (fun a' => ∃ f', Is E.n a' f' ∧ Q .normal f' G M) l' a →
      wpQuiet E.P l.toArray (E.real G M) (fun a' => ∀ w', E.real G M w' → lift E Q .normal a' w') l' a := by
    intro l'
    induction l' with
    | nil => rintro a ⟨f', h1, h2⟩ w' h4; exact ⟨f', G, M, h1, h4, h2⟩
    | cons o l' ih =>
      intro a h
      unfold wpQuiet at h ⊢
      split at h
      · rename_i hw; rw [if_pos hw]; exact Oper.quiet_mono ih h
      · rename_i hw; rw [if_neg hw]; exact ih _ h
  simpa using key l a (h a hi)

theorem thn_n {K : Kt} (h : K f G M) : thn K Q .normal f G M := h
theorem thn_x {K : Kt} {id : Nat} (h : Q (.exit id) f G M) : thn K Q (.exit id) f G M := h
theorem thn_r {K : Kt} (h : Q .ret f G M) : thn K Q .ret f G M := h
theorem blk_n {id : Nat} (h : Q .normal f G M) : blk id Q .normal f G M := h
theorem blk_r {id : Nat} (h : Q .ret f G M) : blk id Q .ret f G M := h
theorem blk_h {id : Nat} (h : Q .normal f G M) : blk id Q (.exit id) f G M := by simp only [blk, if_true]; exact h
theorem blk_m {id id' : Nat} (h : Q (.exit id') f G M) (hn : Nat.beq id' id = false := by rfl) : blk id Q (.exit id') f G M := by
  have : ¬ id' = id := fun e => by subst e; simp at hn
  simp only [blk, this, if_false]; exact h
/-- Owned objects are forgotten. -/
theorem WC.sub {c : Code} {M' : MH} (hs : M'.Sublist M) (h : WC E c Q f G M') : WC E c Q f G M := fun a w hi hr => h a w hi ⟨hr.r.sub hs, hr.le, hr.nw⟩
theorem WC.perm {c : Code} {M' : MH} (hs : M'.Perm M) (h : WC E c Q f G M') : WC E c Q f G M := fun a w hi hr => h a w hi ⟨hr.r.perm hs, hr.le, hr.nw⟩
theorem Env.real.give {p : Nat × Obj} {w : World} (h : E.real G (p :: M) w) : E.real (put G p.1 p.2) M w ∧ Le G (put G p.1 p.2) := by
  obtain ⟨h1, h2⟩ := h.r.give
  refine ⟨⟨h1, h.le.trans h2, fun b hb hb' => ?_⟩, h2⟩
  by_cases e : b = p.1
  · subst e; exact h.r.lo p (by simp)
  · simp only [put, e, if_false] at hb'; exact h.nw b hb hb'
/-- An owned object is given up: nobody writes it any more. -/
theorem WC.give {c : Code} {p : Nat × Obj} (h : Le G (put G p.1 p.2) → WC E c Q f (put G p.1 p.2) M) : WC E c Q f G (p :: M) := fun a w hi hr =>
  h hr.give.2 a w hi hr.give.1

/-- A state of a loop's slots. -/
def setL (g : Fr) : List (Nat × Value) → Fr
  | [] => g
  | p :: l => upd (setL g l) p.1 p.2
def Has (f : Fr) : List (Nat × Value) → Prop
  | [] => True
  | p :: l => f p.1 = p.2 ∧ Has f l
theorem setL_of_has {f : Fr} : ∀ {l : List (Nat × Value)}, Has f l → setL f l = f
  | [], _ => rfl
  | p :: l, h => by
    simp only [setL, setL_of_has h.2]
    funext t
    simp only [upd]
    cases hb : Nat.beq t p.1
    · rfl
    · rw [Nat.eq_of_beq_eq_true hb]; exact h.1.symm

/-- A loop: 'live x' are the slots that count, x what they say; 'I' what is known of x and the heap; 'm' goes down. -/
theorem WC.loop {X : Type} {c : Code} (live : X → List (Nat × Value)) (I : X → GH → MH → Prop) (m : X → Nat) (x0 : X)
    (h0 : Has f (live x0)) (i0 : I x0 G M)
    (round : ∀ x g G' M', Le G G' → I x G' M' → WC E c (thn (fun f' G'' M'' => Le G' G'' ∧ ∃ x', Has f' (live x') ∧ I x' G'' M'' ∧ m x' < m x) Q) (setL g (live x)) G' M') :
    WC E (.loop c) Q f G M := by
  intro a w hi hr
  refine wp_loop_ghost (fun n a w => ∃ x, m x = n ∧ ∃ f' G' M', Is E.n a f' ∧ E.real G' M' w ∧ Le G G' ∧ Has f' (live x) ∧ I x G' M') (m x0) ⟨x0, rfl, f, G, M, hi, hr, Le.rfl, h0, i0⟩ ?_
  rintro n a w ⟨x, rfl, f', G', M', h1, h2, h3, h4, h5⟩
  have := round x f' G' M' h3 h5 a w (by rw [setL_of_has h4]; exact h1) h2
  refine wp_mono this ?_
  rintro e a' w' ⟨f'', G'', M'', k1, k2, k3⟩
  cases e with
  | normal =>
    obtain ⟨k4, x', k5, k6, k7⟩ := k3
    exact ⟨m x', k7, x', rfl, f'', G'', M'', k1, k2, h3.trans k4, k5, k6⟩
  | _ => exact ⟨f'', G'', M'', k1, k2, k3⟩

/-! ## Operations -/
/-- The operation yields v and leaves the world alone, wherever G and M hold. -/
def Ok (E : Env) (f : Fr) (G : GH) (M : MH) (o : Oper) (v : Value) : Prop := ∀ w, E.real G M w → (execOp (ev f) o).run E.P w = .ok (.value v) w

section
variable {ops rest : List Oper} {q : Bool} {K : Kt} {d : Nat} {op : Op} {ty : TypeId} {pos : String} {aft : Array Edge} {v : Value}

theorem W.nil (h : K f G M) : W E ops.toArray q [] f G M K := by
  cases q
  · exact fun a w Q hi hr hK => wpList_nil (hK _ _ _ _ _ hi hr h)
  · exact fun a hi => wpQuiet_nil ⟨f, hi, h⟩

theorem W.ok (h : Ok E f G M ⟨some d, op, ty, pos, aft, none⟩ v) (k : W E ops.toArray q rest (upd f d v) G M K) (hd : Nat.blt d E.n = true := by rfl) :
    W E ops.toArray q (⟨some d, op, ty, pos, aft, none⟩ :: rest) f G M K := by
  cases q
  · intro a w Q hi hr hK
    refine wpList_plain rfl fun K' hK' => ?_
    unfold Oper.wp
    rw [hi.eval, h w hr]
    exact hK' _ _ (k _ w Q (hi.put hd v) hr hK)
  · intro a hi
    refine wpQuiet_step fun K' hK' => ?_
    rw [if_pos (by rfl)]
    refine ⟨v, fun w hr => ?_, hK' _ (k _ (hi.put hd v))⟩
    unfold Oper.quietAt
    rw [hi.eval, h w hr]
    exact ⟨rfl, rfl⟩

/-- An operation whose guard says no. -/
theorem W.no {j dj : Nat} {want b : Bool} (hj : (ops.toArray[j]?).bind (·.dst) = some dj) (hb : f dj = .bool b) (hn' : b = !want)
    (k : W E ops.toArray q rest (upd f d undef) G M K) (hd : Nat.blt d E.n = true := by rfl) :
    W E ops.toArray q (⟨some d, op, ty, pos, aft, some (j, want)⟩ :: rest) f G M K := by
  have key : ∀ a, Is E.n a f → Region.wanted ⟨some d, op, ty, pos, aft, some (j, want)⟩ (yielded ops.toArray a.tmps) = false := fun a hi => by
    have hn : (b == want) = false := by rw [hn']; cases want <;> rfl
    clear hn'
    have hg : a.tmps[dj]? = some (.bool b) ∨ a.tmps[dj]? = none := by
      have := hi.get dj
      rw [Array.getD_eq_getD_getElem?, hb] at this
      cases h : a.tmps[dj]? with
      | none => exact .inr rfl
      | some x => rw [h] at this; simp at this; exact .inl (by rw [this])
    simp only [Region.wanted, yielded, hj, Option.bind_some]
    rcases hg with hg | hg <;> rw [hg]
    · cases b <;> cases want <;> simp_all
    · rfl
  cases q
  · intro a w Q hi hr hK
    refine wpList_step fun K' hK' => ?_
    rw [if_neg (by rw [key a hi]; simp)]
    exact hK' _ _ (k _ w Q (hi.put hd undef) hr hK)
  · intro a hi
    refine wpQuiet_step fun K' hK' => ?_
    rw [if_neg (by rw [key a hi]; simp)]
    exact hK' _ (k _ (hi.put hd undef))

theorem W.no_none {j dj : Nat} {want b : Bool} (hj : (ops.toArray[j]?).bind (·.dst) = some dj) (hb : f dj = .bool b) (hn' : b = !want)
    (k : W E ops.toArray q rest f G M K) :
    W E ops.toArray q (⟨none, op, ty, pos, aft, some (j, want)⟩ :: rest) f G M K := by
  have key : ∀ a, Is E.n a f → Region.wanted ⟨none, op, ty, pos, aft, some (j, want)⟩ (yielded ops.toArray a.tmps) = false := fun a hi => by
    have hn : (b == want) = false := by rw [hn']; cases want <;> rfl
    clear hn'
    have hg : a.tmps[dj]? = some (.bool b) ∨ a.tmps[dj]? = none := by
      have := hi.get dj
      rw [Array.getD_eq_getD_getElem?, hb] at this
      cases h : a.tmps[dj]? with
      | none => exact .inr rfl
      | some x => rw [h] at this; simp at this; exact .inl (by rw [this])
    simp only [Region.wanted, yielded, hj, Option.bind_some]
    rcases hg with hg | hg <;> rw [hg]
    · cases b <;> cases want <;> simp_all
    · rfl
  cases q
  · intro a w Q hi hr hK
    refine wpList_step fun K' hK' => ?_
    rw [if_neg (by rw [key a hi]; simp)]
    exact hK' _ _ (k _ w Q (hi.put_none undef) hr hK)
  · intro a hi
    refine wpQuiet_step fun K' hK' => ?_
    rw [if_neg (by rw [key a hi]; simp)]
    exact hK' _ (k _ (hi.put_none undef))

theorem W.nou {j dj : Nat} {want : Bool} (hj : (ops.toArray[j]?).bind (·.dst) = some dj) (hb : f dj = undef)
    (k : W E ops.toArray q rest (upd f d undef) G M K) (hd : Nat.blt d E.n = true := by rfl) :
    W E ops.toArray q (⟨some d, op, ty, pos, aft, some (j, want)⟩ :: rest) f G M K := by
  have key : ∀ a, Is E.n a f → Region.wanted ⟨some d, op, ty, pos, aft, some (j, want)⟩ (yielded ops.toArray a.tmps) = false := fun a hi => by
    have hg : a.tmps[dj]? = some undef ∨ a.tmps[dj]? = none := by
      have := hi.get dj
      rw [Array.getD_eq_getD_getElem?, hb] at this
      cases h : a.tmps[dj]? with
      | none => exact .inr rfl
      | some x => rw [h] at this; simp at this; exact .inl (by rw [this])
    simp only [Region.wanted, yielded, hj, Option.bind_some]
    rcases hg with hg | hg <;> rw [hg] <;> rfl
  cases q
  · intro a w Q hi hr hK
    refine wpList_step fun K' hK' => ?_
    rw [if_neg (by rw [key a hi]; simp)]
    exact hK' _ _ (k _ w Q (hi.put hd undef) hr hK)
  · intro a hi
    refine wpQuiet_step fun K' hK' => ?_
    rw [if_neg (by rw [key a hi]; simp)]
    exact hK' _ (k _ (hi.put hd undef))

theorem W.nou_none {j dj : Nat} {want : Bool} (hj : (ops.toArray[j]?).bind (·.dst) = some dj) (hb : f dj = undef)
    (k : W E ops.toArray q rest f G M K) :
    W E ops.toArray q (⟨none, op, ty, pos, aft, some (j, want)⟩ :: rest) f G M K := by
  have key : ∀ a, Is E.n a f → Region.wanted ⟨none, op, ty, pos, aft, some (j, want)⟩ (yielded ops.toArray a.tmps) = false := fun a hi => by
    have hg : a.tmps[dj]? = some undef ∨ a.tmps[dj]? = none := by
      have := hi.get dj
      rw [Array.getD_eq_getD_getElem?, hb] at this
      cases h : a.tmps[dj]? with
      | none => exact .inr rfl
      | some x => rw [h] at this; simp at this; exact .inl (by rw [this])
    simp only [Region.wanted, yielded, hj, Option.bind_some]
    rcases hg with hg | hg <;> rw [hg] <;> rfl
  cases q
  · intro a w Q hi hr hK
    refine wpList_step fun K' hK' => ?_
    rw [if_neg (by rw [key a hi]; simp)]
    exact hK' _ _ (k _ w Q (hi.put_none undef) hr hK)
  · intro a hi
    refine wpQuiet_step fun K' hK' => ?_
    rw [if_neg (by rw [key a hi]; simp)]
    exact hK' _ (k _ (hi.put_none undef))

/-- An operation whose guard says yes. -/
theorem W.yes {dst : Option Nat} {j dj : Nat} {want b : Bool} (hj : (ops.toArray[j]?).bind (·.dst) = some dj) (hb : f dj = .bool b) (hn' : b = want)
    (k : W E ops.toArray q (⟨dst, op, ty, pos, aft, none⟩ :: rest) f G M K) (hdj : Nat.blt dj E.n = true := by rfl) :
    W E ops.toArray q (⟨dst, op, ty, pos, aft, some (j, want)⟩ :: rest) f G M K := by
  have key : ∀ a, Is E.n a f → Region.wanted ⟨dst, op, ty, pos, aft, some (j, want)⟩ (yielded ops.toArray a.tmps) = true := fun a hi => by
    have hn : (b == want) = true := by rw [hn']; cases want <;> rfl
    clear hn'
    have hl : dj < a.tmps.size := by rw [hi.size]; have h1 := hdj; simp [Nat.blt] at h1; omega
    have := hi.get dj
    rw [Array.getD_eq_getD_getElem?, hb, Array.getElem?_eq_getElem hl] at this
    simp at this
    simp only [Region.wanted, yielded, hj, Option.bind_some, Array.getElem?_eq_getElem hl, this]
    cases b <;> cases want <;> simp_all
  cases q
  · intro a w Q hi hr hK
    have := k a w Q hi hr hK
    unfold wpList at this ⊢
    rw [if_pos (key a hi)]
    rw [if_pos (by rfl)] at this
    exact this
  · intro a hi
    have := k a hi
    unfold wpQuiet at this ⊢
    rw [if_pos (key a hi)]
    rw [if_pos (by rfl)] at this
    exact this

theorem W.sp (dj : Nat) {b : Bool} {l : List Oper} (hb : f dj = .bool b) (ht : b = true → W E ops.toArray q l f G M K) (hf : b = false → W E ops.toArray q l f G M K) : W E ops.toArray q l f G M K := by
  cases b
  · exact hf rfl
  · exact ht rfl

/-! ### Plain operations -/
theorem ok_move {x : Operand} : Ok E f G M ⟨some d, .move x, ty, pos, aft, none⟩ (ev f x) := fun _ _ => rfl
theorem ok_assign {x : Operand} : Ok E f G M ⟨some d, .assign x, ty, pos, aft, none⟩ (ev f x) := fun _ _ => rfl
theorem W.mv {x : Operand} (k : W E ops.toArray q rest (upd f d (ev f x)) G M K) (hd : Nat.blt d E.n = true := by rfl) : W E ops.toArray q (⟨some d, .move x, ty, pos, aft, none⟩ :: rest) f G M K := W.ok ok_move k hd
theorem W.as {x : Operand} (k : W E ops.toArray q rest (upd f d (ev f x)) G M K) (hd : Nat.blt d E.n = true := by rfl) : W E ops.toArray q (⟨some d, .assign x, ty, pos, aft, none⟩ :: rest) f G M K := W.ok ok_assign k hd
theorem ok_pick_t {c x y : Operand} {b : Bool} (hc : ev f c = .bool b) (hb : b = true) : Ok E f G M ⟨some d, .pick c x y, ty, pos, aft, none⟩ (ev f x) := fun _ _ => by
  subst hb; simp [execOp, hc, asBool]
theorem ok_pick_f {c x y : Operand} {b : Bool} (hc : ev f c = .bool b) (hb : b = false) : Ok E f G M ⟨some d, .pick c x y, ty, pos, aft, none⟩ (ev f y) := fun _ _ => by
  subst hb; simp [execOp, hc, asBool]
theorem ok_not {x : Operand} {t : TypeId} {b : Bool} (hx : ev f x = .bool b) : Ok E f G M ⟨some d, .unOp .not t x, ty, pos, aft, none⟩ (.bool (!b)) := fun _ _ => by
  simp [execOp, hx, Op.unary]
end
end
end Go.Fw
