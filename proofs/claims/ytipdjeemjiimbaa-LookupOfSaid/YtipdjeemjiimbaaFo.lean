/- The operations of the calculus: numbers, texts, slices that are read, boxes, calls. Nothing of the program is named here. No condition. -/
import Derived.Test.YtipdjeemjiimbaaFd
import Derived.IntWalk
set_option linter.unusedVariables false
set_option linter.unusedSimpArgs false
set_option linter.unnecessarySimpa false
namespace Go.Fw
open Go Go.RowKit

section
variable {E : Env} {f : Fr} {G : GH} {M : MH} {ops rest : List Oper} {q : Bool} {K : Kt} {d : Nat} {op : Op} {ty : TypeId} {pos : String} {aft : Array Edge} {v : Value}

/-! ### Whole numbers -/
variable {x y : Operand} {t t' : TypeId} {k : IntKind} {m n : Int}
theorem ok_lss (hx : ev f x = .int k m) (hy : ev f y = .int k n) : Ok E f G M ⟨some d, .binOp .lss t x y t', ty, pos, aft, none⟩ (.bool (decide (m < n))) := fun _ _ => by
  simp [execOp, hx, hy, eqGuard, binOp, Op.intCmp]
theorem ok_leq (hx : ev f x = .int k m) (hy : ev f y = .int k n) : Ok E f G M ⟨some d, .binOp .leq t x y t', ty, pos, aft, none⟩ (.bool (decide (m ≤ n))) := fun _ _ => by
  simp [execOp, hx, hy, eqGuard, binOp, Op.intCmp]
theorem ok_gtr (hx : ev f x = .int k m) (hy : ev f y = .int k n) : Ok E f G M ⟨some d, .binOp .gtr t x y t', ty, pos, aft, none⟩ (.bool (decide (n < m))) := fun _ _ => by
  simp [execOp, hx, hy, eqGuard, binOp, Op.intCmp]
theorem ok_geq (hx : ev f x = .int k m) (hy : ev f y = .int k n) : Ok E f G M ⟨some d, .binOp .geq t x y t', ty, pos, aft, none⟩ (.bool (decide (n ≤ m))) := fun _ _ => by
  simp [execOp, hx, hy, eqGuard, binOp, Op.intCmp]
theorem ok_eql (hx : ev f x = .int k m) (hy : ev f y = .int k n) : Ok E f G M ⟨some d, .binOp .eql t x y t', ty, pos, aft, none⟩ (.bool (decide (m = n))) := fun _ _ => by
  simp [execOp, hx, hy, eqGuard, binOp, Op.intCmp]; rfl
theorem ok_neq (hx : ev f x = .int k m) (hy : ev f y = .int k n) : Ok E f G M ⟨some d, .binOp .neq t x y t', ty, pos, aft, none⟩ (.bool (!decide (m = n))) := fun _ _ => by
  simp [execOp, hx, hy, eqGuard, binOp, Op.intCmp]; rfl
theorem ok_add (hx : ev f x = .int .i64 m) (hy : ev f y = .int .i64 n) (hb : -9223372036854775808 ≤ m + n ∧ m + n ≤ 9223372036854775807) :
    Ok E f G M ⟨some d, .binOp .add t x y t', ty, pos, aft, none⟩ (.int .i64 (m + n)) := fun _ _ => by
  have := IntWalk.i64_in _ hb
  simp [execOp, hx, hy, eqGuard, binOp, Op.intArith, this]
theorem ok_sub (hx : ev f x = .int .i64 m) (hy : ev f y = .int .i64 n) (hb : -9223372036854775808 ≤ m - n ∧ m - n ≤ 9223372036854775807) :
    Ok E f G M ⟨some d, .binOp .sub t x y t', ty, pos, aft, none⟩ (.int .i64 (m - n)) := fun _ _ => by
  have := IntWalk.i64_in _ hb
  simp [execOp, hx, hy, eqGuard, binOp, Op.intArith, this]
theorem ok_mul (hx : ev f x = .int .i64 m) (hy : ev f y = .int .i64 n) (hb : -9223372036854775808 ≤ m * n ∧ m * n ≤ 9223372036854775807) :
    Ok E f G M ⟨some d, .binOp .mul t x y t', ty, pos, aft, none⟩ (.int .i64 (m * n)) := fun _ _ => by
  have := IntWalk.i64_in _ hb
  simp [execOp, hx, hy, eqGuard, binOp, Op.intArith, this]
/-- A quotient, rounded towards nought. -/
theorem ok_quo (hx : ev f x = .int .i64 m) (hy : ev f y = .int .i64 n) (hn : n ≠ 0) (hb : -9223372036854775808 ≤ m.tdiv n ∧ m.tdiv n ≤ 9223372036854775807) :
    Ok E f G M ⟨some d, .binOp .quo t x y t', ty, pos, aft, none⟩ (.int .i64 (m.tdiv n)) := fun _ _ => by
  have := IntWalk.i64_in _ hb
  simp [execOp, hx, hy, eqGuard, binOp, Op.intDiv, hn, this]
theorem tdiv_le {m n : Int} (h0 : 0 ≤ m) (h1 : 0 < n) : 0 ≤ m.tdiv n ∧ m.tdiv n ≤ m := by
  rw [Int.tdiv_eq_ediv_of_nonneg h0]
  exact ⟨Int.ediv_nonneg h0 (by omega), Int.ediv_le_self _ h0⟩
/-- A quotient of a number that is not below nought by one above it. -/
theorem ok_quo' (hx : ev f x = .int .i64 m) (hy : ev f y = .int .i64 n) (h0 : 0 ≤ m) (h1 : 0 < n) (hm : m ≤ 9223372036854775807) :
    Ok E f G M ⟨some d, .binOp .quo t x y t', ty, pos, aft, none⟩ (.int .i64 (m / n)) := by
  have h2 := tdiv_le h0 h1
  rw [← Int.tdiv_eq_ediv_of_nonneg h0]
  exact ok_quo hx hy (by omega) (by omega)
theorem ok_maxi (hx : ev f x = .int k m) (hy : ev f y = .int k n) {at' : Array TypeId} :
    Ok E f G M ⟨some d, .call { callee := .builtin .max, args := #[x, y], argTypes := at' }, ty, pos, aft, none⟩ (.int k (max m n)) := fun _ _ => by
  simp [execOp, resolve, invoke, builtin, hx, hy, Builtin.max_, Builtin.max2]
  split <;> omega
theorem ok_mini (hx : ev f x = .int k m) (hy : ev f y = .int k n) {at' : Array TypeId} :
    Ok E f G M ⟨some d, .call { callee := .builtin .min, args := #[x, y], argTypes := at' }, ty, pos, aft, none⟩ (.int k (min m n)) := fun _ _ => by
  simp [execOp, resolve, invoke, builtin, hx, hy, Builtin.min_, Builtin.min2]
  split <;> omega

/-! ### Truth values -/
theorem run_equalB {P : Program} {t : TypeId} (ht : P.underlying t = some .bool) (a b : Bool) (w : World) : (Op.equal t (.bool a) (.bool b)).run P w = .ok (a == b) w := by
  have h : ∀ n, (Op.equalIn (n + 1) t (.bool a) (.bool b)).run P w = .ok (a == b) w := fun n => by
    simp [Op.equalIn, run_underlying ht]
  exact h 9999
theorem ok_eqlB {a b : Bool} (ht : E.P.underlying t = some .bool) (hx : ev f x = .bool a) (hy : ev f y = .bool b) : Ok E f G M ⟨some d, .binOp .eql t x y t', ty, pos, aft, none⟩ (.bool (a == b)) := fun w _ => by
  have h := run_equalB ht a b w
  have h2 : (binOp .eql t (.bool a) (.bool b)).run E.P w = .ok (.bool (a == b)) w := by simp only [binOp]; simp [h]
  simp [execOp, hx, hy, eqGuard, h2]
theorem ok_neqB {a b : Bool} (ht : E.P.underlying t = some .bool) (hx : ev f x = .bool a) (hy : ev f y = .bool b) : Ok E f G M ⟨some d, .binOp .neq t x y t', ty, pos, aft, none⟩ (.bool (!(a == b))) := fun w _ => by
  have h := run_equalB ht a b w
  have h2 : (binOp .neq t (.bool a) (.bool b)).run E.P w = .ok (.bool (!(a == b))) w := by simp only [binOp]; simp [h]
  simp [execOp, hx, hy, eqGuard, h2]

/-! ### Texts -/
def blt (a b : ByteArray) : Bool := Op.bytesLess a.toList b.toList
theorem toList_inj {a b : ByteArray} : a.toList = b.toList ↔ a = b := by
  rw [ByteArray.toList_eq, ByteArray.toList_eq]
  constructor
  · intro h
    cases a; cases b
    simp only [ByteArray.mk.injEq]
    exact Array.toList_inj.1 h
  · rintro rfl; rfl
theorem beq_toList (a b : ByteArray) : (a.toList == b.toList) = decide (a = b) := by
  rw [Bool.eq_iff_iff]; simp [toList_inj]
variable {a b : ByteArray}
theorem ok_lssS (hx : ev f x = .string a) (hy : ev f y = .string b) : Ok E f G M ⟨some d, .binOp .lss t x y t', ty, pos, aft, none⟩ (.bool (blt a b)) := fun _ _ => by
  simp [execOp, hx, hy, eqGuard, binOp, Op.stringOp, blt]
theorem ok_geqS (hx : ev f x = .string a) (hy : ev f y = .string b) : Ok E f G M ⟨some d, .binOp .geq t x y t', ty, pos, aft, none⟩ (.bool (!blt a b)) := fun _ _ => by
  simp [execOp, hx, hy, eqGuard, binOp, Op.stringOp, blt]
theorem ok_eqlS (hx : ev f x = .string a) (hy : ev f y = .string b) : Ok E f G M ⟨some d, .binOp .eql t x y t', ty, pos, aft, none⟩ (.bool (decide (a = b))) := fun _ _ => by
  simp [execOp, hx, hy, eqGuard, binOp, Op.stringOp, beq_toList]
theorem ok_neqS (hx : ev f x = .string a) (hy : ev f y = .string b) : Ok E f G M ⟨some d, .binOp .neq t x y t', ty, pos, aft, none⟩ (.bool (!decide (a = b))) := fun _ _ => by
  simp [execOp, hx, hy, eqGuard, binOp, Op.stringOp, beq_toList]
theorem ok_lenS (ht : E.P.underlying t = some .string) (hx : ev f x = .string a) :
    Ok E f G M ⟨some d, .call { callee := .builtin .len, args := #[x], argTypes := #[t] }, ty, pos, aft, none⟩ (.int .i64 a.size) := fun _ _ => by
  simp [execOp, resolve, invoke, builtin, hx, Builtin.len_, run_underlying ht, goInt]
/-- The byte at place i. -/
theorem ok_indexS (ht : E.P.underlying t = some .string) (hx : ev f x = .string a) (hy : ev f y = .int k m) {i : Nat} (hi : m = i ∧ i < a.size) :
    Ok E f G M ⟨some d, .index t x y, ty, pos, aft, none⟩ (.int .u8 (a[i]'hi.2).toNat) := fun _ _ => by
  obtain ⟨rfl, hi⟩ := hi
  simp [execOp, hx, hy, Instr.index, asIntOf, run_underlying ht, hi]

/-! ### Slices that are read -/
section
variable {α : Type} {e : Enc α} {l : List α}
theorem ok_len (ht : sliceK E.P t = some t') (hs : SlR e G v l) (hx : ev f x = v) :
    Ok E f G M ⟨some d, .call { callee := .builtin .len, args := #[x], argTypes := #[t] }, ty, pos, aft, none⟩ (.int .i64 l.length) := fun _ _ => by
  obtain ⟨a, cap, rfl, _⟩ := hs
  simp [execOp, resolve, invoke, builtin, hx, Builtin.len_, run_underlying (sliceK_und ht), goInt]
theorem ok_indexAddr {b : Bool} (ht : sliceK E.P t = some t') (hk : tyK E.P t' = some (b, e.k)) (hs : SlR e G v l) (hx : ev f x = v) (hy : ev f y = .int k m) {i : Nat} (hi : m = i ∧ i < l.length) :
    Ok E f G M ⟨some d, .indexAddr t x y, ty, pos, aft, none⟩ (.pointer (some (elemA v e.k i 0))) := fun _ _ => by
  obtain ⟨rfl, hi⟩ := hi
  obtain ⟨a, cap, rfl, h1, h2, h3, h5⟩ := hs
  obtain ⟨cs, ⟨b, o, len, cap', h6, h7⟩, h8⟩ := h5 i hi
  simp only [Value.slice.injEq] at h6
  obtain ⟨rfl, rfl, rfl⟩ := h6
  simp [execOp, hx, hy, Instr.indexAt, asIntOf, run_underlying (sliceK_und ht), hi, tyK_size hk, elemA, Addr.add]
theorem fieldK_spec {P : Program} {t j off : Nat} (ht : fieldK P t j = some off) : ∃ fs fd info, P.underlying t = some (.struct fs) ∧ fs[j]? = some fd ∧ P.info? fd.type = some info ∧ ¬ P.cellsOf fd.type = 0 ∧ fd.offset = off := by
  unfold fieldK at ht
  split at ht
  · rename_i fs h1
    obtain ⟨fd, h2, h3⟩ := Option.bind_eq_some_iff.1 ht
    split at h3
    · cases h3
    · rename_i h4
      cases h5 : P.info? fd.type with
      | none => simp [h5] at h4
      | some info => exact ⟨fs, fd, info, h1, h2, h5, fun h => h4 (.inl h), by simpa using h3⟩
  · cases ht
/-- A part of an element is loaded. -/
theorem ok_loadE {kk i o : Nat} {cs vs : List Value} {b : Bool} {j : Nat} (ht : tyK E.P t = some (b, j)) (he : ElemAt G v kk i cs) (hx : ev f x = .pointer (some (elemA v kk i o)))
    (hv : (cs.drop o).take j = vs) (hl : vs.length = j) (hb : b = false → j = 1) : Ok E f G M ⟨some d, .load t x, ty, pos, aft, none⟩ (mkV b vs) := fun w hr => by
  obtain ⟨bb, oo, len, cap, rfl, hc⟩ := he
  subst hv
  have := run_loadVar_cells ht hb (w := w) (a := ⟨bb, oo + i * kk + o, none⟩) hl (fun j' v' hj' => by
    rw [Addr.add_lit]
    rw [List.getElem?_take] at hj'
    split at hj'
    · rw [List.getElem?_drop] at hj'
      have := hc.cell hr hj'
      rwa [← Nat.add_assoc] at this
    · cases hj')
  simp [execOp, hx, Instr.loadAt, Instr.sureAddr, elemA, this]
theorem ok_fieldE {kk i o off : Nat} {j : Nat} (ht : fieldK E.P t j = some off) (hx : ev f x = .pointer (some (elemA v kk i o))) (hv : ∃ a n c, v = .slice (some a) n c) :
    Ok E f G M ⟨some d, .fieldAddr t x j, ty, pos, aft, none⟩ (.pointer (some (elemA v kk i (o + off)))) := fun w hr => by
  obtain ⟨a, n, c, rfl⟩ := hv
  obtain ⟨fs, fd, info, h1, h2, h5, h6, h4⟩ := fieldK_spec ht
  have h7 : (sizeOf fd.type).run E.P w = .ok (E.P.cellsOf fd.type) w := by simp [sizeOf, typeInfo, h5, Program.cellsOf]
  subst h4
  simp [execOp, hx, Instr.fieldAt, run_underlying h1, h2, Instr.sureAddr, fieldPlace, h7, h6, elemA, Addr.add_lit, Nat.add_assoc]
end

/-! ### Boxes: objects of the call's own, cell by cell -/
def nthM : MH → Nat → Option (Nat × Obj)
  | [], _ => none
  | p :: _, 0 => some p
  | _ :: M, i + 1 => nthM M i
def setM : MH → Nat → Obj → MH
  | [], _, _ => []
  | p :: M, 0, o => (p.1, o) :: M
  | p :: M, i + 1, o => p :: setM M i o
theorem nthM_mem : ∀ {M : MH} {i : Nat} {p : Nat × Obj}, nthM M i = some p → p ∈ M
  | _ :: _, 0, _, h => by simp only [nthM, Option.some.injEq] at h; simp [h]
  | _ :: M, i + 1, _, h => List.mem_cons_of_mem _ (nthM_mem (M := M) h)
theorem nthM_split : ∀ {M : MH} {i : Nat} {p : Nat × Obj}, nthM M i = some p → ∃ A B, M = A ++ p :: B ∧ ∀ o, setM M i o = A ++ (p.1, o) :: B
  | q :: M, 0, p, h => by
    simp only [nthM, Option.some.injEq] at h
    exact ⟨[], M, by simp [h], fun o => by simp [setM, h]⟩
  | q :: M, i + 1, p, h => by
    obtain ⟨A, B, h1, h2⟩ := nthM_split (M := M) h
    exact ⟨q :: A, B, by simp [h1], fun o => by simp [setM, h2]⟩
/-- Cells from 'o' on, written anew. -/
def setAt : List Value → Nat → List Value → List Value
  | l, _, [] => l
  | [], _, _ => []
  | x :: l, o + 1, vs => x :: setAt l o vs
  | _ :: l, 0, v :: vs => v :: setAt l 0 vs
theorem setAt_eq : ∀ (l : List Value) (o : Nat) (vs : List Value), o + vs.length ≤ l.length → setAt l o vs = l.take o ++ vs ++ l.drop (o + vs.length)
  | l, o, [], _ => by cases l <;> cases o <;> simp [setAt]
  | [], o, v :: vs, h => by simp at h
  | x :: l, o + 1, v :: vs, h => by
    simp only [setAt]
    rw [setAt_eq l o (v :: vs) (by simp at h ⊢; omega)]
    simp [Nat.add_right_comm o 1]
  | x :: l, 0, v :: vs, h => by
    simp only [setAt]
    rw [setAt_eq l 0 vs (by simp at h ⊢; omega)]
    simp

theorem ok_loadB {b i o : Nat} {L vs : List Value} {T : TypeId} {bb : Bool} {j : Nat} (ht : tyK E.P t = some (bb, j)) (hx : ev f x = .pointer (some ⟨b, o, none⟩)) (hm : nthM M i = some (b, .cells L.toArray T (0, 0)))
    (hv : (L.drop o).take j = vs) (hl : vs.length = j) (hb : bb = false → j = 1) : Ok E f G M ⟨some d, .load t x, ty, pos, aft, none⟩ (mkV bb vs) := fun w hr => by
  subst hv
  have := hr.r.mu _ (nthM_mem hm)
  have := run_loadVar_cells ht hb (w := w) (a := ⟨b, o, none⟩) hl (fun j' v' hj' => by
    rw [Addr.add_lit]
    rw [List.getElem?_take] at hj'
    split at hj'
    · rw [List.getElem?_drop] at hj'
      simp only at this
      simp [World.cell?, this, hj']
    · cases hj')
  simp [execOp, hx, Instr.loadAt, Instr.sureAddr, this]
theorem ok_fieldB {b o off : Nat} {j : Nat} (ht : fieldK E.P t j = some off) (hx : ev f x = .pointer (some ⟨b, o, none⟩)) :
    Ok E f G M ⟨some d, .fieldAddr t x j, ty, pos, aft, none⟩ (.pointer (some ⟨b, o + off, none⟩)) := fun w hr => by
  obtain ⟨fs, fd, info, h1, h2, h5, h6, h4⟩ := fieldK_spec ht
  have h7 : (sizeOf fd.type).run E.P w = .ok (E.P.cellsOf fd.type) w := by simp [sizeOf, typeInfo, h5, Program.cellsOf]
  subst h4
  simp [execOp, hx, Instr.fieldAt, run_underlying h1, h2, Instr.sureAddr, fieldPlace, h7, h6, Addr.add_lit]
theorem oneAll_spec {vs : List Value} (h : vs.all Value.oneCell' = true) : ∀ v ∈ vs, v.oneCell' = true := by simpa using h

theorem setRow_real {E : Env} {G : GH} {M : MH} {w : World} {i b : Nat} {L L' : List Value} {T : TypeId} (hr : E.real G M w) (hm : nthM M i = some (b, .cells L.toArray T (0, 0))) :
    E.real G (setM M i (.cells L'.toArray T (0, 0))) (w.setRow b L'.toArray) := by
  obtain ⟨A, B, h1, h2⟩ := nthM_split hm
  have hb := hr.r.mu _ (nthM_mem hm)
  have e : w.setRow b L'.toArray = { w with heap := w.heap.setIfInBounds b (.cells L'.toArray T (0, 0)) } := by
    simp only [World.setRow]
    congr 1
    apply Array.ext_getElem?
    intro c
    rw [Array.getElem?_modify, Array.getElem?_setIfInBounds]
    by_cases hc : b = c
    · subst hc
      simp only at hb
      have hlt : b < w.heap.size := (Array.getElem?_eq_some_iff.1 hb).1
      rw [if_pos rfl, if_pos rfl, if_pos hlt, hb]
      rfl
    · simp [hc]
  rw [h2, e]
  subst h1
  exact ⟨hr.r.set, hr.le, hr.nw⟩

/-- A store into a box. -/
theorem W.store {b i o : Nat} {L vs L' : List Value} {T : TypeId} {bb : Bool} {j : Nat} {v : Value} (ht : tyK E.P t = some (bb, j)) (hx : ev f x = .pointer (some ⟨b, o, none⟩)) (hm : nthM M i = some (b, .cells L.toArray T (0, 0)))
    (hy : ev f y = v) (hv : v.cells.toList = vs) (hl : vs.length = j) (h1 : vs.all Value.oneCell' = true) (hb : Nat.ble (o + j) L.length = true) (hL' : setAt L o vs = L')
    (k : W E ops.toArray false rest f G (setM M i (.cells L'.toArray T (0, 0))) K) :
    W E ops.toArray false (⟨none, .store t x y, ty, pos, aft, none⟩ :: rest) f G M K := by
  intro a w Q hi hr hK
  subst hL'
  have hb' : o + j ≤ L.length := by simpa using hb
  have hrun : (execOp (ev f) ⟨none, .store t x y, ty, pos, aft, none⟩).run E.P w = .ok .skip (w.setRow b (setAt L o vs).toArray) := by
    have h2 := hr.r.mu _ (nthM_mem hm)
    have h3 := run_storeCells_at E.P b o T vs 0 L.toArray w (by simpa using h2) (by simp; omega) (oneAll_spec h1)
    simp only [Nat.add_zero] at h3
    rw [← setAt_eq L o vs (by omega)] at h3
    have h4 : v.cells.size = j := by rw [← hl, ← hv]; simp
    simp [execOp, hx, hy, Instr.storeAt, Instr.sureAddr, storeVar, tyK_size ht, h4, hv, h3]
  refine wpList_plain rfl fun K' hK' => ?_
  unfold Oper.wp
  rw [hi.eval, hrun]
  exact hK' _ _ (k _ _ Q (hi.put_none undef) (setRow_real hr hm) hK)

theorem Env.real.alloc {w : World} (h : E.real G M w) (o : Obj) : E.real G ((w.heap.size, o) :: M) (w.alloc o) := ⟨h.r.alloc o, h.le, h.nw⟩
/-- A new box, of nought values. -/
theorem W.alloc {L : List Value} (ht : zeroK E.P t = some L) (k : ∀ b, W E ops.toArray false rest (upd f d (.pointer (some ⟨b, 0, none⟩))) G ((b, .cells L.toArray t (0, 0)) :: M) K) (hd : Nat.blt d E.n = true := by rfl) :
    W E ops.toArray false (⟨some d, .alloc t, ty, pos, aft, none⟩ :: rest) f G M K := by
  intro a w Q hi hr hK
  have hrun : (execOp (ev f) ⟨some d, .alloc t, ty, pos, aft, none⟩).run E.P w = .ok (.value (.pointer (some ⟨w.heap.size, 0, none⟩))) (w.alloc (.cells L.toArray t (0, 0))) := by
    simp only [zeroK, Option.map_eq_some_iff, Option.bind_eq_some_iff] at ht
    obtain ⟨z, ⟨info, h1, h2⟩, rfl⟩ := ht
    simp [execOp, Instr.alloc, zeroValue, typeInfo, h1, h2, newVar, newRow]
  refine wpList_plain rfl fun K' hK' => ?_
  unfold Oper.wp
  rw [hi.eval, hrun]
  exact hK' _ _ (k _ _ _ Q (hi.put hd _) (hr.alloc _) hK)
/-- A new box that holds a value. -/
theorem W.box {v : Value} {L : List Value} (hx : ev f x = v) (hv : v.cells.toList = L) (k : ∀ b, W E ops.toArray false rest (upd f d (.pointer (some ⟨b, 0, none⟩))) G ((b, .cells L.toArray t (0, 0)) :: M) K) (hd : Nat.blt d E.n = true := by rfl) :
    W E ops.toArray false (⟨some d, .box t x, ty, pos, aft, none⟩ :: rest) f G M K := by
  intro a w Q hi hr hK
  have hrun : (execOp (ev f) ⟨some d, .box t x, ty, pos, aft, none⟩).run E.P w = .ok (.value (.pointer (some ⟨w.heap.size, 0, none⟩))) (w.alloc (.cells L.toArray t (0, 0))) := by
    subst hv
    simp [execOp, Instr.box, newVar, newRow, hx]
  refine wpList_plain rfl fun K' hK' => ?_
  unfold Oper.wp
  rw [hi.eval, hrun]
  exact hK' _ _ (k _ _ _ Q (hi.put hd _) (hr.alloc _) hK)
theorem ok_extract {vs : Array Value} {i : Nat} {v : Value} (hx : ev f x = .tuple vs) (hv : vs[i]? = some v) : Ok E f G M ⟨some d, .extract x i, ty, pos, aft, none⟩ v := fun w hr => by
  simp [execOp, hx, Instr.extract, hv]

/-! ### Calls -/
/-- A function that is entered when it is called. -/
def Callable (P : Program) (g : FuncId) : Prop := ∀ args w, (callFunc g args).run P w = .ok (.enter g args) w
theorem callable_of {P : Program} {g : FuncId} {fn : Func} (hf : P.funcs[g]? = some fn) (hb : fn.body.isSome = true) (hn : (fn.name == "runtime.NumGoroutine") = false) : Callable P g := fun args w => by
  have hb' : fn.body ≠ none := by cases h : fn.body <;> simp [h] at hb ⊢
  have hn' : ¬ fn.name = "runtime.NumGoroutine" := by simpa using hn
  simp [callFunc, hf, hb', hn']

/-- What a walk shows of a function. -/
def Fc (P : Program) (g : FuncId) (args : List Value) (G : GH) (M : MH) (Q : Value → GH → MH → Prop) : Prop := Callable P g ∧ Fn P g args.toArray G M Q

theorem Fc.mono {P : Program} {g : FuncId} {args : List Value} {G : GH} {M : MH} {Q Q' : Value → GH → MH → Prop} (h : Fc P g args G M Q) (hq : ∀ v G' M', Le G G' → Q v G' M' → Q' v G' M') : Fc P g args G M Q' :=
  ⟨h.1, h.2.mono hq⟩

/-- A call that hands back a value that hangs on no address. -/
theorem W.qcall {g : FuncId} {args : List Operand} {at' : Array TypeId} {vs : List Value} {v : Value} (hc : Fc E.P g vs G [] (fun v' _ _ => v' = v)) (ha : args.map (ev f) = vs)
    (k : W E ops.toArray q rest (upd f d v) G M K) (hd : Nat.blt d E.n = true := by rfl) :
    W E ops.toArray q (⟨some d, .call { callee := .value (.func g), args := args.toArray, argTypes := at' }, ty, pos, aft, none⟩ :: rest) f G M K := by
  have hrun : ∀ w, (execOp (ev f) ⟨some d, .call { callee := .value (.func g), args := args.toArray, argTypes := at' }, ty, pos, aft, none⟩).run E.P w = .ok (.enter g vs.toArray) w := fun w => by
    simp [execOp, resolve, invoke, ev, Deferred.ofValue, ha, hc.1 _ w]
  have hcall : ∀ w, E.real G M w → Calls E.P g vs.toArray w fun e w' => e = .returned v ∧ E.real G M w' := fun w hr => by
    have h1 := hr.anti Le.rfl hr.le
    have hw : Real w (fun b => b ∈ (([] : MH).map (·.1))) G [] w := ⟨rfl, rfl, rfl, Nat.le_refl _, fun _ _ _ => rfl, hr.r.ro, (fun _ h => nomatch h), (fun _ h => nomatch h), List.nodup_nil, (fun _ h => nomatch h)⟩
    refine (hc.2 w hw).mono ?_
    rintro e w' ⟨v', G', M', rfl, h2, h3, h4, rfl⟩
    have h5 := Real.call (Mp := []) (Mr := M) (by simpa using hr.r) h2 h4
    have h6 : Real E.w0 E.own G' M w' := h5.sub (List.sublist_append_right _ _)
    refine ⟨rfl, Env.real.anti (G' := G') ⟨h6, hr.le.trans h3, ?_⟩ h3 hr.le⟩
    intro b hb hb'
    cases hg : G b with
    | none =>
      rcases h4 b hg hb' with h7 | h7
      · exact .inl (Nat.le_trans hr.r.size h7)
      · simp at h7
    | some o => exact hr.nw b hb (by simp [hg])
  cases q
  · intro a w Q hi hr hK
    refine wpList_plain rfl fun K' hK' => ?_
    unfold Oper.wp
    rw [hi.eval, hrun w]
    refine (hcall w hr).mono ?_
    rintro e w' ⟨rfl, h⟩
    exact hK' _ _ (k _ w' Q (hi.put hd v) h hK)
  · intro a hi
    refine wpQuiet_step fun K' hK' => ?_
    rw [if_pos (by rfl)]
    refine ⟨v, fun w hr => ?_, hK' _ (k _ (hi.put hd v))⟩
    unfold Oper.quietAt
    rw [hi.eval, hrun w]
    exact ⟨rfl, hcall w hr⟩

/-- A call. 'Mp': what it may write of the caller's; 'Mr': the rest. -/
theorem W.call {g : FuncId} {args : List Operand} {at' : Array TypeId} {vs : List Value} {Mp Mr : MH} {Q : Value → GH → MH → Prop} (hc : Fc E.P g vs G Mp Q) (ha : args.map (ev f) = vs) (hM : (Mp ++ Mr).Perm M)
    (k : ∀ v G' M', Le G G' → Q v G' M' → W E ops.toArray false rest (upd f d v) G' (M' ++ Mr) K) (hd : Nat.blt d E.n = true := by rfl) :
    W E ops.toArray false (⟨some d, .call { callee := .value (.func g), args := args.toArray, argTypes := at' }, ty, pos, aft, none⟩ :: rest) f G M K := by
  intro a w Q' hi hr hK
  have hrun : (execOp (ev f) ⟨some d, .call { callee := .value (.func g), args := args.toArray, argTypes := at' }, ty, pos, aft, none⟩).run E.P w = .ok (.enter g vs.toArray) w := by
    simp [execOp, resolve, invoke, ev, Deferred.ofValue, ha, hc.1 _ w]
  refine wpList_plain rfl fun K' hK' => ?_
  unfold Oper.wp
  rw [hi.eval, hrun]
  have hr' := hr.r.perm hM
  have hw : Real w (fun b => b ∈ (Mp.map (·.1))) G Mp w := by
    have hs := hr'.sub (M' := Mp) (List.sublist_append_left _ _)
    exact ⟨rfl, rfl, rfl, Nat.le_refl _, fun _ _ _ => rfl, hr.r.ro, hs.mu, hs.dis, hs.nd, fun p hp => .inr (List.mem_map_of_mem hp)⟩
  refine (hc.2 w hw).mono ?_
  rintro e w' ⟨v', G', M', rfl, h2, h3, h4, h5⟩
  have h6 := Real.call hr' h2 h4
  refine hK' _ _ (k v' G' M' h3 h5 _ w' Q' (hi.put hd v') ⟨h6, hr.le.trans h3, ?_⟩ hK)
  intro b hb hb'
  cases hg : G b with
  | none =>
    rcases h4 b hg hb' with h7 | h7
    · exact .inl (Nat.le_trans hr.r.size h7)
    · obtain ⟨p, hp, e⟩ := List.mem_map.1 h7
      rcases hr'.lo p (by simp [hp]) with h8 | h8
      · exact .inl (e ▸ h8)
      · exact .inr (e ▸ h8)
  | some o => exact hr.nw b hb (by simp [hg])
end

/-! ### A function's body -/
def argL : Nat → List Value → List (Nat × Value)
  | _, [] => []
  | i, v :: l => (i, v) :: argL (i + 1) l

/-- A result's value. -/
def ResV (P : Program) (f : Fr) (M : MH) : ResultVar → Value → Prop
  | .tmp t, v => f t = v
  | .cell a t, v => ∃ b L T k bb, f a = .pointer (some ⟨b, 0, none⟩) ∧ (b, Obj.cells (List.toArray L) T (0, 0)) ∈ M ∧ tyK P t = some (bb, k) ∧ (bb = false → k = 1) ∧ L.length = k ∧ v = mkV bb L
def ResL (P : Program) (f : Fr) (M : MH) : List ResultVar → List Value → Prop
  | [], [] => True
  | r :: rs, v :: vs => ResV P f M r v ∧ ResL P f M rs vs
  | _, _ => False
def pack : List Value → Value
  | [v] => v
  | vs => .tuple vs.toArray

def resM (a : Act) : ResultVar → Sem Value
  | .tmp t => pure (a.tmps.getD t undef)
  | .cell a' t => do loadVar t (← asAddr (a.tmps.getD a' undef))
theorem run_resM {P : Program} {n : Nat} {a : Act} {f : Fr} {M : MH} {w : World} (hi : Is n a f) (hm : ∀ p ∈ M, w.heap[p.1]? = some p.2) {r : ResultVar} {v : Value} (h : ResV P f M r v) : (resM a r).run P w = .ok v w := by
  cases r with
  | tmp t => simp only [ResV] at h; simp [resM, hi.get, h]
  | cell a' t =>
    obtain ⟨b, L, T, k, bb, h3, h4, h5, h6, h7, rfl⟩ := h
    have h8 := run_loadVar_cells (w := w) (a := ⟨b, 0, none⟩) h5 h6 h7 (fun j v hj => by
      have := hm _ h4
      simp only at this
      rw [Addr.add_lit]
      simp [World.cell?, this, hj])
    simp [resM, hi.get, h3, asAddr, h8]
theorem run_results {P : Program} {n : Nat} {a : Act} {f : Fr} {M : MH} {w : World} (hi : Is n a f) (hm : ∀ p ∈ M, w.heap[p.1]? = some p.2) {fn : Func} {vs : List Value} (h : ResL P f M fn.results.toList vs) :
    (results fn a.tmps).run P w = .ok (pack vs) w := by
  have key : ∀ (rs : List ResultVar) (vs : List Value), ResL P f M rs vs → (rs.mapM (resM a)).run P w = .ok vs w := by
    intro rs
    induction rs with
    | nil => intro vs h; cases vs <;> simp [ResL] at h ⊢
    | cons r rs ih =>
      intro vs h
      cases vs with
      | nil => simp [ResL] at h
      | cons v vs =>
        obtain ⟨h1, h2⟩ := h
        simp [List.mapM_cons, run_resM hi hm h1, ih vs h2]
  have h1 := key _ _ h
  have h2 : (fn.results.mapM (resM a)).run P w = .ok vs.toArray w := by
    rw [← Array.toArray_toList (xs := fn.results), List.mapM_toArray]
    simp [h1]
  have h3 : results fn a.tmps = (do let vs ← fn.results.mapM (resM a); pure (if h : vs.size = 1 then vs[0] else .tuple vs)) := by
    unfold results
    congr 1
  rw [h3]
  simp only [Sem.run_bind, h2, Result.andThen_ok]
  match vs with
  | [] => simp [pack]
  | [v] => simp [pack]
  | v :: u :: vs => simp [pack]

/-- From the body to the contract. -/
theorem Fc.intro {P : Program} {g : FuncId} {fn : Func} {c : Code} {n : Nat} {rs : List ResultVar} {args : List Value} {G : GH} {M : MH} {Q : Value → GH → MH → Prop}
    (hcl : Callable P g) (hf : P.funcs[g]? = some fn) (hb : fn.body = some c) (hn : fn.ntmps = n) (hr : fn.results.toList = rs) (hl : Nat.ble args.length n = true)
    (h : ∀ w0, WC ⟨P, n, w0, fun b => b ∈ M.map (·.1), G⟩ c (fun e f G' M' => (e = .normal ∨ e = .ret) ∧ ∃ vs, ResL P f M' rs vs ∧ ∃ M'', M''.Sublist M' ∧ Q (pack vs) G' M'') (setL (fun _ => undef) (argL 0 args)) G M) :
    Fc P g args G M Q := by
  refine ⟨hcl, fun w hw => calls_of_wp hf hb ?_⟩
  subst hn
  subst hr
  have hl' : args.length ≤ fn.ntmps := by simpa using hl
  have hset : ∀ (l : List Value) (i t : Nat), setL (fun _ => undef) (argL i l) t = if i ≤ t ∧ t < i + l.length then l.getD (t - i) undef else undef := by
    intro l
    induction l with
    | nil => intro i t; simp [argL, setL]
    | cons v l ih =>
      intro i t
      simp only [argL, setL, upd]
      cases hb : Nat.beq t i
      · have hne : t ≠ i := fun e => by subst e; simp at hb
        simp only [cond_false, ih]
        by_cases h1 : i + 1 ≤ t ∧ t < i + 1 + l.length
        · rw [if_pos h1, if_pos (by simp; omega)]
          obtain ⟨s, hs⟩ : ∃ s, t - i = s + 1 := ⟨t - i - 1, by omega⟩
          rw [hs, show t - (i + 1) = s from by omega]
          simp
        · rw [if_neg h1, if_neg (by simp; omega)]
      · have he : t = i := Nat.eq_of_beq_eq_true hb
        subst he
        simp
  have hi : Is fn.ntmps { tmps := args.toArray ++ Array.replicate (fn.ntmps - args.toArray.size) undef, defers := [] } (setL (fun _ => undef) (argL 0 args)) := by
    refine ⟨by simp; omega, fun t => ?_, rfl⟩
    rw [hset]
    simp only [Nat.zero_le, true_and, Nat.zero_add, Nat.sub_zero, Array.getD_eq_getD_getElem?, List.getD_eq_getElem?_getD]
    by_cases h1 : t < args.length
    · rw [if_pos h1, Array.getElem?_append_left (by simpa using h1)]
      simp
    · rw [if_neg h1, Array.getElem?_append_right (by simpa using h1)]
      rw [Array.getElem?_replicate]
      split <;> rfl
  refine wp_mono (h w _ w hi ⟨hw, Le.rfl, fun b h1 h2 => absurd h1 h2⟩) ?_
  rintro e a w' ⟨f', G', M', h1, h2, h3, vs, h4, M'', hsub, h5⟩
  have hres := run_results (P := P) (w := w') h1 h2.r.mu h4
  have hpost : a.defers = [] ∧ ∃ v, (results fn a.tmps).run P w' = .ok v w' ∧ (fun e w' => ∃ v G' M', e = Ending.returned v ∧ Real w (fun b => b ∈ M.map (·.1)) G' M' w' ∧ Le G G' ∧ Newer w.heap.size M G G' ∧ Q v G' M') (.returned v) w' :=
    ⟨h1.dfr, _, hres, _, G', M'', rfl, h2.r.sub hsub, h2.le, h2.nw, h5⟩
  rcases h3 with rfl | rfl
  · exact hpost
  · exact hpost
end Go.Fw
