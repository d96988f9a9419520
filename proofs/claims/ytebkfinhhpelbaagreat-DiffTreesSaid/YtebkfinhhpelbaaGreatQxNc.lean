/- What container/heap asks of a heap, and what it does with it. Nothing of the program is named here. No condition. -/
import Derived.Test.YtebkfinhhpelbaaGreatQxX3
set_option linter.unusedVariables false
set_option linter.unusedSimpArgs false
set_option linter.unnecessarySimpa false
namespace Go.Fw
open Go Go.RowKit
structure HeapK (P : Program) {α : Type} [Inhabited α] (lt : α → α → Bool) (x : Value) (Rep : GH → List α → MH → Prop) (EV : GH → Value → α → Prop) : Prop where
  mono : ∀ {G G' l M}, Le G G' → Rep G l M → Rep G' l M
  bound : ∀ {G l M}, Rep G l M → l.length ≤ 140737488355328
  len : ∀ {G l M}, Rep G l M → Inv P x "Len" [] G M (fun v G' M' => v = .int .i64 (l.length : Int) ∧ M' = M)
  less : ∀ {G l M} {i j : Nat}, Rep G l M → i < l.length → j < l.length → Inv P x "Less" [.int .i64 (i : Int), .int .i64 (j : Int)] G M (fun v G' M' => v = .bool (lt (nth l i) (nth l j)) ∧ M' = M)
  swap : ∀ {G l M} {i j : Nat}, Rep G l M → i < l.length → j < l.length → Inv P x "Swap" [.int .i64 (i : Int), .int .i64 (j : Int)] G M (fun v G' M' => v = .tuple #[] ∧ Rep G' (swapL l i j) M')
  push : ∀ {G l M u a}, Rep G l M → l.length < 1000000 → EV G u a → Inv P x "Push" [u] G M (fun v G' M' => v = .tuple #[] ∧ Rep G' (l ++ [a]) M')
  pop : ∀ {G l M}, Rep G l M → 0 < l.length → Inv P x "Pop" [] G M (fun v G' M' => EV G' v (nth l (l.length - 1)) ∧ Rep G' (l.take (l.length - 1)) M')
section
variable {α : Type} [Inhabited α] {lt : α → α → Bool}
theorem downL_stop {f : Nat} {l : List α} {i n : Nat} (h : n ≤ 2 * i + 1) : downL lt f l i n = l := by
  cases f with
  | zero => rfl
  | succ f => rw [downL, if_pos h]
theorem downL_end {f : Nat} {l : List α} {i n : Nat} (h1 : ¬ n ≤ 2 * i + 1) (h2 : lt (nth l (kidJ lt l i n)) (nth l i) = false) : downL lt f l i n = l := by
  cases f with
  | zero => rfl
  | succ f => rw [downL, if_neg h1, if_pos h2]
theorem downL_go {f : Nat} {l : List α} {i n : Nat} (hf : n ≤ i + f) (h1 : ¬ n ≤ 2 * i + 1) (h2 : lt (nth l (kidJ lt l i n)) (nth l i) = true) : downL lt f l i n = downL lt (f - 1) (swapL l i (kidJ lt l i n)) (kidJ lt l i n) n := by
  cases f with
  | zero => omega
  | succ f => rw [downL, if_neg h1, if_neg (by simp [h2])]; rfl
theorem kidJ_t {l : List α} {i n : Nat} (h : 2 * i + 2 < n) (h2 : lt (nth l (2 * i + 2)) (nth l (2 * i + 1)) = true) : kidJ lt l i n = 2 * i + 2 := if_pos ⟨h, h2⟩
theorem kidJ_f {l : List α} {i n : Nat} (h : ¬ 2 * i + 2 < n ∨ lt (nth l (2 * i + 2)) (nth l (2 * i + 1)) = false) : kidJ lt l i n = 2 * i + 1 := if_neg (fun ⟨h1, h2⟩ => h.elim (fun h => h h1) (fun h => by rw [h2] at h; cases h))
theorem upL_end {f : Nat} {l : List α} {j : Nat} (h : (j - 1) / 2 = j ∨ lt (nth l j) (nth l ((j - 1) / 2)) = false) : upL lt f l j = l := by
  cases f with
  | zero => rfl
  | succ f => rw [upL, if_pos h]
theorem upL_go {f : Nat} {l : List α} {j : Nat} (hf : j ≤ f) (h1 : ¬ (j - 1) / 2 = j) (h2 : lt (nth l j) (nth l ((j - 1) / 2)) = true) : upL lt f l j = upL lt (f - 1) (swapL l ((j - 1) / 2) j) ((j - 1) / 2) := by
  cases f with
  | zero => omega
  | succ f => rw [upL, if_neg (fun h => h.elim h1 (fun h => by rw [h2] at h; cases h))]; rfl
theorem popL_eq {l : List α} (h : 0 < l.length) : (downL lt l.length (swapL l 0 (l.length - 1)) 0 (l.length - 1)).take ((downL lt l.length (swapL l 0 (l.length - 1)) 0 (l.length - 1)).length - 1) = popL lt l ∧
    nth (downL lt l.length (swapL l 0 (l.length - 1)) 0 (l.length - 1)) ((downL lt l.length (swapL l 0 (l.length - 1)) 0 (l.length - 1)).length - 1) = nth l 0 := by
  rw [downL_length, swapL_length]
  refine ⟨rfl, ?_⟩
  rw [downL_above _ _ _ _ _ (by rw [swapL_length]; omega) (Nat.le_refl _), nth_swap (by omega) (by omega), if_pos rfl]
theorem tdiv_half (j : Nat) : (((j : Int) - 1).tdiv 2) = (((j - 1) / 2 : Nat) : Int) := by
  cases j with
  | zero => rfl
  | succ j =>
    have : (((j + 1 : Nat) : Int) - 1) = (j : Int) := by omega
    rw [this, Int.tdiv_eq_ediv_of_nonneg (by omega)]
    simp
end
end Go.Fw
/- Lists of messages, each with its number, as they stand in a heap; the messages of some lists by their stamps. Plain Lean; nothing of the program is named here. No condition. -/
set_option linter.unusedVariables false
set_option linter.unusedSimpArgs false
set_option linter.unnecessarySimpa false
namespace Go.Fw
open Go Go.RowKit
abbrev Hd := List Msg × Int
def Hd.st (a : Hd) : Int := match a.1 with | [] => 0 | m :: _ => m.stamp
def Hd.lt (a b : Hd) : Bool := decide (a.st < b.st) || (decide (a.st = b.st) && decide (a.2 < b.2))
theorem Hd.st_at {a : Hd} (h : 0 < a.1.length) : a.st = a.1[0].stamp := by
  obtain ⟨l, n⟩ := a
  cases l with
  | nil => simp at h
  | cons m l => rfl
theorem Hd.lo : LO Hd.lt where
  asymm := fun {a b} h => by
    simp only [Hd.lt, Bool.or_eq_true, Bool.and_eq_true, decide_eq_true_eq] at h
    simp only [Hd.lt, Bool.or_eq_false_iff, Bool.and_eq_false_iff, decide_eq_false_iff_not]
    omega
  trans := fun {a b c} h1 h2 => by
    simp only [Hd.lt, Bool.or_eq_false_iff, Bool.and_eq_false_iff, decide_eq_false_iff_not] at h1 h2 ⊢
    omega
def HdC (G : GH) (cs : List Value) (a : Hd) : Prop := ∃ p c, cs = [.slice p a.1.length c, .int .i64 a.2] ∧ SlR eMsg G (.slice p a.1.length c) a.1 ∧ i64 a.2
theorem HdC.mono {G G' : GH} {cs a} (hl : Le G G') (h : HdC G cs a) : HdC G' cs a := by
  obtain ⟨p, c, h1, h2, h3⟩ := h; exact ⟨p, c, h1, h2.mono hl, h3⟩
def eHead : Enc Hd where
  k := 2
  w := 32
  R := HdC
  mono := fun hl h => h.mono hl
  len := fun h => by obtain ⟨p, c, h0, _⟩ := h; rw [h0]; rfl
  one := fun h u hu => by
    obtain ⟨p, c, h0, _⟩ := h
    rw [h0] at hu
    simp at hu
    rcases hu with rfl | rfl <;> rfl
end Go.Fw
/- Arenas: which slots are in use, which are free. Plain Lean; nothing of the program is named here. No condition. -/
set_option linter.unusedVariables false
set_option linter.unusedSimpArgs false
set_option linter.unnecessarySimpa false
namespace Go.Fw
open Go Go.RowKit
def eBool : Enc Bool where
  k := 1
  w := 1
  R := fun _ cs b => cs = [.bool b]
  mono := fun _ h => h
  len := fun h => by rw [h]; rfl
  one := fun h u hu => by rw [h] at hu; simp at hu; subst hu; rfl
abbrev ltI : Int → Int → Bool := fun a b => decide (a < b)
def hasN (u : List Bool) (i : Int) : Bool := decide (0 ≤ i) && (decide (i < u.length) && u.getD i.toNat false)
def freeN (u : List Bool) : List Int := ((List.range u.length).filter fun i => !u.getD i true).map fun i : Nat => (i : Int)
def usedN (u : List Bool) : List Int := ((List.range u.length).filter fun i => u.getD i true).map fun i : Nat => (i : Int)
def firstN : List Bool → Nat
  | [] => 0
  | true :: l => firstN l + 1
  | false :: _ => 0
def iotaN (n : Nat) : List Int := (List.range n).map fun i : Nat => (i : Int)
def nextA {α : Type} (st : List α × List Bool) (x : α) : (Int × Int) × (List α × List Bool) :=
  if firstN st.2 < st.2.length then ((firstN st.2, 0), (st.1.set (firstN st.2) x, st.2.set (firstN st.2) true)) else ((0, 4), st)
def freeA {α : Type} (st : List α × List Bool) (i : Int) (z : α) : Int × (List α × List Bool) := if hasN st.2 i = true then (0, (st.1.set i.toNat z, st.2.set i.toNat false)) else (8, st)
def layA {α : Type} (st : List α × List Bool) (i : Int) (x : α) : Int × (List α × List Bool) := if hasN st.2 i = true then (0, (st.1.set i.toNat x, st.2)) else (8, st)
def getA {α : Type} (st : List α × List Bool) (i : Int) (z : α) : α := if hasN st.2 i = true then st.1.getD i.toNat z else z
def ArP {α : Type} (e : Enc α) (Te TB TI Tb : TypeId) (b : Nat) (G : GH) (st : List α × List Bool × List Int) (M : MH) : Prop :=
  ∃ vc vu vf Mc Mu Mf, M = (b, .cells (List.toArray [vc, vu, vf]) Tb (0, 0)) :: (Mc ++ (Mu ++ Mf)) ∧ OwnR e Te G vc st.1 Mc ∧ OwnR eBool TB G vu st.2.1 Mu ∧ OwnR eInt TI G vf st.2.2 Mf
theorem ArP.mono {α : Type} {e : Enc α} {Te TB TI Tb : TypeId} {b : Nat} {G G' : GH} {st : List α × List Bool × List Int} {M : MH} (hl : Le G G') (h : ArP e Te TB TI Tb b G st M) : ArP e Te TB TI Tb b G' st M := by
  obtain ⟨vc, vu, vf, Mc, Mu, Mf, h1, h2, h3, h4⟩ := h
  exact ⟨vc, vu, vf, Mc, Mu, Mf, h1, h2.mono hl, h3.mono hl, h4.mono hl⟩
def ArR {α : Type} (e : Enc α) (Te TB TI Tb : TypeId) (b : Nat) (G : GH) (st : List α × List Bool) (M : MH) : Prop :=
  ∃ f, ArP e Te TB TI Tb b G (st.1, st.2, f) M ∧ st.1.length = st.2.length ∧ st.2.length ≤ 4096 ∧ Heap ltI f ∧ f.Perm (freeN st.2)
theorem ArR.mono {α : Type} {e : Enc α} {Te TB TI Tb : TypeId} {b : Nat} {G G' : GH} {st : List α × List Bool} {M : MH} (hl : Le G G') (h : ArR e Te TB TI Tb b G st M) : ArR e Te TB TI Tb b G' st M := by
  obtain ⟨f, h1, h2⟩ := h
  exact ⟨f, h1.mono hl, h2⟩
theorem ArR.cast {α : Type} {e : Enc α} {Te TB TI Tb : TypeId} {b : Nat} {G : GH} {st st' : List α × List Bool} {M M' : MH} (h : ArR e Te TB TI Tb b G st M) (e1 : st = st') (e2 : M = M') : ArR e Te TB TI Tb b G st' M' := by subst e1 e2; exact h
theorem NodeC.cast {G : GH} {cs : List Value} {n m : Nd} (h : NodeC G cs n) (e : n = m) : NodeC G cs m := e ▸ h
def usedK (u : List Bool) (k : Nat) : List Int := ((List.range k).filter fun i => u.getD i true).map fun i : Nat => (i : Int)
end Go.Fw
/- Stores: the nodes of an arena in which no slot is ever given back. Plain Lean; nothing of the program is named here. No condition. -/
set_option linter.unusedVariables false
set_option linter.unusedSimpArgs false
set_option linter.unnecessarySimpa false
namespace Go.Fw
open Go Go.RowKit
def CfgR (c : Cfg) : Prop := (4 ≤ c.fan ∧ c.fan ≤ 64) ∧ (2 ≤ c.leaf ∧ c.leaf ≤ 64) ∧ (36 ≤ c.bud ∧ c.bud ≤ 4096) ∧ (1 ≤ c.slots ∧ c.slots ≤ 4096) ∧ (0 ≤ c.rest ∧ c.rest ≤ 100)
instance (c : Cfg) : Decidable (CfgR c) := by unfold CfgR; infer_instance
def arOf (n : Nat) (l : List Nd) : List Nd × List Bool := (l ++ List.replicate (n - l.length) Nd.zero, List.replicate l.length true ++ List.replicate (n - l.length) false)
def putL (l : List Nd) (x : Nd) : Int × List Nd := if 0 ≤ x.slot ∧ x.slot < l.length then (0, l.set x.slot.toNat x) else (8, l)
def takeL (n : Nat) (l : List Nd) (x : Nd) : (Int × Int) × List Nd := if l.length < n then ((l.length, 0), l ++ [{ x with slot := l.length }]) else ((0, 4), l)
def getL (l : List Nd) (i : Int) : Nd := if 0 ≤ i then l.getD i.toNat Nd.zero else Nd.zero
theorem getL_at {l : List Nd} {k : Nat} (h : k < l.length) : getL l k = l[k] := by
  unfold getL; rw [if_pos (by omega), Int.toNat_natCast, List.getD_eq_getElem?_getD, List.getElem?_eq_getElem h]; rfl
def takeA (a : List Nd × List Bool) (x : Nd) : (Int × Int) × (List Nd × List Bool) :=
  if (nextA a Nd.zero).1.2 = 0 then (((nextA a Nd.zero).1.1, (layA (nextA a Nd.zero).2 (nextA a Nd.zero).1.1 { x with slot := (nextA a Nd.zero).1.1 }).1), (layA (nextA a Nd.zero).2 (nextA a Nd.zero).1.1 { x with slot := (nextA a Nd.zero).1.1 }).2)
  else ((0, (nextA a Nd.zero).1.2), (nextA a Nd.zero).2)
def StA (te tB ti tb TS b : Nat) (G : GH) (c : Cfg) (a : List Nd × List Bool) (M : MH) : Prop :=
  ∃ b2 Ma, M = (b, .cells (List.toArray [.int .i64 c.fan, .int .i64 c.leaf, .int .i64 c.bud, .int .i64 c.slots, .int .i64 c.rest, .pointer (some ⟨b2, 0, none⟩)]) TS (0, 0)) :: Ma ∧ ArR eNode te tB ti tb b2 G a Ma
theorem StA.mono {te tB ti tb TS b : Nat} {G G' : GH} {c : Cfg} {a : List Nd × List Bool} {M : MH} (hl : Le G G') (h : StA te tB ti tb TS b G c a M) : StA te tB ti tb TS b G' c a M := by
  obtain ⟨b2, Ma, h1, h2⟩ := h; exact ⟨b2, Ma, h1, h2.mono hl⟩
def StR (te tB ti tb TS b : Nat) (c : Cfg) (G : GH) (l : List Nd) (M : MH) : Prop := CfgR c ∧ l.length ≤ c.slots.toNat ∧ StA te tB ti tb TS b G c (arOf c.slots.toNat l) M
theorem StR.mono {te tB ti tb TS b : Nat} {G G' : GH} {c : Cfg} {l : List Nd} {M : MH} (hl : Le G G') (h : StR te tB ti tb TS b c G l M) : StR te tB ti tb TS b c G' l M := ⟨h.1, h.2.1, h.2.2.mono hl⟩
theorem StA.cast {te tB ti tb TS b : Nat} {G : GH} {c : Cfg} {a a' : List Nd × List Bool} {M : MH} (h : StA te tB ti tb TS b G c a M) (e : a = a') : StA te tB ti tb TS b G c a' M := e ▸ h
def leafN (slot : Int) : Nd := ⟨slot, 0, [], [], Str.nil, true, -1, 0, [], []⟩
theorem NodeC.of {G : GH} {cs : List Value} {n m : Nd} (h : NodeC G cs n) (e : n = m) : NodeC G cs m := e ▸ h
end Go.Fw
