/- Stores: the nodes of an arena in which no slot is ever given back. Plain Lean; nothing of the program is named here. No condition. -/
import Derived.Test.YtmbafmifalppaaaQaNc
set_option linter.unusedVariables false
set_option linter.unusedSimpArgs false
set_option linter.unnecessarySimpa false

namespace Go.Fw
open Go Go.RowKit
def CfgR (c : Cfg) : Prop := (4 ≤ c.fan ∧ c.fan ≤ 64) ∧ (2 ≤ c.leaf ∧ c.leaf ≤ 64) ∧ (36 ≤ c.bud ∧ c.bud ≤ 4096) ∧ (1 ≤ c.slots ∧ c.slots ≤ 4096) ∧ (0 ≤ c.rest ∧ c.rest ≤ 100)
instance (c : Cfg) : Decidable (CfgR c) := by unfold CfgR; infer_instance
def arOf (n : Nat) (l : List Nd) : List Nd × List Bool := (l ++ List.replicate (n - l.length) Nd.zero, List.replicate l.length true ++ List.replicate (n - l.length) false)
theorem arOf_nil (n : Nat) : arOf n [] = (List.replicate n Nd.zero, List.replicate n false) := by simp [arOf]
theorem ar_len {n : Nat} {l : List Nd} (h : l.length ≤ n) : (arOf n l).2.length = n := by simp [arOf]; omega
theorem ar_in {n : Nat} {l : List Nd} {i : Nat} (h : i < (arOf n l).2.length) : (arOf n l).2[i] = decide (i < l.length) := by
 rw [List.getElem_of_eq (show (arOf n l).2 = List.replicate l.length true ++ List.replicate (n - l.length) false from rfl) h, List.getElem_append]
 split <;> rename_i h2 <;> simp only [List.length_replicate] at h2 <;> simp <;> omega
theorem ar_has {n : Nat} {l : List Nd} (h : l.length ≤ n) (i : Int) : hasN (arOf n l).2 i = decide (0 ≤ i ∧ i < l.length) := by
 rw [Bool.eq_iff_iff, hasN_iff, decide_eq_true_iff]
 constructor
 ·rintro ⟨k, hk, rfl, h2⟩
  rw [ar_in hk] at h2
  have := of_decide_eq_true h2
  omega
 ·rintro ⟨h1, h2⟩
  have hl := ar_len h
  exact ⟨i.toNat, by omega, by omega, by rw [ar_in]; exact decide_eq_true (by omega)⟩
theorem ar_first {n : Nat} {l : List Nd} (h : l.length ≤ n) : firstN (arOf n l).2 = l.length := by
 have hl := ar_len h
 by_cases e : l.length = n
 ·rw [firstN_all fun j hj => by rw [ar_in hj]; exact decide_eq_true (by omega)]; omega
 ·exact firstN_at (by omega) (by rw [ar_in]; exact decide_eq_false (by omega)) fun j hj hjl => by rw [ar_in hj]; exact decide_eq_true hjl
theorem ar_set1 {n : Nat} {l : List Nd} {k : Nat} {x : Nd} (hk : k < l.length) : (arOf n l).1.set k x = (arOf n (l.set k x)).1 := by
 unfold arOf
 rw [List.length_set, List.set_append_left _ _ hk]
theorem ar_alloc {n : Nat} {l : List Nd} (h : l.length < n) : nextA (arOf n l) Nd.zero = (((l.length : Int), 0), arOf n (l ++ [Nd.zero])) := by
 have hf := ar_first (Nat.le_of_lt h)
 have hl := ar_len (Nat.le_of_lt h)
 rw [nextA_t (by omega), hf]
 refine congrArg (Prod.mk _) ?_
 obtain ⟨m, hm⟩ : ∃ m, n - l.length = m + 1 := ⟨n - l.length - 1, by omega⟩
 have hm2 : n - (l ++ [Nd.zero]).length = m := by simp; omega
 unfold arOf
 rw [hm, hm2]
 refine Prod.ext ?_ ?_
 ·show (l ++ List.replicate (m + 1) Nd.zero).set l.length Nd.zero = (l ++ [Nd.zero]) ++ List.replicate m Nd.zero
  rw [List.set_append_right _ _ (Nat.le_refl _), Nat.sub_self, List.replicate_succ, List.set_cons_zero, List.append_assoc]; rfl
 ·show (List.replicate l.length true ++ List.replicate (m + 1) false).set l.length true = List.replicate (l ++ [Nd.zero]).length true ++ List.replicate m false
  rw [List.set_append_right _ _ (by simp), List.length_replicate, Nat.sub_self, List.replicate_succ, List.set_cons_zero, List.length_append, List.length_singleton, List.replicate_succ', List.append_assoc]; rfl
theorem ar_full {n : Nat} {l : List Nd} (h : l.length = n) : nextA (arOf n l) Nd.zero = ((0, 4), arOf n l) := nextA_f (by rw [ar_first (by omega), ar_len (by omega)]; exact h)
def putL (l : List Nd) (x : Nd) : Int × List Nd := if 0 ≤ x.slot ∧ x.slot < l.length then (0, l.set x.slot.toNat x) else (8, l)
theorem putL_t {l : List Nd} {x : Nd} (h : 0 ≤ x.slot ∧ x.slot < l.length) : putL l x = (0, l.set x.slot.toNat x) := if_pos h
theorem putL_f {l : List Nd} {x : Nd} (h : ¬ (0 ≤ x.slot ∧ x.slot < l.length)) : putL l x = (8, l) := if_neg h
theorem putL_len (l : List Nd) (x : Nd) : (putL l x).2.length = l.length := by unfold putL; split <;> simp
theorem ar_set {n : Nat} {l : List Nd} (h : l.length ≤ n) (x : Nd) : layA (arOf n l) x.slot x = ((putL l x).1, arOf n (putL l x).2) := by
 by_cases hx : 0 ≤ x.slot ∧ x.slot < l.length
 ·rw [layA_t (by rw [ar_has h]; exact decide_eq_true hx), putL_t hx, ar_set1 (by omega)]
  refine congrArg (Prod.mk _) (Prod.ext rfl ?_)
  unfold arOf; simp
 ·rw [layA_f (by rw [ar_has h]; exact decide_eq_false hx), putL_f hx]
def takeL (n : Nat) (l : List Nd) (x : Nd) : (Int × Int) × List Nd := if l.length < n then ((l.length, 0), l ++ [{ x with slot := l.length }]) else ((0, 4), l)
theorem takeL_t {n : Nat} {l : List Nd} {x : Nd} (h : l.length < n) : takeL n l x = (((l.length : Int), 0), l ++ [{ x with slot := l.length }]) := if_pos h
theorem takeL_f {n : Nat} {l : List Nd} {x : Nd} (h : ¬ l.length < n) : takeL n l x = ((0, 4), l) := if_neg h
theorem take_set {l : List Nd} {x : Nd} : putL (l ++ [Nd.zero]) { x with slot := l.length } = (0, l ++ [{ x with slot := l.length }]) := by
 rw [putL_t (by simp; omega)]
 refine congrArg (Prod.mk _) ?_
 show (l ++ [Nd.zero]).set ((l.length : Int)).toNat _ = _
 rw [Int.toNat_natCast, List.set_append_right _ _ (Nat.le_refl _), Nat.sub_self]; rfl
def getL (l : List Nd) (i : Int) : Nd := if 0 ≤ i then l.getD i.toNat Nd.zero else Nd.zero
theorem getL_at {l : List Nd} {k : Nat} (h : k < l.length) : getL l k = l[k] := by
 unfold getL; rw [if_pos (by omega), Int.toNat_natCast, List.getD_eq_getElem?_getD, List.getElem?_eq_getElem h]; rfl
theorem ar_get {n : Nat} {l : List Nd} (h : l.length ≤ n) (i : Int) : getA (arOf n l) i Nd.zero = getL l i := by
 unfold getA getL
 rw [ar_has h]
 by_cases h0 : 0 ≤ i
 ·rw [if_pos h0]
  by_cases h1 : i < l.length
  ·rw [if_pos (decide_eq_true ⟨h0, h1⟩), List.getD_eq_getElem?_getD, List.getD_eq_getElem?_getD]
   unfold arOf
   rw [List.getElem?_append_left (by omega)]
  ·rw [if_neg (by simp; omega), List.getD_eq_getElem?_getD, List.getElem?_eq_none (by omega)]; rfl
 ·rw [if_neg h0, if_neg (by simp; omega)]
theorem ar_used {n : Nat} {l : List Nd} (h : l.length ≤ n) : usedN (arOf n l).2 = iotaN l.length := by
 have hl := ar_len h
 unfold usedN iotaN
 congr 1
 rw [hl]
 have e : n = l.length + (n - l.length) := by omega
 have key : ∀ m, m ≤ n → (List.range m).filter (fun i => (arOf n l).2.getD i true) = List.range (min m l.length) := by
  intro m
  induction m with
  | zero => intro _; simp
  | succ m ih =>
   intro hm
   rw [List.range_succ, List.filter_append, ih (by omega), List.filter_cons, getD_at9 (by omega), ar_in]
   by_cases hml : m < l.length
   ·rw [if_pos (decide_eq_true hml), List.filter_nil, Nat.min_eq_left (by omega), Nat.min_eq_left (by omega), List.range_succ]
   ·rw [if_neg (by simpa using hml), List.filter_nil, List.append_nil, Nat.min_eq_right (by omega), Nat.min_eq_right (by omega)]
 rw [key n (Nat.le_refl _), Nat.min_eq_right h]
theorem nextA_i64 {α : Type} {st : List α × List Bool} {x : α} (h : st.2.length ≤ 4096) : i64 (nextA st x).1.1 := by
 unfold nextA
 split
 ·exact ⟨by show (-9223372036854775808 : Int) ≤ (firstN st.2 : Int); omega, by show (firstN st.2 : Int) ≤ 9223372036854775807; omega⟩
 ·exact ⟨by show (-9223372036854775808 : Int) ≤ 0; omega, by show (0 : Int) ≤ 9223372036854775807; omega⟩
def takeA (a : List Nd × List Bool) (x : Nd) : (Int × Int) × (List Nd × List Bool) :=
 if (nextA a Nd.zero).1.2 = 0 then (((nextA a Nd.zero).1.1, (layA (nextA a Nd.zero).2 (nextA a Nd.zero).1.1 { x with slot := (nextA a Nd.zero).1.1 }).1), (layA (nextA a Nd.zero).2 (nextA a Nd.zero).1.1 { x with slot := (nextA a Nd.zero).1.1 }).2)
 else ((0, (nextA a Nd.zero).1.2), (nextA a Nd.zero).2)
theorem takeA_t {a : List Nd × List Bool} {x : Nd} (h : (nextA a Nd.zero).1.2 = 0) : takeA a x = (((nextA a Nd.zero).1.1, (layA (nextA a Nd.zero).2 (nextA a Nd.zero).1.1 { x with slot := (nextA a Nd.zero).1.1 }).1), (layA (nextA a Nd.zero).2 (nextA a Nd.zero).1.1 { x with slot := (nextA a Nd.zero).1.1 }).2) := if_pos h
theorem takeA_f {a : List Nd × List Bool} {x : Nd} (h : ¬ (nextA a Nd.zero).1.2 = 0) : takeA a x = ((0, (nextA a Nd.zero).1.2), (nextA a Nd.zero).2) := if_neg h
theorem ar_take {n : Nat} {l : List Nd} (h : l.length ≤ n) (x : Nd) : takeA (arOf n l) x = ((takeL n l x).1, arOf n (takeL n l x).2) := by
 by_cases e : l.length < n
 ·have h1 := ar_alloc e
  rw [takeA_t (by rw [h1]), h1, takeL_t e]
  have h2 := ar_set (n := n) (l := l ++ [Nd.zero]) (by simp; omega) { x with slot := (l.length : Int) }
  rw [take_set] at h2
  show (((l.length : Int), (layA (arOf n (l ++ [Nd.zero])) ({ x with slot := (l.length : Int) } : Nd).slot { x with slot := (l.length : Int) }).1), (layA (arOf n (l ++ [Nd.zero])) ({ x with slot := (l.length : Int) } : Nd).slot { x with slot := (l.length : Int) }).2) = _
  rw [h2]
 ·have h1 := ar_full (n := n) (l := l) (by omega)
  rw [takeA_f (by rw [h1]; show ¬ (4 : Int) = 0; omega), h1, takeL_f e]
def StA (te tB ti tb TS b : Nat) (G : GH) (c : Cfg) (a : List Nd × List Bool) (M : MH) : Prop :=
 ∃ b2 Ma, M = (b, .cells (List.toArray [.int .i64 c.fan, .int .i64 c.leaf, .int .i64 c.bud, .int .i64 c.slots, .int .i64 c.rest, .pointer (some ⟨b2, 0, none⟩)]) TS (0, 0)) :: Ma ∧ ArR eNode te tB ti tb b2 G a Ma
theorem StA.mono {te tB ti tb TS b : Nat} {G G' : GH} {c : Cfg} {a : List Nd × List Bool} {M : MH} (hl : Le G G') (h : StA te tB ti tb TS b G c a M) : StA te tB ti tb TS b G' c a M := by
 obtain ⟨b2, Ma, h1, h2⟩ := h; exact ⟨b2, Ma, h1, h2.mono hl⟩
def StR (te tB ti tb TS b : Nat) (c : Cfg) (G : GH) (l : List Nd) (M : MH) : Prop := CfgR c ∧ l.length ≤ c.slots.toNat ∧ StA te tB ti tb TS b G c (arOf c.slots.toNat l) M
theorem StR.mono {te tB ti tb TS b : Nat} {G G' : GH} {c : Cfg} {l : List Nd} {M : MH} (hl : Le G G') (h : StR te tB ti tb TS b c G l M) : StR te tB ti tb TS b c G' l M := ⟨h.1, h.2.1, h.2.2.mono hl⟩
theorem StA.cast {te tB ti tb TS b : Nat} {G : GH} {c : Cfg} {a a' : List Nd × List Bool} {M : MH} (h : StA te tB ti tb TS b G c a M) (e : a = a') : StA te tB ti tb TS b G c a' M := e ▸ h
def leafN (slot : Int) : Nd := ⟨slot, 0, [], [], Str.nil, true, -1, 0, [], []⟩
theorem takeL_len {n : Nat} {l : List Nd} {x : Nd} (h : l.length ≤ n) : (takeL n l x).2.length ≤ n := by unfold takeL; split <;> simp <;> omega
theorem nodes_all {n : Nat} {l : List Nd} (h : l.length ≤ n) : ((usedN (arOf n l).2).map fun i => getA (arOf n l) i Nd.zero) = l := by
 rw [ar_used h]
 refine List.ext_getElem (by simp [iotaN]) fun i h1 h2 => ?_
 rw [List.getElem_map, ar_get h]
 simp only [iotaN, List.getElem_map, List.getElem_range]
 exact getL_at h2
theorem NodeC.of {G : GH} {cs : List Value} {n m : Nd} (h : NodeC G cs n) (e : n = m) : NodeC G cs m := e ▸ h
end Go.Fw
