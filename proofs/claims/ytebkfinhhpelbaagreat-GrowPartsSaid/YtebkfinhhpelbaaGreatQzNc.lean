/- What container/heap asks of a heap, and what it does with it. Nothing of the program is named here. No condition. -/
import Derived.Test.YtebkfinhhpelbaaGreatProg
import Derived.Test.YtebkfinhhpelbaaGreatQzX3
set_option linter.unusedVariables false
set_option linter.unusedSimpArgs false
set_option linter.unnecessarySimpa false
set_option maxRecDepth 100000

namespace Go.Fw
open Go Go.RowKit
structure HeapK (P : Program) {α : Type} [Inhabited α] (lt : α → α → Bool) (x : Value) (Rep : GH → List α → MH → Prop) (EV : GH → Value → α → Prop) : Prop where
 mono : ∀ {G G' l M}, Le G G' → Rep G l M → Rep G' l M
 bound : ∀ {G l M}, Rep G l M → l.length ≤ 140737488355328
 len : ∀ {G l M}, Rep G l M → Inv P x "Len" [] G M (fun v G' M' => v = .int .i64 (l.length : Int) ∧ M' = M)
 less : ∀ {G l M} {i j : Nat}, Rep G l M → i < l.length → j < l.length → Inv P x "Less" [.int .i64 (i : Int), .int .i64 (j : Int)] G M (fun v G' M' => v = .bool (lt (nth l i) (nth l j)) ∧ M' = M)
 swap : ∀ {G l M} {i j : Nat}, Rep G l M → i < l.length → j < l.length → Inv P x "Swap" [.int .i64 (i : Int), .int .i64 (j : Int)] G M (fun v G' M' => v = .tuple #[] ∧ Rep G' (swapL l i j) M')
 push : ∀ {G l M u a}, Rep G l M → l.length < 1000000 → EV G u a → Inv P x "Push" [u] G M (fun v G' M' => v = .tuple #[] ∧ Rep G' (l ++ [a]) M')
 pop : ∀ {G l M}, Rep G l M → 0 < l.length → Inv P x "Pop" [] G M (fun v G' M' => EV G' v (nth l (l.length - 1)) ∧ Rep G' (l.take (l.length - 1)) M')
section
variable {α : Type} [Inhabited α] {lt : α → α → Bool}
theorem downL_stop {f : Nat} {l : List α} {i n : Nat} (h : n ≤ 2 * i + 1) : downL lt f l i n = l := by
 cases f with
 | zero => rfl
 | succ f => rw [downL, if_pos h]
theorem downL_end {f : Nat} {l : List α} {i n : Nat} (h1 : ¬ n ≤ 2 * i + 1) (h2 : lt (nth l (kidJ lt l i n)) (nth l i) = false) : downL lt f l i n = l := by
 cases f with
 | zero => rfl
 | succ f => rw [downL, if_neg h1, if_pos h2]
theorem downL_go {f : Nat} {l : List α} {i n : Nat} (hf : n ≤ i + f) (h1 : ¬ n ≤ 2 * i + 1) (h2 : lt (nth l (kidJ lt l i n)) (nth l i) = true) : downL lt f l i n = downL lt (f - 1) (swapL l i (kidJ lt l i n)) (kidJ lt l i n) n := by
 cases f with
 | zero => omega
 | succ f => rw [downL, if_neg h1, if_neg (by simp [h2])]; rfl
theorem kidJ_t {l : List α} {i n : Nat} (h : 2 * i + 2 < n) (h2 : lt (nth l (2 * i + 2)) (nth l (2 * i + 1)) = true) : kidJ lt l i n = 2 * i + 2 := if_pos ⟨h, h2⟩
theorem kidJ_f {l : List α} {i n : Nat} (h : ¬ 2 * i + 2 < n ∨ lt (nth l (2 * i + 2)) (nth l (2 * i + 1)) = false) : kidJ lt l i n = 2 * i + 1 := if_neg (fun ⟨h1, h2⟩ => h.elim (fun h => h h1) (fun h => by rw [h2] at h; cases h))
theorem downL_id {l : List α} (h : Heap lt l) (f i : Nat) : downL lt f l i l.length = l := by
 by_cases h1 : l.length ≤ 2 * i + 1
 ·exact downL_stop h1
 ·have hk := kidJ_lt (lt := lt) (l := l) h1
  have := h (kidJ lt l i l.length) (by omega) hk.1 (by omega)
  rw [hk.2.2.1] at this
  exact downL_end h1 this
theorem popL_eq {l : List α} (h : 0 < l.length) : (downL lt l.length (swapL l 0 (l.length - 1)) 0 (l.length - 1)).take ((downL lt l.length (swapL l 0 (l.length - 1)) 0 (l.length - 1)).length - 1) = popL lt l ∧
  nth (downL lt l.length (swapL l 0 (l.length - 1)) 0 (l.length - 1)) ((downL lt l.length (swapL l 0 (l.length - 1)) 0 (l.length - 1)).length - 1) = nth l 0 := by
 rw [downL_length, swapL_length]
 refine ⟨rfl, ?_⟩
 rw [downL_above _ _ _ _ _ (by rw [swapL_length]; omega) (Nat.le_refl _), nth_swap (by omega) (by omega), if_pos rfl]
end
end Go.Fw

namespace Go.Fw
open Go Go.RowKit
abbrev Hd := List Msg × Int
def Hd.st (a : Hd) : Int := match a.1 with | [] => 0 | m :: _ => m.stamp
def Hd.lt (a b : Hd) : Bool := decide (a.st < b.st) || (decide (a.st = b.st) && decide (a.2 < b.2))
theorem Hd.st_at {a : Hd} (h : 0 < a.1.length) : a.st = a.1[0].stamp := by
 obtain ⟨l, n⟩ := a
 cases l with
 | nil => simp at h
 | cons m l => rfl
theorem Hd.lo : LO Hd.lt where
 asymm := fun {a b} h => by
  simp only [Hd.lt, Bool.or_eq_true, Bool.and_eq_true, decide_eq_true_eq] at h
  simp only [Hd.lt, Bool.or_eq_false_iff, Bool.and_eq_false_iff, decide_eq_false_iff_not]
  omega
 trans := fun {a b c} h1 h2 => by
  simp only [Hd.lt, Bool.or_eq_false_iff, Bool.and_eq_false_iff, decide_eq_false_iff_not] at h1 h2 ⊢
  omega
def HdC (G : GH) (cs : List Value) (a : Hd) : Prop := ∃ p c, cs = [.slice p a.1.length c, .int .i64 a.2] ∧ SlR eMsg G (.slice p a.1.length c) a.1 ∧ i64 a.2
theorem HdC.mono {G G' : GH} {cs a} (hl : Le G G') (h : HdC G cs a) : HdC G' cs a := by
 obtain ⟨p, c, h1, h2, h3⟩ := h; exact ⟨p, c, h1, h2.mono hl, h3⟩
def eHead : Enc Hd where
 k := 2
 w := 32
 R := HdC
 mono := fun hl h => h.mono hl
 len := fun h => by obtain ⟨p, c, h0, _⟩ := h; rw [h0]; rfl
 one := fun h u hu => by
  obtain ⟨p, c, h0, _⟩ := h
  rw [h0] at hu
  simp at hu
  rcases hu with rfl | rfl <;> rfl
theorem lo_int : LO (fun a b : Int => decide (a < b)) where
 asymm := fun {a b} h => by simp at h ⊢; omega
 trans := fun {a b c} h1 h2 => by simp at h1 h2 ⊢; omega
end Go.Fw

namespace Go.Fw
open Go Go.RowKit
def eBool : Enc Bool where
 k := 1
 w := 1
 R := fun _ cs b => cs = [.bool b]
 mono := fun _ h => h
 len := fun h => by rw [h]; rfl
 one := fun h u hu => by rw [h] at hu; simp at hu; subst hu; rfl
abbrev ltI : Int → Int → Bool := fun a b => decide (a < b)
def hasN (u : List Bool) (i : Int) : Bool := decide (0 ≤ i) && (decide (i < u.length) && u.getD i.toNat false)
theorem hasN_iff {u : List Bool} {i : Int} : hasN u i = true ↔ ∃ k : Nat, ∃ h : k < u.length, i = k ∧ u[k] = true := by
 unfold hasN
 simp only [Bool.and_eq_true, decide_eq_true_eq]
 constructor
 ·rintro ⟨h1, h2, h3⟩
  have h4 : i.toNat < u.length := by omega
  rw [List.getD_eq_getElem?_getD, List.getElem?_eq_getElem h4] at h3
  exact ⟨i.toNat, h4, by omega, h3⟩
 ·rintro ⟨k, h, rfl, h2⟩
  refine ⟨by omega, by omega, ?_⟩
  rw [List.getD_eq_getElem?_getD, Int.toNat_natCast, List.getElem?_eq_getElem h]
  exact h2
def freeN (u : List Bool) : List Int := ((List.range u.length).filter fun i => !u.getD i true).map fun i : Nat => (i : Int)
def usedN (u : List Bool) : List Int := ((List.range u.length).filter fun i => u.getD i true).map fun i : Nat => (i : Int)
theorem getD_at9 {u : List Bool} {i : Nat} (h : i < u.length) (d : Bool) : u.getD i d = u[i] := by rw [List.getD_eq_getElem?_getD, List.getElem?_eq_getElem h]; rfl
theorem mem_free {u : List Bool} {a : Int} : a ∈ freeN u ↔ ∃ i : Nat, ∃ h : i < u.length, a = i ∧ u[i] = false := by
 unfold freeN
 rw [List.mem_map]
 constructor
 ·rintro ⟨i, hi, rfl⟩
  rw [List.mem_filter, List.mem_range] at hi
  obtain ⟨h1, h2⟩ := hi
  rw [getD_at9 h1] at h2
  exact ⟨i, h1, rfl, by simpa using h2⟩
 ·rintro ⟨i, h, rfl, h2⟩
  exact ⟨i, List.mem_filter.2 ⟨List.mem_range.2 h, by rw [getD_at9 h, h2]; rfl⟩, rfl⟩
theorem free_nodup (u : List Bool) : (freeN u).Nodup := by
 unfold freeN
 have h : List.Pairwise (fun a b : Nat => a ≠ b) ((List.range u.length).filter fun i => !u.getD i true) := List.Pairwise.sublist List.filter_sublist List.nodup_range
 exact List.Pairwise.map _ (fun a b h e => h (by have e : (a : Int) = (b : Int) := e; omega)) h
theorem filter_two {α : Type} (p : α → Bool) : ∀ (l : List α), (l.filter fun i => !p i).length + (l.filter p).length = l.length
 | [] => rfl
 | x :: l => by
  have := filter_two p l
  cases h : p x <;> simp [h] <;> omega
theorem free_used (u : List Bool) : (freeN u).length + (usedN u).length = u.length := by
 unfold freeN usedN
 rw [List.length_map, List.length_map]
 have := filter_two (fun i => u.getD i true) (List.range u.length)
 rw [List.length_range] at this
 exact this
def firstN : List Bool → Nat
 | [] => 0
 | true :: l => firstN l + 1
 | false :: _ => 0
theorem firstN_at : ∀ {u : List Bool} {i : Nat} (h : i < u.length), u[i] = false → (∀ j (hj : j < u.length), j < i → u[j] = true) → firstN u = i
 | [], i, h, _, _ => by simp at h
 | true :: l, 0, h, h1, _ => by simp at h1
 | true :: l, i + 1, h, h1, h2 => by
  rw [firstN, firstN_at (u := l) (i := i) (by simp at h; omega) (by simpa using h1) fun j hj hji => by have := h2 (j + 1) (by simp; omega) (by omega); simpa using this]
 | false :: l, 0, _, _, _ => rfl
 | false :: l, i + 1, h, h1, h2 => by have := h2 0 (by simp) (by omega); simp at this
theorem firstN_all : ∀ {u : List Bool}, (∀ j (hj : j < u.length), u[j] = true) → firstN u = u.length
 | [], _ => rfl
 | true :: l, h => by rw [firstN, firstN_all (u := l) fun j hj => by have := h (j + 1) (by simp; omega); simpa using this]; rfl
 | false :: l, h => by have := h 0 (by simp); simp at this
theorem free_zero {u : List Bool} (h : (freeN u).length = 0) : firstN u = u.length := firstN_all fun j hj => by
 cases hu : u[j] with
 | true => rfl
 | false =>
  have := mem_free.2 ⟨j, hj, rfl, hu⟩
  rw [List.eq_nil_of_length_eq_zero h] at this; cases this
theorem perm_of_mem {a b : List Int} (ha : a.Nodup) (hb : b.Nodup) (h : ∀ x, x ∈ a ↔ x ∈ b) : a.Perm b := (List.perm_ext_iff_of_nodup ha hb).2 h
theorem take_first {f : List Int} {u : List Bool} (hH : Heap ltI f) (hp : f.Perm (freeN u)) (hl : 0 < f.length) : ∃ h : firstN u < u.length, nth f 0 = (firstN u : Int) ∧ Heap ltI (popL ltI f) ∧ (popL ltI f).Perm (freeN (u.set (firstN u) true)) := by
 obtain ⟨h1, h2, h3⟩ := pop_heap lo_int hH hl
 have hm : nth f 0 ∈ freeN u := hp.mem_iff.1 (by rw [nth_lt hl]; exact List.getElem_mem _)
 obtain ⟨i, hi, e, hu⟩ := mem_free.1 hm
 have hfi : firstN u = i := firstN_at hi hu fun j hj hji => by
  cases huj : u[j] with
  | true => rfl
  | false =>
   have hmj : ((j : Nat) : Int) ∈ f := hp.mem_iff.2 (mem_free.2 ⟨j, hj, rfl, huj⟩)
   obtain ⟨c, hc, e2⟩ := List.getElem_of_mem hmj
   have := heap_min lo_int hH c hc
   rw [nth_lt hc, e, e2] at this
   simp at this; omega
 subst hfi
 refine ⟨hi, e, h1, ?_⟩
 have hnd : (nth f 0 :: popL ltI f).Nodup := h2.nodup_iff.2 (hp.nodup_iff.2 (free_nodup u))
 obtain ⟨hn1, hn2⟩ := List.nodup_cons.1 hnd
 refine perm_of_mem hn2 (free_nodup _) fun x => ?_
 have hmx : x ∈ nth f 0 :: popL ltI f ↔ x ∈ freeN u := (h2.trans hp).mem_iff
 constructor
 ·intro hx
  obtain ⟨k, hk, rfl, hku⟩ := mem_free.1 (hmx.1 (List.mem_cons_of_mem _ hx))
  have hne : firstN u ≠ k := fun h => hn1 (by rw [e, h]; exact hx)
  exact mem_free.2 ⟨k, by rw [List.length_set]; exact hk, rfl, by rw [List.getElem_set_ne hne]; exact hku⟩
 ·intro hx
  obtain ⟨k, hk, rfl, hku⟩ := mem_free.1 hx
  rw [List.length_set] at hk
  have hne : firstN u ≠ k := fun h => by subst h; simp at hku
  rw [List.getElem_set_ne hne] at hku
  rcases List.mem_cons.1 (hmx.2 (mem_free.2 ⟨k, hk, rfl, hku⟩)) with h | h
  ·rw [e] at h; omega
  ·exact h
def iotaN (n : Nat) : List Int := (List.range n).map fun i : Nat => (i : Int)
theorem iota_succ (n : Nat) : iotaN (n + 1) = iotaN n ++ [(n : Int)] := by simp [iotaN, List.range_succ]
theorem iota_len (n : Nat) : (iotaN n).length = n := by simp [iotaN]
theorem iota_heap (n : Nat) : Heap ltI (iotaN n) := fun c h0 hc _ => by
 rw [iota_len] at hc
 have h1 : nth (iotaN n) c = (c : Int) := by rw [nth_lt (by rw [iota_len]; exact hc)]; simp [iotaN]
 have h2 : nth (iotaN n) ((c - 1) / 2) = (((c - 1) / 2 : Nat) : Int) := by rw [nth_lt (by rw [iota_len]; omega)]; simp [iotaN]
 rw [h1, h2]
 simp only [decide_eq_false_iff_not]
 omega
theorem iota_free (n : Nat) : iotaN n = freeN (List.replicate n false) := by
 unfold iotaN freeN
 rw [List.length_replicate]
 congr 1
 symm
 rw [List.filter_eq_self]
 intro i hi
 rw [List.mem_range] at hi
 rw [getD_at9 (by simpa using hi)]
 simp
def nextA {α : Type} (st : List α × List Bool) (x : α) : (Int × Int) × (List α × List Bool) :=
 if firstN st.2 < st.2.length then ((firstN st.2, 0), (st.1.set (firstN st.2) x, st.2.set (firstN st.2) true)) else ((0, 4), st)
def freeA {α : Type} (st : List α × List Bool) (i : Int) (z : α) : Int × (List α × List Bool) := if hasN st.2 i = true then (0, (st.1.set i.toNat z, st.2.set i.toNat false)) else (8, st)
def layA {α : Type} (st : List α × List Bool) (i : Int) (x : α) : Int × (List α × List Bool) := if hasN st.2 i = true then (0, (st.1.set i.toNat x, st.2)) else (8, st)
def getA {α : Type} (st : List α × List Bool) (i : Int) (z : α) : α := if hasN st.2 i = true then st.1.getD i.toNat z else z
def ArP {α : Type} (e : Enc α) (Te TB TI Tb : TypeId) (b : Nat) (G : GH) (st : List α × List Bool × List Int) (M : MH) : Prop :=
 ∃ vc vu vf Mc Mu Mf, M = (b, .cells (List.toArray [vc, vu, vf]) Tb (0, 0)) :: (Mc ++ (Mu ++ Mf)) ∧ OwnR e Te G vc st.1 Mc ∧ OwnR eBool TB G vu st.2.1 Mu ∧ OwnR eInt TI G vf st.2.2 Mf
theorem ArP.mono {α : Type} {e : Enc α} {Te TB TI Tb : TypeId} {b : Nat} {G G' : GH} {st : List α × List Bool × List Int} {M : MH} (hl : Le G G') (h : ArP e Te TB TI Tb b G st M) : ArP e Te TB TI Tb b G' st M := by
 obtain ⟨vc, vu, vf, Mc, Mu, Mf, h1, h2, h3, h4⟩ := h
 exact ⟨vc, vu, vf, Mc, Mu, Mf, h1, h2.mono hl, h3.mono hl, h4.mono hl⟩
def ArR {α : Type} (e : Enc α) (Te TB TI Tb : TypeId) (b : Nat) (G : GH) (st : List α × List Bool) (M : MH) : Prop :=
 ∃ f, ArP e Te TB TI Tb b G (st.1, st.2, f) M ∧ st.1.length = st.2.length ∧ st.2.length ≤ 4096 ∧ Heap ltI f ∧ f.Perm (freeN st.2)
theorem ArR.mono {α : Type} {e : Enc α} {Te TB TI Tb : TypeId} {b : Nat} {G G' : GH} {st : List α × List Bool} {M : MH} (hl : Le G G') (h : ArR e Te TB TI Tb b G st M) : ArR e Te TB TI Tb b G' st M := by
 obtain ⟨f, h1, h2⟩ := h
 exact ⟨f, h1.mono hl, h2⟩
theorem ArR.cast {α : Type} {e : Enc α} {Te TB TI Tb : TypeId} {b : Nat} {G : GH} {st st' : List α × List Bool} {M M' : MH} (h : ArR e Te TB TI Tb b G st M) (e1 : st = st') (e2 : M = M') : ArR e Te TB TI Tb b G st' M' := by subst e1 e2; exact h
theorem hasN_get {u : List Bool} {i : Int} (h0 : 0 ≤ i) (h1 : i < u.length) : u[i.toNat]'(by omega) = hasN u i := by
 unfold hasN
 rw [decide_eq_true h0, decide_eq_true h1, getD_at9 (by omega)]; rfl
theorem hasN_neg {u : List Bool} {i : Int} (h0 : ¬ 0 ≤ i) : false = hasN u i := by unfold hasN; rw [decide_eq_false h0]; rfl
theorem hasN_big {u : List Bool} {i : Int} (h1 : ¬ i < u.length) : false = hasN u i := by unfold hasN; rw [decide_eq_false h1]; simp
theorem hasN_lt {u : List Bool} {i : Int} (h : hasN u i = true) : 0 ≤ i ∧ i.toNat < u.length ∧ i = (i.toNat : Int) := by
 obtain ⟨k, hk, rfl, _⟩ := hasN_iff.1 h
 exact ⟨by omega, by simpa using hk, by simp⟩
theorem layA_t {α : Type} {st : List α × List Bool} {i : Int} {x : α} (h : hasN st.2 i = true) : layA st i x = (0, (st.1.set i.toNat x, st.2)) := if_pos h
theorem layA_f {α : Type} {st : List α × List Bool} {i : Int} {x : α} (h : hasN st.2 i = false) : layA st i x = (8, st) := if_neg (by simp [h])
theorem nextA_t {α : Type} {st : List α × List Bool} {x : α} (h : firstN st.2 < st.2.length) : nextA st x = (((firstN st.2 : Int), 0), (st.1.set (firstN st.2) x, st.2.set (firstN st.2) true)) := if_pos h
theorem nextA_f {α : Type} {st : List α × List Bool} {x : α} (h : firstN st.2 = st.2.length) : nextA st x = ((0, 4), st) := if_neg (by omega)
theorem getA_t {α : Type} {st : List α × List Bool} {i : Int} {z : α} (h : hasN st.2 i = true) (h2 : i.toNat < st.1.length) : getA st i z = st.1[i.toNat] := by
 unfold getA; rw [if_pos h, List.getD_eq_getElem?_getD, List.getElem?_eq_getElem h2]; rfl
theorem getA_f {α : Type} {st : List α × List Bool} {i : Int} {z : α} (h : hasN st.2 i = false) : getA st i z = z := if_neg (by simp [h])
theorem NodeC.cast {G : GH} {cs : List Value} {n m : Nd} (h : NodeC G cs n) (e : n = m) : NodeC G cs m := e ▸ h
def usedK (u : List Bool) (k : Nat) : List Int := ((List.range k).filter fun i => u.getD i true).map fun i : Nat => (i : Int)
theorem usedK_len (u : List Bool) (k : Nat) : (usedK u k).length ≤ k := by
 unfold usedK; rw [List.length_map]
 have := List.length_filter_le (fun i => u.getD i true) (List.range k)
 rw [List.length_range] at this; exact this
theorem usedK_t {u : List Bool} {k : Nat} (hk : k < u.length) (h : u[k] = true) : usedK u (k + 1) = usedK u k ++ [(k : Int)] := by
 unfold usedK; rw [List.range_succ, List.filter_append, List.map_append]; congr 1; simp [List.getElem?_eq_getElem hk, h]
theorem usedK_f {u : List Bool} {k : Nat} (hk : k < u.length) (h : u[k] = false) : usedK u (k + 1) = usedK u k := by
 unfold usedK; rw [List.range_succ, List.filter_append, List.map_append]; simp [List.getElem?_eq_getElem hk, h]
theorem used_eq (u : List Bool) : usedN u = usedK u u.length := rfl
end Go.Fw

namespace Go.Fw
open Go Go.RowKit
def CfgR (c : Cfg) : Prop := (4 ≤ c.fan ∧ c.fan ≤ 64) ∧ (2 ≤ c.leaf ∧ c.leaf ≤ 64) ∧ (36 ≤ c.bud ∧ c.bud ≤ 4096) ∧ (1 ≤ c.slots ∧ c.slots ≤ 4096) ∧ (0 ≤ c.rest ∧ c.rest ≤ 100)
instance (c : Cfg) : Decidable (CfgR c) := by unfold CfgR; infer_instance
def arOf (n : Nat) (l : List Nd) : List Nd × List Bool := (l ++ List.replicate (n - l.length) Nd.zero, List.replicate l.length true ++ List.replicate (n - l.length) false)
theorem arOf_nil (n : Nat) : arOf n [] = (List.replicate n Nd.zero, List.replicate n false) := by simp [arOf]
theorem ar_len {n : Nat} {l : List Nd} (h : l.length ≤ n) : (arOf n l).2.length = n := by simp [arOf]; omega
theorem ar_in {n : Nat} {l : List Nd} {i : Nat} (h : i < (arOf n l).2.length) : (arOf n l).2[i] = decide (i < l.length) := by
 rw [List.getElem_of_eq (show (arOf n l).2 = List.replicate l.length true ++ List.replicate (n - l.length) false from rfl) h, List.getElem_append]
 split <;> rename_i h2 <;> simp only [List.length_replicate] at h2 <;> simp <;> omega
theorem ar_has {n : Nat} {l : List Nd} (h : l.length ≤ n) (i : Int) : hasN (arOf n l).2 i = decide (0 ≤ i ∧ i < l.length) := by
 rw [Bool.eq_iff_iff, hasN_iff, decide_eq_true_iff]
 constructor
 ·rintro ⟨k, hk, rfl, h2⟩
  rw [ar_in hk] at h2
  have := of_decide_eq_true h2
  omega
 ·rintro ⟨h1, h2⟩
  have hl := ar_len h
  exact ⟨i.toNat, by omega, by omega, by rw [ar_in]; exact decide_eq_true (by omega)⟩
theorem ar_first {n : Nat} {l : List Nd} (h : l.length ≤ n) : firstN (arOf n l).2 = l.length := by
 have hl := ar_len h
 by_cases e : l.length = n
 ·rw [firstN_all fun j hj => by rw [ar_in hj]; exact decide_eq_true (by omega)]; omega
 ·exact firstN_at (by omega) (by rw [ar_in]; exact decide_eq_false (by omega)) fun j hj hjl => by rw [ar_in hj]; exact decide_eq_true hjl
theorem ar_set1 {n : Nat} {l : List Nd} {k : Nat} {x : Nd} (hk : k < l.length) : (arOf n l).1.set k x = (arOf n (l.set k x)).1 := by
 unfold arOf
 rw [List.length_set, List.set_append_left _ _ hk]
theorem ar_alloc {n : Nat} {l : List Nd} (h : l.length < n) : nextA (arOf n l) Nd.zero = (((l.length : Int), 0), arOf n (l ++ [Nd.zero])) := by
 have hf := ar_first (Nat.le_of_lt h)
 have hl := ar_len (Nat.le_of_lt h)
 rw [nextA_t (by omega), hf]
 refine congrArg (Prod.mk _) ?_
 obtain ⟨m, hm⟩ : ∃ m, n - l.length = m + 1 := ⟨n - l.length - 1, by omega⟩
 have hm2 : n - (l ++ [Nd.zero]).length = m := by simp; omega
 unfold arOf
 rw [hm, hm2]
 refine Prod.ext ?_ ?_
 ·show (l ++ List.replicate (m + 1) Nd.zero).set l.length Nd.zero = (l ++ [Nd.zero]) ++ List.replicate m Nd.zero
  rw [List.set_append_right _ _ (Nat.le_refl _), Nat.sub_self, List.replicate_succ, List.set_cons_zero, List.append_assoc]; rfl
 ·show (List.replicate l.length true ++ List.replicate (m + 1) false).set l.length true = List.replicate (l ++ [Nd.zero]).length true ++ List.replicate m false
  rw [List.set_append_right _ _ (by simp), List.length_replicate, Nat.sub_self, List.replicate_succ, List.set_cons_zero, List.length_append, List.length_singleton, List.replicate_succ', List.append_assoc]; rfl
theorem ar_full {n : Nat} {l : List Nd} (h : l.length = n) : nextA (arOf n l) Nd.zero = ((0, 4), arOf n l) := nextA_f (by rw [ar_first (by omega), ar_len (by omega)]; exact h)
def putL (l : List Nd) (x : Nd) : Int × List Nd := if 0 ≤ x.slot ∧ x.slot < l.length then (0, l.set x.slot.toNat x) else (8, l)
theorem putL_t {l : List Nd} {x : Nd} (h : 0 ≤ x.slot ∧ x.slot < l.length) : putL l x = (0, l.set x.slot.toNat x) := if_pos h
theorem putL_f {l : List Nd} {x : Nd} (h : ¬ (0 ≤ x.slot ∧ x.slot < l.length)) : putL l x = (8, l) := if_neg h
theorem putL_len (l : List Nd) (x : Nd) : (putL l x).2.length = l.length := by unfold putL; split <;> simp
theorem ar_set {n : Nat} {l : List Nd} (h : l.length ≤ n) (x : Nd) : layA (arOf n l) x.slot x = ((putL l x).1, arOf n (putL l x).2) := by
 by_cases hx : 0 ≤ x.slot ∧ x.slot < l.length
 ·rw [layA_t (by rw [ar_has h]; exact decide_eq_true hx), putL_t hx, ar_set1 (by omega)]
  refine congrArg (Prod.mk _) (Prod.ext rfl ?_)
  unfold arOf; simp
 ·rw [layA_f (by rw [ar_has h]; exact decide_eq_false hx), putL_f hx]
def takeL (n : Nat) (l : List Nd) (x : Nd) : (Int × Int) × List Nd := if l.length < n then ((l.length, 0), l ++ [{ x with slot := l.length }]) else ((0, 4), l)
theorem takeL_t {n : Nat} {l : List Nd} {x : Nd} (h : l.length < n) : takeL n l x = (((l.length : Int), 0), l ++ [{ x with slot := l.length }]) := if_pos h
theorem takeL_f {n : Nat} {l : List Nd} {x : Nd} (h : ¬ l.length < n) : takeL n l x = ((0, 4), l) := if_neg h
theorem take_set {l : List Nd} {x : Nd} : putL (l ++ [Nd.zero]) { x with slot := l.length } = (0, l ++ [{ x with slot := l.length }]) := by
 rw [putL_t (by simp; omega)]
 refine congrArg (Prod.mk _) ?_
 show (l ++ [Nd.zero]).set ((l.length : Int)).toNat _ = _
 rw [Int.toNat_natCast, List.set_append_right _ _ (Nat.le_refl _), Nat.sub_self]; rfl
def getL (l : List Nd) (i : Int) : Nd := if 0 ≤ i then l.getD i.toNat Nd.zero else Nd.zero
theorem getL_at {l : List Nd} {k : Nat} (h : k < l.length) : getL l k = l[k] := by
 unfold getL; rw [if_pos (by omega), Int.toNat_natCast, List.getD_eq_getElem?_getD, List.getElem?_eq_getElem h]; rfl
theorem ar_get {n : Nat} {l : List Nd} (h : l.length ≤ n) (i : Int) : getA (arOf n l) i Nd.zero = getL l i := by
 unfold getA getL
 rw [ar_has h]
 by_cases h0 : 0 ≤ i
 ·rw [if_pos h0]
  by_cases h1 : i < l.length
  ·rw [if_pos (decide_eq_true ⟨h0, h1⟩), List.getD_eq_getElem?_getD, List.getD_eq_getElem?_getD]
   unfold arOf
   rw [List.getElem?_append_left (by omega)]
  ·rw [if_neg (by simp; omega), List.getD_eq_getElem?_getD, List.getElem?_eq_none (by omega)]; rfl
 ·rw [if_neg h0, if_neg (by simp; omega)]
theorem ar_used {n : Nat} {l : List Nd} (h : l.length ≤ n) : usedN (arOf n l).2 = iotaN l.length := by
 have hl := ar_len h
 unfold usedN iotaN
 congr 1
 rw [hl]
 have e : n = l.length + (n - l.length) := by omega
 have key : ∀ m, m ≤ n → (List.range m).filter (fun i => (arOf n l).2.getD i true) = List.range (min m l.length) := by
  intro m
  induction m with
  | zero => intro _; simp
  | succ m ih =>
   intro hm
   rw [List.range_succ, List.filter_append, ih (by omega), List.filter_cons, getD_at9 (by omega), ar_in]
   by_cases hml : m < l.length
   ·rw [if_pos (decide_eq_true hml), List.filter_nil, Nat.min_eq_left (by omega), Nat.min_eq_left (by omega), List.range_succ]
   ·rw [if_neg (by simpa using hml), List.filter_nil, List.append_nil, Nat.min_eq_right (by omega), Nat.min_eq_right (by omega)]
 rw [key n (Nat.le_refl _), Nat.min_eq_right h]
theorem nextA_i64 {α : Type} {st : List α × List Bool} {x : α} (h : st.2.length ≤ 4096) : i64 (nextA st x).1.1 := by
 unfold nextA
 split
 ·exact ⟨by show (-9223372036854775808 : Int) ≤ (firstN st.2 : Int); omega, by show (firstN st.2 : Int) ≤ 9223372036854775807; omega⟩
 ·exact ⟨by show (-9223372036854775808 : Int) ≤ 0; omega, by show (0 : Int) ≤ 9223372036854775807; omega⟩
def takeA (a : List Nd × List Bool) (x : Nd) : (Int × Int) × (List Nd × List Bool) :=
 if (nextA a Nd.zero).1.2 = 0 then (((nextA a Nd.zero).1.1, (layA (nextA a Nd.zero).2 (nextA a Nd.zero).1.1 { x with slot := (nextA a Nd.zero).1.1 }).1), (layA (nextA a Nd.zero).2 (nextA a Nd.zero).1.1 { x with slot := (nextA a Nd.zero).1.1 }).2)
 else ((0, (nextA a Nd.zero).1.2), (nextA a Nd.zero).2)
theorem takeA_t {a : List Nd × List Bool} {x : Nd} (h : (nextA a Nd.zero).1.2 = 0) : takeA a x = (((nextA a Nd.zero).1.1, (layA (nextA a Nd.zero).2 (nextA a Nd.zero).1.1 { x with slot := (nextA a Nd.zero).1.1 }).1), (layA (nextA a Nd.zero).2 (nextA a Nd.zero).1.1 { x with slot := (nextA a Nd.zero).1.1 }).2) := if_pos h
theorem takeA_f {a : List Nd × List Bool} {x : Nd} (h : ¬ (nextA a Nd.zero).1.2 = 0) : takeA a x = ((0, (nextA a Nd.zero).1.2), (nextA a Nd.zero).2) := if_neg h
theorem ar_take {n : Nat} {l : List Nd} (h : l.length ≤ n) (x : Nd) : takeA (arOf n l) x = ((takeL n l x).1, arOf n (takeL n l x).2) := by
 by_cases e : l.length < n
 ·have h1 := ar_alloc e
  rw [takeA_t (by rw [h1]), h1, takeL_t e]
  have h2 := ar_set (n := n) (l := l ++ [Nd.zero]) (by simp; omega) { x with slot := (l.length : Int) }
  rw [take_set] at h2
  show (((l.length : Int), (layA (arOf n (l ++ [Nd.zero])) ({ x with slot := (l.length : Int) } : Nd).slot { x with slot := (l.length : Int) }).1), (layA (arOf n (l ++ [Nd.zero])) ({ x with slot := (l.length : Int) } : Nd).slot { x with slot := (l.length : Int) }).2) = _
  rw [h2]
 ·have h1 := ar_full (n := n) (l := l) (by omega)
  rw [takeA_f (by rw [h1]; show ¬ (4 : Int) = 0; omega), h1, takeL_f e]
def StA (te tB ti tb TS b : Nat) (G : GH) (c : Cfg) (a : List Nd × List Bool) (M : MH) : Prop :=
 ∃ b2 Ma, M = (b, .cells (List.toArray [.int .i64 c.fan, .int .i64 c.leaf, .int .i64 c.bud, .int .i64 c.slots, .int .i64 c.rest, .pointer (some ⟨b2, 0, none⟩)]) TS (0, 0)) :: Ma ∧ ArR eNode te tB ti tb b2 G a Ma
theorem StA.mono {te tB ti tb TS b : Nat} {G G' : GH} {c : Cfg} {a : List Nd × List Bool} {M : MH} (hl : Le G G') (h : StA te tB ti tb TS b G c a M) : StA te tB ti tb TS b G' c a M := by
 obtain ⟨b2, Ma, h1, h2⟩ := h; exact ⟨b2, Ma, h1, h2.mono hl⟩
def StR (te tB ti tb TS b : Nat) (c : Cfg) (G : GH) (l : List Nd) (M : MH) : Prop := CfgR c ∧ l.length ≤ c.slots.toNat ∧ StA te tB ti tb TS b G c (arOf c.slots.toNat l) M
theorem StR.mono {te tB ti tb TS b : Nat} {G G' : GH} {c : Cfg} {l : List Nd} {M : MH} (hl : Le G G') (h : StR te tB ti tb TS b c G l M) : StR te tB ti tb TS b c G' l M := ⟨h.1, h.2.1, h.2.2.mono hl⟩
theorem StA.cast {te tB ti tb TS b : Nat} {G : GH} {c : Cfg} {a a' : List Nd × List Bool} {M : MH} (h : StA te tB ti tb TS b G c a M) (e : a = a') : StA te tB ti tb TS b G c a' M := e ▸ h
def leafN (slot : Int) : Nd := ⟨slot, 0, [], [], Str.nil, true, -1, 0, [], []⟩
theorem takeL_len {n : Nat} {l : List Nd} {x : Nd} (h : l.length ≤ n) : (takeL n l x).2.length ≤ n := by unfold takeL; split <;> simp <;> omega
theorem nodes_all {n : Nat} {l : List Nd} (h : l.length ≤ n) : ((usedN (arOf n l).2).map fun i => getA (arOf n l) i Nd.zero) = l := by
 rw [ar_used h]
 refine List.ext_getElem (by simp [iotaN]) fun i h1 h2 => ?_
 rw [List.getElem_map, ar_get h]
 simp only [iotaN, List.getElem_map, List.getElem_range]
 exact getL_at h2
theorem NodeC.of {G : GH} {cs : List Value} {n m : Nd} (h : NodeC G cs n) (e : n = m) : NodeC G cs m := e ▸ h
end Go.Fw
namespace Go.Proofs.YtebkfinhhpelbaaGreat
open Go.Fw
theorem ty23 : tyK Tryz.prog 23 = some (true, 5) := by kernel_rfl
theorem zr23 : zeroK Tryz.prog 23 = some [.int .i64 0, .int .i64 0, .int .i64 0, .int .i64 0, .int .i64 0] := by kernel_rfl
theorem sl24 : sliceK Tryz.prog 24 = some 47 := by kernel_rfl
theorem ty47 : tyK Tryz.prog 47 = some (true, 10) := by kernel_rfl
theorem zr47 : zeroK Tryz.prog 47 = some [.int .i64 0, .int .i64 0, .slice none 0 0, .slice none 0 0, .string ⟨#[]⟩, .bool false, .int .i64 0, .int .i64 0, .slice none 0 0, .slice none 0 0] := by kernel_rfl
theorem by47 : bytesK Tryz.prog 47 = some 152 := by kernel_rfl
theorem fd38_1 : fieldK Tryz.prog 38 1 = some 5 := by kernel_rfl
theorem ty24 : tyK Tryz.prog 24 = some (false, 1) := by kernel_rfl
theorem sl41 : sliceK Tryz.prog 41 = some 69 := by kernel_rfl
theorem ty69 : tyK Tryz.prog 69 = some (true, 2) := by kernel_rfl
theorem zr69 : zeroK Tryz.prog 69 = some [.string ⟨#[]⟩, .string ⟨#[]⟩] := by kernel_rfl
theorem by69 : bytesK Tryz.prog 69 = some 32 := by kernel_rfl
theorem st9 : Tryz.prog.underlying 9 = some .string := by kernel_rfl
theorem fd47_8 : fieldK Tryz.prog 47 8 = some 8 := by kernel_rfl
theorem ty45 : tyK Tryz.prog 45 = some (false, 1) := by kernel_rfl
theorem zr45 : zeroK Tryz.prog 45 = some [.slice none 0 0] := by kernel_rfl
theorem sl45 : sliceK Tryz.prog 45 = some 49 := by kernel_rfl
theorem ty49 : tyK Tryz.prog 49 = some (true, 6) := by kernel_rfl
theorem zr49 : zeroK Tryz.prog 49 = some [.int .i64 0, .int .i64 0, .string ⟨#[]⟩, .string ⟨#[]⟩, .bool false, .string ⟨#[]⟩] := by kernel_rfl
theorem by49 : bytesK Tryz.prog 49 = some 72 := by kernel_rfl
theorem bo4 : Tryz.prog.underlying 4 = some .bool := by kernel_rfl
theorem ty9 : tyK Tryz.prog 9 = some (false, 1) := by kernel_rfl
theorem zr9 : zeroK Tryz.prog 9 = some [.string ⟨#[]⟩] := by kernel_rfl
theorem ty3 : tyK Tryz.prog 3 = some (false, 1) := by kernel_rfl
theorem zr3 : zeroK Tryz.prog 3 = some [.int .i64 0] := by kernel_rfl
theorem eq69 : fieldKs Tryz.prog 69 = some [.string, .string] := by kernel_rfl
theorem pl69 : placesK Tryz.prog 69 = some [(0, 1), (1, 1)] := by kernel_rfl
theorem ty52 : tyK Tryz.prog 52 = some (true, 3) := by kernel_rfl
theorem zr52 : zeroK Tryz.prog 52 = some [.string ⟨#[]⟩, .string ⟨#[]⟩, .bool false] := by kernel_rfl
theorem fd47_0 : fieldK Tryz.prog 47 0 = some 0 := by kernel_rfl
theorem fd47_7 : fieldK Tryz.prog 47 7 = some 7 := by kernel_rfl
theorem pl47 : placesK Tryz.prog 47 = some [(0, 1), (1, 1), (2, 1), (3, 1), (4, 1), (5, 1), (6, 1), (7, 1), (8, 1), (9, 1)] := by kernel_rfl
theorem pl23 : placesK Tryz.prog 23 = some [(0, 1), (1, 1), (2, 1), (3, 1), (4, 1)] := by kernel_rfl
theorem fd47_3 : fieldK Tryz.prog 47 3 = some 3 := by kernel_rfl
theorem ty44 : tyK Tryz.prog 44 = some (false, 1) := by kernel_rfl
theorem sl44 : sliceK Tryz.prog 44 = some 3 := by kernel_rfl
theorem by3 : bytesK Tryz.prog 3 = some 8 := by kernel_rfl
theorem zr38 : zeroK Tryz.prog 38 = some [.int .i64 0, .int .i64 0, .int .i64 0, .int .i64 0, .int .i64 0, .slice none 0 0] := by kernel_rfl
theorem pl38 : placesK Tryz.prog 38 = some [(0, 5), (5, 1)] := by kernel_rfl
theorem fd38_0 : fieldK Tryz.prog 38 0 = some 0 := by kernel_rfl
theorem fd23_3 : fieldK Tryz.prog 23 3 = some 3 := by kernel_rfl
theorem pp27 : ptrT Tryz.prog 27 = true := by kernel_rfl
theorem fd103_1 : fieldK Tryz.prog 103 1 = some 5 := by kernel_rfl
theorem ty101 : tyK Tryz.prog 101 = some (false, 1) := by kernel_rfl
theorem sl105 : sliceK Tryz.prog 105 = some 111 := by kernel_rfl
theorem ty111 : tyK Tryz.prog 111 = some (true, 14) := by kernel_rfl
theorem zr111 : zeroK Tryz.prog 111 = some [.int .i64 0, .int .i64 0, .slice none 0 0, .slice none 0 0, .string ⟨#[]⟩, .bool false, .int .i64 0, .int .i64 0, .slice none 0 0, .slice none 0 0, .string ⟨#[]⟩, .string ⟨#[]⟩, .bool false, .slice none 0 0] := by kernel_rfl
theorem by111 : bytesK Tryz.prog 111 = some 216 := by kernel_rfl
theorem fd111_0 : fieldK Tryz.prog 111 0 = some 0 := by kernel_rfl
theorem fd111_2 : fieldK Tryz.prog 111 2 = some 13 := by kernel_rfl
theorem fd49_0 : fieldK Tryz.prog 49 0 = some 0 := by kernel_rfl
theorem fd47_1 : fieldK Tryz.prog 47 1 = some 1 := by kernel_rfl
theorem fd47_9 : fieldK Tryz.prog 47 9 = some 9 := by kernel_rfl
theorem ty41 : tyK Tryz.prog 41 = some (false, 1) := by kernel_rfl
theorem fd111_1 : fieldK Tryz.prog 111 1 = some 10 := by kernel_rfl
theorem pl49 : placesK Tryz.prog 49 = some [(0, 1), (1, 1), (2, 1), (3, 1), (4, 1), (5, 1)] := by kernel_rfl
theorem fd52_0 : fieldK Tryz.prog 52 0 = some 0 := by kernel_rfl
theorem fd52_2 : fieldK Tryz.prog 52 2 = some 2 := by kernel_rfl
theorem ty4 : tyK Tryz.prog 4 = some (false, 1) := by kernel_rfl
theorem zr4 : zeroK Tryz.prog 4 = some [.bool false] := by kernel_rfl
theorem fd52_1 : fieldK Tryz.prog 52 1 = some 1 := by kernel_rfl
theorem fd49_1 : fieldK Tryz.prog 49 1 = some 1 := by kernel_rfl
theorem fd49_2 : fieldK Tryz.prog 49 2 = some 2 := by kernel_rfl
theorem fd49_3 : fieldK Tryz.prog 49 3 = some 3 := by kernel_rfl
theorem fd49_4 : fieldK Tryz.prog 49 4 = some 4 := by kernel_rfl
theorem pl52 : placesK Tryz.prog 52 = some [(0, 1), (1, 1), (2, 1)] := by kernel_rfl
theorem fd69_0 : fieldK Tryz.prog 69 0 = some 0 := by kernel_rfl
theorem fd69_1 : fieldK Tryz.prog 69 1 = some 1 := by kernel_rfl
theorem sl43 : sliceK Tryz.prog 43 = some 9 := by kernel_rfl
theorem by9 : bytesK Tryz.prog 9 = some 16 := by kernel_rfl
theorem fd47_2 : fieldK Tryz.prog 47 2 = some 2 := by kernel_rfl
theorem ty43 : tyK Tryz.prog 43 = some (false, 1) := by kernel_rfl
theorem sl187 : sliceK Tryz.prog 187 = some 45 := by kernel_rfl
theorem fd23_0 : fieldK Tryz.prog 23 0 = some 0 := by kernel_rfl
theorem fd23_1 : fieldK Tryz.prog 23 1 = some 1 := by kernel_rfl
theorem fd23_2 : fieldK Tryz.prog 23 2 = some 2 := by kernel_rfl
theorem fd23_4 : fieldK Tryz.prog 23 4 = some 4 := by kernel_rfl
theorem fd47_4 : fieldK Tryz.prog 47 4 = some 4 := by kernel_rfl
theorem zr103 : zeroK Tryz.prog 103 = some [.int .i64 0, .int .i64 0, .int .i64 0, .int .i64 0, .int .i64 0, .pointer none] := by kernel_rfl
theorem pl103 : placesK Tryz.prog 103 = some [(0, 5), (5, 1)] := by kernel_rfl
theorem fd47_5 : fieldK Tryz.prog 47 5 = some 5 := by kernel_rfl
theorem fd47_6 : fieldK Tryz.prog 47 6 = some 6 := by kernel_rfl
theorem pp101 : ptrT Tryz.prog 101 = true := by kernel_rfl
theorem fd182_1 : fieldK Tryz.prog 182 1 = some 1 := by kernel_rfl
theorem ty179 : tyK Tryz.prog 179 = some (false, 1) := by kernel_rfl
theorem sl179 : sliceK Tryz.prog 179 = some 4 := by kernel_rfl
theorem by4 : bytesK Tryz.prog 4 = some 1 := by kernel_rfl
theorem pl111 : placesK Tryz.prog 111 = some [(0, 10), (10, 3), (13, 1)] := by kernel_rfl
theorem eq52 : fieldKs Tryz.prog 52 = some [.string, .string, .bool] := by kernel_rfl
theorem fd103_0 : fieldK Tryz.prog 103 0 = some 0 := by kernel_rfl
theorem fd49_5 : fieldK Tryz.prog 49 5 = some 5 := by kernel_rfl
theorem fd182_0 : fieldK Tryz.prog 182 0 = some 0 := by kernel_rfl
theorem fd182_2 : fieldK Tryz.prog 182 2 = some 2 := by kernel_rfl
theorem ty180 : tyK Tryz.prog 180 = some (false, 1) := by kernel_rfl
theorem sl180 : sliceK Tryz.prog 180 = some 3 := by kernel_rfl
theorem zr182 : zeroK Tryz.prog 182 = some [.slice none 0 0, .slice none 0 0, .slice none 0 0] := by kernel_rfl
theorem pl182 : placesK Tryz.prog 182 = some [(0, 1), (1, 1), (2, 1)] := by kernel_rfl
theorem pi239 : plainT Tryz.prog 239 = true := by kernel_rfl
theorem pi3 : plainT Tryz.prog 3 = true := by kernel_rfl
theorem eq49 : fieldKs Tryz.prog 49 = some [.int .i64, .int .i64, .string, .string, .bool, .string] := by kernel_rfl
theorem ty211 : tyK Tryz.prog 211 = some (true, 2) := by kernel_rfl
theorem zr211 : zeroK Tryz.prog 211 = some [.int .i64 0, .string ⟨#[]⟩] := by kernel_rfl
theorem fd211_0 : fieldK Tryz.prog 211 0 = some 0 := by kernel_rfl
theorem fd211_1 : fieldK Tryz.prog 211 1 = some 1 := by kernel_rfl
theorem pl211 : placesK Tryz.prog 211 = some [(0, 1), (1, 1)] := by kernel_rfl
theorem cl8 : Callable Tryz.prog 8 := callable_of Tryz.func8 rfl (by decide)
theorem cl11 : Callable Tryz.prog 11 := callable_of Tryz.func11 rfl (by decide)
theorem cl12 : Callable Tryz.prog 12 := callable_of Tryz.func12 rfl (by decide)
theorem cl13 : Callable Tryz.prog 13 := callable_of Tryz.func13 rfl (by decide)
theorem cl14 : Callable Tryz.prog 14 := callable_of Tryz.func14 rfl (by decide)
theorem cl15 : Callable Tryz.prog 15 := callable_of Tryz.func15 rfl (by decide)
theorem cl17 : Callable Tryz.prog 17 := callable_of Tryz.func17 rfl (by decide)
theorem cl18 : Callable Tryz.prog 18 := callable_of Tryz.func18 rfl (by decide)
theorem cl19 : Callable Tryz.prog 19 := callable_of Tryz.func19 rfl (by decide)
theorem cl20 : Callable Tryz.prog 20 := callable_of Tryz.func20 rfl (by decide)
theorem cl21 : Callable Tryz.prog 21 := callable_of Tryz.func21 rfl (by decide)
theorem cl23 : Callable Tryz.prog 23 := callable_of Tryz.func23 rfl (by decide)
theorem cl24 : Callable Tryz.prog 24 := callable_of Tryz.func24 rfl (by decide)
theorem cl26 : Callable Tryz.prog 26 := callable_of Tryz.func26 rfl (by decide)
theorem cl40 : Callable Tryz.prog 40 := callable_of Tryz.func40 rfl (by decide)
theorem cl41 : Callable Tryz.prog 41 := callable_of Tryz.func41 rfl (by decide)
theorem cl50 : Callable Tryz.prog 50 := callable_of Tryz.func50 rfl (by decide)
theorem cl52 : Callable Tryz.prog 52 := callable_of Tryz.func52 rfl (by decide)
theorem cl53 : Callable Tryz.prog 53 := callable_of Tryz.func53 rfl (by decide)
theorem cl54 : Callable Tryz.prog 54 := callable_of Tryz.func54 rfl (by decide)
theorem cl55 : Callable Tryz.prog 55 := callable_of Tryz.func55 rfl (by decide)
theorem cl56 : Callable Tryz.prog 56 := callable_of Tryz.func56 rfl (by decide)
theorem cl57 : Callable Tryz.prog 57 := callable_of Tryz.func57 rfl (by decide)
theorem cl58 : Callable Tryz.prog 58 := callable_of Tryz.func58 rfl (by decide)
theorem cl59 : Callable Tryz.prog 59 := callable_of Tryz.func59 rfl (by decide)
theorem cl60 : Callable Tryz.prog 60 := callable_of Tryz.func60 rfl (by decide)
theorem cl62 : Callable Tryz.prog 62 := callable_of Tryz.func62 rfl (by decide)
theorem cl63 : Callable Tryz.prog 63 := callable_of Tryz.func63 rfl (by decide)
theorem cl64 : Callable Tryz.prog 64 := callable_of Tryz.func64 rfl (by decide)
theorem cl65 : Callable Tryz.prog 65 := callable_of Tryz.func65 rfl (by decide)
theorem cl66 : Callable Tryz.prog 66 := callable_of Tryz.func66 rfl (by decide)
theorem cl67 : Callable Tryz.prog 67 := callable_of Tryz.func67 rfl (by decide)
theorem cl68 : Callable Tryz.prog 68 := callable_of Tryz.func68 rfl (by decide)
theorem cl69 : Callable Tryz.prog 69 := callable_of Tryz.func69 rfl (by decide)
theorem cl71 : Callable Tryz.prog 71 := callable_of Tryz.func71 rfl (by decide)
theorem cl74 : Callable Tryz.prog 74 := callable_of Tryz.func74 rfl (by decide)
theorem cl75 : Callable Tryz.prog 75 := callable_of Tryz.func75 rfl (by decide)
theorem cl77 : Callable Tryz.prog 77 := callable_of Tryz.func77 rfl (by decide)
theorem cl91 : Callable Tryz.prog 91 := callable_of Tryz.func91 rfl (by decide)
theorem cl92 : Callable Tryz.prog 92 := callable_of Tryz.func92 rfl (by decide)
theorem cl93 : Callable Tryz.prog 93 := callable_of Tryz.func93 rfl (by decide)
theorem cl94 : Callable Tryz.prog 94 := callable_of Tryz.func94 rfl (by decide)
theorem cl95 : Callable Tryz.prog 95 := callable_of Tryz.func95 rfl (by decide)
theorem cl96 : Callable Tryz.prog 96 := callable_of Tryz.func96 rfl (by decide)
theorem cl97 : Callable Tryz.prog 97 := callable_of Tryz.func97 rfl (by decide)
theorem cl98 : Callable Tryz.prog 98 := callable_of Tryz.func98 rfl (by decide)
theorem cl105 : Callable Tryz.prog 105 := callable_of Tryz.func105 rfl (by decide)
theorem cl106 : Callable Tryz.prog 106 := callable_of Tryz.func106 rfl (by decide)
theorem cl108 : Callable Tryz.prog 108 := callable_of Tryz.func108 rfl (by decide)
theorem cl110 : Callable Tryz.prog 110 := callable_of Tryz.func110 rfl (by decide)
theorem cl111 : Callable Tryz.prog 111 := callable_of Tryz.func111 rfl (by decide)
theorem cl112 : Callable Tryz.prog 112 := callable_of Tryz.func112 rfl (by decide)
theorem cl113 : Callable Tryz.prog 113 := callable_of Tryz.func113 rfl (by decide)
theorem cl114 : Callable Tryz.prog 114 := callable_of Tryz.func114 rfl (by decide)
theorem cl115 : Callable Tryz.prog 115 := callable_of Tryz.func115 rfl (by decide)
theorem cl116 : Callable Tryz.prog 116 := callable_of Tryz.func116 rfl (by decide)
theorem cl117 : Callable Tryz.prog 117 := callable_of Tryz.func117 rfl (by decide)
theorem cl118 : Callable Tryz.prog 118 := callable_of Tryz.func118 rfl (by decide)
theorem cl119 : Callable Tryz.prog 119 := callable_of Tryz.func119 rfl (by decide)
theorem cl120 : Callable Tryz.prog 120 := callable_of Tryz.func120 rfl (by decide)
theorem cl121 : Callable Tryz.prog 121 := callable_of Tryz.func121 rfl (by decide)
theorem cl122 : Callable Tryz.prog 122 := callable_of Tryz.func122 rfl (by decide)
theorem cl123 : Callable Tryz.prog 123 := callable_of Tryz.func123 rfl (by decide)
theorem cl124 : Callable Tryz.prog 124 := callable_of Tryz.func124 rfl (by decide)
theorem cl125 : Callable Tryz.prog 125 := callable_of Tryz.func125 rfl (by decide)
theorem cl126 : Callable Tryz.prog 126 := callable_of Tryz.func126 rfl (by decide)
theorem cl127 : Callable Tryz.prog 127 := callable_of Tryz.func127 rfl (by decide)
theorem cl128 : Callable Tryz.prog 128 := callable_of Tryz.func128 rfl (by decide)
theorem cl129 : Callable Tryz.prog 129 := callable_of Tryz.func129 rfl (by decide)
theorem cl130 : Callable Tryz.prog 130 := callable_of Tryz.func130 rfl (by decide)
theorem cl131 : Callable Tryz.prog 131 := callable_of Tryz.func131 rfl (by decide)
theorem cl132 : Callable Tryz.prog 132 := callable_of Tryz.func132 rfl (by decide)
theorem cl133 : Callable Tryz.prog 133 := callable_of Tryz.func133 rfl (by decide)
theorem cl134 : Callable Tryz.prog 134 := callable_of Tryz.func134 rfl (by decide)
theorem cl137 : Callable Tryz.prog 137 := callable_of Tryz.func137 rfl (by decide)
theorem cl138 : Callable Tryz.prog 138 := callable_of Tryz.func138 rfl (by decide)
theorem cl139 : Callable Tryz.prog 139 := callable_of Tryz.func139 rfl (by decide)
theorem cl143 : Callable Tryz.prog 143 := callable_of Tryz.func143 rfl (by decide)
theorem cl147 : Callable Tryz.prog 147 := callable_of Tryz.func147 rfl (by decide)
theorem cl154 : Callable Tryz.prog 154 := callable_of Tryz.func154 rfl (by decide)
theorem cl155 : Callable Tryz.prog 155 := callable_of Tryz.func155 rfl (by decide)
theorem cl156 : Callable Tryz.prog 156 := callable_of Tryz.func156 rfl (by decide)
theorem cl157 : Callable Tryz.prog 157 := callable_of Tryz.func157 rfl (by decide)
theorem cl158 : Callable Tryz.prog 158 := callable_of Tryz.func158 rfl (by decide)
theorem cl167 : Callable Tryz.prog 167 := callable_of Tryz.func167 rfl (by decide)
theorem cl170 : Callable Tryz.prog 170 := callable_of Tryz.func170 rfl (by decide)
theorem cl171 : Callable Tryz.prog 171 := callable_of Tryz.func171 rfl (by decide)
theorem cl172 : Callable Tryz.prog 172 := callable_of Tryz.func172 rfl (by decide)
theorem cl173 : Callable Tryz.prog 173 := callable_of Tryz.func173 rfl (by decide)
theorem cl174 : Callable Tryz.prog 174 := callable_of Tryz.func174 rfl (by decide)
theorem cl175 : Callable Tryz.prog 175 := callable_of Tryz.func175 rfl (by decide)
theorem cl176 : Callable Tryz.prog 176 := callable_of Tryz.func176 rfl (by decide)
theorem cl177 : Callable Tryz.prog 177 := callable_of Tryz.func177 rfl (by decide)
theorem cl178 : Callable Tryz.prog 178 := callable_of Tryz.func178 rfl (by decide)
theorem cl179 : Callable Tryz.prog 179 := callable_of Tryz.func179 rfl (by decide)
theorem cl180 : Callable Tryz.prog 180 := callable_of Tryz.func180 rfl (by decide)
theorem cl181 : Callable Tryz.prog 181 := callable_of Tryz.func181 rfl (by decide)
theorem cl182 : Callable Tryz.prog 182 := callable_of Tryz.func182 rfl (by decide)
theorem cl183 : Callable Tryz.prog 183 := callable_of Tryz.func183 rfl (by decide)
theorem cl184 : Callable Tryz.prog 184 := callable_of Tryz.func184 rfl (by decide)
theorem cl185 : Callable Tryz.prog 185 := callable_of Tryz.func185 rfl (by decide)
theorem cl186 : Callable Tryz.prog 186 := callable_of Tryz.func186 rfl (by decide)
theorem cl191 : Callable Tryz.prog 191 := callable_of Tryz.func191 rfl (by decide)
theorem cl199 : Callable Tryz.prog 199 := callable_of Tryz.func199 rfl (by decide)
theorem cl200 : Callable Tryz.prog 200 := callable_of Tryz.func200 rfl (by decide)
theorem cl201 : Callable Tryz.prog 201 := callable_of Tryz.func201 rfl (by decide)
theorem cl202 : Callable Tryz.prog 202 := callable_of Tryz.func202 rfl (by decide)
theorem cl208 : Callable Tryz.prog 208 := callable_of Tryz.func208 rfl (by decide)
theorem cl209 : Callable Tryz.prog 209 := callable_of Tryz.func209 rfl (by decide)
theorem cl210 : Callable Tryz.prog 210 := callable_of Tryz.func210 rfl (by decide)
theorem cl211 : Callable Tryz.prog 211 := callable_of Tryz.func211 rfl (by decide)
theorem cl212 : Callable Tryz.prog 212 := callable_of Tryz.func212 rfl (by decide)
theorem cl219 : Callable Tryz.prog 219 := callable_of Tryz.func219 rfl (by decide)
theorem cl224 : Callable Tryz.prog 224 := callable_of Tryz.func224 rfl (by decide)
theorem cl229 : Callable Tryz.prog 229 := callable_of Tryz.func229 rfl (by decide)
theorem cl232 : Callable Tryz.prog 232 := callable_of Tryz.func232 rfl (by decide)
theorem cl256 : Callable Tryz.prog 256 := callable_of Tryz.func256 rfl (by decide)
theorem cl257 : Callable Tryz.prog 257 := callable_of Tryz.func257 rfl (by decide)
theorem cl258 : Callable Tryz.prog 258 := callable_of Tryz.func258 rfl (by decide)
theorem cl263 : Callable Tryz.prog 263 := callable_of Tryz.func263 rfl (by decide)
theorem cl264 : Callable Tryz.prog 264 := callable_of Tryz.func264 rfl (by decide)
theorem mix : Tryz.prog.follows .mixedOrders = true := by kernel_rfl
end Go.Proofs.YtebkfinhhpelbaaGreat
theorem List.Sublist.k9 {α : Type} {a : α} {l l' : List α} (h : l.Sublist l') : (a :: l).Sublist (a :: l') := h.cons_cons a
namespace Go.Fw
open Go Go.RowKit
theorem sn9 {α : Type} {l : List α} : List.Sublist [] l := List.nil_sublist l
theorem sr9 {α : Type} {l : List α} : List.Sublist l l := List.Sublist.refl l
theorem pr9 {α : Type} {l : List α} : List.Perm l l := List.Perm.refl l
theorem WD.tk {E : Env} {f : Fr} {G : GH} {M Mk : MH} {ops : Array Oper} {K : Kt} {fuel : Nat} {listed : Array Bool} (i : Nat) {op : Op} {ty : TypeId} {pos : String} {aft : Array Edge} {d : Nat} {v : Value} (ho : ops[i]? = some ⟨some d, op, ty, pos, aft, none⟩) (hok : Ok E f G Mk ⟨some d, op, ty, pos, aft, none⟩ v)
    (h : WD E ops fuel (listed.setIfInBounds i true) (upd f d v) G M Mk K) (hs : Region.noSelect ops = true := by kernel_rfl) (hf : Region.free .any ops listed i = true := by kernel_rfl) (hr : (Region.ready .any ops listed).contains i = true := by kernel_rfl) (hd : Nat.blt d E.n = true := by rfl) : WD E ops (fuel + 1) listed f G M Mk K :=
  WD.take i ho rfl rfl hs hf hr hok h hd
theorem WD.n9 {E : Env} {f : Fr} {G G' : GH} {M' Mk : MH} {ops : Array Oper} {K : Kt} {fuel : Nat} {listed : Array Bool} (a : Le G G') (b : Mk.Sublist M') (h : WD E ops fuel listed f G' M' Mk K) : Le G G' ∧ Mk.Sublist M' ∧ ∃ Mk' : MH, Mk'.Sublist M' ∧ Mk.Sublist Mk' ∧ WD E ops fuel listed f G' M' Mk' K := ⟨a, b, Mk, b, List.Sublist.refl _, h⟩
theorem WD.a1 {E : Env} {f : Fr} {G : GH} {M Mk : MH} {ops : Array Oper} {K : Kt} {fuel : Nat} {listed : Array Bool} (i : Nat) {dst : Option Nat} {op : Op} {ty : TypeId} {pos : String} {aft : Array Edge} (ho : ops[i]? = some ⟨dst, op, ty, pos, aft, none⟩)
    (h : W E [(⟨dst, op, ty, pos, aft, none⟩ : Oper)].toArray false [(⟨dst, op, ty, pos, aft, none⟩ : Oper)] f G M (fun f' G' M' => Le G G' ∧ Mk.Sublist M' ∧ ∃ Mk', Mk'.Sublist M' ∧ Mk.Sublist Mk' ∧ WD E ops fuel (listed.setIfInBounds i true) f' G' M' Mk' K))
    (hr : Region.ready .any ops listed = [i] := by kernel_rfl) : WD E ops (fuel + 1) listed f G M Mk K := WD.any [i] hr rfl ⟨⟨_, ho, rfl, h⟩, trivial⟩
abbrev nd9 (a b : Int) (c : Option Addr) (d e : Nat) (f : Option Addr) (g h : Nat) (i : ByteArray) (j : Bool) (k l : Int) (m : Option Addr) (n o : Nat) (p : Option Addr) (q r : Nat) : List Value := [.int .i64 a, .int .i64 b, .slice c d e, .slice f g h, .string i, .bool j, .int .i64 k, .int .i64 l, .slice m n o, .slice p q r]
end Go.Fw
