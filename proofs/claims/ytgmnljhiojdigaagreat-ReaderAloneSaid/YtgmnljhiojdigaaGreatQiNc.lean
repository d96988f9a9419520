/- What container/heap asks of a heap, and what it does with it. Nothing of the program is named here. No condition. -/
import Derived.Test.YtgmnljhiojdigaaGreatProg
import Derived.MapKept
import Derived.Test.YtgmnljhiojdigaaGreatQiGa
set_option linter.unusedVariables false
set_option linter.unusedSimpArgs false
set_option linter.unnecessarySimpa false
set_option maxRecDepth 100000
set_option maxHeartbeats 1600000

namespace Go.Fw
open Go Go.RowKit
structure HeapK (P : Program) {α : Type} [Inhabited α] (lt : α → α → Bool) (x : Value) (Rep : GH → List α → MH → Prop) (EV : GH → Value → α → Prop) (pu : Prop := True) : Prop where
 mono : ∀ {G G' l M}, Le G G' → Rep G l M → Rep G' l M
 bound : ∀ {G l M}, Rep G l M → l.length ≤ 140737488355328
 len : ∀ {G l M}, Rep G l M → Inv P x "Len" [] G M (fun v G' M' => v = .int .i64 (l.length : Int) ∧ M' = M)
 less : ∀ {G l M} {i j : Nat}, Rep G l M → i < l.length → j < l.length → Inv P x "Less" [.int .i64 (i : Int), .int .i64 (j : Int)] G M (fun v G' M' => v = .bool (lt (nth l i) (nth l j)) ∧ M' = M)
 swap : ∀ {G l M} {i j : Nat}, Rep G l M → i < l.length → j < l.length → Inv P x "Swap" [.int .i64 (i : Int), .int .i64 (j : Int)] G M (fun v G' M' => v = .tuple #[] ∧ Rep G' (swapL l i j) M')
 push : pu → ∀ {G l M u a}, Rep G l M → l.length < 1000000 → EV G u a → Inv P x "Push" [u] G M (fun v G' M' => v = .tuple #[] ∧ Rep G' (l ++ [a]) M')
 pop : ∀ {G l M}, Rep G l M → 0 < l.length → Inv P x "Pop" [] G M (fun v G' M' => EV G' v (nth l (l.length - 1)) ∧ Rep G' (l.take (l.length - 1)) M')
section
variable {α : Type} [Inhabited α] {lt : α → α → Bool}
theorem downL_stop {f : Nat} {l : List α} {i n : Nat} (h : n ≤ 2 * i + 1) : downL lt f l i n = l := by
 cases f with
 | zero => rfl
 | succ f => rw [downL, if_pos h]
theorem downL_end {f : Nat} {l : List α} {i n : Nat} (h1 : ¬ n ≤ 2 * i + 1) (h2 : lt (nth l (kidJ lt l i n)) (nth l i) = false) : downL lt f l i n = l := by
 cases f with
 | zero => rfl
 | succ f => rw [downL, if_neg h1, if_pos h2]
theorem downL_go {f : Nat} {l : List α} {i n : Nat} (hf : n ≤ i + f) (h1 : ¬ n ≤ 2 * i + 1) (h2 : lt (nth l (kidJ lt l i n)) (nth l i) = true) : downL lt f l i n = downL lt (f - 1) (swapL l i (kidJ lt l i n)) (kidJ lt l i n) n := by
 cases f with
 | zero => omega
 | succ f => rw [downL, if_neg h1, if_neg (by simp [h2])]; rfl
theorem kidJ_t {l : List α} {i n : Nat} (h : 2 * i + 2 < n) (h2 : lt (nth l (2 * i + 2)) (nth l (2 * i + 1)) = true) : kidJ lt l i n = 2 * i + 2 := if_pos ⟨h, h2⟩
theorem kidJ_f {l : List α} {i n : Nat} (h : ¬ 2 * i + 2 < n ∨ lt (nth l (2 * i + 2)) (nth l (2 * i + 1)) = false) : kidJ lt l i n = 2 * i + 1 := if_neg (fun ⟨h1, h2⟩ => h.elim (fun h => h h1) (fun h => by rw [h2] at h; cases h))
theorem upL_end {f : Nat} {l : List α} {j : Nat} (h : (j - 1) / 2 = j ∨ lt (nth l j) (nth l ((j - 1) / 2)) = false) : upL lt f l j = l := by
 cases f with
 | zero => rfl
 | succ f => rw [upL, if_pos h]
theorem upL_go {f : Nat} {l : List α} {j : Nat} (hf : j ≤ f) (h1 : ¬ (j - 1) / 2 = j) (h2 : lt (nth l j) (nth l ((j - 1) / 2)) = true) : upL lt f l j = upL lt (f - 1) (swapL l ((j - 1) / 2) j) ((j - 1) / 2) := by
 cases f with
 | zero => omega
 | succ f => rw [upL, if_neg (fun h => h.elim h1 (fun h => by rw [h2] at h; cases h))]; rfl
theorem downL_id {l : List α} (h : Heap lt l) (f i : Nat) : downL lt f l i l.length = l := by
 by_cases h1 : l.length ≤ 2 * i + 1
 ·exact downL_stop h1
 ·have hk := kidJ_lt (lt := lt) (l := l) h1
  have := h (kidJ lt l i l.length) om9 hk.1 om9
  rw [hk.2.2.1] at this
  exact downL_end h1 this
theorem popL_eq {l : List α} (h : 0 < l.length) : (downL lt l.length (swapL l 0 (l.length - 1)) 0 (l.length - 1)).take ((downL lt l.length (swapL l 0 (l.length - 1)) 0 (l.length - 1)).length - 1) = popL lt l ∧
  nth (downL lt l.length (swapL l 0 (l.length - 1)) 0 (l.length - 1)) ((downL lt l.length (swapL l 0 (l.length - 1)) 0 (l.length - 1)).length - 1) = nth l 0 := by
 rw [downL_length, swapL_length]
 refine ⟨rfl, ?_⟩
 rw [downL_above _ _ _ _ _ (by rw [swapL_length]; omega) (Nat.le_refl _), nth_swap om9 om9, if_pos rfl]
theorem tdiv_half (j : Nat) : (((j : Int) - 1).tdiv 2) = (((j - 1) / 2 : Nat) : Int) := by
 cases j with
 | zero => rfl
 | succ j =>
  have : (((j + 1 : Nat) : Int) - 1) = (j : Int) := om9
  rw [this, Int.tdiv_eq_ediv_of_nonneg om9]
  simp
end
abbrev Hd := List Msg × Int
def Hd.st (a : Hd) : Int := match a.1 with | [] => 0 | m :: _ => m.stamp
def Hd.lt (a b : Hd) : Bool := decide (a.st < b.st) || (decide (a.st = b.st) && decide (a.2 < b.2))
theorem Hd.st_at {a : Hd} (h : 0 < a.1.length) : a.st = a.1[0].stamp := by
 obtain ⟨l, n⟩ := a
 cases l with
 | nil => simp at h
 | cons m l => rfl
theorem Hd.lo : LO Hd.lt where
 asymm := fun {a b} h => by
  simp only [Hd.lt, Bool.or_eq_true, Bool.and_eq_true, decide_eq_true_eq] at h
  simp only [Hd.lt, Bool.or_eq_false_iff, Bool.and_eq_false_iff, decide_eq_false_iff_not]
  omega
 trans := fun {a b c} h1 h2 => by
  simp only [Hd.lt, Bool.or_eq_false_iff, Bool.and_eq_false_iff, decide_eq_false_iff_not] at h1 h2 ⊢
  omega
def HdC (G : GH) (cs : List Value) (a : Hd) : Prop := ∃ p c, cs = [.slice p a.1.length c, .int .i64 a.2] ∧ SlR eMsg G (.slice p a.1.length c) a.1 ∧ i64 a.2
theorem HdC.mono {G G' : GH} {cs a} (hl : Le G G') (h : HdC G cs a) : HdC G' cs a := by
 obtain ⟨p, c, h1, h2, h3⟩ := h; exact ⟨p, c, h1, h2.mono hl, h3⟩
def eHead : Enc Hd where
 k := 2
 w := 32
 R := HdC
 mono := fun hl h => h.mono hl
 len := fun h => by obtain ⟨p, c, h0, _⟩ := h; rw [h0]; rfl
 one := fun h u hu => by
  obtain ⟨p, c, h0, _⟩ := h
  rw [h0] at hu
  simp at hu
  rcases hu with rfl | rfl <;> rfl
theorem lo_int : LO (fun a b : Int => decide (a < b)) where
 asymm := fun {a b} h => by simp at h ⊢; omega
 trans := fun {a b c} h1 h2 => by simp at h1 h2 ⊢; omega
def eBool : Enc Bool where
 k := 1
 w := 1
 R := fun _ cs b => cs = [.bool b]
 mono := fun _ h => h
 len := fun h => by rw [h]; rfl
 one := fun h u hu => by rw [h] at hu; simp at hu; subst hu; rfl
instance : EqE eBool (fun b => [.bool b]) := ⟨fun _ _ _ h => h⟩
instance : EqE eSpan (fun s => [.string s.lo.b, .string s.hi.b, .bool s.opn]) := ⟨fun _ _ _ h => h⟩
instance : EqP eEff (fun e => [.int .i64 e.kind, .string e.val.b]) (fun e => i64 e.kind) := ⟨fun _ _ _ h => h⟩
abbrev ltI : Int → Int → Bool := fun a b => decide (a < b)
def hasN (u : List Bool) (i : Int) : Bool := decide (0 ≤ i) && (decide (i < u.length) && u.getD i.toNat false)
theorem hasN_iff {u : List Bool} {i : Int} : hasN u i = true ↔ ∃ k : Nat, ∃ h : k < u.length, i = k ∧ u[k] = true := by
 unfold hasN
 simp only [Bool.and_eq_true, decide_eq_true_eq]
 constructor
 ·rintro ⟨h1, h2, h3⟩
  have h4 : i.toNat < u.length := om9
  rw [List.getD_eq_getElem?_getD, List.getElem?_eq_getElem h4] at h3
  exact ⟨i.toNat, h4, om9, h3⟩
 ·rintro ⟨k, h, rfl, h2⟩
  refine ⟨om9, om9, ?_⟩
  rw [List.getD_eq_getElem?_getD, Int.toNat_natCast, List.getElem?_eq_getElem h]
  exact h2
def freeN (u : List Bool) : List Int := ((List.range u.length).filter fun i => !u.getD i true).map fun i : Nat => (i : Int)
def usedN (u : List Bool) : List Int := ((List.range u.length).filter fun i => u.getD i true).map fun i : Nat => (i : Int)
theorem getD_at9 {u : List Bool} {i : Nat} (h : i < u.length) (d : Bool) : u.getD i d = u[i] := by rw [List.getD_eq_getElem?_getD, List.getElem?_eq_getElem h]; rfl
theorem mem_free {u : List Bool} {a : Int} : a ∈ freeN u ↔ ∃ i : Nat, ∃ h : i < u.length, a = i ∧ u[i] = false := by
 unfold freeN
 rw [List.mem_map]
 constructor
 ·rintro ⟨i, hi, rfl⟩
  rw [List.mem_filter, List.mem_range] at hi
  obtain ⟨h1, h2⟩ := hi
  rw [getD_at9 h1] at h2
  exact ⟨i, h1, rfl, by simpa using h2⟩
 ·rintro ⟨i, h, rfl, h2⟩
  exact ⟨i, List.mem_filter.2 ⟨List.mem_range.2 h, by rw [getD_at9 h, h2]; rfl⟩, rfl⟩
theorem free_nodup (u : List Bool) : (freeN u).Nodup := by
 unfold freeN
 have h : List.Pairwise (fun a b : Nat => a ≠ b) ((List.range u.length).filter fun i => !u.getD i true) := List.Pairwise.sublist List.filter_sublist List.nodup_range
 exact List.Pairwise.map _ (fun a b h e => h (by have e : (a : Int) = (b : Int) := e; omega)) h
theorem filter_two {α : Type} (p : α → Bool) : ∀ (l : List α), (l.filter fun i => !p i).length + (l.filter p).length = l.length
 | [] => rfl
 | x :: l => by
  have := filter_two p l
  cases h : p x <;> simp [h] <;> omega
theorem free_used (u : List Bool) : (freeN u).length + (usedN u).length = u.length := by
 unfold freeN usedN
 rw [List.length_map, List.length_map]
 have := filter_two (fun i => u.getD i true) (List.range u.length)
 rw [List.length_range] at this
 exact this
def firstN : List Bool → Nat
 | [] => 0
 | true :: l => firstN l + 1
 | false :: _ => 0
theorem firstN_at : ∀ {u : List Bool} {i : Nat} (h : i < u.length), u[i] = false → (∀ j (hj : j < u.length), j < i → u[j] = true) → firstN u = i
 | [], i, h, _, _ => by simp at h
 | true :: l, 0, h, h1, _ => by simp at h1
 | true :: l, i + 1, h, h1, h2 => by
  rw [firstN, firstN_at (u := l) (i := i) (by simp at h; omega) (by simpa using h1) fun j hj hji => by have := h2 (j + 1) (by simp; omega) om9; simpa using this]
 | false :: l, 0, _, _, _ => rfl
 | false :: l, i + 1, h, h1, h2 => by have := h2 0 (by simp) om9; simp at this
theorem firstN_all : ∀ {u : List Bool}, (∀ j (hj : j < u.length), u[j] = true) → firstN u = u.length
 | [], _ => rfl
 | true :: l, h => by rw [firstN, firstN_all (u := l) fun j hj => by have := h (j + 1) (by simp; omega); simpa using this]; rfl
 | false :: l, h => by have := h 0 (by simp); simp at this
theorem free_zero {u : List Bool} (h : (freeN u).length = 0) : firstN u = u.length := firstN_all fun j hj => by
 cases hu : u[j] with
 | true => rfl
 | false =>
  have := mem_free.2 ⟨j, hj, rfl, hu⟩
  rw [List.eq_nil_of_length_eq_zero h] at this; cases this
theorem perm_of_mem {a b : List Int} (ha : a.Nodup) (hb : b.Nodup) (h : ∀ x, x ∈ a ↔ x ∈ b) : a.Perm b := (List.perm_ext_iff_of_nodup ha hb).2 h
theorem take_first {f : List Int} {u : List Bool} (hH : Heap ltI f) (hp : f.Perm (freeN u)) (hl : 0 < f.length) : ∃ h : firstN u < u.length, nth f 0 = (firstN u : Int) ∧ Heap ltI (popL ltI f) ∧ (popL ltI f).Perm (freeN (u.set (firstN u) true)) := by
 obtain ⟨h1, h2, h3⟩ := pop_heap lo_int hH hl
 have hm : nth f 0 ∈ freeN u := hp.mem_iff.1 (by rw [nth_lt hl]; exact List.getElem_mem _)
 obtain ⟨i, hi, e, hu⟩ := mem_free.1 hm
 have hfi : firstN u = i := firstN_at hi hu fun j hj hji => by
  cases huj : u[j] with
  | true => rfl
  | false =>
   have hmj : ((j : Nat) : Int) ∈ f := hp.mem_iff.2 (mem_free.2 ⟨j, hj, rfl, huj⟩)
   obtain ⟨c, hc, e2⟩ := List.getElem_of_mem hmj
   have := heap_min lo_int hH c hc
   rw [nth_lt hc, e, e2] at this
   simp at this; omega
 subst hfi
 refine ⟨hi, e, h1, ?_⟩
 have hnd : (nth f 0 :: popL ltI f).Nodup := h2.nodup_iff.2 (hp.nodup_iff.2 (free_nodup u))
 obtain ⟨hn1, hn2⟩ := List.nodup_cons.1 hnd
 refine perm_of_mem hn2 (free_nodup _) fun x => ?_
 have hmx : x ∈ nth f 0 :: popL ltI f ↔ x ∈ freeN u := (h2.trans hp).mem_iff
 constructor
 ·intro hx
  obtain ⟨k, hk, rfl, hku⟩ := mem_free.1 (hmx.1 (List.mem_cons_of_mem _ hx))
  have hne : firstN u ≠ k := fun h => hn1 (by rw [e, h]; exact hx)
  exact mem_free.2 ⟨k, by rw [List.length_set]; exact hk, rfl, by rw [List.getElem_set_ne hne]; exact hku⟩
 ·intro hx
  obtain ⟨k, hk, rfl, hku⟩ := mem_free.1 hx
  rw [List.length_set] at hk
  have hne : firstN u ≠ k := fun h => by subst h; simp at hku
  rw [List.getElem_set_ne hne] at hku
  rcases List.mem_cons.1 (hmx.2 (mem_free.2 ⟨k, hk, rfl, hku⟩)) with h | h
  ·rw [e] at h; omega
  ·exact h
def iotaN (n : Nat) : List Int := (List.range n).map fun i : Nat => (i : Int)
theorem iota_succ (n : Nat) : iotaN (n + 1) = iotaN n ++ [(n : Int)] := by simp [iotaN, List.range_succ]
theorem iota_len (n : Nat) : (iotaN n).length = n := by simp [iotaN]
theorem iota_heap (n : Nat) : Heap ltI (iotaN n) := fun c h0 hc _ => by
 rw [iota_len] at hc
 have h1 : nth (iotaN n) c = (c : Int) := by rw [nth_lt (by rw [iota_len]; exact hc)]; simp [iotaN]
 have h2 : nth (iotaN n) ((c - 1) / 2) = (((c - 1) / 2 : Nat) : Int) := by rw [nth_lt (by rw [iota_len]; omega)]; simp [iotaN]
 rw [h1, h2]
 simp only [decide_eq_false_iff_not]
 omega
theorem iota_free (n : Nat) : iotaN n = freeN (List.replicate n false) := by
 unfold iotaN freeN
 rw [List.length_replicate]
 congr 1
 symm
 rw [List.filter_eq_self]
 intro i hi
 rw [List.mem_range] at hi
 rw [getD_at9 (by simpa using hi)]
 simp
def nextA {α : Type} (st : List α × List Bool) (x : α) : (Int × Int) × (List α × List Bool) :=
 if firstN st.2 < st.2.length then ((firstN st.2, 0), (st.1.set (firstN st.2) x, st.2.set (firstN st.2) true)) else ((0, 4), st)
def layA {α : Type} (st : List α × List Bool) (i : Int) (x : α) : Int × (List α × List Bool) := if hasN st.2 i = true then (0, (st.1.set i.toNat x, st.2)) else (8, st)
def getA {α : Type} (st : List α × List Bool) (i : Int) (z : α) : α := if hasN st.2 i = true then st.1.getD i.toNat z else z
def ArP {α : Type} (e : Enc α) (Te TB TI Tb : TypeId) (b : Nat) (G : GH) (st : List α × List Bool × List Int) (M : MH) : Prop :=
 ∃ vc vu vf Mc Mu Mf, M = (b, .cells (List.toArray [vc, vu, vf]) Tb (0, 0)) :: (Mc ++ (Mu ++ Mf)) ∧ OwnR e Te G vc st.1 Mc ∧ OwnR eBool TB G vu st.2.1 Mu ∧ OwnR eInt TI G vf st.2.2 Mf
theorem ArP.mono {α : Type} {e : Enc α} {Te TB TI Tb : TypeId} {b : Nat} {G G' : GH} {st : List α × List Bool × List Int} {M : MH} (hl : Le G G') (h : ArP e Te TB TI Tb b G st M) : ArP e Te TB TI Tb b G' st M := by
 obtain ⟨vc, vu, vf, Mc, Mu, Mf, h1, h2, h3, h4⟩ := h
 exact ⟨vc, vu, vf, Mc, Mu, Mf, h1, h2.mono hl, h3.mono hl, h4.mono hl⟩
def ArR {α : Type} (e : Enc α) (Te TB TI Tb : TypeId) (b : Nat) (G : GH) (st : List α × List Bool) (M : MH) : Prop :=
 ∃ f, ArP e Te TB TI Tb b G (st.1, st.2, f) M ∧ st.1.length = st.2.length ∧ st.2.length ≤ 4096 ∧ Heap ltI f ∧ f.Perm (freeN st.2)
theorem ArR.mono {α : Type} {e : Enc α} {Te TB TI Tb : TypeId} {b : Nat} {G G' : GH} {st : List α × List Bool} {M : MH} (hl : Le G G') (h : ArR e Te TB TI Tb b G st M) : ArR e Te TB TI Tb b G' st M := by
 obtain ⟨f, h1, h2⟩ := h
 exact ⟨f, h1.mono hl, h2⟩
theorem ArR.cast {α : Type} {e : Enc α} {Te TB TI Tb : TypeId} {b : Nat} {G : GH} {st st' : List α × List Bool} {M M' : MH} (h : ArR e Te TB TI Tb b G st M) (e1 : st = st') (e2 : M = M') : ArR e Te TB TI Tb b G st' M' := by subst e1 e2; exact h
theorem hasN_get {u : List Bool} {i : Int} (h0 : 0 ≤ i) (h1 : i < u.length) : u[i.toNat]'om9 = hasN u i := by
 unfold hasN
 rw [decide_eq_true h0, decide_eq_true h1, getD_at9 om9]; rfl
theorem hasN_neg {u : List Bool} {i : Int} (h0 : ¬ 0 ≤ i) : false = hasN u i := by unfold hasN; rw [decide_eq_false h0]; rfl
theorem hasN_big {u : List Bool} {i : Int} (h1 : ¬ i < u.length) : false = hasN u i := by unfold hasN; rw [decide_eq_false h1]; simp
theorem hasN_lt {u : List Bool} {i : Int} (h : hasN u i = true) : 0 ≤ i ∧ i.toNat < u.length ∧ i = (i.toNat : Int) := by
 obtain ⟨k, hk, rfl, _⟩ := hasN_iff.1 h
 exact ⟨om9, by simpa using hk, by simp⟩
theorem layA_t {α : Type} {st : List α × List Bool} {i : Int} {x : α} (h : hasN st.2 i = true) : layA st i x = (0, (st.1.set i.toNat x, st.2)) := if_pos h
theorem layA_f {α : Type} {st : List α × List Bool} {i : Int} {x : α} (h : hasN st.2 i = false) : layA st i x = (8, st) := if_neg (by simp [h])
theorem nextA_t {α : Type} {st : List α × List Bool} {x : α} (h : firstN st.2 < st.2.length) : nextA st x = (((firstN st.2 : Int), 0), (st.1.set (firstN st.2) x, st.2.set (firstN st.2) true)) := if_pos h
theorem nextA_f {α : Type} {st : List α × List Bool} {x : α} (h : firstN st.2 = st.2.length) : nextA st x = ((0, 4), st) := if_neg om9
theorem getA_t {α : Type} {st : List α × List Bool} {i : Int} {z : α} (h : hasN st.2 i = true) (h2 : i.toNat < st.1.length) : getA st i z = st.1[i.toNat] := by
 unfold getA; rw [if_pos h, List.getD_eq_getElem?_getD, List.getElem?_eq_getElem h2]; rfl
theorem getA_f {α : Type} {st : List α × List Bool} {i : Int} {z : α} (h : hasN st.2 i = false) : getA st i z = z := if_neg (by simp [h])
theorem NodeC.cast {G : GH} {cs : List Value} {n m : Nd} (h : NodeC G cs n) (e : n = m) : NodeC G cs m := e ▸ h
def usedK (u : List Bool) (k : Nat) : List Int := ((List.range k).filter fun i => u.getD i true).map fun i : Nat => (i : Int)
theorem usedK_len (u : List Bool) (k : Nat) : (usedK u k).length ≤ k := by
 unfold usedK; rw [List.length_map]
 have := List.length_filter_le (fun i => u.getD i true) (List.range k)
 rw [List.length_range] at this; exact this
theorem usedK_t {u : List Bool} {k : Nat} (hk : k < u.length) (h : u[k] = true) : usedK u (k + 1) = usedK u k ++ [(k : Int)] := by
 unfold usedK; rw [List.range_succ, List.filter_append, List.map_append]; congr 1; simp [List.getElem?_eq_getElem hk, h]
theorem usedK_f {u : List Bool} {k : Nat} (hk : k < u.length) (h : u[k] = false) : usedK u (k + 1) = usedK u k := by
 unfold usedK; rw [List.range_succ, List.filter_append, List.map_append]; simp [List.getElem?_eq_getElem hk, h]
theorem used_eq (u : List Bool) : usedN u = usedK u u.length := rfl
def CfgR (c : Cfg) : Prop := (4 ≤ c.fan ∧ c.fan ≤ 64) ∧ (2 ≤ c.leaf ∧ c.leaf ≤ 64) ∧ (36 ≤ c.bud ∧ c.bud ≤ 4096) ∧ (1 ≤ c.slots ∧ c.slots ≤ 4096) ∧ (0 ≤ c.rest ∧ c.rest ≤ 100)
instance (c : Cfg) : Decidable (CfgR c) := by unfold CfgR; infer_instance
def arOf (n : Nat) (l : List Nd) : List Nd × List Bool := (l ++ List.replicate (n - l.length) Nd.zero, List.replicate l.length true ++ List.replicate (n - l.length) false)
theorem arOf_nil (n : Nat) : arOf n [] = (List.replicate n Nd.zero, List.replicate n false) := by simp [arOf]
theorem ar_len {n : Nat} {l : List Nd} (h : l.length ≤ n) : (arOf n l).2.length = n := by simp [arOf]; omega
theorem ar_in {n : Nat} {l : List Nd} {i : Nat} (h : i < (arOf n l).2.length) : (arOf n l).2[i] = decide (i < l.length) := by
 rw [List.getElem_of_eq (show (arOf n l).2 = List.replicate l.length true ++ List.replicate (n - l.length) false from rfl) h, List.getElem_append]
 split <;> rename_i h2 <;> simp only [List.length_replicate] at h2 <;> simp <;> omega
theorem ar_has {n : Nat} {l : List Nd} (h : l.length ≤ n) (i : Int) : hasN (arOf n l).2 i = decide (0 ≤ i ∧ i < l.length) := by
 rw [Bool.eq_iff_iff, hasN_iff, decide_eq_true_iff]
 constructor
 ·rintro ⟨k, hk, rfl, h2⟩
  rw [ar_in hk] at h2
  have := of_decide_eq_true h2
  omega
 ·rintro ⟨h1, h2⟩
  have hl := ar_len h
  exact ⟨i.toNat, om9, om9, by rw [ar_in]; exact decide_eq_true om9⟩
theorem ar_first {n : Nat} {l : List Nd} (h : l.length ≤ n) : firstN (arOf n l).2 = l.length := by
 have hl := ar_len h
 by_cases e : l.length = n
 ·rw [firstN_all fun j hj => by rw [ar_in hj]; exact decide_eq_true om9]; omega
 ·exact firstN_at om9 (by rw [ar_in]; exact decide_eq_false om9) fun j hj hjl => by rw [ar_in hj]; exact decide_eq_true hjl
theorem ar_set1 {n : Nat} {l : List Nd} {k : Nat} {x : Nd} (hk : k < l.length) : (arOf n l).1.set k x = (arOf n (l.set k x)).1 := by
 unfold arOf
 rw [List.length_set, List.set_append_left _ _ hk]
theorem ar_alloc {n : Nat} {l : List Nd} (h : l.length < n) : nextA (arOf n l) Nd.zero = (((l.length : Int), 0), arOf n (l ++ [Nd.zero])) := by
 have hf := ar_first (Nat.le_of_lt h)
 have hl := ar_len (Nat.le_of_lt h)
 rw [nextA_t om9, hf]
 refine congrArg (Prod.mk _) ?_
 obtain ⟨m, hm⟩ : ∃ m, n - l.length = m + 1 := ⟨n - l.length - 1, om9⟩
 have hm2 : n - (l ++ [Nd.zero]).length = m := by simp; omega
 unfold arOf
 rw [hm, hm2]
 refine Prod.ext ?_ ?_
 ·show (l ++ List.replicate (m + 1) Nd.zero).set l.length Nd.zero = (l ++ [Nd.zero]) ++ List.replicate m Nd.zero
  rw [List.set_append_right _ _ (Nat.le_refl _), Nat.sub_self, List.replicate_succ, List.set_cons_zero, List.append_assoc]; rfl
 ·show (List.replicate l.length true ++ List.replicate (m + 1) false).set l.length true = List.replicate (l ++ [Nd.zero]).length true ++ List.replicate m false
  rw [List.set_append_right _ _ (by simp), List.length_replicate, Nat.sub_self, List.replicate_succ, List.set_cons_zero, List.length_append, List.length_singleton, List.replicate_succ', List.append_assoc]; rfl
theorem ar_full {n : Nat} {l : List Nd} (h : l.length = n) : nextA (arOf n l) Nd.zero = ((0, 4), arOf n l) := nextA_f (by rw [ar_first om9, ar_len om9]; exact h)
def putL (l : List Nd) (x : Nd) : Int × List Nd := if 0 ≤ x.slot ∧ x.slot < l.length then (0, l.set x.slot.toNat x) else (8, l)
theorem putL_t {l : List Nd} {x : Nd} (h : 0 ≤ x.slot ∧ x.slot < l.length) : putL l x = (0, l.set x.slot.toNat x) := if_pos h
theorem putL_f {l : List Nd} {x : Nd} (h : ¬ (0 ≤ x.slot ∧ x.slot < l.length)) : putL l x = (8, l) := if_neg h
theorem putL_len (l : List Nd) (x : Nd) : (putL l x).2.length = l.length := by unfold putL; split <;> simp
theorem ar_set {n : Nat} {l : List Nd} (h : l.length ≤ n) (x : Nd) : layA (arOf n l) x.slot x = ((putL l x).1, arOf n (putL l x).2) := by
 by_cases hx : 0 ≤ x.slot ∧ x.slot < l.length
 ·rw [layA_t (by rw [ar_has h]; exact decide_eq_true hx), putL_t hx, ar_set1 om9]
  refine congrArg (Prod.mk _) (Prod.ext rfl ?_)
  unfold arOf; simp
 ·rw [layA_f (by rw [ar_has h]; exact decide_eq_false hx), putL_f hx]
def takeL (n : Nat) (l : List Nd) (x : Nd) : (Int × Int) × List Nd := if l.length < n then ((l.length, 0), l ++ [{ x with slot := l.length }]) else ((0, 4), l)
theorem takeL_t {n : Nat} {l : List Nd} {x : Nd} (h : l.length < n) : takeL n l x = (((l.length : Int), 0), l ++ [{ x with slot := l.length }]) := if_pos h
theorem takeL_f {n : Nat} {l : List Nd} {x : Nd} (h : ¬ l.length < n) : takeL n l x = ((0, 4), l) := if_neg h
theorem take_set {l : List Nd} {x : Nd} : putL (l ++ [Nd.zero]) { x with slot := l.length } = (0, l ++ [{ x with slot := l.length }]) := by
 rw [putL_t (by simp; omega)]
 refine congrArg (Prod.mk _) ?_
 show (l ++ [Nd.zero]).set ((l.length : Int)).toNat _ = _
 rw [Int.toNat_natCast, List.set_append_right _ _ (Nat.le_refl _), Nat.sub_self]; rfl
def getL (l : List Nd) (i : Int) : Nd := if 0 ≤ i then l.getD i.toNat Nd.zero else Nd.zero
theorem getL_at {l : List Nd} {k : Nat} (h : k < l.length) : getL l k = l[k] := by
 unfold getL; rw [if_pos om9, Int.toNat_natCast, List.getD_eq_getElem?_getD, List.getElem?_eq_getElem h]; rfl
theorem ar_get {n : Nat} {l : List Nd} (h : l.length ≤ n) (i : Int) : getA (arOf n l) i Nd.zero = getL l i := by
 unfold getA getL
 rw [ar_has h]
 by_cases h0 : 0 ≤ i
 ·rw [if_pos h0]
  by_cases h1 : i < l.length
  ·rw [if_pos (decide_eq_true ⟨h0, h1⟩), List.getD_eq_getElem?_getD, List.getD_eq_getElem?_getD]
   unfold arOf
   rw [List.getElem?_append_left om9]
  ·rw [if_neg (by simp; omega), List.getD_eq_getElem?_getD, List.getElem?_eq_none om9]; rfl
 ·rw [if_neg h0, if_neg (by simp; omega)]
theorem ar_used {n : Nat} {l : List Nd} (h : l.length ≤ n) : usedN (arOf n l).2 = iotaN l.length := by
 have hl := ar_len h
 unfold usedN iotaN
 congr 1
 rw [hl]
 have e : n = l.length + (n - l.length) := om9
 have key : ∀ m, m ≤ n → (List.range m).filter (fun i => (arOf n l).2.getD i true) = List.range (min m l.length) := by
  intro m
  induction m with
  | zero => intro _; simp
  | succ m ih =>
   intro hm
   rw [List.range_succ, List.filter_append, ih om9, List.filter_cons, getD_at9 om9, ar_in]
   by_cases hml : m < l.length
   ·rw [if_pos (decide_eq_true hml), List.filter_nil, Nat.min_eq_left om9, Nat.min_eq_left om9, List.range_succ]
   ·rw [if_neg (by simpa using hml), List.filter_nil, List.append_nil, Nat.min_eq_right om9, Nat.min_eq_right om9]
 rw [key n (Nat.le_refl _), Nat.min_eq_right h]
theorem nextA_i64 {α : Type} {st : List α × List Bool} {x : α} (h : st.2.length ≤ 4096) : i64 (nextA st x).1.1 := by
 unfold nextA
 split
 ·exact ⟨by show (-9223372036854775808 : Int) ≤ (firstN st.2 : Int); omega, by show (firstN st.2 : Int) ≤ 9223372036854775807; omega⟩
 ·exact ⟨by show (-9223372036854775808 : Int) ≤ 0; omega, by show (0 : Int) ≤ 9223372036854775807; omega⟩
def takeA (a : List Nd × List Bool) (x : Nd) : (Int × Int) × (List Nd × List Bool) :=
 if (nextA a Nd.zero).1.2 = 0 then (((nextA a Nd.zero).1.1, (layA (nextA a Nd.zero).2 (nextA a Nd.zero).1.1 { x with slot := (nextA a Nd.zero).1.1 }).1), (layA (nextA a Nd.zero).2 (nextA a Nd.zero).1.1 { x with slot := (nextA a Nd.zero).1.1 }).2)
 else ((0, (nextA a Nd.zero).1.2), (nextA a Nd.zero).2)
theorem takeA_t {a : List Nd × List Bool} {x : Nd} (h : (nextA a Nd.zero).1.2 = 0) : takeA a x = (((nextA a Nd.zero).1.1, (layA (nextA a Nd.zero).2 (nextA a Nd.zero).1.1 { x with slot := (nextA a Nd.zero).1.1 }).1), (layA (nextA a Nd.zero).2 (nextA a Nd.zero).1.1 { x with slot := (nextA a Nd.zero).1.1 }).2) := if_pos h
theorem takeA_f {a : List Nd × List Bool} {x : Nd} (h : ¬ (nextA a Nd.zero).1.2 = 0) : takeA a x = ((0, (nextA a Nd.zero).1.2), (nextA a Nd.zero).2) := if_neg h
theorem ar_take {n : Nat} {l : List Nd} (h : l.length ≤ n) (x : Nd) : takeA (arOf n l) x = ((takeL n l x).1, arOf n (takeL n l x).2) := by
 by_cases e : l.length < n
 ·have h1 := ar_alloc e
  rw [takeA_t (by rw [h1]), h1, takeL_t e]
  have h2 := ar_set (n := n) (l := l ++ [Nd.zero]) (by simp; omega) { x with slot := (l.length : Int) }
  rw [take_set] at h2
  show (((l.length : Int), (layA (arOf n (l ++ [Nd.zero])) ({ x with slot := (l.length : Int) } : Nd).slot { x with slot := (l.length : Int) }).1), (layA (arOf n (l ++ [Nd.zero])) ({ x with slot := (l.length : Int) } : Nd).slot { x with slot := (l.length : Int) }).2) = _
  rw [h2]
 ·have h1 := ar_full (n := n) (l := l) om9
  rw [takeA_f (by rw [h1]; show ¬ (4 : Int) = 0; omega), h1, takeL_f e]
def StA (te tB ti tb TS b : Nat) (G : GH) (c : Cfg) (a : List Nd × List Bool) (M : MH) : Prop :=
 ∃ b2 Ma, M = (b, .cells (List.toArray [.int .i64 c.fan, .int .i64 c.leaf, .int .i64 c.bud, .int .i64 c.slots, .int .i64 c.rest, .pointer (some ⟨b2, 0, none⟩)]) TS (0, 0)) :: Ma ∧ ArR eNode te tB ti tb b2 G a Ma
theorem StA.mono {te tB ti tb TS b : Nat} {G G' : GH} {c : Cfg} {a : List Nd × List Bool} {M : MH} (hl : Le G G') (h : StA te tB ti tb TS b G c a M) : StA te tB ti tb TS b G' c a M := by
 obtain ⟨b2, Ma, h1, h2⟩ := h; exact ⟨b2, Ma, h1, h2.mono hl⟩
def StR (te tB ti tb TS b : Nat) (c : Cfg) (G : GH) (l : List Nd) (M : MH) : Prop := CfgR c ∧ l.length ≤ c.slots.toNat ∧ StA te tB ti tb TS b G c (arOf c.slots.toNat l) M
theorem StR.mono {te tB ti tb TS b : Nat} {G G' : GH} {c : Cfg} {l : List Nd} {M : MH} (hl : Le G G') (h : StR te tB ti tb TS b c G l M) : StR te tB ti tb TS b c G' l M := ⟨h.1, h.2.1, h.2.2.mono hl⟩
theorem StA.cast {te tB ti tb TS b : Nat} {G : GH} {c : Cfg} {a a' : List Nd × List Bool} {M : MH} (h : StA te tB ti tb TS b G c a M) (e : a = a') : StA te tB ti tb TS b G c a' M := e ▸ h
def leafN (slot : Int) : Nd := ⟨slot, 0, [], [], Str.nil, true, -1, 0, [], []⟩
theorem takeL_len {n : Nat} {l : List Nd} {x : Nd} (h : l.length ≤ n) : (takeL n l x).2.length ≤ n := by unfold takeL; split <;> simp <;> omega
theorem nodes_all {n : Nat} {l : List Nd} (h : l.length ≤ n) : ((usedN (arOf n l).2).map fun i => getA (arOf n l) i Nd.zero) = l := by
 rw [ar_used h]
 refine List.ext_getElem (by simp [iotaN]) fun i h1 h2 => ?_
 rw [List.getElem_map, ar_get h]
 simp only [iotaN, List.getElem_map, List.getElem_range]
 exact getL_at h2
theorem NodeC.of {G : GH} {cs : List Value} {n m : Nd} (h : NodeC G cs n) (e : n = m) : NodeC G cs m := e ▸ h
end Go.Fw
namespace Go.Proofs.YtgmnljhiojdigaaGreat
open Go.Fw
theorem ty23 : tyK Tryz.prog 23 = some (true, 5) := by kernel_rfl
theorem zr23 : zeroK Tryz.prog 23 = some [.int .i64 0, .int .i64 0, .int .i64 0, .int .i64 0, .int .i64 0] := by kernel_rfl
theorem sl24 : sliceK Tryz.prog 24 = some 43 := by kernel_rfl
theorem ty43 : tyK Tryz.prog 43 = some (true, 10) := by kernel_rfl
theorem zr43 : zeroK Tryz.prog 43 = some [.int .i64 0, .int .i64 0, .slice none 0 0, .slice none 0 0, .string ⟨#[]⟩, .bool false, .int .i64 0, .int .i64 0, .slice none 0 0, .slice none 0 0] := by kernel_rfl
theorem by43 : bytesK Tryz.prog 43 = some 152 := by kernel_rfl
theorem st9 : Tryz.prog.underlying 9 = some .string := by kernel_rfl
theorem un3 : Tryz.prog.underlying 3 = some (.int .i64) := by kernel_rfl
theorem un31 : Tryz.prog.underlying 31 = some (.int .u64) := by kernel_rfl
theorem sl35 : sliceK Tryz.prog 35 = some 47 := by kernel_rfl
theorem ty47 : tyK Tryz.prog 47 = some (true, 14) := by kernel_rfl
theorem zr47 : zeroK Tryz.prog 47 = some [.int .i64 0, .int .i64 0, .slice none 0 0, .slice none 0 0, .string ⟨#[]⟩, .bool false, .int .i64 0, .int .i64 0, .slice none 0 0, .slice none 0 0, .string ⟨#[]⟩, .string ⟨#[]⟩, .bool false, .slice none 0 0] := by kernel_rfl
theorem by47 : bytesK Tryz.prog 47 = some 216 := by kernel_rfl
theorem fd47_0 : fieldK Tryz.prog 47 0 = some 0 := by kernel_rfl
theorem fd43_0 : fieldK Tryz.prog 43 0 = some 0 := by kernel_rfl
theorem ty3 : tyK Tryz.prog 3 = some (false, 1) := by kernel_rfl
theorem zr3 : zeroK Tryz.prog 3 = some [.int .i64 0] := by kernel_rfl
theorem fd47_1 : fieldK Tryz.prog 47 1 = some 10 := by kernel_rfl
theorem ty45 : tyK Tryz.prog 45 = some (true, 3) := by kernel_rfl
theorem zr45 : zeroK Tryz.prog 45 = some [.string ⟨#[]⟩, .string ⟨#[]⟩, .bool false] := by kernel_rfl
theorem fd43_1 : fieldK Tryz.prog 43 1 = some 1 := by kernel_rfl
theorem bo4 : Tryz.prog.underlying 4 = some .bool := by kernel_rfl
theorem sl41 : sliceK Tryz.prog 41 = some 101 := by kernel_rfl
theorem ty101 : tyK Tryz.prog 101 = some (true, 2) := by kernel_rfl
theorem zr101 : zeroK Tryz.prog 101 = some [.string ⟨#[]⟩, .string ⟨#[]⟩] := by kernel_rfl
theorem by101 : bytesK Tryz.prog 101 = some 32 := by kernel_rfl
theorem ty56 : tyK Tryz.prog 56 = some (true, 4) := by kernel_rfl
theorem zr56 : zeroK Tryz.prog 56 = some [.int .i64 0, .bool false, .string ⟨#[]⟩, .slice none 0 0] := by kernel_rfl
theorem pl56 : placesK Tryz.prog 56 = some [(0, 1), (1, 1), (2, 1), (3, 1)] := by kernel_rfl
theorem sl58 : sliceK Tryz.prog 58 = some 84 := by kernel_rfl
theorem ty84 : tyK Tryz.prog 84 = some (true, 3) := by kernel_rfl
theorem zr84 : zeroK Tryz.prog 84 = some [.int .i64 0, .int .i64 0, .bool false] := by kernel_rfl
theorem by84 : bytesK Tryz.prog 84 = some 24 := by kernel_rfl
theorem pp49 : ptrT Tryz.prog 49 = true := by kernel_rfl
theorem fd43_7 : fieldK Tryz.prog 43 7 = some 7 := by kernel_rfl
theorem pl23 : placesK Tryz.prog 23 = some [(0, 1), (1, 1), (2, 1), (3, 1), (4, 1)] := by kernel_rfl
theorem pt56_1 : partK Tryz.prog 56 1 = some (false, 1, 1) := by kernel_rfl
theorem fd76_3 : fieldK Tryz.prog 76 3 = some 3 := by kernel_rfl
theorem pp27 : ptrT Tryz.prog 27 = true := by kernel_rfl
theorem fd76_2 : fieldK Tryz.prog 76 2 = some 2 := by kernel_rfl
theorem ty74 : tyK Tryz.prog 74 = some (false, 1) := by kernel_rfl
theorem pp32 : ptrT Tryz.prog 32 = true := by kernel_rfl
theorem zr79 : zeroK Tryz.prog 79 = some [.pointer none, .int .i64 0, .pointer none, .int .i64 0] := by kernel_rfl
theorem pl79 : placesK Tryz.prog 79 = some [(0, 1), (1, 1), (2, 1), (3, 1)] := by kernel_rfl
theorem fd79_0 : fieldK Tryz.prog 79 0 = some 0 := by kernel_rfl
theorem ty27 : tyK Tryz.prog 27 = some (false, 1) := by kernel_rfl
theorem fd76_1 : fieldK Tryz.prog 76 1 = some 1 := by kernel_rfl
theorem ty73 : tyK Tryz.prog 73 = some (false, 1) := by kernel_rfl
theorem fd79_1 : fieldK Tryz.prog 79 1 = some 1 := by kernel_rfl
theorem pl84 : placesK Tryz.prog 84 = some [(0, 1), (1, 1), (2, 1)] := by kernel_rfl
theorem fd79_2 : fieldK Tryz.prog 79 2 = some 2 := by kernel_rfl
theorem ty77 : tyK Tryz.prog 77 = some (false, 1) := by kernel_rfl
theorem fd79_3 : fieldK Tryz.prog 79 3 = some 3 := by kernel_rfl
theorem pl45 : placesK Tryz.prog 45 = some [(0, 1), (1, 1), (2, 1)] := by kernel_rfl
theorem pl47 : placesK Tryz.prog 47 = some [(0, 10), (10, 3), (13, 1)] := by kernel_rfl
theorem fd43_2 : fieldK Tryz.prog 43 2 = some 2 := by kernel_rfl
theorem ty38 : tyK Tryz.prog 38 = some (false, 1) := by kernel_rfl
theorem fd43_3 : fieldK Tryz.prog 43 3 = some 3 := by kernel_rfl
theorem ty39 : tyK Tryz.prog 39 = some (false, 1) := by kernel_rfl
theorem sl38 : sliceK Tryz.prog 38 = some 9 := by kernel_rfl
theorem ty9 : tyK Tryz.prog 9 = some (false, 1) := by kernel_rfl
theorem zr9 : zeroK Tryz.prog 9 = some [.string ⟨#[]⟩] := by kernel_rfl
theorem by9 : bytesK Tryz.prog 9 = some 16 := by kernel_rfl
theorem sl39 : sliceK Tryz.prog 39 = some 3 := by kernel_rfl
theorem by3 : bytesK Tryz.prog 3 = some 8 := by kernel_rfl
theorem fd43_8 : fieldK Tryz.prog 43 8 = some 8 := by kernel_rfl
theorem ty40 : tyK Tryz.prog 40 = some (false, 1) := by kernel_rfl
theorem zr40 : zeroK Tryz.prog 40 = some [.slice none 0 0] := by kernel_rfl
theorem sl40 : sliceK Tryz.prog 40 = some 118 := by kernel_rfl
theorem ty118 : tyK Tryz.prog 118 = some (true, 6) := by kernel_rfl
theorem zr118 : zeroK Tryz.prog 118 = some [.int .i64 0, .int .i64 0, .string ⟨#[]⟩, .string ⟨#[]⟩, .bool false, .string ⟨#[]⟩] := by kernel_rfl
theorem by118 : bytesK Tryz.prog 118 = some 72 := by kernel_rfl
theorem fd47_2 : fieldK Tryz.prog 47 2 = some 13 := by kernel_rfl
theorem sl92 : sliceK Tryz.prog 92 = some 40 := by kernel_rfl
theorem by40 : bytesK Tryz.prog 40 = some 24 := by kernel_rfl
theorem fd45_0 : fieldK Tryz.prog 45 0 = some 0 := by kernel_rfl
theorem fd45_2 : fieldK Tryz.prog 45 2 = some 2 := by kernel_rfl
theorem ty4 : tyK Tryz.prog 4 = some (false, 1) := by kernel_rfl
theorem zr4 : zeroK Tryz.prog 4 = some [.bool false] := by kernel_rfl
theorem fd45_1 : fieldK Tryz.prog 45 1 = some 1 := by kernel_rfl
theorem zr95 : zeroK Tryz.prog 95 = some [.int .i64 0, .int .i64 0] := by kernel_rfl
theorem pl95 : placesK Tryz.prog 95 = some [(0, 1), (1, 1)] := by kernel_rfl
theorem zr98 : zeroK Tryz.prog 98 = some [.int .i64 0, .int .i64 0, .pointer none, .pointer none, .string ⟨#[]⟩, .nilFunc, .slice none 0 0, .bool false, .bool false, .int .i64 0, .bool false, .string ⟨#[]⟩, .slice none 0 0] := by kernel_rfl
theorem pl98 : placesK Tryz.prog 98 = some [(0, 2), (2, 1), (3, 1), (4, 1), (5, 1), (6, 1), (7, 1), (8, 1), (9, 4)] := by kernel_rfl
theorem fd98_7 : fieldK Tryz.prog 98 7 = some 8 := by kernel_rfl
theorem fd98_6 : fieldK Tryz.prog 98 6 = some 7 := by kernel_rfl
theorem fd98_4 : fieldK Tryz.prog 98 4 = some 5 := by kernel_rfl
theorem ty96 : tyK Tryz.prog 96 = some (false, 1) := by kernel_rfl
theorem fd101_0 : fieldK Tryz.prog 101 0 = some 0 := by kernel_rfl
theorem fd101_1 : fieldK Tryz.prog 101 1 = some 1 := by kernel_rfl
theorem fd43_9 : fieldK Tryz.prog 43 9 = some 9 := by kernel_rfl
theorem ty41 : tyK Tryz.prog 41 = some (false, 1) := by kernel_rfl
theorem fd56_0 : fieldK Tryz.prog 56 0 = some 0 := by kernel_rfl
theorem ty28 : tyK Tryz.prog 28 = some (false, 1) := by kernel_rfl
theorem fd56_1 : fieldK Tryz.prog 56 1 = some 1 := by kernel_rfl
theorem fd56_2 : fieldK Tryz.prog 56 2 = some 2 := by kernel_rfl
theorem fd56_3 : fieldK Tryz.prog 56 3 = some 3 := by kernel_rfl
theorem fd98_8 : fieldK Tryz.prog 98 8 = some 9 := by kernel_rfl
theorem fd76_0 : fieldK Tryz.prog 76 0 = some 0 := by kernel_rfl
theorem ty63 : tyK Tryz.prog 63 = some (false, 1) := by kernel_rfl
theorem pp63 : ptrT Tryz.prog 63 = true := by kernel_rfl
theorem fd107_1 : fieldK Tryz.prog 107 1 = some 5 := by kernel_rfl
theorem ty105 : tyK Tryz.prog 105 = some (false, 1) := by kernel_rfl
theorem fd23_0 : fieldK Tryz.prog 23 0 = some 0 := by kernel_rfl
theorem fd23_1 : fieldK Tryz.prog 23 1 = some 1 := by kernel_rfl
theorem fd23_2 : fieldK Tryz.prog 23 2 = some 2 := by kernel_rfl
theorem fd23_3 : fieldK Tryz.prog 23 3 = some 3 := by kernel_rfl
theorem fd23_4 : fieldK Tryz.prog 23 4 = some 4 := by kernel_rfl
theorem fd43_4 : fieldK Tryz.prog 43 4 = some 4 := by kernel_rfl
theorem fd118_0 : fieldK Tryz.prog 118 0 = some 0 := by kernel_rfl
theorem pt23_3 : partK Tryz.prog 23 3 = some (false, 3, 1) := by kernel_rfl
theorem zr76 : zeroK Tryz.prog 76 = some [.pointer none, .pointer none, .map none, .int .i64 0, .int .i64 0] := by kernel_rfl
theorem pl76 : placesK Tryz.prog 76 = some [(0, 1), (1, 1), (2, 1), (3, 1), (4, 1)] := by kernel_rfl
theorem pp73 : ptrT Tryz.prog 73 = true := by kernel_rfl
theorem fd128_0 : fieldK Tryz.prog 128 0 = some 0 := by kernel_rfl
theorem ty126 : tyK Tryz.prog 126 = some (false, 1) := by kernel_rfl
theorem sl126 : sliceK Tryz.prog 126 = some 132 := by kernel_rfl
theorem ty132 : tyK Tryz.prog 132 = some (true, 2) := by kernel_rfl
theorem zr132 : zeroK Tryz.prog 132 = some [.slice none 0 0, .int .i64 0] := by kernel_rfl
theorem by132 : bytesK Tryz.prog 132 = some 32 := by kernel_rfl
theorem fd132_0 : fieldK Tryz.prog 132 0 = some 0 := by kernel_rfl
theorem fd132_1 : fieldK Tryz.prog 132 1 = some 1 := by kernel_rfl
theorem pl43 : placesK Tryz.prog 43 = some [(0, 1), (1, 1), (2, 1), (3, 1), (4, 1), (5, 1), (6, 1), (7, 1), (8, 1), (9, 1)] := by kernel_rfl
theorem fd98_2 : fieldK Tryz.prog 98 2 = some 3 := by kernel_rfl
theorem ty32 : tyK Tryz.prog 32 = some (false, 1) := by kernel_rfl
theorem fd98_0 : fieldK Tryz.prog 98 0 = some 0 := by kernel_rfl
theorem fd95_1 : fieldK Tryz.prog 95 1 = some 1 := by kernel_rfl
theorem fd95_0 : fieldK Tryz.prog 95 0 = some 0 := by kernel_rfl
theorem fd84_1 : fieldK Tryz.prog 84 1 = some 1 := by kernel_rfl
theorem eq101 : fieldKs Tryz.prog 101 = some [.string, .string] := by kernel_rfl
theorem fd43_5 : fieldK Tryz.prog 43 5 = some 5 := by kernel_rfl
theorem fd43_6 : fieldK Tryz.prog 43 6 = some 6 := by kernel_rfl
theorem pp105 : ptrT Tryz.prog 105 = true := by kernel_rfl
theorem fd150_1 : fieldK Tryz.prog 150 1 = some 1 := by kernel_rfl
theorem ty147 : tyK Tryz.prog 147 = some (false, 1) := by kernel_rfl
theorem sl147 : sliceK Tryz.prog 147 = some 4 := by kernel_rfl
theorem by4 : bytesK Tryz.prog 4 = some 1 := by kernel_rfl
theorem fd118_2 : fieldK Tryz.prog 118 2 = some 2 := by kernel_rfl
theorem fd118_3 : fieldK Tryz.prog 118 3 = some 3 := by kernel_rfl
theorem fd118_5 : fieldK Tryz.prog 118 5 = some 5 := by kernel_rfl
theorem eq45 : fieldKs Tryz.prog 45 = some [.string, .string, .bool] := by kernel_rfl
theorem zr107 : zeroK Tryz.prog 107 = some [.int .i64 0, .int .i64 0, .int .i64 0, .int .i64 0, .int .i64 0, .pointer none] := by kernel_rfl
theorem pl107 : placesK Tryz.prog 107 = some [(0, 5), (5, 1)] := by kernel_rfl
theorem zr128 : zeroK Tryz.prog 128 = some [.slice none 0 0] := by kernel_rfl
theorem pl128 : placesK Tryz.prog 128 = some [(0, 1)] := by kernel_rfl
theorem fd107_0 : fieldK Tryz.prog 107 0 = some 0 := by kernel_rfl
theorem pl118 : placesK Tryz.prog 118 = some [(0, 1), (1, 1), (2, 1), (3, 1), (4, 1), (5, 1)] := by kernel_rfl
theorem fd118_1 : fieldK Tryz.prog 118 1 = some 1 := by kernel_rfl
theorem fd118_4 : fieldK Tryz.prog 118 4 = some 4 := by kernel_rfl
theorem fd98_1 : fieldK Tryz.prog 98 1 = some 2 := by kernel_rfl
theorem fd98_3 : fieldK Tryz.prog 98 3 = some 4 := by kernel_rfl
theorem fd98_5 : fieldK Tryz.prog 98 5 = some 6 := by kernel_rfl
theorem ty92 : tyK Tryz.prog 92 = some (false, 1) := by kernel_rfl
theorem eq118 : fieldKs Tryz.prog 118 = some [.int .i64, .int .i64, .string, .string, .bool, .string] := by kernel_rfl
theorem fd150_0 : fieldK Tryz.prog 150 0 = some 0 := by kernel_rfl
theorem ty24 : tyK Tryz.prog 24 = some (false, 1) := by kernel_rfl
theorem zr150 : zeroK Tryz.prog 150 = some [.slice none 0 0, .slice none 0 0, .slice none 0 0] := by kernel_rfl
theorem pl150 : placesK Tryz.prog 150 = some [(0, 1), (1, 1), (2, 1)] := by kernel_rfl
theorem fd150_2 : fieldK Tryz.prog 150 2 = some 2 := by kernel_rfl
theorem ty148 : tyK Tryz.prog 148 = some (false, 1) := by kernel_rfl
theorem sl148 : sliceK Tryz.prog 148 = some 3 := by kernel_rfl
theorem pi178 : plainT Tryz.prog 178 = true := by kernel_rfl
theorem pi3 : plainT Tryz.prog 3 = true := by kernel_rfl
theorem fd84_0 : fieldK Tryz.prog 84 0 = some 0 := by kernel_rfl
theorem sl205 : sliceK Tryz.prog 205 = some 208 := by kernel_rfl
theorem ty208 : tyK Tryz.prog 208 = some (true, 2) := by kernel_rfl
theorem zr208 : zeroK Tryz.prog 208 = some [.slice none 0 0, .int .i64 0] := by kernel_rfl
theorem by208 : bytesK Tryz.prog 208 = some 32 := by kernel_rfl
theorem ty205 : tyK Tryz.prog 205 = some (false, 1) := by kernel_rfl
theorem pi203 : plainT Tryz.prog 203 = true := by kernel_rfl
theorem pl208 : placesK Tryz.prog 208 = some [(0, 1), (1, 1)] := by kernel_rfl
theorem pi208 : plainT Tryz.prog 208 = true := by kernel_rfl
theorem fd208_0 : fieldK Tryz.prog 208 0 = some 0 := by kernel_rfl
theorem ty189 : tyK Tryz.prog 189 = some (true, 2) := by kernel_rfl
theorem zr189 : zeroK Tryz.prog 189 = some [.int .i64 0, .string ⟨#[]⟩] := by kernel_rfl
theorem pl101 : placesK Tryz.prog 101 = some [(0, 1), (1, 1)] := by kernel_rfl
theorem pl189 : placesK Tryz.prog 189 = some [(0, 1), (1, 1)] := by kernel_rfl
theorem fd189_0 : fieldK Tryz.prog 189 0 = some 0 := by kernel_rfl
theorem fd189_1 : fieldK Tryz.prog 189 1 = some 1 := by kernel_rfl
theorem fd208_1 : fieldK Tryz.prog 208 1 = some 1 := by kernel_rfl
theorem cl6 : Callable Tryz.prog 6 := callable_of Tryz.func6 rfl (by decide)
theorem cl7 : Callable Tryz.prog 7 := callable_of Tryz.func7 rfl (by decide)
theorem cl8 : Callable Tryz.prog 8 := callable_of Tryz.func8 rfl (by decide)
theorem cl9 : Callable Tryz.prog 9 := callable_of Tryz.func9 rfl (by decide)
theorem cl12 : Callable Tryz.prog 12 := callable_of Tryz.func12 rfl (by decide)
theorem cl13 : Callable Tryz.prog 13 := callable_of Tryz.func13 rfl (by decide)
theorem cl14 : Callable Tryz.prog 14 := callable_of Tryz.func14 rfl (by decide)
theorem cl15 : Callable Tryz.prog 15 := callable_of Tryz.func15 rfl (by decide)
theorem cl19 : Callable Tryz.prog 19 := callable_of Tryz.func19 rfl (by decide)
theorem cl20 : Callable Tryz.prog 20 := callable_of Tryz.func20 rfl (by decide)
theorem cl21 : Callable Tryz.prog 21 := callable_of Tryz.func21 rfl (by decide)
theorem cl22 : Callable Tryz.prog 22 := callable_of Tryz.func22 rfl (by decide)
theorem cl24 : Callable Tryz.prog 24 := callable_of Tryz.func24 rfl (by decide)
theorem cl29 : Callable Tryz.prog 29 := callable_of Tryz.func29 rfl (by decide)
theorem cl30 : Callable Tryz.prog 30 := callable_of Tryz.func30 rfl (by decide)
theorem cl32 : Callable Tryz.prog 32 := callable_of Tryz.func32 rfl (by decide)
theorem cl33 : Callable Tryz.prog 33 := callable_of Tryz.func33 rfl (by decide)
theorem cl34 : Callable Tryz.prog 34 := callable_of Tryz.func34 rfl (by decide)
theorem cl35 : Callable Tryz.prog 35 := callable_of Tryz.func35 rfl (by decide)
theorem cl36 : Callable Tryz.prog 36 := callable_of Tryz.func36 rfl (by decide)
theorem cl44 : Callable Tryz.prog 44 := callable_of Tryz.func44 rfl (by decide)
theorem cl45 : Callable Tryz.prog 45 := callable_of Tryz.func45 rfl (by decide)
theorem cl48 : Callable Tryz.prog 48 := callable_of Tryz.func48 rfl (by decide)
theorem cl60 : Callable Tryz.prog 60 := callable_of Tryz.func60 rfl (by decide)
theorem cl61 : Callable Tryz.prog 61 := callable_of Tryz.func61 rfl (by decide)
theorem cl64 : Callable Tryz.prog 64 := callable_of Tryz.func64 rfl (by decide)
theorem cl65 : Callable Tryz.prog 65 := callable_of Tryz.func65 rfl (by decide)
theorem cl66 : Callable Tryz.prog 66 := callable_of Tryz.func66 rfl (by decide)
theorem cl70 : Callable Tryz.prog 70 := callable_of Tryz.func70 rfl (by decide)
theorem cl71 : Callable Tryz.prog 71 := callable_of Tryz.func71 rfl (by decide)
theorem cl72 : Callable Tryz.prog 72 := callable_of Tryz.func72 rfl (by decide)
theorem cl75 : Callable Tryz.prog 75 := callable_of Tryz.func75 rfl (by decide)
theorem cl76 : Callable Tryz.prog 76 := callable_of Tryz.func76 rfl (by decide)
theorem cl90 : Callable Tryz.prog 90 := callable_of Tryz.func90 rfl (by decide)
theorem cl91 : Callable Tryz.prog 91 := callable_of Tryz.func91 rfl (by decide)
theorem cl92 : Callable Tryz.prog 92 := callable_of Tryz.func92 rfl (by decide)
theorem cl93 : Callable Tryz.prog 93 := callable_of Tryz.func93 rfl (by decide)
theorem cl95 : Callable Tryz.prog 95 := callable_of Tryz.func95 rfl (by decide)
theorem cl100 : Callable Tryz.prog 100 := callable_of Tryz.func100 rfl (by decide)
theorem cl101 : Callable Tryz.prog 101 := callable_of Tryz.func101 rfl (by decide)
theorem cl115 : Callable Tryz.prog 115 := callable_of Tryz.func115 rfl (by decide)
theorem cl119 : Callable Tryz.prog 119 := callable_of Tryz.func119 rfl (by decide)
theorem cl125 : Callable Tryz.prog 125 := callable_of Tryz.func125 rfl (by decide)
theorem mix : Tryz.prog.follows .mixedOrders = true := by kernel_rfl
end Go.Proofs.YtgmnljhiojdigaaGreat
theorem List.Sublist.k9 {α : Type} {a : α} {l l' : List α} (h : l.Sublist l') : (a :: l).Sublist (a :: l') := h.cons_cons a
namespace Go.Fw
open Go Go.RowKit
theorem sn9 {α : Type} {l : List α} : List.Sublist [] l := List.nil_sublist l
theorem sr9 {α : Type} {l : List α} : List.Sublist l l := List.Sublist.refl l
theorem pr9 {α : Type} {l : List α} : List.Perm l l := List.Perm.refl l
abbrev nd9 {a b : Int} {c : Option Addr} {d e : Nat} {f : Option Addr} {g h : Nat} {i : ByteArray} {j : Bool} {k l : Int} {m : Option Addr} {n o : Nat} {p : Option Addr} {q r : Nat} : List Value := [.int .i64 a, .int .i64 b, .slice c d e, .slice f g h, .string i, .bool j, .int .i64 k, .int .i64 l, .slice m n o, .slice p q r]
abbrev ndl (x : Nd) (a1 : Option Addr) (c1 : Nat) (a2 : Option Addr) (c2 : Nat) (a3 : Option Addr) (c3 : Nat) (a4 : Option Addr) (c4 : Nat) : List Value := [.int .i64 x.slot, .int .i64 x.level, .slice a1 x.pivots.length c1, .slice a2 x.kids.length c2, .string x.high.b, .bool x.top, .int .i64 x.right, .int .i64 x.seen, .slice a3 x.msgs.length c3, .slice a4 x.rows.length c4]
abbrev ms9 {a b : Int} {c d : ByteArray} {e : Bool} {f : ByteArray} : List Value := [.int .i64 a, .int .i64 b, .string c, .string d, .bool e, .string f]
abbrev sp9 {a b : ByteArray} {c : Bool} : List Value := [.string a, .string b, .bool c]
abbrev cf9 {a b c d e : Int} : List Value := [.int .i64 a, .int .i64 b, .int .i64 c, .int .i64 d, .int .i64 e]
abbrev ic9 {a : Int} : List Value := [.int .i64 a]
abbrev sc9 {a : ByteArray} : List Value := [.string a]
abbrev bc9 {a : Bool} : List Value := [.bool a]
abbrev lc9 {a : Option Addr} {b c : Nat} : List Value := [.slice a b c]
abbrev ef9 {a : Int} {b : ByteArray} : List Value := [.int .i64 a, .string b]
abbrev pr29 {a b : ByteArray} : List Value := [.string a, .string b]
theorem ok_ld {E : Env} {f : Fr} {G : GH} {M : MH} {d : Nat} {t ty : TypeId} {pos : String} {aft : Array Edge} {x : Operand} (i : Nat) (vs : List Value) {b o : Nat} {L : List Value} {T : TypeId} {bb : Bool} {j : Nat} (ht : tyK E.P t = some (bb, j))
    (hq : (ev f x, nthM M i, (L.drop o).take j, vs.length) = (.pointer (some ⟨b, o, none⟩), some (b, .cells L.toArray T (0, 0)), vs, j)) (hb : bb = false → j = 1 := by simp) : Ok E f G M ⟨some d, .load t x, ty, pos, aft, none⟩ (mkV bb vs) := by
  obtain ⟨h1, h⟩ := Prod.mk.inj hq
  obtain ⟨h2, h⟩ := Prod.mk.inj h
  obtain ⟨h3, h4⟩ := Prod.mk.inj h
  exact ok_loadB ht h1 h2 h3 h4 hb
theorem W.fb {E : Env} {f : Fr} {G : GH} {M : MH} {ops rest : List Oper} {q : Bool} {K : Kt} {d : Nat} {t ty : TypeId} {pos : String} {aft : Array Edge} {x : Operand} {b o off j : Nat} (ht : fieldK E.P t j = some off) (hx : ev f x = .pointer (some ⟨b, o, none⟩))
    (k : W E ops.toArray q rest (upd f d (.pointer (some ⟨b, o + off, none⟩))) G M K) (hd : Nat.blt d E.n = true := by rfl) : W E ops.toArray q (⟨some d, .fieldAddr t x j, ty, pos, aft, none⟩ :: rest) f G M K := W.ok (ok_fieldB ht hx) k hd
theorem W.st {E : Env} {f : Fr} {G : GH} {M : MH} {ops rest : List Oper} {K : Kt} {t ty : TypeId} {pos : String} {aft : Array Edge} {x y : Operand} (i : Nat) (vs L' : List Value) {b o : Nat} {L : List Value} {T : TypeId} {bb : Bool} {j : Nat} {v : Value} (ht : tyK E.P t = some (bb, j))
    (hq : (ev f x, nthM M i, ev f y, v.cells.toList, vs.length, vs.all Value.oneCell', Nat.ble (o + j) L.length, setAt L o vs) = (.pointer (some ⟨b, o, none⟩), some (b, .cells L.toArray T (0, 0)), v, vs, j, true, true, L'))
    (k : W E ops.toArray false rest f G (setM M i (.cells L'.toArray T (0, 0))) K) : W E ops.toArray false (⟨none, .store t x y, ty, pos, aft, none⟩ :: rest) f G M K := by
  obtain ⟨h1, h⟩ := Prod.mk.inj hq
  obtain ⟨h2, h⟩ := Prod.mk.inj h
  obtain ⟨h3, h⟩ := Prod.mk.inj h
  obtain ⟨h4, h⟩ := Prod.mk.inj h
  obtain ⟨h5, h⟩ := Prod.mk.inj h
  obtain ⟨h6, h⟩ := Prod.mk.inj h
  obtain ⟨h7, h8⟩ := Prod.mk.inj h
  exact W.store ht h1 h2 h3 h4 h5 h6 h7 h8 k
theorem W.y9 {E : Env} {f : Fr} {G : GH} {M : MH} {ops rest : List Oper} {q : Bool} {K : Kt} {op : Op} {ty : TypeId} {pos : String} {aft : Array Edge} {dst : Option Nat} {j dj : Nat} {want b : Bool} (hn : b = want) (hq : ((ops.toArray[j]?).bind (·.dst), f dj) = (some dj, .bool b))
    (k : W E ops.toArray q (⟨dst, op, ty, pos, aft, none⟩ :: rest) f G M K) (hdj : Nat.blt dj E.n = true := by rfl) : W E ops.toArray q (⟨dst, op, ty, pos, aft, some (j, want)⟩ :: rest) f G M K := W.yes (Prod.mk.inj hq).1 (Prod.mk.inj hq).2 hn k hdj
theorem W.n8 {E : Env} {f : Fr} {G : GH} {M : MH} {ops rest : List Oper} {q : Bool} {K : Kt} {d : Nat} {op : Op} {ty : TypeId} {pos : String} {aft : Array Edge} {j dj : Nat} {want b : Bool} (hn : b = !want) (hq : ((ops.toArray[j]?).bind (·.dst), f dj) = (some dj, .bool b))
    (k : W E ops.toArray q rest (upd f d undef) G M K) (hd : Nat.blt d E.n = true := by rfl) : W E ops.toArray q (⟨some d, op, ty, pos, aft, some (j, want)⟩ :: rest) f G M K := W.no (Prod.mk.inj hq).1 (Prod.mk.inj hq).2 hn k hd
theorem W.nt {E : Env} {f : Fr} {G : GH} {M : MH} {ops : List Oper} {q : Bool} {K : Kt} {Q : Exit → Kt} (h : K f G M) : W E ops.toArray q [] f G M (thn K Q .normal) := W.nil (thn_n h)
theorem WC.sr {E : Env} {f : Fr} {G : GH} {M : MH} {Q : Exit → Kt} {id : Nat} {l : List Oper} {y : Code} (h : W E l.toArray false l f G M (thn (WC E y Q) Q .normal)) : WC E (.seq (.region id l.toArray false) y) Q f G M := WC.seq (WC.region h)
theorem W.ns {E : Env} {f : Fr} {G : GH} {M : MH} {ops : List Oper} {q : Bool} {Q Q' : Exit → Kt} {id : Nat} {l : List Oper} {y : Code} (h : W E l.toArray false l f G M (thn (WC E y Q) Q .normal)) : W E ops.toArray q [] f G M (thn (WC E (.seq (.region id l.toArray false) y) Q) Q' .normal) := W.nt (WC.sr h)
theorem W.an {E : Env} {f : Fr} {G : GH} {M : MH} {ops : List Oper} {q : Bool} {K : Kt} {Q : Exit → Kt} {d : Nat} {ty : TypeId} {pos : String} {aft : Array Edge} {x : Operand} (k : K (upd f d (ev f x)) G M) (hd : Nat.blt d E.n = true := by rfl) : W E ops.toArray q [⟨some d, .assign x, ty, pos, aft, none⟩] f G M (thn K Q .normal) := W.as (W.nt k) hd
theorem WC.sk {E : Env} {f : Fr} {G : GH} {M : MH} {K : Kt} {Q : Exit → Kt} (h : K f G M) : WC E .skip (thn K Q) f G M := WC.skip (thn_n h)
theorem WC.rt {E : Env} {f : Fr} {G : GH} {M : MH} {K : Kt} {Q : Exit → Kt} (h : Q .ret f G M) : WC E .ret (thn K Q) f G M := WC.ret (thn_r h)
theorem WD.dn {E : Env} {f : Fr} {G : GH} {M Mk : MH} {ops : Array Oper} {K : Kt} {Q : Exit → Kt} {fuel : Nat} {listed : Array Bool} (h : K f G M) (hr : Region.ready .any ops listed = [] := by kernel_rfl) : WD E ops fuel listed f G M Mk (thn K Q .normal) := WD.done hr (thn_n h)
theorem odt {p : Prop} [Decidable p] (h : decide p = true) : p := of_decide_eq_true h
theorem odf {p : Prop} [Decidable p] (h : decide p = false) : ¬ p := of_decide_eq_false h
theorem nk9 {G : GH} {n : Nd} {a1 a2 a3 a4 : Option Addr} {c1 c2 c3 c4 : Nat} (h1 : SlR eStr G (.slice a1 n.pivots.length c1) n.pivots) (h2 : SlR eInt G (.slice a2 n.kids.length c2) n.kids) (h3 : SlR eMsg G (.slice a3 n.msgs.length c3) n.msgs) (h4 : SlR ePair G (.slice a4 n.rows.length c4) n.rows) (h : n.Ok) :
    NodeC G [.int .i64 n.slot, .int .i64 n.level, .slice a1 n.pivots.length c1, .slice a2 n.kids.length c2, .string n.high.b, .bool n.top, .int .i64 n.right, .int .i64 n.seen, .slice a3 n.msgs.length c3, .slice a4 n.rows.length c4] n := ⟨_, _, _, _, _, _, _, _, rfl, h1, h2, h3, h4, h⟩
theorem nm9 {G G' : GH} {n : Nd} {a1 a2 a3 a4 : Option Addr} {c1 c2 c3 c4 : Nat} (hl : Le G G') (h1 : SlR eStr G (.slice a1 n.pivots.length c1) n.pivots) (h2 : SlR eInt G (.slice a2 n.kids.length c2) n.kids) (h3 : SlR eMsg G (.slice a3 n.msgs.length c3) n.msgs) (h4 : SlR ePair G (.slice a4 n.rows.length c4) n.rows) (h : n.Ok) :
    NodeC G' [.int .i64 n.slot, .int .i64 n.level, .slice a1 n.pivots.length c1, .slice a2 n.kids.length c2, .string n.high.b, .bool n.top, .int .i64 n.right, .int .i64 n.seen, .slice a3 n.msgs.length c3, .slice a4 n.rows.length c4] n := (nk9 h1 h2 h3 h4 h).mono hl
end Go.Fw
namespace Go.Proofs.YtgmnljhiojdigaaGreat
open Go Go.Fw
instance : TyK Tryz.prog 23 true 5 := ⟨ty23⟩
instance : SlK Tryz.prog 24 43 := ⟨sl24⟩
instance : TyK Tryz.prog 43 true 10 := ⟨ty43⟩
instance : StK Tryz.prog 9 := ⟨st9⟩
instance : SlK Tryz.prog 35 47 := ⟨sl35⟩
instance : TyK Tryz.prog 47 true 14 := ⟨ty47⟩
instance : FdK Tryz.prog 47 0 0 := ⟨fd47_0⟩
instance : FdK Tryz.prog 43 0 0 := ⟨fd43_0⟩
instance : TyK Tryz.prog 3 false 1 := ⟨ty3⟩
instance : FdK Tryz.prog 47 1 10 := ⟨fd47_1⟩
instance : TyK Tryz.prog 45 true 3 := ⟨ty45⟩
instance : FdK Tryz.prog 43 1 1 := ⟨fd43_1⟩
instance : BoK Tryz.prog 4 := ⟨bo4⟩
instance : SlK Tryz.prog 41 101 := ⟨sl41⟩
instance : TyK Tryz.prog 101 true 2 := ⟨ty101⟩
instance : TyK Tryz.prog 56 true 4 := ⟨ty56⟩
instance : SlK Tryz.prog 58 84 := ⟨sl58⟩
instance : TyK Tryz.prog 84 true 3 := ⟨ty84⟩
instance : FdK Tryz.prog 43 7 7 := ⟨fd43_7⟩
instance : FdK Tryz.prog 76 3 3 := ⟨fd76_3⟩
instance : FdK Tryz.prog 76 2 2 := ⟨fd76_2⟩
instance : TyK Tryz.prog 74 false 1 := ⟨ty74⟩
instance : FdK Tryz.prog 79 0 0 := ⟨fd79_0⟩
instance : TyK Tryz.prog 27 false 1 := ⟨ty27⟩
instance : FdK Tryz.prog 76 1 1 := ⟨fd76_1⟩
instance : TyK Tryz.prog 73 false 1 := ⟨ty73⟩
instance : FdK Tryz.prog 79 1 1 := ⟨fd79_1⟩
instance : FdK Tryz.prog 79 2 2 := ⟨fd79_2⟩
instance : TyK Tryz.prog 77 false 1 := ⟨ty77⟩
instance : FdK Tryz.prog 79 3 3 := ⟨fd79_3⟩
instance : FdK Tryz.prog 43 2 2 := ⟨fd43_2⟩
instance : TyK Tryz.prog 38 false 1 := ⟨ty38⟩
instance : FdK Tryz.prog 43 3 3 := ⟨fd43_3⟩
instance : TyK Tryz.prog 39 false 1 := ⟨ty39⟩
instance : SlK Tryz.prog 38 9 := ⟨sl38⟩
instance : TyK Tryz.prog 9 false 1 := ⟨ty9⟩
instance : SlK Tryz.prog 39 3 := ⟨sl39⟩
instance : FdK Tryz.prog 43 8 8 := ⟨fd43_8⟩
instance : TyK Tryz.prog 40 false 1 := ⟨ty40⟩
instance : SlK Tryz.prog 40 118 := ⟨sl40⟩
instance : TyK Tryz.prog 118 true 6 := ⟨ty118⟩
instance : FdK Tryz.prog 47 2 13 := ⟨fd47_2⟩
instance : SlK Tryz.prog 92 40 := ⟨sl92⟩
instance : FdK Tryz.prog 45 0 0 := ⟨fd45_0⟩
instance : FdK Tryz.prog 45 2 2 := ⟨fd45_2⟩
instance : TyK Tryz.prog 4 false 1 := ⟨ty4⟩
instance : FdK Tryz.prog 45 1 1 := ⟨fd45_1⟩
instance : FdK Tryz.prog 98 7 8 := ⟨fd98_7⟩
instance : FdK Tryz.prog 98 6 7 := ⟨fd98_6⟩
instance : FdK Tryz.prog 98 4 5 := ⟨fd98_4⟩
instance : TyK Tryz.prog 96 false 1 := ⟨ty96⟩
instance : FdK Tryz.prog 101 0 0 := ⟨fd101_0⟩
instance : FdK Tryz.prog 101 1 1 := ⟨fd101_1⟩
instance : FdK Tryz.prog 43 9 9 := ⟨fd43_9⟩
instance : TyK Tryz.prog 41 false 1 := ⟨ty41⟩
instance : FdK Tryz.prog 56 0 0 := ⟨fd56_0⟩
instance : TyK Tryz.prog 28 false 1 := ⟨ty28⟩
instance : FdK Tryz.prog 56 1 1 := ⟨fd56_1⟩
instance : FdK Tryz.prog 56 2 2 := ⟨fd56_2⟩
instance : FdK Tryz.prog 56 3 3 := ⟨fd56_3⟩
instance : FdK Tryz.prog 98 8 9 := ⟨fd98_8⟩
instance : FdK Tryz.prog 76 0 0 := ⟨fd76_0⟩
instance : TyK Tryz.prog 63 false 1 := ⟨ty63⟩
instance : FdK Tryz.prog 107 1 5 := ⟨fd107_1⟩
instance : TyK Tryz.prog 105 false 1 := ⟨ty105⟩
instance : FdK Tryz.prog 23 0 0 := ⟨fd23_0⟩
instance : FdK Tryz.prog 23 1 1 := ⟨fd23_1⟩
instance : FdK Tryz.prog 23 2 2 := ⟨fd23_2⟩
instance : FdK Tryz.prog 23 3 3 := ⟨fd23_3⟩
instance : FdK Tryz.prog 23 4 4 := ⟨fd23_4⟩
instance : FdK Tryz.prog 43 4 4 := ⟨fd43_4⟩
instance : FdK Tryz.prog 118 0 0 := ⟨fd118_0⟩
instance : FdK Tryz.prog 128 0 0 := ⟨fd128_0⟩
instance : TyK Tryz.prog 126 false 1 := ⟨ty126⟩
instance : SlK Tryz.prog 126 132 := ⟨sl126⟩
instance : TyK Tryz.prog 132 true 2 := ⟨ty132⟩
instance : FdK Tryz.prog 132 0 0 := ⟨fd132_0⟩
instance : FdK Tryz.prog 132 1 1 := ⟨fd132_1⟩
instance : FdK Tryz.prog 98 2 3 := ⟨fd98_2⟩
instance : TyK Tryz.prog 32 false 1 := ⟨ty32⟩
instance : FdK Tryz.prog 98 0 0 := ⟨fd98_0⟩
instance : FdK Tryz.prog 95 1 1 := ⟨fd95_1⟩
instance : FdK Tryz.prog 95 0 0 := ⟨fd95_0⟩
instance : FdK Tryz.prog 84 1 1 := ⟨fd84_1⟩
instance : FdK Tryz.prog 43 5 5 := ⟨fd43_5⟩
instance : FdK Tryz.prog 43 6 6 := ⟨fd43_6⟩
instance : FdK Tryz.prog 150 1 1 := ⟨fd150_1⟩
instance : TyK Tryz.prog 147 false 1 := ⟨ty147⟩
instance : SlK Tryz.prog 147 4 := ⟨sl147⟩
instance : FdK Tryz.prog 118 2 2 := ⟨fd118_2⟩
instance : FdK Tryz.prog 118 3 3 := ⟨fd118_3⟩
instance : FdK Tryz.prog 118 5 5 := ⟨fd118_5⟩
instance : FdK Tryz.prog 107 0 0 := ⟨fd107_0⟩
instance : FdK Tryz.prog 118 1 1 := ⟨fd118_1⟩
instance : FdK Tryz.prog 118 4 4 := ⟨fd118_4⟩
instance : FdK Tryz.prog 98 1 2 := ⟨fd98_1⟩
instance : FdK Tryz.prog 98 3 4 := ⟨fd98_3⟩
instance : FdK Tryz.prog 98 5 6 := ⟨fd98_5⟩
instance : TyK Tryz.prog 92 false 1 := ⟨ty92⟩
instance : FdK Tryz.prog 150 0 0 := ⟨fd150_0⟩
instance : TyK Tryz.prog 24 false 1 := ⟨ty24⟩
instance : FdK Tryz.prog 150 2 2 := ⟨fd150_2⟩
instance : TyK Tryz.prog 148 false 1 := ⟨ty148⟩
instance : SlK Tryz.prog 148 3 := ⟨sl148⟩
instance : FdK Tryz.prog 84 0 0 := ⟨fd84_0⟩
instance : SlK Tryz.prog 205 208 := ⟨sl205⟩
instance : TyK Tryz.prog 208 true 2 := ⟨ty208⟩
instance : TyK Tryz.prog 205 false 1 := ⟨ty205⟩
instance : FdK Tryz.prog 208 0 0 := ⟨fd208_0⟩
instance : TyK Tryz.prog 189 true 2 := ⟨ty189⟩
instance : FdK Tryz.prog 189 0 0 := ⟨fd189_0⟩
instance : FdK Tryz.prog 189 1 1 := ⟨fd189_1⟩
instance : FdK Tryz.prog 208 1 1 := ⟨fd208_1⟩
instance : MixK Tryz.prog := ⟨mix⟩
end Go.Proofs.YtgmnljhiojdigaaGreat
namespace Go.Proofs.YtgmnljhiojdigaaGreat
open Go Go.Fw Go.RowKit
attribute [local irreducible] Ok W WC
theorem less_fc {G : GH} (a : Str) (b : Str) :
    Fc Tryz.prog 43 [sV a.b, sV b.b] G [] (fun v _ _ => v = .bool (Str.lt a b)) := by
 have ha := a.le
 have hb := b.le
 refine Fc.go [.tmp 4] Tryz.func43 Tryz.ntmps43 rfl (fun w0 => (g9 12 ?_))
 refine WC.loop (X := Nat) (fun k => [(5, nt9 k), (0, sV a.b), (1, sV b.b)]) (fun k _ Ml => Ml = [] ∧ k ≤ a.b.size ∧ k ≤ b.b.size ∧ ∀ i, i < k → a.b[i]? = b.b[i]?) (fun k => a.b.size - k) 0 hs9 ?_ ?_
 ·exact ⟨rfl, om9, om9, fun i hi => by omega⟩
 rintro k gG1 G1 _ hG1 ⟨rfl, hk1, hk2, hk3⟩
 refine g9 8 ?_
 refine W.sd 10 (fun h9 p9 => ?_) (fun h9 p9 => ?_)
 ·refine g9 11 ?_
  refine WC.cd (fun h14 p14 => ?_) (fun h14 p14 => ?_)
  ·refine g9 8 ?_
   refine W.ok (ok_indexS (i := k) st9 rfl rfl ⟨om9, om9⟩) (g9 2 ?_)
   refine W.ok (ok_indexS (i := k) st9 rfl rfl ⟨om9, om9⟩) (g9 3 ?_)
   refine WC.cn (fun h24 p24 => ?_) (fun h24 p24 => ?_)
   ·refine g9 4 ?_
    refine W.ok (ok_indexS (i := k) st9 rfl rfl ⟨om9, om9⟩) (g9 2 ?_)
    refine W.ok (ok_indexS (i := k) st9 rfl rfl ⟨om9, om9⟩) (g9 11 ?_)
    exact congrArg Value.bool (blt_at hk3 _ _ om9)
   refine g9 9 ?_
   exact ⟨Le.rfl, k + 1, hs9, ⟨rfl, om9, om9, same_succ hk3 om9 om9 p24⟩, om9⟩
  refine g9 17 ?_
  exact congrArg Value.bool (blt_end hk3 om9 om9 om9)
 refine g9 25 ?_
 exact congrArg Value.bool (blt_end hk3 om9 om9 om9)

theorem has_fc {G : GH} (slo : Str) (shi : Str) (so : Bool) (k : Str) :
    Fc Tryz.prog 11 [.agg #[sV slo.b, sV shi.b, .bool so], sV k.b] G [] (fun v _ _ => v = .bool (Span.has ⟨slo, shi, so⟩ k)) := by
 refine Fc.go [.tmp 4] Tryz.func11 Tryz.ntmps11 rfl (fun w0 => (g9 2 ?_))
 refine W.box (L := [sV _, sV _, .bool _]) rfl rfl (fun b2 => (g9 8 ?_))
 refine W.qcall (less_fc _ _) rfl (g9 2 ?_)
 refine W.sp 10 rfl (fun h9 => ?_) (fun h9 => ?_)
 ·refine g9 6 ?_
  refine W.sp 13 rfl (fun ha_so => ?_) (fun ha_so => ?_)
  ·refine g9 12 ?_
   refine congrArg Value.bool ?_
   simp_all [Span.has]
  refine g9 7 ?_
  refine W.qcall (less_fc _ _) rfl (g9 8 ?_)
  refine congrArg Value.bool ?_
  simp_all [Span.has]
 refine g9 14 ?_
 refine congrArg Value.bool ?_
 simp_all [Span.has]

theorem empty_fc {G : GH} (slo : Str) (shi : Str) (so : Bool) :
    Fc Tryz.prog 94 [.agg #[sV slo.b, sV shi.b, .bool so]] G [] (fun v _ _ => v = .bool (Span.empty ⟨slo, shi, so⟩)) := by
 refine Fc.go [.tmp 2] Tryz.func94 Tryz.ntmps94 rfl (fun w0 => (g9 2 ?_))
 refine W.box (L := [sV _, sV _, .bool _]) rfl rfl (fun b3 => (g9 8 ?_))
 refine W.qcall (has_fc _ _ _ _) rfl (g9 6 ?_)
 refine congrArg Value.bool ?_
 exact Span.empty_eq ⟨slo, shi, so⟩

theorem norm_fc {G : GH} (slo : Str) (shi : Str) (so : Bool) :
    Fc Tryz.prog 68 [.agg #[sV slo.b, sV shi.b, .bool so]] G [] (fun v _ _ => v = .agg (List.toArray ((Span.norm ⟨slo, shi, so⟩ : Span).cells))) := by
 refine Fc.go [.cell 2 45] Tryz.func68 Tryz.ntmps68 rfl (fun w0 => (g9 2 ?_))
 refine W.box (L := [sV _, sV _, .bool _]) rfl rfl (fun b4 => (W.alloc zr45 (fun b5 => (g9 6 ?_))))
 refine W.qcall (empty_fc _ _ _) rfl (g9 2 ?_)
 refine WC.cond rfl (fun h4 => ?_) (fun h4 => ?_)
 ·refine g9 2 ?_
  refine W.ok (ok_build (L := [sV _, sV _, .bool _]) pl45 zr45 rfl rfl rfl) (g9 6 ?_)
  refine congrArg (fun l => Value.agg (List.toArray l)) ?_
  show [Value.string _, Value.string _, Value.bool _] = _
  simp_all [Span.norm, Span.cells, Span.zero, Str.nil, setAt]
 refine g9 9 ?_
 refine WC.cond rfl (fun ha_so => ?_) (fun ha_so => ?_)
 ·refine g9 13 ?_
  refine congrArg (fun l => Value.agg (List.toArray l)) ?_
  show [Value.string _, Value.string _, Value.bool _] = _
  simp_all [Span.norm, Span.cells, Span.zero, Str.nil, setAt]
 refine g9 10 ?_
 refine congrArg (fun l => Value.agg (List.toArray l)) ?_
 show [Value.string _, Value.string _, Value.bool _] = _
 simp_all [Span.norm, Span.cells, Span.zero, Str.nil, setAt]

theorem spanall_fc {G : GH}  :
    Fc Tryz.prog 132 [] G [] (fun v _ _ => v = .agg (List.toArray ((Span.all : Span).cells))) := by
 refine Fc.go [.cell 0 45] Tryz.func132 Tryz.ntmps132 rfl (fun w0 => (g9 2 ?_))
 refine W.alloc zr45 (fun b6 => (g9 4 ?_))
 refine W.ok (ok_build (L := [sV _, sV _, .bool _]) pl45 zr45 rfl rfl rfl) (g9 5 ?_)
 rfl

theorem spanempty_fc {G : GH} (slo : Str) (shi : Str) (so : Bool) :
    Fc Tryz.prog 144 [.agg #[sV slo.b, sV shi.b, .bool so]] G [] (fun v _ _ => v = .bool (Span.empty ⟨slo, shi, so⟩)) := by
 refine Fc.go [.tmp 2] Tryz.func144 Tryz.ntmps144 rfl (fun w0 => (g9 2 ?_))
 refine W.box (L := [sV _, sV _, .bool _]) rfl rfl (fun b7 => (g9 9 ?_))
 refine W.sp 6 rfl (fun h5 => ?_) (fun h5 => ?_)
 ·refine g9 9 ?_
  refine W.ok (ok_geqS rfl rfl) (g9 6 ?_)
  refine congrArg Value.bool ?_
  simp_all [Span.empty, Str.lt]
 refine g9 11 ?_
 refine congrArg Value.bool ?_
 simp_all [Span.empty, Str.lt]

theorem spannorm_fc {G : GH} (slo : Str) (shi : Str) (so : Bool) :
    Fc Tryz.prog 133 [.agg #[sV slo.b, sV shi.b, .bool so]] G [] (fun v _ _ => v = .agg (List.toArray ((Span.norm ⟨slo, shi, so⟩ : Span).cells))) := by
 refine Fc.go [.cell 2 45] Tryz.func133 Tryz.ntmps133 rfl (fun w0 => (g9 2 ?_))
 refine W.box (L := [sV _, sV _, .bool _]) rfl rfl (fun b8 => (W.alloc zr45 (fun b9 => (g9 7 ?_))))
 refine W.qcall (spanempty_fc _ _ _) rfl (g9 3 ?_)
 refine WC.cond rfl (fun h5 => ?_) (fun h5 => ?_)
 ·refine g9 2 ?_
  refine W.ok (ok_build (L := [sV _, sV _, .bool _]) pl45 zr45 rfl rfl rfl) (g9 7 ?_)
  refine congrArg (fun l => Value.agg (List.toArray l)) ?_
  show [Value.string _, Value.string _, Value.bool _] = _
  simp_all [Span.norm, Span.cells, Span.zero, Str.nil, setAt]
 refine g9 7 ?_
 refine WC.cond rfl (fun ha_so => ?_) (fun ha_so => ?_)
 ·refine g9 14 ?_
  refine congrArg (fun l => Value.agg (List.toArray l)) ?_
  show [Value.string _, Value.string _, Value.bool _] = _
  simp_all [Span.norm, Span.cells, Span.zero, Str.nil, setAt]
 refine g9 11 ?_
 refine congrArg (fun l => Value.agg (List.toArray l)) ?_
 show [Value.string _, Value.string _, Value.bool _] = _
 simp_all [Span.norm, Span.cells, Span.zero, Str.nil, setAt]

theorem spanhas_fc {G : GH} (slo : Str) (shi : Str) (so : Bool) (k : Str) :
    Fc Tryz.prog 118 [.agg #[sV slo.b, sV shi.b, .bool so], sV k.b] G [] (fun v _ _ => v = .bool (Span.has ⟨slo, shi, so⟩ k)) := by
 refine Fc.go [.tmp 4] Tryz.func118 Tryz.ntmps118 rfl (fun w0 => (g9 2 ?_))
 refine W.box (L := [sV _, sV _, .bool _]) rfl rfl (fun b10 => (g9 8 ?_))
 refine W.ok (ok_geqS rfl rfl) (W.mv ?_)
 refine W.sp 9 rfl (fun h8 => ?_) (fun h8 => ?_)
 ·refine g9 6 ?_
  refine W.sp 12 rfl (fun ha_so => ?_) (fun ha_so => ?_)
  ·refine g9 12 ?_
   refine congrArg Value.bool ?_
   simp_all [Span.has, Str.lt]
  refine g9 16 ?_
  refine congrArg Value.bool ?_
  simp_all [Span.has, Str.lt]
 refine g9 14 ?_
 refine congrArg Value.bool ?_
 simp_all [Span.has, Str.lt]

theorem rising_fc {G : GH} {v_l : Value} {l : List Str} (h_l : SlR eStr G v_l l) :
    Fc Tryz.prog 67 [v_l] G [] (fun v _ _ => v = .bool (rising l)) := by
 obtain ⟨sa_l, sc_l, rfl⟩ := h_l.form
 have hl := h_l.len47
 refine Fc.go [.tmp 2] Tryz.func67 Tryz.ntmps67 rfl (fun w0 => (g9 12 ?_))
 refine WC.loop (X := Nat) (fun k => [(3, nt9 (k + 1)), (0, lV sa_l l.length sc_l)]) (fun k _ Ml => Ml = [] ∧ ∀ i (h : i + 1 < l.length), i < k → l[i].lt l[i + 1] = true) (fun k => l.length - k) 0 hs9 ?_ ?_
 ·exact ⟨rfl, fun i _ h => by omega⟩
 rintro k gG11 G11 _ hG11 ⟨rfl, hk⟩
 refine g9 9 ?_
 refine WC.cd (fun h7 p7 => ?_) (fun h7 p7 => ?_)
 ·refine g9 9 ?_
  refine (h_l.mono hG11).a1 (i := k) om9 (fun he12 => (W.ok (ok_indexAddr (i := k) sl38 ty9 (h_l.mono hG11) rfl rfl ⟨om9, om9⟩) (g9 3 ?_)))
  refine (h_l.mono hG11).a1 (i := k + 1) om9 (fun he15 => (W.ok (ok_indexAddr (i := k + 1) sl38 ty9 (h_l.mono hG11) rfl rfl ⟨om9, om9⟩) (g9 1 ?_)))
  refine W.qcall (less_fc _ _) rfl (g9 3 ?_)
  refine WC.cond rfl (fun h20 => ?_) (fun h20 => ?_)
  ·refine g9 12 ?_
   refine congrArg Value.bool ?_
   exact (rising_not (i := k) om9 (by simpa using h20)).symm
  refine g9 9 ?_
  exact ⟨Le.rfl, k + 1, hs9, ⟨rfl, fun i h hi => by
      by_cases e : i = k
      · subst e; simpa using h20
      · exact hk i h om9⟩, om9⟩
 refine g9 12 ?_
 refine congrArg Value.bool ?_
 exact (rising_iff.2 (fun i h => hk i h om9)).symm

theorem rright_fc {G : GH} {v_p : Value} {p : List Str} (h_p : SlR eStr G v_p p) {v_c : Value} {c : List Int} (h_c : SlR eInt G v_c c) :
    Fc Tryz.prog 38 [v_p, v_c] G [] (fun v _ _ => v = .bool (rightN p c.length)) := by
 obtain ⟨sa_p, sc_p, rfl⟩ := h_p.form
 obtain ⟨sa_c, sc_c, rfl⟩ := h_c.form
 have hc := h_c.len47
 have hp := h_p.len47
 refine Fc.go [.tmp 4] Tryz.func38 Tryz.ntmps38 rfl (fun w0 => (g9 8 ?_))
 refine W.qcall (rising_fc h_p) rfl (W.mv ?_)
 refine W.sp 7 rfl (fun h6 => ?_) (fun h6 => ?_)
 ·refine g9 18 ?_
  refine congrArg Value.bool ?_
  simp only [rightN, h6, Bool.true_and, Bool.false_and]
  rw [decide_eq_decide]; omega
 refine g9 12 ?_
 refine congrArg Value.bool ?_
 simp only [rightN, h6, Bool.true_and, Bool.false_and]

theorem isnan_fc {G : GH} (a : Str) :
    Fc Tryz.prog 145 [sV a.b] G [] (fun v _ _ => v = .bool (false)) := by
 refine Fc.go [.tmp 2] Tryz.func145 Tryz.ntmps145 rfl (fun w0 => (g9 15 ?_))
 refine congrArg Value.bool ?_
 simp

theorem sisnan_fc {G : GH} (a : Str) :
    Fc Tryz.prog 135 [sV a.b] G [] (fun v _ _ => v = .bool (false)) := by
 refine Fc.go [.tmp 2] Tryz.func135 Tryz.ntmps135 rfl (fun w0 => (g9 15 ?_))
 refine congrArg Value.bool ?_
 simp

theorem cmpless_fc {G : GH} (a : Str) (b : Str) :
    Fc Tryz.prog 134 [sV a.b, sV b.b] G [] (fun v _ _ => v = .bool (Str.lt a b)) := by
 refine Fc.go [.tmp 4] Tryz.func134 Tryz.ntmps134 rfl (fun w0 => (g9 8 ?_))
 refine W.qcall (isnan_fc _) rfl (W.mv ?_)
 refine W.sp 7 rfl (fun h6 => ?_) (fun h6 => ?_)
 ·cases h6
 refine g9 17 ?_
 refine congrArg Value.bool ?_
 rfl

theorem bsearch_fc {G : GH} {v_l : Value} {l : List Str} (h_l : SlR eStr G v_l l) (k : Str) (hr : rising l = true) :
    Fc Tryz.prog 120 [v_l, sV k.b] G [] (fun v _ _ => v = .tuple #[iV (((lowerN l k : Nat) : Int)), .bool (decide (l[lowerN l k]? = some k))]) := by
 obtain ⟨sa_l, sc_l, rfl⟩ := h_l.form
 have hlen := h_l.len47
 refine Fc.go [.tmp 4, .tmp 5] Tryz.func120 Tryz.ntmps120 rfl (fun w0 => (g9 22 ?_))
 refine WC.loop (X := Nat × Nat) (fun x => [(6, nt9 l.length), (7, nt9 x.1), (8, nt9 x.2), (0, lV sa_l l.length sc_l), (1, sV k.b)]) (fun x _ Ml => Ml = [] ∧ x.1 ≤ x.2 ∧ x.2 ≤ l.length ∧ (∀ q (h : q < l.length), q < x.1 → l[q].lt k = true) ∧ (∀ q (h : q < l.length), x.2 ≤ q → l[q].lt k = false)) (fun x => x.2 - x.1) (0, l.length) hs9 ?_ ?_
 ·exact ⟨rfl, by simp, by simp, (fun q _ h => by simp at h), (fun q h h' => by simp at h'; omega)⟩
 rintro ⟨i, j⟩ gG18 G18 _ hG18 ⟨rfl, hi, hj, h1, h2⟩
 dsimp only at hi hj h1 h2
 refine g9 8 ?_
 refine WC.cd (fun h15 p15 => ?_) (fun h15 p15 => ?_)
 ·refine g9 8 ?_
  refine W.ok (ok_convU un3 un31 rfl om9) (W.ok (ok_shr1 rfl rfl om9) (W.ok (ok_convI un31 un3 rfl om9) (g9 7 ?_)))
  refine (h_l.mono hG18).a1 (i := (i + j) / 2) om9 (fun he19 => (W.ok (ok_indexAddr (i := (i + j) / 2) sl38 ty9 (h_l.mono hG18) rfl rfl ⟨by dsimp only; omega, om9⟩) (g9 2 ?_)))
  refine W.qcall (cmpless_fc _ _) rfl (g9 2 ?_)
  refine WC.cond rfl (fun h27 => ?_) (fun h27 => ?_)
  ·refine g9 7 ?_
   exact ⟨Le.rfl, ((i + j) / 2 + 1, j), hs9, ⟨rfl, by dsimp only; omega, by dsimp only; omega, (fun q h hq => rising_below hr om9 h27 q h (by dsimp only at hq; omega)), h2⟩, by dsimp only; omega⟩
  refine g9 6 ?_
  exact ⟨Le.rfl, (i, (i + j) / 2), hs9, ⟨rfl, by dsimp only; omega, by dsimp only; omega, h1, (fun q h hq => rising_above hr om9 h27 q h (by dsimp only at hq; omega))⟩, by dsimp only; omega⟩
 refine g9 12 ?_
 refine W.sd 35 (fun h34 p34 => ?_) (fun h34 p34 => ?_)
 ·refine g9 5 ?_
  refine (h_l.mono hG18).a1 (i := i) om9 (fun he22 => (g9 9 ?_))
  refine W.sd 42 (fun h41 p41 => ?_) (fun h41 p41 => ?_)
  ·refine g9 18 ?_
   have hlow : lowerN l k = i := lower_split om9 h1 (fun q h hq => h2 q h om9)
   refine tup2 (by rw [hlow]) ?_
   rw [hlow]
   simp only [Str.b_inj] at p41
   rw [List.getElem?_eq_getElem om9]
   simp [p41]
  refine g9 5 ?_
  refine (h_l.mono hG18).a1 (i := i) om9 (fun he25 => (g9 4 ?_))
  refine W.qcall (sisnan_fc _) rfl (g9 2 ?_)
  refine W.sp 48 rfl (fun h47 => ?_) (fun h47 => ?_)
  ·cases h47
  refine g9 13 ?_
  have hlow : lowerN l k = i := lower_split om9 h1 (fun q h hq => h2 q h om9)
  refine tup2 (by rw [hlow]) ?_
  rw [hlow]
  simp only [Str.b_inj] at p41
  rw [List.getElem?_eq_getElem om9]
  simp [p41]
 refine g9 24 ?_
 have hlow : lowerN l k = i := lower_split om9 h1 (fun q h hq => h2 q h om9)
 refine tup2 (by rw [hlow]) ?_
 rw [hlow]
 rw [List.getElem?_eq_none om9] <;> simp

theorem broute_fc {G : GH} {v_l : Value} {l : List Str} (h_l : SlR eStr G v_l l) (k : Str) (hr : rising l = true) :
    Fc Tryz.prog 96 [v_l, sV k.b] G [] (fun v _ _ => v = iV (((routeN l k : Nat) : Int))) := by
 obtain ⟨sa_l, sc_l, rfl⟩ := h_l.form
 have hlo := lowerN_le l k
 have hlen := h_l.len47
 refine Fc.go [.tmp 4] Tryz.func96 Tryz.ntmps96 rfl (fun w0 => (g9 9 ?_))
 refine W.qcall (bsearch_fc h_l _ (by assumption)) rfl (g9 13 ?_)
 refine WC.cond rfl (fun h10_1 => ?_) (fun h10_1 => ?_)
 ·refine g9 14 ?_
  exact iv (route_lower_yes hr (odt h10_1))
 refine g9 10 ?_
 exact iv (route_lower_no hr (odf h10_1))

theorem rrange_fc {G : GH} {v_l : Value} {l : List Str} (h_l : SlR eStr G v_l l) (i : Int) (hi : i64 i) :
    Fc Tryz.prog 40 [v_l, iV i] G [] (fun v _ _ => v = .agg (List.toArray ((rangeN l i : Span).cells))) := by
 obtain ⟨sa_l, sc_l, rfl⟩ := h_l.form
 have hl := h_l.len47
 obtain ⟨hi1, hi2⟩ := hi
 refine Fc.go [.cell 4 45] Tryz.func40 Tryz.ntmps40 rfl (fun w0 => (g9 2 ?_))
 refine W.alloc zr45 (fun b28 => (g9 4 ?_))
 refine W.ok (ok_build (L := [sV _, sV _, .bool _]) pl45 zr45 rfl rfl rfl) (W.alloc zr45 (fun b29 => (g9 9 ?_)))
 refine W.sd 9 (fun h8 p8 => ?_) (fun h8 p8 => ?_)
 ·refine g9 10 ?_
  refine W.ok (ok_build (L := [sV _, sV _, .bool _]) pl45 zr45 rfl rfl rfl) (g9 6 ?_)
  refine congrArg (fun l => Value.agg (List.toArray l)) ?_
  show [Value.string _, Value.string _, Value.bool _] = _
  rw [rangeN_out om9]; rfl
 refine g9 11 ?_
 refine WC.cd (fun h13 p13 => ?_) (fun h13 p13 => ?_)
 ·refine g9 2 ?_
  refine W.ok (ok_build (L := [sV _, sV _, .bool _]) pl45 zr45 rfl rfl rfl) (g9 6 ?_)
  refine congrArg (fun l => Value.agg (List.toArray l)) ?_
  show [Value.string _, Value.string _, Value.bool _] = _
  rw [rangeN_out om9]; rfl
 refine g9 9 ?_
 refine WC.cd (fun h17 p17 => ?_) (fun h17 p17 => ?_)
 ·refine g9 4 ?_
  refine h_l.a1 (i := (i - 1).toNat) om9 (fun he30 => (W.ok (ok_indexAddr (i := (i - 1).toNat) sl38 ty9 h_l rfl rfl ⟨om9, om9⟩) (g9 14 ?_)))
  refine WC.cd (fun h27 p27 => ?_) (fun h27 p27 => ?_)
  ·refine g9 9 ?_
   refine h_l.a1 (i := i.toNat) om9 (fun he33 => (W.ok (ok_indexAddr (i := i.toNat) sl38 ty9 h_l rfl rfl ⟨om9, om9⟩) (g9 8 ?_)))
   refine W.qcall (norm_fc _ _ _) rfl (g9 5 ?_)
   exact congrArg (fun s : Span => Value.agg (List.toArray s.cells)) (rangeN_tt p17 p27 om9 om9)
  refine g9 5 ?_
  refine W.qcall (norm_fc _ Str.nil _) rfl (g9 5 ?_)
  exact congrArg (fun s : Span => Value.agg (List.toArray s.cells)) (rangeN_tf p17 p27 om9 om9)
 refine g9 11 ?_
 refine WC.cd (fun h27 p27 => ?_) (fun h27 p27 => ?_)
 ·refine g9 9 ?_
  refine h_l.a1 (i := i.toNat) om9 (fun he36 => (W.ok (ok_indexAddr (i := i.toNat) sl38 ty9 h_l rfl rfl ⟨om9, om9⟩) (g9 8 ?_)))
  refine W.qcall (norm_fc Str.nil _ _) rfl (g9 5 ?_)
  exact congrArg (fun s : Span => Value.agg (List.toArray s.cells)) (rangeN_ft om9 p17 p27 om9)
 refine g9 5 ?_
 refine W.qcall (norm_fc Str.nil Str.nil _) rfl (g9 5 ?_)
 exact congrArg (fun s : Span => Value.agg (List.toArray s.cells)) (rangeN_ff om9 p17 p27 om9)

theorem rlong_fc {G : GH} {v_l : Value} {l : List Str} (h_l : SlR eStr G v_l l) (m : Int) (hm : 0 ≤ m ∧ m ≤ 1073741824) :
    Fc Tryz.prog 53 [v_l, iV m] G [] (fun v _ _ => v = iV (longN l 0 m)) := by
 obtain ⟨sa_l, sc_l, rfl⟩ := h_l.form
 have hl := h_l.len47
 refine Fc.go [.tmp 4] Tryz.func53 Tryz.ntmps53 rfl (fun w0 => (g9 17 ?_))
 refine WC.loop (X := Nat × Int) (fun x => [(5, iV x.2), (6, nt9 x.1), (0, lV sa_l l.length sc_l), (1, iV m)]) (fun x _ Ml => Ml = [] ∧ x.1 ≤ l.length ∧ 0 ≤ x.2 ∧ x.2 ≤ 140738562097154 ∧ longN (l.drop x.1) x.2 m = longN l 0 m) (fun x => l.length - x.1) (0, 0) hs9 ?_ ?_
 ·exact ⟨rfl, by simp, by simp, by simp, by simp⟩
 rintro ⟨k, n⟩ gG39 G39 _ hG39 ⟨rfl, hk, hn, hn2, hlg⟩
 dsimp only at hk hn hn2 hlg
 refine g9 8 ?_
 refine W.sd 11 (fun h10 p10 => ?_) (fun h10 p10 => ?_)
 ·refine g9 9 ?_
  refine WC.cd (fun h14 p14 => ?_) (fun h14 p14 => ?_)
  ·refine g9 8 ?_
   refine (h_l.mono hG39).a1 (i := k) om9 (fun he40 => (g9 3 ?_))
   refine W.ok (ok_add rfl rfl (by have := (l[k]).le; omega)) (W.ok (ok_add rfl rfl (by have := (l[k]).le; dsimp only; omega)) (g9 10 ?_))
   exact ⟨Le.rfl, (k + 1, n + (((l[k]).b.size : Nat) + 1)), hs9, ⟨rfl, by dsimp only; omega, by dsimp only; omega, by have := (l[k]).le; dsimp only; omega, (longN_step om9 p14).symm.trans hlg⟩, by dsimp only; omega⟩
  refine g9 13 ?_
  refine congrArg (Value.int .i64) ?_
  rw [← hlg]
  exact (longN_stop om9).symm
 refine g9 20 ?_
 refine congrArg (Value.int .i64) ?_
 rw [← hlg]
 rw [List.drop_eq_nil_of_le om9]; rfl

end Go.Proofs.YtgmnljhiojdigaaGreat

namespace Go.Fw
open Go Go.RowKit
structure VEnc (α : Type) where
 R : GH → Value → α → Prop
 mono : ∀ {G G' : GH} {v a}, Le G G' → R G v a → R G' v a
section
variable {α : Type}
def MpE (V : VEnc α) (G : GH) : List MapEntry → List (Int × α) → Prop
 | [], [] => True
 | e :: es, p :: m => e.key = .int .i64 p.1 ∧ V.R G e.val p.2 ∧ MpE V G es m
 | _, _ => False
theorem MpE.mono {V : VEnc α} {G G' : GH} (hl : Le G G') : ∀ {es : List MapEntry} {m : List (Int × α)}, MpE V G es m → MpE V G' es m
 | [], [], _ => trivial
 | e :: es, p :: m, h => ⟨h.1, V.mono hl h.2.1, h.2.2.mono hl⟩
 | [], _ :: _, h => h.elim
 | _ :: _, [], h => h.elim
def getM (m : List (Int × α)) (k : Int) : Option α := (m.find? fun p => decide (p.1 = k)).map (·.2)
def putM : List (Int × α) → Int → α → List (Int × α)
 | [], k, a => [(k, a)]
 | p :: m, k, a => if p.1 = k then (k, a) :: m else p :: putM m k a
def delM : List (Int × α) → Int → List (Int × α)
 | [], _ => []
 | p :: m, k => if p.1 = k then m else p :: delM m k
theorem getM_cons (p : Int × α) (m : List (Int × α)) (k : Int) : getM (p :: m) k = if p.1 = k then some p.2 else getM m k := by
 unfold getM
 by_cases h : p.1 = k
 ·rw [List.find?_cons_of_pos (by simpa using h), if_pos h]; rfl
 ·rw [List.find?_cons_of_neg (by simpa using h), if_neg h]
theorem getM_put : ∀ (m : List (Int × α)) (k : Int) (a : α) (j : Int), getM (putM m k a) j = if j = k then some a else getM m j
 | [], k, a, j => by
  rw [putM, getM_cons]
  by_cases h : k = j
  ·rw [if_pos h, if_pos h.symm]
  ·rw [if_neg h, if_neg (fun e => h e.symm)]
 | p :: m, k, a, j => by
  rw [putM]
  by_cases hp : p.1 = k
  ·rw [if_pos hp, getM_cons, getM_cons]
   by_cases h : k = j
   ·rw [if_pos h, if_pos h.symm]
   ·rw [if_neg h, if_neg (fun e => h e.symm), if_neg (by rw [hp]; exact h)]
  ·rw [if_neg hp, getM_cons, getM_cons, getM_put m k a j]
   by_cases h : p.1 = j
   ·rw [if_pos h, if_pos h, if_neg (fun e => hp (h.trans e))]
   ·rw [if_neg h, if_neg h]
theorem same_int (k j : Int) : Instr.sameNow (.int .i64) (.int .i64 k) (.int .i64 j) = some (k == j) := by simp [Instr.sameNow]
theorem find_mp {V : VEnc α} {G : GH} {k : Int} : ∀ {es : List MapEntry} {m : List (Int × α)} (i : Nat), MpE V G es m →
  (getM m k = none ∧ Instr.findNow (.int .i64) (.int .i64 k) es i = some none ∧ (∀ x a n, V.R G x a → MpE V G (es ++ [⟨.int .i64 k, x, n⟩]) (putM m k a)) ∧ delM m k = m) ∨
  ∃ j e a, getM m k = some a ∧ es[j]? = some e ∧ Instr.findNow (.int .i64) (.int .i64 k) es i = some (some (i + j, e.val)) ∧ e.key = .int .i64 k ∧ V.R G e.val a ∧
   (∀ x b, V.R G x b → MpE V G (es.modify j fun e => { e with key := .int .i64 k, val := x }) (putM m k b)) ∧ MpE V G (es.eraseIdx j) (delM m k)
 | [], [], i, _ => .inl ⟨rfl, rfl, fun x a n hx => ⟨rfl, hx, trivial⟩, rfl⟩
 | e :: es, p :: m, i, h => by
  by_cases hk : p.1 = k
  ·refine .inr ⟨0, e, p.2, by rw [getM_cons, if_pos hk], rfl, ?_, by rw [h.1, hk], h.2.1, fun x b hx => ?_, ?_⟩
   ·rw [Instr.findNow, h.1, same_int, hk]; simp
   ·rw [putM, if_pos hk]
    simp only [List.modify_zero_cons]
    exact ⟨rfl, hx, h.2.2⟩
   ·rw [delM, if_pos hk]; exact h.2.2
  ·have hf : ∀ i, Instr.findNow (.int .i64) (.int .i64 k) (e :: es) i = Instr.findNow (.int .i64) (.int .i64 k) es (i + 1) := fun i => by
    rw [Instr.findNow, h.1, same_int]
    have : (k == p.1) = false := by simpa using fun e => hk e.symm
    rw [this]
   rcases find_mp (V := V) (k := k) (i + 1) h.2.2 with ⟨h1, h2, h3, h4⟩ | ⟨j, e', a, h1, h2, h3, h4, h5, h6, h7⟩
   ·refine .inl ⟨by rw [getM_cons, if_neg hk]; exact h1, by rw [hf]; exact h2, fun x a n hx => ?_, by rw [delM, if_neg hk, h4]⟩
    rw [putM, if_neg hk]
    exact ⟨h.1, h.2.1, h3 x a n hx⟩
   ·refine .inr ⟨j + 1, e', a, by rw [getM_cons, if_neg hk]; exact h1, by simpa using h2, by rw [hf, h3]; congr 3; omega, h4, h5, fun x b hx => ?_, ?_⟩
    ·rw [putM, if_neg hk]
     simp only [List.modify_succ_cons]
     exact ⟨h.1, h.2.1, h6 x b hx⟩
    ·rw [delM, if_neg hk]
     exact ⟨h.1, h.2.1, h7⟩
 | [], _ :: _, _, h => h.elim
 | _ :: _, [], _, h => h.elim
def mapIK (P : Program) (t : TypeId) : Option TypeId :=
 match P.underlying t with
 | some (.map kt e) => match P.underlying kt with
  | some (.int .i64) => some e
  | _ => none
 | _ => none
theorem mapIK_ok {P : Program} {t e : TypeId} (h : mapIK P t = some e) : ∃ kt, P.underlying t = some (.map kt e) ∧ P.underlying kt = some (.int .i64) ∧ ∀ b n v (w : World), (Instr.checkKey b (n + 1) kt v).run P w = .ok () w := by
 unfold mapIK at h
 split at h
 ·rename_i kt e' h1
  split at h
  ·rename_i h2
   cases h
   refine ⟨kt, h1, h2, fun b n v w => ?_⟩
   simp only [Instr.checkKey, Sem.run_bind, run_underlying h2, Result.andThen_ok]
   rfl
  ·cases h
 ·cases h
def MpR (V : VEnc α) (b : Nat) (G : GH) (m : List (Int × α)) (M : MH) : Prop := ∃ (es : List MapEntry) (clock : Nat), M = [(b, .map es.toArray clock)] ∧ MpE V G es m
theorem MpR.mono {V : VEnc α} {b : Nat} {G G' : GH} {m : List (Int × α)} {M : MH} (hl : Le G G') (h : MpR V b G m M) : MpR V b G' m M := by
 obtain ⟨es, c, h1, h2⟩ := h; exact ⟨es, c, h1, h2.mono hl⟩
end
section
variable {α : Type} {E : Env} {f : Fr} {G : GH} {M Mk Ms Mr : MH} {ops rest : List Oper} {q : Bool} {K : Kt} {d : Nat} {ty : TypeId} {pos : String} {aft : Array Edge} {t et : TypeId} {x y kk : Operand} {b : Nat} {k : Int} {m : List (Int × α)} {V : VEnc α}
def zvK (P : Program) (t : TypeId) : Option Value := (P.info? t).bind (·.zero)
theorem look_run {P : Program} {es : List MapEntry} {clock : Nat} {z0 : Value} {z : α} (ht : mapIK P t = some et) (hz : zvK P et = some z0) (hzz : V.R G z0 z) (he : MpE V G es m) :
  ∃ v, V.R G v ((getM m k).getD z) ∧ ∀ (w : World) (ok : Bool), w.heap[b]? = some (.map es.toArray clock) → (Instr.lookup t (.map (some b)) (.int .i64 k) ok).run P w = .ok (if ok = true then .tuple #[v, .bool (getM m k).isSome] else v) w := by
 obtain ⟨kt, h1, h2, h3⟩ := mapIK_ok ht
 have hzv : ∀ w, (zeroValue et).run P w = .ok z0 w := fun w => by
  unfold zvK at hz
  cases hi : P.info? et with
  | none => rw [hi] at hz; cases hz
  | some info => rw [hi] at hz; simp at hz; simp [zeroValue, typeInfo, hi, hz]
 rcases find_mp (k := k) 0 he with ⟨g1, g2, _, _⟩ | ⟨j, e, a, g1, g2, g3, g4, g5, _, _⟩
 ·refine ⟨z0, by rw [g1]; exact hzz, fun w ok hb => ?_⟩
  have hgo := MapKept.run_getObj_map (P := P) hb
  have hfk := MapKept.run_findKey (P := P) (w := w) h2 g2
  simp only [Instr.lookup, Sem.run_bind, run_underlying h1, Result.andThen_ok, hgo, Sem.run_pure]
  rw [h3]
  simp only [Result.andThen_ok]
  rw [hfk, g1]
  simp [hzv]
 ·refine ⟨e.val, by rw [g1]; exact g5, fun w ok hb => ?_⟩
  have hgo := MapKept.run_getObj_map (P := P) hb
  have hfk := MapKept.run_findKey (P := P) (w := w) h2 g3
  simp only [Instr.lookup, Sem.run_bind, run_underlying h1, Result.andThen_ok, hgo, Sem.run_pure]
  rw [h3]
  simp only [Result.andThen_ok]
  rw [hfk, g1]
  simp
theorem mem_own {es : List MapEntry} {clock : Nat} (hp : ([(b, Obj.map es.toArray clock)] ++ Mr).Perm M) {w : World} (hr : E.real G M w) : w.heap[b]? = some (.map es.toArray clock) :=
 hr.r.mu (b, .map es.toArray clock) (hp.mem_iff.1 (by simp))
theorem look_own {z0 : Value} {z : α} {ok : Bool} (ht : mapIK E.P t = some et) (hz : zvK E.P et = some z0) (hzz : V.R G z0 z) (hx : ev f x = .map (some b)) (hk : ev f kk = .int .i64 k) (hm : MpR V b G m Ms) (hp : (Ms ++ Mr).Perm M) :
  ∃ v, V.R G v ((getM m k).getD z) ∧ Ok E f G M ⟨some d, .lookup t x kk ok, ty, pos, aft, none⟩ (if ok = true then .tuple #[v, .bool (getM m k).isSome] else v) := by
 obtain ⟨es, clock, rfl, he⟩ := hm
 obtain ⟨v, h1, h2⟩ := look_run (b := b) (clock := clock) (k := k) ht hz hzz he
 refine ⟨v, h1, fun w hr => ?_⟩
 have := h2 w ok (mem_own hp hr)
 simp [execOp, hx, hk, this]
theorem setMap_real {es : List MapEntry} {clock : Nat} {o : Obj} {w : World} (hr : E.real G ((b, Obj.map es.toArray clock) :: Mr) w) : E.real G ((b, o) :: Mr) { w with heap := w.heap.setIfInBounds b o } :=
 ⟨Real.set (M₁ := []) hr.r, hr.le, hr.nw⟩
theorem W.mapUp {v : Value} {a : α} (ht : mapIK E.P t = some et) (hx : ev f x = .map (some b)) (hk : ev f kk = .int .i64 k) (hy : ev f y = v) (hm : MpR V b G m Ms) (hp : (Ms ++ Mr).Perm M) (ha : V.R G v a)
  (h : ∀ Ms', MpR V b G (putM m k a) Ms' → W E ops.toArray false rest f G (Ms' ++ Mr) K) : W E ops.toArray false (⟨none, .mapUpdate t x kk y, ty, pos, aft, none⟩ :: rest) f G M K := by
 intro a' w Q hi hr0 hK
 obtain ⟨es, clock, rfl, he⟩ := hm
 have hr := hr0.perm hp
 obtain ⟨kt, h1, h2, h3⟩ := mapIK_ok ht
 have hb : w.heap[b]? = some (.map es.toArray clock) := hr.r.mu (b, .map es.toArray clock) (by simp)
 have hgo := MapKept.run_getObj_map (P := E.P) hb
 have key : ∃ es' clock', MpE V G es' (putM m k a) ∧ (Instr.mapUpdate t (.map (some b)) (.int .i64 k) v).run E.P w = .ok () { w with heap := w.heap.setIfInBounds b (.map es'.toArray clock') } := by
  rcases find_mp (k := k) 0 he with ⟨g1, g2, g3, _⟩ | ⟨j, e, a2, g1, g2, g3, g4, g5, g6, _⟩
  ·refine ⟨_, clock + 1, g3 v a clock ha, ?_⟩
   have hfk := MapKept.run_findKey (P := E.P) (w := w) h2 g2
   have hset := MapKept.run_setObj_map (P := E.P) (.map (es.toArray.push ⟨.int .i64 k, v, clock⟩) (clock + 1)) hb
   simp only [Instr.mapUpdate, Sem.run_bind, run_underlying h1, Result.andThen_ok, hgo]
   rw [h3]
   simp only [Result.andThen_ok]
   rw [hfk]
   simp only [Result.andThen_ok, hset]
   congr 4
   simp
  ·refine ⟨_, clock, g6 v a ha, ?_⟩
   rw [Nat.zero_add] at g3
   have hfk := MapKept.run_findKey (P := E.P) (w := w) h2 g3
   have hset := MapKept.run_setObj_map (P := E.P) (.map (es.toArray.modify j fun e => { e with key := .int .i64 k, val := v }) clock) hb
   simp only [Instr.mapUpdate, Sem.run_bind, run_underlying h1, Result.andThen_ok, hgo]
   rw [h3]
   simp only [Result.andThen_ok]
   rw [hfk]
   have hsb : Instr.sameBits 10000 (((es.toArray[j]?).map (·.key)).getD (.int .i64 k)) (.int .i64 k) = true := by
    simp [g2, g4, Instr.sameBits]
   simp only [Result.andThen_ok, Instr.keyThatStays, hsb, if_true, Sem.run_pure]
   simp only [Sem.run_bind, Sem.run_pure, Result.andThen_ok, hset]
   congr 4
   simp
 obtain ⟨es', clock', k1, k2⟩ := key
 have hrun : (execOp (ev f) ⟨none, .mapUpdate t x kk y, ty, pos, aft, none⟩).run E.P w = .ok .skip { w with heap := w.heap.setIfInBounds b (.map es'.toArray clock') } := by
  simp [execOp, hx, hk, hy, k2]
 refine wpList_plain rfl fun K' hK' => ?_
 unfold Oper.wp
 rw [hi.eval, hrun]
 exact hK' _ _ (h _ ⟨es', clock', rfl, k1⟩ _ _ Q (hi.put_none undef) (setMap_real hr) hK)
theorem W.makeMap (h : ∀ b, MpR V b G [] [(b, .map #[] 0)] → W E ops.toArray false rest (upd f d (.map (some b))) G ((b, .map #[] 0) :: M) K) (hd : Nat.blt d E.n = true := by rfl) :
  W E ops.toArray false (⟨some d, .makeMap t none, ty, pos, aft, none⟩ :: rest) f G M K := by
 intro a w Q hi hr hK
 have hrun : (execOp (ev f) ⟨some d, .makeMap t none, ty, pos, aft, none⟩).run E.P w = .ok (.value (.map (some w.heap.size))) (w.alloc (.map #[] 0)) := by
  have h0 : (Instr.makeMap t none).run E.P w = .ok (.map (some w.heap.size)) (w.alloc (.map #[] 0)) := by simp [Instr.makeMap, newObj, Sem.run, bind, Sem.bind, pure]
  simp [execOp, h0]
 refine wpList_plain rfl fun K' hK' => ?_
 unfold Oper.wp
 rw [hi.eval, hrun]
 exact hK' _ _ (h _ ⟨[], 0, rfl, trivial⟩ _ _ Q (hi.put hd _) (hr.alloc _) hK)
end
theorem or3 {a b c d : Prop} (h : a ∨ (b ∧ (c ∨ d))) : a ∨ (b ∧ c) ∨ (b ∧ d) := h.imp id fun ⟨h1, h2⟩ => h2.imp (fun h3 => ⟨h1, h3⟩) (fun h3 => ⟨h1, h3⟩)
theorem leafN_ok {s : Int} (hs : i64 s) : (leafN s).Ok := ⟨hs, ⟨by show (-9223372036854775808 : Int) ≤ 0; omega, by show (0 : Int) ≤ 9223372036854775807; omega⟩, ⟨by show (-9223372036854775808 : Int) ≤ -1; omega, by show (-1 : Int) ≤ 9223372036854775807; omega⟩, ⟨by show (-9223372036854775808 : Int) ≤ 0; omega, by show (0 : Int) ≤ 9223372036854775807; omega⟩⟩
theorem pick_first {n : Nat} (h : 0 < n) : arOf n [] = arOf n [] ∧ takeL n [] (leafN 0) = ((0, 0), [leafN 0]) := ⟨rfl, by rw [takeL_t (by simpa using h)]; rfl⟩
def placedF (i : Int) : List Nd → Bool
 | [] => true
 | n :: l => decide (n.slot = i) && placedF (i + 1) l
theorem placed_iff : ∀ {l : List Nd} {i : Int}, placedF i l = true ↔ ∀ k (h : k < l.length), l[k].slot = i + k
 | [], i => by simp [placedF]
 | n :: l, i => by
  rw [placedF, Bool.and_eq_true, decide_eq_true_iff, placed_iff]
  constructor
  ·rintro ⟨h1, h2⟩ k hk
   cases k with
   | zero => simpa using h1
   | succ k => have := h2 k (by simp at hk; omega); simp; omega
  ·intro h
   refine ⟨by have := h 0 (by simp); simpa using this, fun k hk => ?_⟩
   have := h (k + 1) (by simp; omega)
   simp at this; omega
theorem placed_app : ∀ (a b : List Nd) (i : Int), placedF i (a ++ b) = (placedF i a && placedF (i + a.length) b)
 | [], b, i => by simp [placedF]
 | n :: a, b, i => by
  have e : i + ((n :: a).length : Nat) = i + 1 + (a.length : Nat) := by simp; omega
  rw [List.cons_append, placedF, placedF, placed_app a b, e, Bool.and_assoc]
theorem placed_succ {l : List Nd} {k : Nat} (hk : k < l.length) : placedF 0 (l.take (k + 1)) = (placedF 0 (l.take k) && decide (l[k].slot = k)) := by
 rw [List.take_succ_eq_append_getElem hk, placed_app]
 have e : (List.take k l).length = k := by rw [List.length_take]; omega
 rw [e]; simp [placedF]
theorem placed_step {l : List Nd} {k : Nat} (hk : k < l.length) (h : placedF 0 (l.take k) = true) (hs : l[k].slot = k) : placedF 0 (l.take (k + 1)) = true := by rw [placed_succ hk, h, decide_eq_true hs]; rfl
theorem placed_at {l : List Nd} (h : placedF 0 l = true) {k : Nat} (hk : k < l.length) : l[k].slot = k := by have := placed_iff.1 h k hk; omega
theorem placed_not {l : List Nd} {k : Nat} (hk : k < l.length) (h : ¬ l[k].slot = k) : placedF 0 l = false := by
 cases e : placedF 0 l
 ·rfl
 ·exact absurd (placed_at e hk) h
def ldN (l : List Nd) (k : Nat) : List Nd := if k = 0 then [leafN 0] else l.take k
theorem ld_len {l : List Nd} {k : Nat} (hk : k ≤ l.length) (h0 : 0 < k) : (ldN l k).length = k := by unfold ldN; rw [if_neg om9, List.length_take]; omega
theorem ld_0 {l : List Nd} (h : 0 < l.length) (hs : l[0].slot = 0) : (putL (ldN l 0) l[0]).2 = ldN l 1 := by
 have e : ldN l 0 = [leafN 0] := rfl
 rw [e, putL_t (by rw [hs]; exact ⟨om9, by simp⟩), hs]
 unfold ldN
 rw [if_neg om9]
 cases l with
 | nil => simp at h
 | cons n l => rfl
theorem ld_take {l : List Nd} {n k : Nat} (hk : k < l.length) (h0 : 0 < k) (hn : k < n) (hs : l[k].slot = k) : takeL n (ldN l k) l[k] = (((k : Int), 0), ldN l (k + 1)) := by
 have hl := ld_len (l := l) (k := k) om9 h0
 rw [takeL_t om9, hl]
 refine congrArg (Prod.mk _) ?_
 unfold ldN
 rw [if_neg om9, if_neg om9, List.take_succ_eq_append_getElem hk]
 congr 2
 rw [← hs]
theorem ld_full {l : List Nd} {n k : Nat} (hk : k ≤ l.length) (h0 : 0 < k) (hn : ¬ k < n) (x : Nd) : takeL n (ldN l k) x = ((0, 4), ldN l k) := takeL_f (by rw [ld_len hk h0]; exact hn)
theorem ld_put {l : List Nd} {k : Nat} (hk : k < l.length) (hs : l[k].slot = k) : (putL (ldN l (k + 1)) l[k]).2 = ldN l (k + 1) := by
 have hl := ld_len (l := l) (k := k + 1) om9 om9
 rw [putL_t (by rw [hs, hl]; omega), hs]
 show (ldN l (k + 1)).set ((k : Int)).toNat l[k] = _
 rw [Int.toNat_natCast]
 unfold ldN
 rw [if_neg om9]
 refine List.ext_getElem (by simp) fun i h1 h2 => ?_
 rw [List.getElem_set]
 split
 ·rename_i e; subst e; rw [List.getElem_take]
 ·rfl
theorem ld_all {l : List Nd} (h : 0 < l.length) : ldN l l.length = l := by unfold ldN; rw [if_neg om9, List.take_of_length_le (Nat.le_refl _)]
end Go.Fw

namespace Go.Fw
abbrev Ls := List (List Msg)
def stN (l : List Msg) : Int := Hd.st (l, 0)
theorem stN_at {l : List Msg} (h : 0 < l.length) : stN l = l[0].stamp := Hd.st_at (a := (l, 0)) h
structure Best (cur : Ls) (b : Nat) : Prop where
 lt : b < cur.length
 ne : 0 < cur[b].length
 min : ∀ j (h : j < cur.length), 0 < cur[j].length → stN cur[b] ≤ stN cur[j] ∧ (j < b → stN cur[b] < stN cur[j])
theorem Best.uniq {cur : Ls} {b c : Nat} (hb : Best cur b) (hc : Best cur c) : b = c := by
 have h1 := hb.min c hc.lt hc.ne
 have h2 := hc.min b hb.lt hb.ne
 rcases Nat.lt_trichotomy b c with h | h | h
 ·have := h2.2 h; omega
 ·exact h
 ·have := h1.2 h; omega
def totN (cur : Ls) : Nat := (cur.map List.length).sum
theorem totN_app (a b : Ls) : totN (a ++ b) = totN a + totN b := by simp [totN]
theorem totN_cons (a : List Msg) (b : Ls) : totN (a :: b) = a.length + totN b := by simp [totN]
open Classical in
noncomputable def mergeF : Nat → Ls → List Msg
 | 0, _ => []
 | f + 1, cur => if h : ∃ b, Best cur b then (cur[h.choose]'(h.choose_spec.lt))[0]'(h.choose_spec.ne) :: mergeF f (cur.set h.choose ((cur[h.choose]'(h.choose_spec.lt)).drop 1)) else []
noncomputable def mergeN (cur : Ls) : List Msg := mergeF (totN cur) cur
theorem mergeF_best {f : Nat} {cur : Ls} {b : Nat} (hb : Best cur b) : mergeF (f + 1) cur = (cur[b]'hb.lt)[0]'hb.ne :: mergeF f (cur.set b ((cur[b]'hb.lt).drop 1)) := by
 have h : ∃ b, Best cur b := ⟨b, hb⟩
 have e : h.choose = b := h.choose_spec.uniq hb
 rw [mergeF, dif_pos h]
 simp only [e]
theorem set_split {cur : Ls} {b : Nat} (h : b < cur.length) (t : List Msg) : cur.set b t = cur.take b ++ t :: cur.drop (b + 1) := by
 rw [List.set_eq_take_append_cons_drop, if_pos h]
theorem at_split {cur : Ls} {b : Nat} (h : b < cur.length) : cur = cur.take b ++ cur[b] :: cur.drop (b + 1) := by
 rw [← List.drop_eq_getElem_cons h, List.take_append_drop]
theorem totN_set {cur : Ls} {b : Nat} (hb : Best cur b) : totN (cur.set b ((cur[b]'hb.lt).drop 1)) + 1 = totN cur := by
 have h := hb.ne
 rw [set_split hb.lt]
 conv => rhs; rw [at_split hb.lt]
 rw [totN_app, totN_app, totN_cons, totN_cons, List.length_drop]
 omega
theorem merge_step {cur : Ls} {b : Nat} (hb : Best cur b) : mergeN cur = (cur[b]'hb.lt)[0]'hb.ne :: mergeN (cur.set b ((cur[b]'hb.lt).drop 1)) := by
 unfold mergeN
 rw [← totN_set hb, mergeF_best hb]
theorem totN_zero {cur : Ls} (h : ∀ i (hi : i < cur.length), cur[i].length = 0) : totN cur = 0 := by
 unfold totN
 rw [List.sum_eq_zero_iff_forall_eq_nat]
 intro x hx
 obtain ⟨l, hl, rfl⟩ := List.mem_map.1 hx
 obtain ⟨i, hi, rfl⟩ := List.getElem_of_mem hl
 exact h i hi
theorem merge_nil {cur : Ls} (h : ∀ i (hi : i < cur.length), cur[i].length = 0) : mergeN cur = [] := by
 unfold mergeN
 rw [totN_zero h]; rfl
def hdsF (k : Int) : Ls → List Hd
 | [] => []
 | l :: ls => (if 0 < l.length then [(l, k)] else []) ++ hdsF (k + 1) ls
theorem hdsF_app : ∀ (a b : Ls) (k : Int), hdsF k (a ++ b) = hdsF k a ++ hdsF (k + a.length) b
 | [], b, k => by simp [hdsF]
 | l :: a, b, k => by
  have e : k + ((l :: a).length : Nat) = k + 1 + (a.length : Nat) := by simp; omega
  rw [e]
  simp only [List.cons_append, hdsF, hdsF_app a b, List.append_assoc]
theorem hds_len : ∀ (ls : Ls) (k : Int), (hdsF k ls).length ≤ ls.length
 | [], _ => Nat.le_refl _
 | l :: ls, k => by
  have := hds_len ls (k + 1)
  unfold hdsF
  split <;> simp <;> omega
theorem hds_mem : ∀ {ls : Ls} {k : Int} {h : Hd}, h ∈ hdsF k ls ↔ ∃ i, ∃ hi : i < ls.length, h = (ls[i], k + (i : Nat)) ∧ 0 < ls[i].length
 | [], k, h => by simp [hdsF]
 | l :: ls, k, h => by
  rw [hdsF, List.mem_append, hds_mem]
  constructor
  ·rintro (h1 | ⟨i, hi, h1, h2⟩)
   ·split at h1
    ·rename_i h3
     rw [List.mem_singleton] at h1
     exact ⟨0, by simp, by simp [h1], h3⟩
    ·cases h1
   ·exact ⟨i + 1, by simp; omega, by rw [h1]; simp; omega, by simpa using h2⟩
  ·rintro ⟨i, hi, h1, h2⟩
   cases i with
   | zero =>
    left
    have h2 : 0 < l.length := h2
    rw [if_pos h2]
    simp [h1]
   | succ i => exact .inr ⟨i, by simp at hi; omega, by rw [h1]; simp; omega, by simpa using h2⟩
theorem hds_push {H : List Hd} {ls : Ls} {k : Nat} (hk : k < ls.length) (hp : H.Perm (hdsF 0 (ls.take k))) (hne : 0 < ls[k].length) : ((ls[k], (k : Int)) :: H).Perm (hdsF 0 (ls.take (k + 1))) := by
 rw [List.take_succ_eq_append_getElem hk, hdsF_app]
 have e : (List.take k ls).length = k := by rw [List.length_take]; omega
 rw [e]
 simp only [hdsF, if_pos hne, Int.zero_add, List.append_nil]
 exact (List.perm_append_singleton _ _).symm.trans (hp.append_right _)
theorem hds_skip {H : List Hd} {ls : Ls} {k : Nat} (hk : k < ls.length) (hp : H.Perm (hdsF 0 (ls.take k))) (hne : ¬ 0 < ls[k].length) : H.Perm (hdsF 0 (ls.take (k + 1))) := by
 rw [List.take_succ_eq_append_getElem hk, hdsF_app]
 simp only [hdsF, if_neg hne, List.append_nil]
 exact hp
theorem best_of {H : List Hd} {cur : Ls} (hH : Heap Hd.lt H) (hp : H.Perm (hdsF 0 cur)) (hl : 0 < H.length) : ∃ b, ∃ hb : Best cur b, nth H 0 = (cur[b]'hb.lt, (b : Int)) := by
 have hm : H[0] ∈ hdsF 0 cur := hp.mem_iff.1 (List.getElem_mem hl)
 obtain ⟨b, hb, e, hne⟩ := hds_mem.1 hm
 rw [Int.zero_add] at e
 refine ⟨b, ⟨hb, hne, fun j hj hjn => ?_⟩, by rw [nth_lt hl]; exact e⟩
 have hm2 : (cur[j], ((j : Nat) : Int)) ∈ H := hp.mem_iff.2 (hds_mem.2 ⟨j, hj, by rw [Int.zero_add], hjn⟩)
 obtain ⟨c, hc, e2⟩ := List.getElem_of_mem hm2
 have := heap_min Hd.lo hH c hc
 rw [nth_lt hc, nth_lt hl, e, e2] at this
 have h5 : (decide (stN cur[j] < stN cur[b]) || (decide (stN cur[j] = stN cur[b]) && decide (((j : Nat) : Int) < ((b : Nat) : Int)))) = false := this
 simp only [Bool.or_eq_false_iff, Bool.and_eq_false_iff, decide_eq_false_iff_not] at h5
 omega
theorem heap_rest {H H' : List Hd} {cur : Ls} {b : Nat} (hb : Best cur b) (hp : H.Perm (hdsF 0 cur)) (h : ((cur[b]'hb.lt, (b : Int)) :: H').Perm H) :
  H'.Perm (hdsF 0 (cur.take b) ++ hdsF (b + 1) (cur.drop (b + 1))) := by
 have e : hdsF 0 cur = hdsF 0 (cur.take b) ++ (cur[b]'hb.lt, (b : Int)) :: hdsF (b + 1) (cur.drop (b + 1)) := by
  conv => lhs; rw [at_split hb.lt]
  rw [hdsF_app]
  have e : (List.take b cur).length = b := by rw [List.length_take]; have := hb.lt; omega
  rw [e]
  simp only [hdsF, if_pos hb.ne, Int.zero_add, List.singleton_append]
 rw [e] at hp
 exact List.Perm.cons_inv (h.trans (hp.trans List.perm_middle))
theorem rest_t {cur : Ls} {b : Nat} (hb : b < cur.length) {t : List Msg} (ht : 0 < t.length) : hdsF 0 (cur.set b t) = hdsF 0 (cur.take b) ++ (t, (b : Int)) :: hdsF (b + 1) (cur.drop (b + 1)) := by
 rw [set_split hb, hdsF_app]
 have e : (List.take b cur).length = b := by rw [List.length_take]; omega
 rw [e]
 simp only [hdsF, if_pos ht, Int.zero_add, List.singleton_append]
theorem rest_f {cur : Ls} {b : Nat} (hb : b < cur.length) {t : List Msg} (ht : ¬ 0 < t.length) : hdsF 0 (cur.set b t) = hdsF 0 (cur.take b) ++ hdsF (b + 1) (cur.drop (b + 1)) := by
 rw [set_split hb, hdsF_app]
 have e : (List.take b cur).length = b := by rw [List.length_take]; omega
 rw [e]
 simp only [hdsF, if_neg ht, Int.zero_add, List.nil_append]
theorem mstep_t {H : List Hd} {cur : Ls} {b : Nat} (hH : Heap Hd.lt H) (hp : H.Perm (hdsF 0 cur)) (hl : 0 < H.length) (hb : Best cur b) (he : nth H 0 = (cur[b]'hb.lt, (b : Int))) {el : Hd} (hel : el = ((cur[b]'hb.lt).drop 1, (b : Int))) (ht : 0 < el.1.length) :
  Heap Hd.lt (pushL Hd.lt (popL Hd.lt H) el) ∧ (pushL Hd.lt (popL Hd.lt H) el).Perm (hdsF 0 (cur.set b ((cur[b]'hb.lt).drop 1))) := by
 obtain ⟨h1, h2, h3⟩ := pop_heap Hd.lo hH hl
 obtain ⟨h4, h5⟩ := push_heap Hd.lo h1 el
 refine ⟨h4, h5.trans ?_⟩
 rw [he] at h2
 subst hel
 rw [rest_t hb.lt ht]
 exact ((heap_rest hb hp h2).cons _).trans List.perm_middle.symm
theorem mstep_f {H : List Hd} {cur : Ls} {b : Nat} (hH : Heap Hd.lt H) (hp : H.Perm (hdsF 0 cur)) (hl : 0 < H.length) (hb : Best cur b) (he : nth H 0 = (cur[b]'hb.lt, (b : Int))) (ht : ¬ 0 < ((cur[b]'hb.lt).drop 1).length) :
  Heap Hd.lt (popL Hd.lt H) ∧ (popL Hd.lt H).Perm (hdsF 0 (cur.set b ((cur[b]'hb.lt).drop 1))) := by
 obtain ⟨h1, h2, h3⟩ := pop_heap Hd.lo hH hl
 rw [he] at h2
 rw [rest_f hb.lt ht]
 exact ⟨h1, heap_rest hb hp h2⟩
theorem merge_done {H : List Hd} {cur : Ls} (hp : H.Perm (hdsF 0 cur)) (h0 : H.length = 0) : mergeN cur = [] := by
 refine merge_nil fun i hi => ?_
 cases hc : cur[i].length with
 | zero => rfl
 | succ n =>
  have hm : (cur[i], ((i : Nat) : Int)) ∈ H := hp.mem_iff.2 (hds_mem.2 ⟨i, hi, by rw [Int.zero_add], om9⟩)
  rw [List.eq_nil_of_length_eq_zero h0] at hm; cases hm
theorem merge_tot : ∀ (n : Nat) (cur : Ls), totN cur = n → (mergeN cur).length ≤ n
 | 0, cur, h => by unfold mergeN; rw [h]; exact Nat.le_refl _
 | n + 1, cur, h => by
  by_cases hb : ∃ b, Best cur b
  ·obtain ⟨b, hb⟩ := hb
   rw [merge_step hb, List.length_cons]
   have := merge_tot n (cur.set b ((cur[b]'hb.lt).drop 1)) (by have := totN_set hb; omega)
   omega
  ·unfold mergeN; rw [h, mergeF, dif_neg hb]; simp
theorem merge_len (cur : Ls) : (mergeN cur).length ≤ totN cur := merge_tot _ cur rfl
end Go.Fw

namespace Go.Fw
abbrev nats (ps : List Nat) : List Int := ps.map fun n : Nat => (n : Int)
def curN (ls : Ls) (ps : List Nat) : Ls := List.zipWith (fun l p => l.drop p) ls ps
theorem curN_len {ls : Ls} {ps : List Nat} (h : ps.length = ls.length) : (curN ls ps).length = ls.length := by simp [curN, h]
theorem curN_at {ls : Ls} {ps : List Nat} {i : Nat} (h : i < ls.length) (h2 : i < ps.length) (h3 : i < (curN ls ps).length) : (curN ls ps)[i] = ls[i].drop ps[i] := by simp [curN]
theorem curN_atlen {ls : Ls} {ps : List Nat} {i : Nat} (h : i < ls.length) (h2 : i < ps.length) (h3 : i < (curN ls ps).length) : (curN ls ps)[i].length = ls[i].length - ps[i] := by rw [curN_at h h2, List.length_drop]
theorem curN_zero (ls : Ls) : curN ls (List.replicate ls.length 0) = ls := by
 refine List.ext_getElem (by rw [curN_len (by simp)]) fun i h1 h2 => ?_
 rw [curN_at h2 (by simpa using h2)]
 simp
theorem curN_st {ls : Ls} {ps : List Nat} {i : Nat} (h : i < ls.length) (h2 : i < ps.length) (h3 : i < (curN ls ps).length) (h4 : ps[i] < ls[i].length) : stN (curN ls ps)[i] = (ls[i])[ps[i]].stamp := by
 rw [curN_at h h2, stN_at (by rw [List.length_drop]; omega), List.getElem_drop]
 simp
theorem curN_hd {ls : Ls} {ps : List Nat} {i : Nat} (h : i < ls.length) (h2 : i < ps.length) (h3 : i < (curN ls ps).length) (h4 : ps[i] < ls[i].length) (h5 : 0 < (curN ls ps)[i].length) : ((curN ls ps)[i])[0] = (ls[i])[ps[i]] := by
 rw [List.getElem_of_eq (curN_at h h2 h3) h5, List.getElem_drop]
 simp
theorem curN_set {ls : Ls} {ps : List Nat} {b : Nat} (hl : ps.length = ls.length) (h : b < ls.length) (h2 : b < ps.length) (h3 : b < (curN ls ps).length) : (curN ls ps).set b ((curN ls ps)[b].drop 1) = curN ls (ps.set b (ps[b] + 1)) := by
 have e1 := curN_len hl
 have e2 := curN_len (ls := ls) (ps := ps.set b (ps[b] + 1)) (by rw [List.length_set]; exact hl)
 refine List.ext_getElem (by rw [List.length_set]; omega) fun i h4 h5 => ?_
 have e3 := curN_at (ls := ls) (ps := ps.set b (ps[b] + 1)) (i := i) om9 (by rw [List.length_set]; omega) h5
 rw [e3, List.getElem_set, List.getElem_set]
 split
 ·rename_i e
  subst e
  rw [curN_at h h2, List.drop_drop]
 ·rw [curN_at om9 om9]
theorem len_tot {ls : Ls} {i : Nat} (h : i < ls.length) : ls[i].length ≤ totN ls := by
 conv => rhs; rw [at_split h]
 rw [totN_app, totN_cons]; omega
theorem tot_map {f : List Msg → List Msg} (hf : ∀ l, (f l).length ≤ l.length) : ∀ (ls : Ls), totN (ls.map f) ≤ totN ls
 | [] => Nat.le_refl _
 | l :: ls => by
  have := hf l
  have ih := tot_map hf ls
  rw [List.map_cons, totN_cons, totN_cons]; omega
def BI (C : Ls) (j : Nat) (c : Int) : Prop := (c = -1 ∧ ∀ q (h : q < C.length), q < j → C[q].length = 0) ∨
 ∃ b : Nat, ∃ h : b < C.length, c = b ∧ b < j ∧ 0 < C[b].length ∧ ∀ q (hq : q < C.length), q < j → 0 < C[q].length → stN C[b] ≤ stN C[q] ∧ (q < b → stN C[b] < stN C[q])
theorem BI_nil (C : Ls) : BI C 0 (-1) := .inl ⟨rfl, fun q _ h => by omega⟩
theorem BI_skip {C : Ls} {j : Nat} {c : Int} (h : BI C j c) (hj : j < C.length) (hz : C[j].length = 0) : BI C (j + 1) c := by
 rcases h with ⟨h1, h2⟩ | ⟨b, hb, h1, h2, h3, h4⟩
 ·exact .inl ⟨h1, fun q hq hqj => by
   by_cases e : q = j
   ·subst e; exact hz
   ·exact h2 q hq om9⟩
 ·exact .inr ⟨b, hb, h1, om9, h3, fun q hq hqj hn => by
   by_cases e : q = j
   ·subst e; omega
   ·exact h4 q hq om9 hn⟩
theorem BI_first {C : Ls} {j : Nat} {c : Int} (h : BI C j c) (hc : c < 0) (hj : j < C.length) (hn : 0 < C[j].length) : BI C (j + 1) j := by
 rcases h with ⟨h1, h2⟩ | ⟨b, hb, h1, h2, h3, h4⟩
 ·exact .inr ⟨j, hj, rfl, om9, hn, fun q hq hqj hqn => by
   by_cases e : q = j
   ·subst e; exact ⟨Int.le_refl _, fun h => by omega⟩
   ·have := h2 q hq om9; omega⟩
 ·omega
theorem BI_less {C : Ls} {j b : Nat} (h : BI C j b) (hb : b < C.length) (hj : j < C.length) (hn : 0 < C[j].length) (hl : stN C[j] < stN C[b]) : BI C (j + 1) j := by
 rcases h with ⟨h1, h2⟩ | ⟨b', hb', h1, h2, h3, h4⟩
 ·omega
 ·have e : b' = b := om9
  subst e
  exact .inr ⟨j, hj, rfl, om9, hn, fun q hq hqj hqn => by
   by_cases e : q = j
   ·subst e; exact ⟨Int.le_refl _, fun h => by omega⟩
   ·have := h4 q hq om9 hqn
    exact ⟨om9, fun _ => by omega⟩⟩
theorem BI_keep {C : Ls} {j b : Nat} (h : BI C j b) (hb : b < C.length) (hj : j < C.length) (hl : ¬ stN C[j] < stN C[b]) : BI C (j + 1) b := by
 rcases h with ⟨h1, h2⟩ | ⟨b', hb', h1, h2, h3, h4⟩
 ·omega
 ·have e : b' = b := om9
  subst e
  exact .inr ⟨b', hb', rfl, om9, h3, fun q hq hqj hqn => by
   by_cases e : q = j
   ·subst e; exact ⟨om9, fun h => by omega⟩
   ·exact h4 q hq om9 hqn⟩
theorem BI_best {C : Ls} {j : Nat} {c : Int} (h : BI C j c) (hc : ¬ c < 0) : ∃ b : Nat, ∃ hb : b < C.length, c = b ∧ b < j ∧ 0 < C[b].length := by
 rcases h with ⟨h1, h2⟩ | ⟨b, hb, h1, h2, h3, h4⟩
 ·omega
 ·exact ⟨b, hb, h1, h2, h3⟩
theorem BI_end {C : Ls} {j : Nat} {c : Int} (h : BI C j c) (hj : C.length ≤ j) (hc : c < 0) : mergeN C = [] := by
 rcases h with ⟨h1, h2⟩ | ⟨b, hb, h1, h2, h3, h4⟩
 ·exact merge_nil fun i hi => h2 i hi om9
 ·omega
theorem BI_done {C : Ls} {j b : Nat} (h : BI C j b) (hj : C.length ≤ j) : Best C b := by
 rcases h with ⟨h1, h2⟩ | ⟨b', hb, h1, h2, h3, h4⟩
 ·omega
 ·have e : b' = b := om9
  subst e
  exact ⟨hb, h3, fun q hq hqn => h4 q hq om9 hqn⟩
end Go.Fw
