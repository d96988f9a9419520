/- What container/heap asks of a heap, and what it does with it. Nothing of the program is named here. No condition. -/
import Derived.Test.YtfmigmijckdldaaGreatProg
import Derived.Test.YtfmigmijckdldaaGreatQgGa
set_option linter.unusedVariables false
set_option linter.unusedSimpArgs false
set_option linter.unnecessarySimpa false
set_option maxRecDepth 100000

namespace Go.Fw
open Go Go.RowKit
structure HeapK (P : Program) {α : Type} [Inhabited α] (lt : α → α → Bool) (x : Value) (Rep : GH → List α → MH → Prop) (EV : GH → Value → α → Prop) (pu : Prop := True) : Prop where
 mono : ∀ {G G' l M}, Le G G' → Rep G l M → Rep G' l M
 bound : ∀ {G l M}, Rep G l M → l.length ≤ 140737488355328
 len : ∀ {G l M}, Rep G l M → Inv P x "Len" [] G M (fun v G' M' => v = .int .i64 (l.length : Int) ∧ M' = M)
 less : ∀ {G l M} {i j : Nat}, Rep G l M → i < l.length → j < l.length → Inv P x "Less" [.int .i64 (i : Int), .int .i64 (j : Int)] G M (fun v G' M' => v = .bool (lt (nth l i) (nth l j)) ∧ M' = M)
 swap : ∀ {G l M} {i j : Nat}, Rep G l M → i < l.length → j < l.length → Inv P x "Swap" [.int .i64 (i : Int), .int .i64 (j : Int)] G M (fun v G' M' => v = .tuple #[] ∧ Rep G' (swapL l i j) M')
 push : pu → ∀ {G l M u a}, Rep G l M → l.length < 1000000 → EV G u a → Inv P x "Push" [u] G M (fun v G' M' => v = .tuple #[] ∧ Rep G' (l ++ [a]) M')
 pop : ∀ {G l M}, Rep G l M → 0 < l.length → Inv P x "Pop" [] G M (fun v G' M' => EV G' v (nth l (l.length - 1)) ∧ Rep G' (l.take (l.length - 1)) M')
section
variable {α : Type} [Inhabited α] {lt : α → α → Bool}
theorem downL_stop {f : Nat} {l : List α} {i n : Nat} (h : n ≤ 2 * i + 1) : downL lt f l i n = l := by
 cases f with
 | zero => rfl
 | succ f => rw [downL, if_pos h]
theorem downL_end {f : Nat} {l : List α} {i n : Nat} (h1 : ¬ n ≤ 2 * i + 1) (h2 : lt (nth l (kidJ lt l i n)) (nth l i) = false) : downL lt f l i n = l := by
 cases f with
 | zero => rfl
 | succ f => rw [downL, if_neg h1, if_pos h2]
theorem downL_go {f : Nat} {l : List α} {i n : Nat} (hf : n ≤ i + f) (h1 : ¬ n ≤ 2 * i + 1) (h2 : lt (nth l (kidJ lt l i n)) (nth l i) = true) : downL lt f l i n = downL lt (f - 1) (swapL l i (kidJ lt l i n)) (kidJ lt l i n) n := by
 cases f with
 | zero => omega
 | succ f => rw [downL, if_neg h1, if_neg (by simp [h2])]; rfl
theorem kidJ_t {l : List α} {i n : Nat} (h : 2 * i + 2 < n) (h2 : lt (nth l (2 * i + 2)) (nth l (2 * i + 1)) = true) : kidJ lt l i n = 2 * i + 2 := if_pos ⟨h, h2⟩
theorem kidJ_f {l : List α} {i n : Nat} (h : ¬ 2 * i + 2 < n ∨ lt (nth l (2 * i + 2)) (nth l (2 * i + 1)) = false) : kidJ lt l i n = 2 * i + 1 := if_neg (fun ⟨h1, h2⟩ => h.elim (fun h => h h1) (fun h => by rw [h2] at h; cases h))
theorem downL_id {l : List α} (h : Heap lt l) (f i : Nat) : downL lt f l i l.length = l := by
 by_cases h1 : l.length ≤ 2 * i + 1
 ·exact downL_stop h1
 ·have hk := kidJ_lt (lt := lt) (l := l) h1
  have := h (kidJ lt l i l.length) om9 hk.1 om9
  rw [hk.2.2.1] at this
  exact downL_end h1 this
theorem popL_eq {l : List α} (h : 0 < l.length) : (downL lt l.length (swapL l 0 (l.length - 1)) 0 (l.length - 1)).take ((downL lt l.length (swapL l 0 (l.length - 1)) 0 (l.length - 1)).length - 1) = popL lt l ∧
  nth (downL lt l.length (swapL l 0 (l.length - 1)) 0 (l.length - 1)) ((downL lt l.length (swapL l 0 (l.length - 1)) 0 (l.length - 1)).length - 1) = nth l 0 := by
 rw [downL_length, swapL_length]
 refine ⟨rfl, ?_⟩
 rw [downL_above _ _ _ _ _ (by rw [swapL_length]; omega) (Nat.le_refl _), nth_swap om9 om9, if_pos rfl]
end
abbrev Hd := List Msg × Int
def Hd.st (a : Hd) : Int := match a.1 with | [] => 0 | m :: _ => m.stamp
theorem Hd.st_at {a : Hd} (h : 0 < a.1.length) : a.st = a.1[0].stamp := by
 obtain ⟨l, n⟩ := a
 cases l with
 | nil => simp at h
 | cons m l => rfl
theorem lo_int : LO (fun a b : Int => decide (a < b)) where
 asymm := fun {a b} h => by simp at h ⊢; omega
 trans := fun {a b c} h1 h2 => by simp at h1 h2 ⊢; omega
def eBool : Enc Bool where
 k := 1
 w := 1
 R := fun _ cs b => cs = [.bool b]
 mono := fun _ h => h
 len := fun h => by rw [h]; rfl
 one := fun h u hu => by rw [h] at hu; simp at hu; subst hu; rfl
instance : EqE eBool (fun b => [.bool b]) := ⟨fun _ _ _ h => h⟩
instance : EqE eSpan (fun s => [.string s.lo.b, .string s.hi.b, .bool s.opn]) := ⟨fun _ _ _ h => h⟩
instance : EqP eEff (fun e => [.int .i64 e.kind, .string e.val.b]) (fun e => i64 e.kind) := ⟨fun _ _ _ h => h⟩
abbrev ltI : Int → Int → Bool := fun a b => decide (a < b)
def hasN (u : List Bool) (i : Int) : Bool := decide (0 ≤ i) && (decide (i < u.length) && u.getD i.toNat false)
theorem hasN_iff {u : List Bool} {i : Int} : hasN u i = true ↔ ∃ k : Nat, ∃ h : k < u.length, i = k ∧ u[k] = true := by
 unfold hasN
 simp only [Bool.and_eq_true, decide_eq_true_eq]
 constructor
 ·rintro ⟨h1, h2, h3⟩
  have h4 : i.toNat < u.length := om9
  rw [List.getD_eq_getElem?_getD, List.getElem?_eq_getElem h4] at h3
  exact ⟨i.toNat, h4, om9, h3⟩
 ·rintro ⟨k, h, rfl, h2⟩
  refine ⟨om9, om9, ?_⟩
  rw [List.getD_eq_getElem?_getD, Int.toNat_natCast, List.getElem?_eq_getElem h]
  exact h2
def freeN (u : List Bool) : List Int := ((List.range u.length).filter fun i => !u.getD i true).map fun i : Nat => (i : Int)
def usedN (u : List Bool) : List Int := ((List.range u.length).filter fun i => u.getD i true).map fun i : Nat => (i : Int)
theorem getD_at9 {u : List Bool} {i : Nat} (h : i < u.length) (d : Bool) : u.getD i d = u[i] := by rw [List.getD_eq_getElem?_getD, List.getElem?_eq_getElem h]; rfl
theorem mem_free {u : List Bool} {a : Int} : a ∈ freeN u ↔ ∃ i : Nat, ∃ h : i < u.length, a = i ∧ u[i] = false := by
 unfold freeN
 rw [List.mem_map]
 constructor
 ·rintro ⟨i, hi, rfl⟩
  rw [List.mem_filter, List.mem_range] at hi
  obtain ⟨h1, h2⟩ := hi
  rw [getD_at9 h1] at h2
  exact ⟨i, h1, rfl, by simpa using h2⟩
 ·rintro ⟨i, h, rfl, h2⟩
  exact ⟨i, List.mem_filter.2 ⟨List.mem_range.2 h, by rw [getD_at9 h, h2]; rfl⟩, rfl⟩
theorem free_nodup (u : List Bool) : (freeN u).Nodup := by
 unfold freeN
 have h : List.Pairwise (fun a b : Nat => a ≠ b) ((List.range u.length).filter fun i => !u.getD i true) := List.Pairwise.sublist List.filter_sublist List.nodup_range
 exact List.Pairwise.map _ (fun a b h e => h (by have e : (a : Int) = (b : Int) := e; omega)) h
theorem filter_two {α : Type} (p : α → Bool) : ∀ (l : List α), (l.filter fun i => !p i).length + (l.filter p).length = l.length
 | [] => rfl
 | x :: l => by
  have := filter_two p l
  cases h : p x <;> simp [h] <;> omega
theorem free_used (u : List Bool) : (freeN u).length + (usedN u).length = u.length := by
 unfold freeN usedN
 rw [List.length_map, List.length_map]
 have := filter_two (fun i => u.getD i true) (List.range u.length)
 rw [List.length_range] at this
 exact this
def firstN : List Bool → Nat
 | [] => 0
 | true :: l => firstN l + 1
 | false :: _ => 0
theorem firstN_at : ∀ {u : List Bool} {i : Nat} (h : i < u.length), u[i] = false → (∀ j (hj : j < u.length), j < i → u[j] = true) → firstN u = i
 | [], i, h, _, _ => by simp at h
 | true :: l, 0, h, h1, _ => by simp at h1
 | true :: l, i + 1, h, h1, h2 => by
  rw [firstN, firstN_at (u := l) (i := i) (by simp at h; omega) (by simpa using h1) fun j hj hji => by have := h2 (j + 1) (by simp; omega) om9; simpa using this]
 | false :: l, 0, _, _, _ => rfl
 | false :: l, i + 1, h, h1, h2 => by have := h2 0 (by simp) om9; simp at this
theorem firstN_all : ∀ {u : List Bool}, (∀ j (hj : j < u.length), u[j] = true) → firstN u = u.length
 | [], _ => rfl
 | true :: l, h => by rw [firstN, firstN_all (u := l) fun j hj => by have := h (j + 1) (by simp; omega); simpa using this]; rfl
 | false :: l, h => by have := h 0 (by simp); simp at this
theorem free_zero {u : List Bool} (h : (freeN u).length = 0) : firstN u = u.length := firstN_all fun j hj => by
 cases hu : u[j] with
 | true => rfl
 | false =>
  have := mem_free.2 ⟨j, hj, rfl, hu⟩
  rw [List.eq_nil_of_length_eq_zero h] at this; cases this
theorem perm_of_mem {a b : List Int} (ha : a.Nodup) (hb : b.Nodup) (h : ∀ x, x ∈ a ↔ x ∈ b) : a.Perm b := (List.perm_ext_iff_of_nodup ha hb).2 h
theorem take_first {f : List Int} {u : List Bool} (hH : Heap ltI f) (hp : f.Perm (freeN u)) (hl : 0 < f.length) : ∃ h : firstN u < u.length, nth f 0 = (firstN u : Int) ∧ Heap ltI (popL ltI f) ∧ (popL ltI f).Perm (freeN (u.set (firstN u) true)) := by
 obtain ⟨h1, h2, h3⟩ := pop_heap lo_int hH hl
 have hm : nth f 0 ∈ freeN u := hp.mem_iff.1 (by rw [nth_lt hl]; exact List.getElem_mem _)
 obtain ⟨i, hi, e, hu⟩ := mem_free.1 hm
 have hfi : firstN u = i := firstN_at hi hu fun j hj hji => by
  cases huj : u[j] with
  | true => rfl
  | false =>
   have hmj : ((j : Nat) : Int) ∈ f := hp.mem_iff.2 (mem_free.2 ⟨j, hj, rfl, huj⟩)
   obtain ⟨c, hc, e2⟩ := List.getElem_of_mem hmj
   have := heap_min lo_int hH c hc
   rw [nth_lt hc, e, e2] at this
   simp at this; omega
 subst hfi
 refine ⟨hi, e, h1, ?_⟩
 have hnd : (nth f 0 :: popL ltI f).Nodup := h2.nodup_iff.2 (hp.nodup_iff.2 (free_nodup u))
 obtain ⟨hn1, hn2⟩ := List.nodup_cons.1 hnd
 refine perm_of_mem hn2 (free_nodup _) fun x => ?_
 have hmx : x ∈ nth f 0 :: popL ltI f ↔ x ∈ freeN u := (h2.trans hp).mem_iff
 constructor
 ·intro hx
  obtain ⟨k, hk, rfl, hku⟩ := mem_free.1 (hmx.1 (List.mem_cons_of_mem _ hx))
  have hne : firstN u ≠ k := fun h => hn1 (by rw [e, h]; exact hx)
  exact mem_free.2 ⟨k, by rw [List.length_set]; exact hk, rfl, by rw [List.getElem_set_ne hne]; exact hku⟩
 ·intro hx
  obtain ⟨k, hk, rfl, hku⟩ := mem_free.1 hx
  rw [List.length_set] at hk
  have hne : firstN u ≠ k := fun h => by subst h; simp at hku
  rw [List.getElem_set_ne hne] at hku
  rcases List.mem_cons.1 (hmx.2 (mem_free.2 ⟨k, hk, rfl, hku⟩)) with h | h
  ·rw [e] at h; omega
  ·exact h
def iotaN (n : Nat) : List Int := (List.range n).map fun i : Nat => (i : Int)
theorem iota_succ (n : Nat) : iotaN (n + 1) = iotaN n ++ [(n : Int)] := by simp [iotaN, List.range_succ]
theorem iota_len (n : Nat) : (iotaN n).length = n := by simp [iotaN]
theorem iota_heap (n : Nat) : Heap ltI (iotaN n) := fun c h0 hc _ => by
 rw [iota_len] at hc
 have h1 : nth (iotaN n) c = (c : Int) := by rw [nth_lt (by rw [iota_len]; exact hc)]; simp [iotaN]
 have h2 : nth (iotaN n) ((c - 1) / 2) = (((c - 1) / 2 : Nat) : Int) := by rw [nth_lt (by rw [iota_len]; omega)]; simp [iotaN]
 rw [h1, h2]
 simp only [decide_eq_false_iff_not]
 omega
theorem iota_free (n : Nat) : iotaN n = freeN (List.replicate n false) := by
 unfold iotaN freeN
 rw [List.length_replicate]
 congr 1
 symm
 rw [List.filter_eq_self]
 intro i hi
 rw [List.mem_range] at hi
 rw [getD_at9 (by simpa using hi)]
 simp
def nextA {α : Type} (st : List α × List Bool) (x : α) : (Int × Int) × (List α × List Bool) :=
 if firstN st.2 < st.2.length then ((firstN st.2, 0), (st.1.set (firstN st.2) x, st.2.set (firstN st.2) true)) else ((0, 4), st)
def layA {α : Type} (st : List α × List Bool) (i : Int) (x : α) : Int × (List α × List Bool) := if hasN st.2 i = true then (0, (st.1.set i.toNat x, st.2)) else (8, st)
def getA {α : Type} (st : List α × List Bool) (i : Int) (z : α) : α := if hasN st.2 i = true then st.1.getD i.toNat z else z
def ArP {α : Type} (e : Enc α) (Te TB TI Tb : TypeId) (b : Nat) (G : GH) (st : List α × List Bool × List Int) (M : MH) : Prop :=
 ∃ vc vu vf Mc Mu Mf, M = (b, .cells (List.toArray [vc, vu, vf]) Tb (0, 0)) :: (Mc ++ (Mu ++ Mf)) ∧ OwnR e Te G vc st.1 Mc ∧ OwnR eBool TB G vu st.2.1 Mu ∧ OwnR eInt TI G vf st.2.2 Mf
theorem ArP.mono {α : Type} {e : Enc α} {Te TB TI Tb : TypeId} {b : Nat} {G G' : GH} {st : List α × List Bool × List Int} {M : MH} (hl : Le G G') (h : ArP e Te TB TI Tb b G st M) : ArP e Te TB TI Tb b G' st M := by
 obtain ⟨vc, vu, vf, Mc, Mu, Mf, h1, h2, h3, h4⟩ := h
 exact ⟨vc, vu, vf, Mc, Mu, Mf, h1, h2.mono hl, h3.mono hl, h4.mono hl⟩
def ArR {α : Type} (e : Enc α) (Te TB TI Tb : TypeId) (b : Nat) (G : GH) (st : List α × List Bool) (M : MH) : Prop :=
 ∃ f, ArP e Te TB TI Tb b G (st.1, st.2, f) M ∧ st.1.length = st.2.length ∧ st.2.length ≤ 4096 ∧ Heap ltI f ∧ f.Perm (freeN st.2)
theorem ArR.mono {α : Type} {e : Enc α} {Te TB TI Tb : TypeId} {b : Nat} {G G' : GH} {st : List α × List Bool} {M : MH} (hl : Le G G') (h : ArR e Te TB TI Tb b G st M) : ArR e Te TB TI Tb b G' st M := by
 obtain ⟨f, h1, h2⟩ := h
 exact ⟨f, h1.mono hl, h2⟩
theorem ArR.cast {α : Type} {e : Enc α} {Te TB TI Tb : TypeId} {b : Nat} {G : GH} {st st' : List α × List Bool} {M M' : MH} (h : ArR e Te TB TI Tb b G st M) (e1 : st = st') (e2 : M = M') : ArR e Te TB TI Tb b G st' M' := by subst e1 e2; exact h
theorem hasN_get {u : List Bool} {i : Int} (h0 : 0 ≤ i) (h1 : i < u.length) : u[i.toNat]'om9 = hasN u i := by
 unfold hasN
 rw [decide_eq_true h0, decide_eq_true h1, getD_at9 om9]; rfl
theorem hasN_neg {u : List Bool} {i : Int} (h0 : ¬ 0 ≤ i) : false = hasN u i := by unfold hasN; rw [decide_eq_false h0]; rfl
theorem hasN_big {u : List Bool} {i : Int} (h1 : ¬ i < u.length) : false = hasN u i := by unfold hasN; rw [decide_eq_false h1]; simp
theorem hasN_lt {u : List Bool} {i : Int} (h : hasN u i = true) : 0 ≤ i ∧ i.toNat < u.length ∧ i = (i.toNat : Int) := by
 obtain ⟨k, hk, rfl, _⟩ := hasN_iff.1 h
 exact ⟨om9, by simpa using hk, by simp⟩
theorem layA_t {α : Type} {st : List α × List Bool} {i : Int} {x : α} (h : hasN st.2 i = true) : layA st i x = (0, (st.1.set i.toNat x, st.2)) := if_pos h
theorem layA_f {α : Type} {st : List α × List Bool} {i : Int} {x : α} (h : hasN st.2 i = false) : layA st i x = (8, st) := if_neg (by simp [h])
theorem nextA_t {α : Type} {st : List α × List Bool} {x : α} (h : firstN st.2 < st.2.length) : nextA st x = (((firstN st.2 : Int), 0), (st.1.set (firstN st.2) x, st.2.set (firstN st.2) true)) := if_pos h
theorem nextA_f {α : Type} {st : List α × List Bool} {x : α} (h : firstN st.2 = st.2.length) : nextA st x = ((0, 4), st) := if_neg om9
theorem getA_t {α : Type} {st : List α × List Bool} {i : Int} {z : α} (h : hasN st.2 i = true) (h2 : i.toNat < st.1.length) : getA st i z = st.1[i.toNat] := by
 unfold getA; rw [if_pos h, List.getD_eq_getElem?_getD, List.getElem?_eq_getElem h2]; rfl
theorem getA_f {α : Type} {st : List α × List Bool} {i : Int} {z : α} (h : hasN st.2 i = false) : getA st i z = z := if_neg (by simp [h])
theorem NodeC.cast {G : GH} {cs : List Value} {n m : Nd} (h : NodeC G cs n) (e : n = m) : NodeC G cs m := e ▸ h
def usedK (u : List Bool) (k : Nat) : List Int := ((List.range k).filter fun i => u.getD i true).map fun i : Nat => (i : Int)
theorem usedK_len (u : List Bool) (k : Nat) : (usedK u k).length ≤ k := by
 unfold usedK; rw [List.length_map]
 have := List.length_filter_le (fun i => u.getD i true) (List.range k)
 rw [List.length_range] at this; exact this
theorem usedK_t {u : List Bool} {k : Nat} (hk : k < u.length) (h : u[k] = true) : usedK u (k + 1) = usedK u k ++ [(k : Int)] := by
 unfold usedK; rw [List.range_succ, List.filter_append, List.map_append]; congr 1; simp [List.getElem?_eq_getElem hk, h]
theorem usedK_f {u : List Bool} {k : Nat} (hk : k < u.length) (h : u[k] = false) : usedK u (k + 1) = usedK u k := by
 unfold usedK; rw [List.range_succ, List.filter_append, List.map_append]; simp [List.getElem?_eq_getElem hk, h]
theorem used_eq (u : List Bool) : usedN u = usedK u u.length := rfl
def CfgR (c : Cfg) : Prop := (4 ≤ c.fan ∧ c.fan ≤ 64) ∧ (2 ≤ c.leaf ∧ c.leaf ≤ 64) ∧ (36 ≤ c.bud ∧ c.bud ≤ 4096) ∧ (1 ≤ c.slots ∧ c.slots ≤ 4096) ∧ (0 ≤ c.rest ∧ c.rest ≤ 100)
instance (c : Cfg) : Decidable (CfgR c) := by unfold CfgR; infer_instance
def arOf (n : Nat) (l : List Nd) : List Nd × List Bool := (l ++ List.replicate (n - l.length) Nd.zero, List.replicate l.length true ++ List.replicate (n - l.length) false)
theorem arOf_nil (n : Nat) : arOf n [] = (List.replicate n Nd.zero, List.replicate n false) := by simp [arOf]
theorem ar_len {n : Nat} {l : List Nd} (h : l.length ≤ n) : (arOf n l).2.length = n := by simp [arOf]; omega
theorem ar_in {n : Nat} {l : List Nd} {i : Nat} (h : i < (arOf n l).2.length) : (arOf n l).2[i] = decide (i < l.length) := by
 rw [List.getElem_of_eq (show (arOf n l).2 = List.replicate l.length true ++ List.replicate (n - l.length) false from rfl) h, List.getElem_append]
 split <;> rename_i h2 <;> simp only [List.length_replicate] at h2 <;> simp <;> omega
theorem ar_has {n : Nat} {l : List Nd} (h : l.length ≤ n) (i : Int) : hasN (arOf n l).2 i = decide (0 ≤ i ∧ i < l.length) := by
 rw [Bool.eq_iff_iff, hasN_iff, decide_eq_true_iff]
 constructor
 ·rintro ⟨k, hk, rfl, h2⟩
  rw [ar_in hk] at h2
  have := of_decide_eq_true h2
  omega
 ·rintro ⟨h1, h2⟩
  have hl := ar_len h
  exact ⟨i.toNat, om9, om9, by rw [ar_in]; exact decide_eq_true om9⟩
theorem ar_first {n : Nat} {l : List Nd} (h : l.length ≤ n) : firstN (arOf n l).2 = l.length := by
 have hl := ar_len h
 by_cases e : l.length = n
 ·rw [firstN_all fun j hj => by rw [ar_in hj]; exact decide_eq_true om9]; omega
 ·exact firstN_at om9 (by rw [ar_in]; exact decide_eq_false om9) fun j hj hjl => by rw [ar_in hj]; exact decide_eq_true hjl
theorem ar_set1 {n : Nat} {l : List Nd} {k : Nat} {x : Nd} (hk : k < l.length) : (arOf n l).1.set k x = (arOf n (l.set k x)).1 := by
 unfold arOf
 rw [List.length_set, List.set_append_left _ _ hk]
theorem ar_alloc {n : Nat} {l : List Nd} (h : l.length < n) : nextA (arOf n l) Nd.zero = (((l.length : Int), 0), arOf n (l ++ [Nd.zero])) := by
 have hf := ar_first (Nat.le_of_lt h)
 have hl := ar_len (Nat.le_of_lt h)
 rw [nextA_t om9, hf]
 refine congrArg (Prod.mk _) ?_
 obtain ⟨m, hm⟩ : ∃ m, n - l.length = m + 1 := ⟨n - l.length - 1, om9⟩
 have hm2 : n - (l ++ [Nd.zero]).length = m := by simp; omega
 unfold arOf
 rw [hm, hm2]
 refine Prod.ext ?_ ?_
 ·show (l ++ List.replicate (m + 1) Nd.zero).set l.length Nd.zero = (l ++ [Nd.zero]) ++ List.replicate m Nd.zero
  rw [List.set_append_right _ _ (Nat.le_refl _), Nat.sub_self, List.replicate_succ, List.set_cons_zero, List.append_assoc]; rfl
 ·show (List.replicate l.length true ++ List.replicate (m + 1) false).set l.length true = List.replicate (l ++ [Nd.zero]).length true ++ List.replicate m false
  rw [List.set_append_right _ _ (by simp), List.length_replicate, Nat.sub_self, List.replicate_succ, List.set_cons_zero, List.length_append, List.length_singleton, List.replicate_succ', List.append_assoc]; rfl
theorem ar_full {n : Nat} {l : List Nd} (h : l.length = n) : nextA (arOf n l) Nd.zero = ((0, 4), arOf n l) := nextA_f (by rw [ar_first om9, ar_len om9]; exact h)
def putL (l : List Nd) (x : Nd) : Int × List Nd := if 0 ≤ x.slot ∧ x.slot < l.length then (0, l.set x.slot.toNat x) else (8, l)
theorem putL_t {l : List Nd} {x : Nd} (h : 0 ≤ x.slot ∧ x.slot < l.length) : putL l x = (0, l.set x.slot.toNat x) := if_pos h
theorem putL_f {l : List Nd} {x : Nd} (h : ¬ (0 ≤ x.slot ∧ x.slot < l.length)) : putL l x = (8, l) := if_neg h
theorem putL_len (l : List Nd) (x : Nd) : (putL l x).2.length = l.length := by unfold putL; split <;> simp
theorem ar_set {n : Nat} {l : List Nd} (h : l.length ≤ n) (x : Nd) : layA (arOf n l) x.slot x = ((putL l x).1, arOf n (putL l x).2) := by
 by_cases hx : 0 ≤ x.slot ∧ x.slot < l.length
 ·rw [layA_t (by rw [ar_has h]; exact decide_eq_true hx), putL_t hx, ar_set1 om9]
  refine congrArg (Prod.mk _) (Prod.ext rfl ?_)
  unfold arOf; simp
 ·rw [layA_f (by rw [ar_has h]; exact decide_eq_false hx), putL_f hx]
def takeL (n : Nat) (l : List Nd) (x : Nd) : (Int × Int) × List Nd := if l.length < n then ((l.length, 0), l ++ [{ x with slot := l.length }]) else ((0, 4), l)
theorem takeL_t {n : Nat} {l : List Nd} {x : Nd} (h : l.length < n) : takeL n l x = (((l.length : Int), 0), l ++ [{ x with slot := l.length }]) := if_pos h
theorem takeL_f {n : Nat} {l : List Nd} {x : Nd} (h : ¬ l.length < n) : takeL n l x = ((0, 4), l) := if_neg h
theorem take_set {l : List Nd} {x : Nd} : putL (l ++ [Nd.zero]) { x with slot := l.length } = (0, l ++ [{ x with slot := l.length }]) := by
 rw [putL_t (by simp; omega)]
 refine congrArg (Prod.mk _) ?_
 show (l ++ [Nd.zero]).set ((l.length : Int)).toNat _ = _
 rw [Int.toNat_natCast, List.set_append_right _ _ (Nat.le_refl _), Nat.sub_self]; rfl
def getL (l : List Nd) (i : Int) : Nd := if 0 ≤ i then l.getD i.toNat Nd.zero else Nd.zero
theorem getL_at {l : List Nd} {k : Nat} (h : k < l.length) : getL l k = l[k] := by
 unfold getL; rw [if_pos om9, Int.toNat_natCast, List.getD_eq_getElem?_getD, List.getElem?_eq_getElem h]; rfl
theorem ar_get {n : Nat} {l : List Nd} (h : l.length ≤ n) (i : Int) : getA (arOf n l) i Nd.zero = getL l i := by
 unfold getA getL
 rw [ar_has h]
 by_cases h0 : 0 ≤ i
 ·rw [if_pos h0]
  by_cases h1 : i < l.length
  ·rw [if_pos (decide_eq_true ⟨h0, h1⟩), List.getD_eq_getElem?_getD, List.getD_eq_getElem?_getD]
   unfold arOf
   rw [List.getElem?_append_left om9]
  ·rw [if_neg (by simp; omega), List.getD_eq_getElem?_getD, List.getElem?_eq_none om9]; rfl
 ·rw [if_neg h0, if_neg (by simp; omega)]
theorem ar_used {n : Nat} {l : List Nd} (h : l.length ≤ n) : usedN (arOf n l).2 = iotaN l.length := by
 have hl := ar_len h
 unfold usedN iotaN
 congr 1
 rw [hl]
 have e : n = l.length + (n - l.length) := om9
 have key : ∀ m, m ≤ n → (List.range m).filter (fun i => (arOf n l).2.getD i true) = List.range (min m l.length) := by
  intro m
  induction m with
  | zero => intro _; simp
  | succ m ih =>
   intro hm
   rw [List.range_succ, List.filter_append, ih om9, List.filter_cons, getD_at9 om9, ar_in]
   by_cases hml : m < l.length
   ·rw [if_pos (decide_eq_true hml), List.filter_nil, Nat.min_eq_left om9, Nat.min_eq_left om9, List.range_succ]
   ·rw [if_neg (by simpa using hml), List.filter_nil, List.append_nil, Nat.min_eq_right om9, Nat.min_eq_right om9]
 rw [key n (Nat.le_refl _), Nat.min_eq_right h]
theorem nextA_i64 {α : Type} {st : List α × List Bool} {x : α} (h : st.2.length ≤ 4096) : i64 (nextA st x).1.1 := by
 unfold nextA
 split
 ·exact ⟨by show (-9223372036854775808 : Int) ≤ (firstN st.2 : Int); omega, by show (firstN st.2 : Int) ≤ 9223372036854775807; omega⟩
 ·exact ⟨by show (-9223372036854775808 : Int) ≤ 0; omega, by show (0 : Int) ≤ 9223372036854775807; omega⟩
def takeA (a : List Nd × List Bool) (x : Nd) : (Int × Int) × (List Nd × List Bool) :=
 if (nextA a Nd.zero).1.2 = 0 then (((nextA a Nd.zero).1.1, (layA (nextA a Nd.zero).2 (nextA a Nd.zero).1.1 { x with slot := (nextA a Nd.zero).1.1 }).1), (layA (nextA a Nd.zero).2 (nextA a Nd.zero).1.1 { x with slot := (nextA a Nd.zero).1.1 }).2)
 else ((0, (nextA a Nd.zero).1.2), (nextA a Nd.zero).2)
theorem takeA_t {a : List Nd × List Bool} {x : Nd} (h : (nextA a Nd.zero).1.2 = 0) : takeA a x = (((nextA a Nd.zero).1.1, (layA (nextA a Nd.zero).2 (nextA a Nd.zero).1.1 { x with slot := (nextA a Nd.zero).1.1 }).1), (layA (nextA a Nd.zero).2 (nextA a Nd.zero).1.1 { x with slot := (nextA a Nd.zero).1.1 }).2) := if_pos h
theorem takeA_f {a : List Nd × List Bool} {x : Nd} (h : ¬ (nextA a Nd.zero).1.2 = 0) : takeA a x = ((0, (nextA a Nd.zero).1.2), (nextA a Nd.zero).2) := if_neg h
theorem ar_take {n : Nat} {l : List Nd} (h : l.length ≤ n) (x : Nd) : takeA (arOf n l) x = ((takeL n l x).1, arOf n (takeL n l x).2) := by
 by_cases e : l.length < n
 ·have h1 := ar_alloc e
  rw [takeA_t (by rw [h1]), h1, takeL_t e]
  have h2 := ar_set (n := n) (l := l ++ [Nd.zero]) (by simp; omega) { x with slot := (l.length : Int) }
  rw [take_set] at h2
  show (((l.length : Int), (layA (arOf n (l ++ [Nd.zero])) ({ x with slot := (l.length : Int) } : Nd).slot { x with slot := (l.length : Int) }).1), (layA (arOf n (l ++ [Nd.zero])) ({ x with slot := (l.length : Int) } : Nd).slot { x with slot := (l.length : Int) }).2) = _
  rw [h2]
 ·have h1 := ar_full (n := n) (l := l) om9
  rw [takeA_f (by rw [h1]; show ¬ (4 : Int) = 0; omega), h1, takeL_f e]
def StA (te tB ti tb TS b : Nat) (G : GH) (c : Cfg) (a : List Nd × List Bool) (M : MH) : Prop :=
 ∃ b2 Ma, M = (b, .cells (List.toArray [.int .i64 c.fan, .int .i64 c.leaf, .int .i64 c.bud, .int .i64 c.slots, .int .i64 c.rest, .pointer (some ⟨b2, 0, none⟩)]) TS (0, 0)) :: Ma ∧ ArR eNode te tB ti tb b2 G a Ma
theorem StA.mono {te tB ti tb TS b : Nat} {G G' : GH} {c : Cfg} {a : List Nd × List Bool} {M : MH} (hl : Le G G') (h : StA te tB ti tb TS b G c a M) : StA te tB ti tb TS b G' c a M := by
 obtain ⟨b2, Ma, h1, h2⟩ := h; exact ⟨b2, Ma, h1, h2.mono hl⟩
def StR (te tB ti tb TS b : Nat) (c : Cfg) (G : GH) (l : List Nd) (M : MH) : Prop := CfgR c ∧ l.length ≤ c.slots.toNat ∧ StA te tB ti tb TS b G c (arOf c.slots.toNat l) M
theorem StR.mono {te tB ti tb TS b : Nat} {G G' : GH} {c : Cfg} {l : List Nd} {M : MH} (hl : Le G G') (h : StR te tB ti tb TS b c G l M) : StR te tB ti tb TS b c G' l M := ⟨h.1, h.2.1, h.2.2.mono hl⟩
theorem StA.cast {te tB ti tb TS b : Nat} {G : GH} {c : Cfg} {a a' : List Nd × List Bool} {M : MH} (h : StA te tB ti tb TS b G c a M) (e : a = a') : StA te tB ti tb TS b G c a' M := e ▸ h
def leafN (slot : Int) : Nd := ⟨slot, 0, [], [], Str.nil, true, -1, 0, [], []⟩
theorem takeL_len {n : Nat} {l : List Nd} {x : Nd} (h : l.length ≤ n) : (takeL n l x).2.length ≤ n := by unfold takeL; split <;> simp <;> omega
theorem nodes_all {n : Nat} {l : List Nd} (h : l.length ≤ n) : ((usedN (arOf n l).2).map fun i => getA (arOf n l) i Nd.zero) = l := by
 rw [ar_used h]
 refine List.ext_getElem (by simp [iotaN]) fun i h1 h2 => ?_
 rw [List.getElem_map, ar_get h]
 simp only [iotaN, List.getElem_map, List.getElem_range]
 exact getL_at h2
theorem NodeC.of {G : GH} {cs : List Value} {n m : Nd} (h : NodeC G cs n) (e : n = m) : NodeC G cs m := e ▸ h
end Go.Fw
namespace Go.Proofs.YtfmigmijckdldaaGreat
open Go.Fw
theorem ty23 : tyK Tryz.prog 23 = some (true, 5) := by kernel_rfl
theorem zr23 : zeroK Tryz.prog 23 = some [.int .i64 0, .int .i64 0, .int .i64 0, .int .i64 0, .int .i64 0] := by kernel_rfl
theorem sl24 : sliceK Tryz.prog 24 = some 53 := by kernel_rfl
theorem ty53 : tyK Tryz.prog 53 = some (true, 10) := by kernel_rfl
theorem zr53 : zeroK Tryz.prog 53 = some [.int .i64 0, .int .i64 0, .slice none 0 0, .slice none 0 0, .string ⟨#[]⟩, .bool false, .int .i64 0, .int .i64 0, .slice none 0 0, .slice none 0 0] := by kernel_rfl
theorem by53 : bytesK Tryz.prog 53 = some 152 := by kernel_rfl
theorem st9 : Tryz.prog.underlying 9 = some .string := by kernel_rfl
theorem fd39_1 : fieldK Tryz.prog 39 1 = some 5 := by kernel_rfl
theorem ty24 : tyK Tryz.prog 24 = some (false, 1) := by kernel_rfl
theorem sl42 : sliceK Tryz.prog 42 = some 92 := by kernel_rfl
theorem ty92 : tyK Tryz.prog 92 = some (true, 2) := by kernel_rfl
theorem zr92 : zeroK Tryz.prog 92 = some [.string ⟨#[]⟩, .string ⟨#[]⟩] := by kernel_rfl
theorem by92 : bytesK Tryz.prog 92 = some 32 := by kernel_rfl
theorem sl46 : sliceK Tryz.prog 46 = some 57 := by kernel_rfl
theorem ty57 : tyK Tryz.prog 57 = some (true, 14) := by kernel_rfl
theorem zr57 : zeroK Tryz.prog 57 = some [.int .i64 0, .int .i64 0, .slice none 0 0, .slice none 0 0, .string ⟨#[]⟩, .bool false, .int .i64 0, .int .i64 0, .slice none 0 0, .slice none 0 0, .string ⟨#[]⟩, .string ⟨#[]⟩, .bool false, .slice none 0 0] := by kernel_rfl
theorem by57 : bytesK Tryz.prog 57 = some 216 := by kernel_rfl
theorem fd57_0 : fieldK Tryz.prog 57 0 = some 0 := by kernel_rfl
theorem fd53_1 : fieldK Tryz.prog 53 1 = some 1 := by kernel_rfl
theorem ty3 : tyK Tryz.prog 3 = some (false, 1) := by kernel_rfl
theorem zr3 : zeroK Tryz.prog 3 = some [.int .i64 0] := by kernel_rfl
theorem fd57_1 : fieldK Tryz.prog 57 1 = some 10 := by kernel_rfl
theorem ty55 : tyK Tryz.prog 55 = some (true, 3) := by kernel_rfl
theorem zr55 : zeroK Tryz.prog 55 = some [.string ⟨#[]⟩, .string ⟨#[]⟩, .bool false] := by kernel_rfl
theorem fd55_1 : fieldK Tryz.prog 55 1 = some 1 := by kernel_rfl
theorem ty9 : tyK Tryz.prog 9 = some (false, 1) := by kernel_rfl
theorem zr9 : zeroK Tryz.prog 9 = some [.string ⟨#[]⟩] := by kernel_rfl
theorem fd53_8 : fieldK Tryz.prog 53 8 = some 8 := by kernel_rfl
theorem ty51 : tyK Tryz.prog 51 = some (false, 1) := by kernel_rfl
theorem zr51 : zeroK Tryz.prog 51 = some [.slice none 0 0] := by kernel_rfl
theorem sl51 : sliceK Tryz.prog 51 = some 90 := by kernel_rfl
theorem ty90 : tyK Tryz.prog 90 = some (true, 6) := by kernel_rfl
theorem zr90 : zeroK Tryz.prog 90 = some [.int .i64 0, .int .i64 0, .string ⟨#[]⟩, .string ⟨#[]⟩, .bool false, .string ⟨#[]⟩] := by kernel_rfl
theorem by90 : bytesK Tryz.prog 90 = some 72 := by kernel_rfl
theorem fd53_0 : fieldK Tryz.prog 53 0 = some 0 := by kernel_rfl
theorem fd53_7 : fieldK Tryz.prog 53 7 = some 7 := by kernel_rfl
theorem pl23 : placesK Tryz.prog 23 = some [(0, 1), (1, 1), (2, 1), (3, 1), (4, 1)] := by kernel_rfl
theorem sl50 : sliceK Tryz.prog 50 = some 3 := by kernel_rfl
theorem by3 : bytesK Tryz.prog 3 = some 8 := by kernel_rfl
theorem sl49 : sliceK Tryz.prog 49 = some 9 := by kernel_rfl
theorem by9 : bytesK Tryz.prog 9 = some 16 := by kernel_rfl
theorem pl53 : placesK Tryz.prog 53 = some [(0, 1), (1, 1), (2, 1), (3, 1), (4, 1), (5, 1), (6, 1), (7, 1), (8, 1), (9, 1)] := by kernel_rfl
theorem zr39 : zeroK Tryz.prog 39 = some [.int .i64 0, .int .i64 0, .int .i64 0, .int .i64 0, .int .i64 0, .slice none 0 0] := by kernel_rfl
theorem pl39 : placesK Tryz.prog 39 = some [(0, 5), (5, 1)] := by kernel_rfl
theorem pp27 : ptrT Tryz.prog 27 = true := by kernel_rfl
theorem fd78_1 : fieldK Tryz.prog 78 1 = some 5 := by kernel_rfl
theorem ty76 : tyK Tryz.prog 76 = some (false, 1) := by kernel_rfl
theorem fd39_0 : fieldK Tryz.prog 39 0 = some 0 := by kernel_rfl
theorem fd53_3 : fieldK Tryz.prog 53 3 = some 3 := by kernel_rfl
theorem ty50 : tyK Tryz.prog 50 = some (false, 1) := by kernel_rfl
theorem fd23_3 : fieldK Tryz.prog 23 3 = some 3 := by kernel_rfl
theorem fd57_2 : fieldK Tryz.prog 57 2 = some 13 := by kernel_rfl
theorem fd90_0 : fieldK Tryz.prog 90 0 = some 0 := by kernel_rfl
theorem eq92 : fieldKs Tryz.prog 92 = some [.string, .string] := by kernel_rfl
theorem fd53_9 : fieldK Tryz.prog 53 9 = some 9 := by kernel_rfl
theorem ty42 : tyK Tryz.prog 42 = some (false, 1) := by kernel_rfl
theorem fd55_2 : fieldK Tryz.prog 55 2 = some 2 := by kernel_rfl
theorem ty4 : tyK Tryz.prog 4 = some (false, 1) := by kernel_rfl
theorem zr4 : zeroK Tryz.prog 4 = some [.bool false] := by kernel_rfl
theorem pl55 : placesK Tryz.prog 55 = some [(0, 1), (1, 1), (2, 1)] := by kernel_rfl
theorem pl57 : placesK Tryz.prog 57 = some [(0, 10), (10, 3), (13, 1)] := by kernel_rfl
theorem fd53_2 : fieldK Tryz.prog 53 2 = some 2 := by kernel_rfl
theorem ty49 : tyK Tryz.prog 49 = some (false, 1) := by kernel_rfl
theorem sl102 : sliceK Tryz.prog 102 = some 51 := by kernel_rfl
theorem fd55_0 : fieldK Tryz.prog 55 0 = some 0 := by kernel_rfl
theorem fd23_0 : fieldK Tryz.prog 23 0 = some 0 := by kernel_rfl
theorem fd23_1 : fieldK Tryz.prog 23 1 = some 1 := by kernel_rfl
theorem fd23_2 : fieldK Tryz.prog 23 2 = some 2 := by kernel_rfl
theorem fd23_4 : fieldK Tryz.prog 23 4 = some 4 := by kernel_rfl
theorem fd53_4 : fieldK Tryz.prog 53 4 = some 4 := by kernel_rfl
theorem zr78 : zeroK Tryz.prog 78 = some [.int .i64 0, .int .i64 0, .int .i64 0, .int .i64 0, .int .i64 0, .pointer none] := by kernel_rfl
theorem pl78 : placesK Tryz.prog 78 = some [(0, 5), (5, 1)] := by kernel_rfl
theorem fd78_0 : fieldK Tryz.prog 78 0 = some 0 := by kernel_rfl
theorem fd53_5 : fieldK Tryz.prog 53 5 = some 5 := by kernel_rfl
theorem bo4 : Tryz.prog.underlying 4 = some .bool := by kernel_rfl
theorem fd53_6 : fieldK Tryz.prog 53 6 = some 6 := by kernel_rfl
theorem pp76 : ptrT Tryz.prog 76 = true := by kernel_rfl
theorem fd125_1 : fieldK Tryz.prog 125 1 = some 1 := by kernel_rfl
theorem ty122 : tyK Tryz.prog 122 = some (false, 1) := by kernel_rfl
theorem sl122 : sliceK Tryz.prog 122 = some 4 := by kernel_rfl
theorem by4 : bytesK Tryz.prog 4 = some 1 := by kernel_rfl
theorem fd90_1 : fieldK Tryz.prog 90 1 = some 1 := by kernel_rfl
theorem fd90_4 : fieldK Tryz.prog 90 4 = some 4 := by kernel_rfl
theorem fd90_3 : fieldK Tryz.prog 90 3 = some 3 := by kernel_rfl
theorem fd90_2 : fieldK Tryz.prog 90 2 = some 2 := by kernel_rfl
theorem fd92_0 : fieldK Tryz.prog 92 0 = some 0 := by kernel_rfl
theorem eq55 : fieldKs Tryz.prog 55 = some [.string, .string, .bool] := by kernel_rfl
theorem sl136 : sliceK Tryz.prog 136 = some 55 := by kernel_rfl
theorem by55 : bytesK Tryz.prog 55 = some 40 := by kernel_rfl
theorem fd92_1 : fieldK Tryz.prog 92 1 = some 1 := by kernel_rfl
theorem fd90_5 : fieldK Tryz.prog 90 5 = some 5 := by kernel_rfl
theorem zr125 : zeroK Tryz.prog 125 = some [.slice none 0 0, .slice none 0 0, .slice none 0 0] := by kernel_rfl
theorem pl125 : placesK Tryz.prog 125 = some [(0, 1), (1, 1), (2, 1)] := by kernel_rfl
theorem fd125_2 : fieldK Tryz.prog 125 2 = some 2 := by kernel_rfl
theorem ty123 : tyK Tryz.prog 123 = some (false, 1) := by kernel_rfl
theorem sl123 : sliceK Tryz.prog 123 = some 3 := by kernel_rfl
theorem pi144 : plainT Tryz.prog 144 = true := by kernel_rfl
theorem pi3 : plainT Tryz.prog 3 = true := by kernel_rfl
theorem fd125_0 : fieldK Tryz.prog 125 0 = some 0 := by kernel_rfl
theorem eq90 : fieldKs Tryz.prog 90 = some [.int .i64, .int .i64, .string, .string, .bool, .string] := by kernel_rfl
theorem pl90 : placesK Tryz.prog 90 = some [(0, 1), (1, 1), (2, 1), (3, 1), (4, 1), (5, 1)] := by kernel_rfl
theorem un3 : Tryz.prog.underlying 3 = some (.int .i64) := by kernel_rfl
theorem un175 : Tryz.prog.underlying 175 = some (.int .u64) := by kernel_rfl
theorem ty187 : tyK Tryz.prog 187 = some (true, 2) := by kernel_rfl
theorem zr187 : zeroK Tryz.prog 187 = some [.int .i64 0, .string ⟨#[]⟩] := by kernel_rfl
theorem pl92 : placesK Tryz.prog 92 = some [(0, 1), (1, 1)] := by kernel_rfl
theorem pl187 : placesK Tryz.prog 187 = some [(0, 1), (1, 1)] := by kernel_rfl
theorem fd187_0 : fieldK Tryz.prog 187 0 = some 0 := by kernel_rfl
theorem fd187_1 : fieldK Tryz.prog 187 1 = some 1 := by kernel_rfl
theorem mix : Tryz.prog.follows .mixedOrders = true := by kernel_rfl
end Go.Proofs.YtfmigmijckdldaaGreat
theorem List.Sublist.k9 {α : Type} {a : α} {l l' : List α} (h : l.Sublist l') : (a :: l).Sublist (a :: l') := h.cons_cons a
namespace Go.Fw
open Go Go.RowKit
theorem sn9 {α : Type} {l : List α} : List.Sublist [] l := List.nil_sublist l
theorem sr9 {α : Type} {l : List α} : List.Sublist l l := List.Sublist.refl l
theorem pr9 {α : Type} {l : List α} : List.Perm l l := List.Perm.refl l
abbrev nd9 {a b : Int} {c : Option Addr} {d e : Nat} {f : Option Addr} {g h : Nat} {i : ByteArray} {j : Bool} {k l : Int} {m : Option Addr} {n o : Nat} {p : Option Addr} {q r : Nat} : List Value := [.int .i64 a, .int .i64 b, .slice c d e, .slice f g h, .string i, .bool j, .int .i64 k, .int .i64 l, .slice m n o, .slice p q r]
abbrev ndl (x : Nd) (a1 : Option Addr) (c1 : Nat) (a2 : Option Addr) (c2 : Nat) (a3 : Option Addr) (c3 : Nat) (a4 : Option Addr) (c4 : Nat) : List Value := [.int .i64 x.slot, .int .i64 x.level, .slice a1 x.pivots.length c1, .slice a2 x.kids.length c2, .string x.high.b, .bool x.top, .int .i64 x.right, .int .i64 x.seen, .slice a3 x.msgs.length c3, .slice a4 x.rows.length c4]
abbrev ms9 {a b : Int} {c d : ByteArray} {e : Bool} {f : ByteArray} : List Value := [.int .i64 a, .int .i64 b, .string c, .string d, .bool e, .string f]
abbrev sp9 {a b : ByteArray} {c : Bool} : List Value := [.string a, .string b, .bool c]
abbrev cf9 {a b c d e : Int} : List Value := [.int .i64 a, .int .i64 b, .int .i64 c, .int .i64 d, .int .i64 e]
abbrev ic9 {a : Int} : List Value := [.int .i64 a]
abbrev sc9 {a : ByteArray} : List Value := [.string a]
abbrev bc9 {a : Bool} : List Value := [.bool a]
abbrev lc9 {a : Option Addr} {b c : Nat} : List Value := [.slice a b c]
abbrev ef9 {a : Int} {b : ByteArray} : List Value := [.int .i64 a, .string b]
abbrev pr29 {a b : ByteArray} : List Value := [.string a, .string b]
theorem ok_ld {E : Env} {f : Fr} {G : GH} {M : MH} {d : Nat} {t ty : TypeId} {pos : String} {aft : Array Edge} {x : Operand} (i : Nat) (vs : List Value) {b o : Nat} {L : List Value} {T : TypeId} {bb : Bool} {j : Nat} (ht : tyK E.P t = some (bb, j))
    (hq : (ev f x, nthM M i, (L.drop o).take j, vs.length) = (.pointer (some ⟨b, o, none⟩), some (b, .cells L.toArray T (0, 0)), vs, j)) (hb : bb = false → j = 1 := by simp) : Ok E f G M ⟨some d, .load t x, ty, pos, aft, none⟩ (mkV bb vs) := by
  obtain ⟨h1, h⟩ := Prod.mk.inj hq
  obtain ⟨h2, h⟩ := Prod.mk.inj h
  obtain ⟨h3, h4⟩ := Prod.mk.inj h
  exact ok_loadB ht h1 h2 h3 h4 hb
theorem W.fb {E : Env} {f : Fr} {G : GH} {M : MH} {ops rest : List Oper} {q : Bool} {K : Kt} {d : Nat} {t ty : TypeId} {pos : String} {aft : Array Edge} {x : Operand} {b o off j : Nat} (ht : fieldK E.P t j = some off) (hx : ev f x = .pointer (some ⟨b, o, none⟩))
    (k : W E ops.toArray q rest (upd f d (.pointer (some ⟨b, o + off, none⟩))) G M K) (hd : Nat.blt d E.n = true := by rfl) : W E ops.toArray q (⟨some d, .fieldAddr t x j, ty, pos, aft, none⟩ :: rest) f G M K := W.ok (ok_fieldB ht hx) k hd
theorem W.st {E : Env} {f : Fr} {G : GH} {M : MH} {ops rest : List Oper} {K : Kt} {t ty : TypeId} {pos : String} {aft : Array Edge} {x y : Operand} (i : Nat) (vs L' : List Value) {b o : Nat} {L : List Value} {T : TypeId} {bb : Bool} {j : Nat} {v : Value} (ht : tyK E.P t = some (bb, j))
    (hq : (ev f x, nthM M i, ev f y, v.cells.toList, vs.length, vs.all Value.oneCell', Nat.ble (o + j) L.length, setAt L o vs) = (.pointer (some ⟨b, o, none⟩), some (b, .cells L.toArray T (0, 0)), v, vs, j, true, true, L'))
    (k : W E ops.toArray false rest f G (setM M i (.cells L'.toArray T (0, 0))) K) : W E ops.toArray false (⟨none, .store t x y, ty, pos, aft, none⟩ :: rest) f G M K := by
  obtain ⟨h1, h⟩ := Prod.mk.inj hq
  obtain ⟨h2, h⟩ := Prod.mk.inj h
  obtain ⟨h3, h⟩ := Prod.mk.inj h
  obtain ⟨h4, h⟩ := Prod.mk.inj h
  obtain ⟨h5, h⟩ := Prod.mk.inj h
  obtain ⟨h6, h⟩ := Prod.mk.inj h
  obtain ⟨h7, h8⟩ := Prod.mk.inj h
  exact W.store ht h1 h2 h3 h4 h5 h6 h7 h8 k
theorem W.y9 {E : Env} {f : Fr} {G : GH} {M : MH} {ops rest : List Oper} {q : Bool} {K : Kt} {op : Op} {ty : TypeId} {pos : String} {aft : Array Edge} {dst : Option Nat} {j dj : Nat} {want b : Bool} (hn : b = want) (hq : ((ops.toArray[j]?).bind (·.dst), f dj) = (some dj, .bool b))
    (k : W E ops.toArray q (⟨dst, op, ty, pos, aft, none⟩ :: rest) f G M K) (hdj : Nat.blt dj E.n = true := by rfl) : W E ops.toArray q (⟨dst, op, ty, pos, aft, some (j, want)⟩ :: rest) f G M K := W.yes (Prod.mk.inj hq).1 (Prod.mk.inj hq).2 hn k hdj
theorem W.n8 {E : Env} {f : Fr} {G : GH} {M : MH} {ops rest : List Oper} {q : Bool} {K : Kt} {d : Nat} {op : Op} {ty : TypeId} {pos : String} {aft : Array Edge} {j dj : Nat} {want b : Bool} (hn : b = !want) (hq : ((ops.toArray[j]?).bind (·.dst), f dj) = (some dj, .bool b))
    (k : W E ops.toArray q rest (upd f d undef) G M K) (hd : Nat.blt d E.n = true := by rfl) : W E ops.toArray q (⟨some d, op, ty, pos, aft, some (j, want)⟩ :: rest) f G M K := W.no (Prod.mk.inj hq).1 (Prod.mk.inj hq).2 hn k hd
theorem W.nt {E : Env} {f : Fr} {G : GH} {M : MH} {ops : List Oper} {q : Bool} {K : Kt} {Q : Exit → Kt} (h : K f G M) : W E ops.toArray q [] f G M (thn K Q .normal) := W.nil (thn_n h)
theorem WC.sr {E : Env} {f : Fr} {G : GH} {M : MH} {Q : Exit → Kt} {id : Nat} {l : List Oper} {y : Code} (h : W E l.toArray false l f G M (thn (WC E y Q) Q .normal)) : WC E (.seq (.region id l.toArray false) y) Q f G M := WC.seq (WC.region h)
theorem W.ns {E : Env} {f : Fr} {G : GH} {M : MH} {ops : List Oper} {q : Bool} {Q Q' : Exit → Kt} {id : Nat} {l : List Oper} {y : Code} (h : W E l.toArray false l f G M (thn (WC E y Q) Q .normal)) : W E ops.toArray q [] f G M (thn (WC E (.seq (.region id l.toArray false) y) Q) Q' .normal) := W.nt (WC.sr h)
theorem W.an {E : Env} {f : Fr} {G : GH} {M : MH} {ops : List Oper} {q : Bool} {K : Kt} {Q : Exit → Kt} {d : Nat} {ty : TypeId} {pos : String} {aft : Array Edge} {x : Operand} (k : K (upd f d (ev f x)) G M) (hd : Nat.blt d E.n = true := by rfl) : W E ops.toArray q [⟨some d, .assign x, ty, pos, aft, none⟩] f G M (thn K Q .normal) := W.as (W.nt k) hd
theorem WC.sk {E : Env} {f : Fr} {G : GH} {M : MH} {K : Kt} {Q : Exit → Kt} (h : K f G M) : WC E .skip (thn K Q) f G M := WC.skip (thn_n h)
theorem WC.rt {E : Env} {f : Fr} {G : GH} {M : MH} {K : Kt} {Q : Exit → Kt} (h : Q .ret f G M) : WC E .ret (thn K Q) f G M := WC.ret (thn_r h)
theorem WD.dn {E : Env} {f : Fr} {G : GH} {M Mk : MH} {ops : Array Oper} {K : Kt} {Q : Exit → Kt} {fuel : Nat} {listed : Array Bool} (h : K f G M) (hr : Region.ready .any ops listed = [] := by kernel_rfl) : WD E ops fuel listed f G M Mk (thn K Q .normal) := WD.done hr (thn_n h)
theorem odt {p : Prop} [Decidable p] (h : decide p = true) : p := of_decide_eq_true h
theorem odf {p : Prop} [Decidable p] (h : decide p = false) : ¬ p := of_decide_eq_false h
theorem nk9 {G : GH} {n : Nd} {a1 a2 a3 a4 : Option Addr} {c1 c2 c3 c4 : Nat} (h1 : SlR eStr G (.slice a1 n.pivots.length c1) n.pivots) (h2 : SlR eInt G (.slice a2 n.kids.length c2) n.kids) (h3 : SlR eMsg G (.slice a3 n.msgs.length c3) n.msgs) (h4 : SlR ePair G (.slice a4 n.rows.length c4) n.rows) (h : n.Ok) :
    NodeC G [.int .i64 n.slot, .int .i64 n.level, .slice a1 n.pivots.length c1, .slice a2 n.kids.length c2, .string n.high.b, .bool n.top, .int .i64 n.right, .int .i64 n.seen, .slice a3 n.msgs.length c3, .slice a4 n.rows.length c4] n := ⟨_, _, _, _, _, _, _, _, rfl, h1, h2, h3, h4, h⟩
theorem nm9 {G G' : GH} {n : Nd} {a1 a2 a3 a4 : Option Addr} {c1 c2 c3 c4 : Nat} (hl : Le G G') (h1 : SlR eStr G (.slice a1 n.pivots.length c1) n.pivots) (h2 : SlR eInt G (.slice a2 n.kids.length c2) n.kids) (h3 : SlR eMsg G (.slice a3 n.msgs.length c3) n.msgs) (h4 : SlR ePair G (.slice a4 n.rows.length c4) n.rows) (h : n.Ok) :
    NodeC G' [.int .i64 n.slot, .int .i64 n.level, .slice a1 n.pivots.length c1, .slice a2 n.kids.length c2, .string n.high.b, .bool n.top, .int .i64 n.right, .int .i64 n.seen, .slice a3 n.msgs.length c3, .slice a4 n.rows.length c4] n := (nk9 h1 h2 h3 h4 h).mono hl
end Go.Fw
namespace Go.Proofs.YtfmigmijckdldaaGreat
open Go Go.Fw
instance : TyK Tryz.prog 23 true 5 := ⟨ty23⟩
instance : SlK Tryz.prog 24 53 := ⟨sl24⟩
instance : TyK Tryz.prog 53 true 10 := ⟨ty53⟩
instance : StK Tryz.prog 9 := ⟨st9⟩
instance : FdK Tryz.prog 39 1 5 := ⟨fd39_1⟩
instance : TyK Tryz.prog 24 false 1 := ⟨ty24⟩
instance : SlK Tryz.prog 42 92 := ⟨sl42⟩
instance : TyK Tryz.prog 92 true 2 := ⟨ty92⟩
instance : SlK Tryz.prog 46 57 := ⟨sl46⟩
instance : TyK Tryz.prog 57 true 14 := ⟨ty57⟩
instance : FdK Tryz.prog 57 0 0 := ⟨fd57_0⟩
instance : FdK Tryz.prog 53 1 1 := ⟨fd53_1⟩
instance : TyK Tryz.prog 3 false 1 := ⟨ty3⟩
instance : FdK Tryz.prog 57 1 10 := ⟨fd57_1⟩
instance : TyK Tryz.prog 55 true 3 := ⟨ty55⟩
instance : FdK Tryz.prog 55 1 1 := ⟨fd55_1⟩
instance : TyK Tryz.prog 9 false 1 := ⟨ty9⟩
instance : FdK Tryz.prog 53 8 8 := ⟨fd53_8⟩
instance : TyK Tryz.prog 51 false 1 := ⟨ty51⟩
instance : SlK Tryz.prog 51 90 := ⟨sl51⟩
instance : TyK Tryz.prog 90 true 6 := ⟨ty90⟩
instance : FdK Tryz.prog 53 0 0 := ⟨fd53_0⟩
instance : FdK Tryz.prog 53 7 7 := ⟨fd53_7⟩
instance : SlK Tryz.prog 50 3 := ⟨sl50⟩
instance : SlK Tryz.prog 49 9 := ⟨sl49⟩
instance : FdK Tryz.prog 78 1 5 := ⟨fd78_1⟩
instance : TyK Tryz.prog 76 false 1 := ⟨ty76⟩
instance : FdK Tryz.prog 39 0 0 := ⟨fd39_0⟩
instance : FdK Tryz.prog 53 3 3 := ⟨fd53_3⟩
instance : TyK Tryz.prog 50 false 1 := ⟨ty50⟩
instance : FdK Tryz.prog 23 3 3 := ⟨fd23_3⟩
instance : FdK Tryz.prog 57 2 13 := ⟨fd57_2⟩
instance : FdK Tryz.prog 90 0 0 := ⟨fd90_0⟩
instance : FdK Tryz.prog 53 9 9 := ⟨fd53_9⟩
instance : TyK Tryz.prog 42 false 1 := ⟨ty42⟩
instance : FdK Tryz.prog 55 2 2 := ⟨fd55_2⟩
instance : TyK Tryz.prog 4 false 1 := ⟨ty4⟩
instance : FdK Tryz.prog 53 2 2 := ⟨fd53_2⟩
instance : TyK Tryz.prog 49 false 1 := ⟨ty49⟩
instance : SlK Tryz.prog 102 51 := ⟨sl102⟩
instance : FdK Tryz.prog 55 0 0 := ⟨fd55_0⟩
instance : FdK Tryz.prog 23 0 0 := ⟨fd23_0⟩
instance : FdK Tryz.prog 23 1 1 := ⟨fd23_1⟩
instance : FdK Tryz.prog 23 2 2 := ⟨fd23_2⟩
instance : FdK Tryz.prog 23 4 4 := ⟨fd23_4⟩
instance : FdK Tryz.prog 53 4 4 := ⟨fd53_4⟩
instance : FdK Tryz.prog 78 0 0 := ⟨fd78_0⟩
instance : FdK Tryz.prog 53 5 5 := ⟨fd53_5⟩
instance : BoK Tryz.prog 4 := ⟨bo4⟩
instance : FdK Tryz.prog 53 6 6 := ⟨fd53_6⟩
instance : FdK Tryz.prog 125 1 1 := ⟨fd125_1⟩
instance : TyK Tryz.prog 122 false 1 := ⟨ty122⟩
instance : SlK Tryz.prog 122 4 := ⟨sl122⟩
instance : FdK Tryz.prog 90 1 1 := ⟨fd90_1⟩
instance : FdK Tryz.prog 90 4 4 := ⟨fd90_4⟩
instance : FdK Tryz.prog 90 3 3 := ⟨fd90_3⟩
instance : FdK Tryz.prog 90 2 2 := ⟨fd90_2⟩
instance : FdK Tryz.prog 92 0 0 := ⟨fd92_0⟩
instance : SlK Tryz.prog 136 55 := ⟨sl136⟩
instance : FdK Tryz.prog 92 1 1 := ⟨fd92_1⟩
instance : FdK Tryz.prog 90 5 5 := ⟨fd90_5⟩
instance : FdK Tryz.prog 125 2 2 := ⟨fd125_2⟩
instance : TyK Tryz.prog 123 false 1 := ⟨ty123⟩
instance : SlK Tryz.prog 123 3 := ⟨sl123⟩
instance : FdK Tryz.prog 125 0 0 := ⟨fd125_0⟩
instance : TyK Tryz.prog 187 true 2 := ⟨ty187⟩
instance : FdK Tryz.prog 187 0 0 := ⟨fd187_0⟩
instance : FdK Tryz.prog 187 1 1 := ⟨fd187_1⟩
instance : MixK Tryz.prog := ⟨mix⟩
end Go.Proofs.YtfmigmijckdldaaGreat
