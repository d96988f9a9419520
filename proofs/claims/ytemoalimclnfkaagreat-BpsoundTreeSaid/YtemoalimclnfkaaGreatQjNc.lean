/- What container/heap asks of a heap, and what it does with it. Nothing of the program is named here. No condition. -/
import Derived.Test.YtemoalimclnfkaaGreatQjX3
import Derived.Test.YtemoalimclnfkaaGreatQjGa
set_option linter.unusedVariables false
set_option linter.unusedSimpArgs false
set_option linter.unnecessarySimpa false

namespace Go.Fw
open Go Go.RowKit
structure HeapK (P : Program) {α : Type} [Inhabited α] (lt : α → α → Bool) (x : Value) (Rep : GH → List α → MH → Prop) (EV : GH → Value → α → Prop) (pu : Prop := True) : Prop where
 mono : ∀ {G G' l M}, Le G G' → Rep G l M → Rep G' l M
 bound : ∀ {G l M}, Rep G l M → l.length ≤ 140737488355328
 len : ∀ {G l M}, Rep G l M → Inv P x "Len" [] G M (fun v G' M' => v = .int .i64 (l.length : Int) ∧ M' = M)
 less : ∀ {G l M} {i j : Nat}, Rep G l M → i < l.length → j < l.length → Inv P x "Less" [.int .i64 (i : Int), .int .i64 (j : Int)] G M (fun v G' M' => v = .bool (lt (nth l i) (nth l j)) ∧ M' = M)
 swap : ∀ {G l M} {i j : Nat}, Rep G l M → i < l.length → j < l.length → Inv P x "Swap" [.int .i64 (i : Int), .int .i64 (j : Int)] G M (fun v G' M' => v = .tuple #[] ∧ Rep G' (swapL l i j) M')
 push : pu → ∀ {G l M u a}, Rep G l M → l.length < 1000000 → EV G u a → Inv P x "Push" [u] G M (fun v G' M' => v = .tuple #[] ∧ Rep G' (l ++ [a]) M')
 pop : ∀ {G l M}, Rep G l M → 0 < l.length → Inv P x "Pop" [] G M (fun v G' M' => EV G' v (nth l (l.length - 1)) ∧ Rep G' (l.take (l.length - 1)) M')
section
variable {α : Type} [Inhabited α] {lt : α → α → Bool}
theorem downL_stop {f : Nat} {l : List α} {i n : Nat} (h : n ≤ 2 * i + 1) : downL lt f l i n = l := by
 cases f with
 | zero => rfl
 | succ f => rw [downL, if_pos h]
theorem downL_end {f : Nat} {l : List α} {i n : Nat} (h1 : ¬ n ≤ 2 * i + 1) (h2 : lt (nth l (kidJ lt l i n)) (nth l i) = false) : downL lt f l i n = l := by
 cases f with
 | zero => rfl
 | succ f => rw [downL, if_neg h1, if_pos h2]
theorem downL_go {f : Nat} {l : List α} {i n : Nat} (hf : n ≤ i + f) (h1 : ¬ n ≤ 2 * i + 1) (h2 : lt (nth l (kidJ lt l i n)) (nth l i) = true) : downL lt f l i n = downL lt (f - 1) (swapL l i (kidJ lt l i n)) (kidJ lt l i n) n := by
 cases f with
 | zero => omega
 | succ f => rw [downL, if_neg h1, if_neg (by simp [h2])]; rfl
theorem kidJ_t {l : List α} {i n : Nat} (h : 2 * i + 2 < n) (h2 : lt (nth l (2 * i + 2)) (nth l (2 * i + 1)) = true) : kidJ lt l i n = 2 * i + 2 := if_pos ⟨h, h2⟩
theorem kidJ_f {l : List α} {i n : Nat} (h : ¬ 2 * i + 2 < n ∨ lt (nth l (2 * i + 2)) (nth l (2 * i + 1)) = false) : kidJ lt l i n = 2 * i + 1 := if_neg (fun ⟨h1, h2⟩ => h.elim (fun h => h h1) (fun h => by rw [h2] at h; cases h))
theorem upL_end {f : Nat} {l : List α} {j : Nat} (h : (j - 1) / 2 = j ∨ lt (nth l j) (nth l ((j - 1) / 2)) = false) : upL lt f l j = l := by
 cases f with
 | zero => rfl
 | succ f => rw [upL, if_pos h]
theorem upL_go {f : Nat} {l : List α} {j : Nat} (hf : j ≤ f) (h1 : ¬ (j - 1) / 2 = j) (h2 : lt (nth l j) (nth l ((j - 1) / 2)) = true) : upL lt f l j = upL lt (f - 1) (swapL l ((j - 1) / 2) j) ((j - 1) / 2) := by
 cases f with
 | zero => omega
 | succ f => rw [upL, if_neg (fun h => h.elim h1 (fun h => by rw [h2] at h; cases h))]; rfl
theorem downL_id {l : List α} (h : Heap lt l) (f i : Nat) : downL lt f l i l.length = l := by
 by_cases h1 : l.length ≤ 2 * i + 1
 ·exact downL_stop h1
 ·have hk := kidJ_lt (lt := lt) (l := l) h1
  have := h (kidJ lt l i l.length) om9 hk.1 om9
  rw [hk.2.2.1] at this
  exact downL_end h1 this
theorem popL_eq {l : List α} (h : 0 < l.length) : (downL lt l.length (swapL l 0 (l.length - 1)) 0 (l.length - 1)).take ((downL lt l.length (swapL l 0 (l.length - 1)) 0 (l.length - 1)).length - 1) = popL lt l ∧
  nth (downL lt l.length (swapL l 0 (l.length - 1)) 0 (l.length - 1)) ((downL lt l.length (swapL l 0 (l.length - 1)) 0 (l.length - 1)).length - 1) = nth l 0 := by
 rw [downL_length, swapL_length]
 refine ⟨rfl, ?_⟩
 rw [downL_above _ _ _ _ _ (by rw [swapL_length]; omega) (Nat.le_refl _), nth_swap om9 om9, if_pos rfl]
theorem tdiv_half (j : Nat) : (((j : Int) - 1).tdiv 2) = (((j - 1) / 2 : Nat) : Int) := by
 cases j with
 | zero => rfl
 | succ j =>
  have : (((j + 1 : Nat) : Int) - 1) = (j : Int) := om9
  rw [this, Int.tdiv_eq_ediv_of_nonneg om9]
  simp
end
abbrev Hd := List Msg × Int
def Hd.st (a : Hd) : Int := match a.1 with | [] => 0 | m :: _ => m.stamp
def Hd.lt (a b : Hd) : Bool := decide (a.st < b.st) || (decide (a.st = b.st) && decide (a.2 < b.2))
theorem Hd.st_at {a : Hd} (h : 0 < a.1.length) : a.st = a.1[0].stamp := by
 obtain ⟨l, n⟩ := a
 cases l with
 | nil => simp at h
 | cons m l => rfl
theorem Hd.lo : LO Hd.lt where
 asymm := fun {a b} h => by
  simp only [Hd.lt, Bool.or_eq_true, Bool.and_eq_true, decide_eq_true_eq] at h
  simp only [Hd.lt, Bool.or_eq_false_iff, Bool.and_eq_false_iff, decide_eq_false_iff_not]
  omega
 trans := fun {a b c} h1 h2 => by
  simp only [Hd.lt, Bool.or_eq_false_iff, Bool.and_eq_false_iff, decide_eq_false_iff_not] at h1 h2 ⊢
  omega
def HdC (G : GH) (cs : List Value) (a : Hd) : Prop := ∃ p c, cs = [.slice p a.1.length c, .int .i64 a.2] ∧ SlR eMsg G (.slice p a.1.length c) a.1 ∧ i64 a.2
theorem HdC.mono {G G' : GH} {cs a} (hl : Le G G') (h : HdC G cs a) : HdC G' cs a := by
 obtain ⟨p, c, h1, h2, h3⟩ := h; exact ⟨p, c, h1, h2.mono hl, h3⟩
def eHead : Enc Hd where
 k := 2
 w := 32
 R := HdC
 mono := fun hl h => h.mono hl
 len := fun h => by obtain ⟨p, c, h0, _⟩ := h; rw [h0]; rfl
 one := fun h u hu => by
  obtain ⟨p, c, h0, _⟩ := h
  rw [h0] at hu
  simp at hu
  rcases hu with rfl | rfl <;> rfl
theorem lo_int : LO (fun a b : Int => decide (a < b)) where
 asymm := fun {a b} h => by simp at h ⊢; omega
 trans := fun {a b c} h1 h2 => by simp at h1 h2 ⊢; omega
def eBool : Enc Bool where
 k := 1
 w := 1
 R := fun _ cs b => cs = [.bool b]
 mono := fun _ h => h
 len := fun h => by rw [h]; rfl
 one := fun h u hu => by rw [h] at hu; simp at hu; subst hu; rfl
instance : EqE eBool (fun b => [.bool b]) := ⟨fun _ _ _ h => h⟩
instance : EqE eSpan (fun s => [.string s.lo.b, .string s.hi.b, .bool s.opn]) := ⟨fun _ _ _ h => h⟩
instance : EqP eEff (fun e => [.int .i64 e.kind, .string e.val.b]) (fun e => i64 e.kind) := ⟨fun _ _ _ h => h⟩
abbrev ltI : Int → Int → Bool := fun a b => decide (a < b)
def hasN (u : List Bool) (i : Int) : Bool := decide (0 ≤ i) && (decide (i < u.length) && u.getD i.toNat false)
theorem hasN_iff {u : List Bool} {i : Int} : hasN u i = true ↔ ∃ k : Nat, ∃ h : k < u.length, i = k ∧ u[k] = true := by
 unfold hasN
 simp only [Bool.and_eq_true, decide_eq_true_eq]
 constructor
 ·rintro ⟨h1, h2, h3⟩
  have h4 : i.toNat < u.length := om9
  rw [List.getD_eq_getElem?_getD, List.getElem?_eq_getElem h4] at h3
  exact ⟨i.toNat, h4, om9, h3⟩
 ·rintro ⟨k, h, rfl, h2⟩
  refine ⟨om9, om9, ?_⟩
  rw [List.getD_eq_getElem?_getD, Int.toNat_natCast, List.getElem?_eq_getElem h]
  exact h2
theorem hasN_at {u : List Bool} {k : Nat} (h : k < u.length) : hasN u k = u[k] := by
 unfold hasN
 rw [decide_eq_true om9, decide_eq_true om9, Int.toNat_natCast, List.getD_eq_getElem?_getD, List.getElem?_eq_getElem h]
 rfl
def freeN (u : List Bool) : List Int := ((List.range u.length).filter fun i => !u.getD i true).map fun i : Nat => (i : Int)
def usedN (u : List Bool) : List Int := ((List.range u.length).filter fun i => u.getD i true).map fun i : Nat => (i : Int)
theorem getD_at9 {u : List Bool} {i : Nat} (h : i < u.length) (d : Bool) : u.getD i d = u[i] := by rw [List.getD_eq_getElem?_getD, List.getElem?_eq_getElem h]; rfl
theorem mem_free {u : List Bool} {a : Int} : a ∈ freeN u ↔ ∃ i : Nat, ∃ h : i < u.length, a = i ∧ u[i] = false := by
 unfold freeN
 rw [List.mem_map]
 constructor
 ·rintro ⟨i, hi, rfl⟩
  rw [List.mem_filter, List.mem_range] at hi
  obtain ⟨h1, h2⟩ := hi
  rw [getD_at9 h1] at h2
  exact ⟨i, h1, rfl, by simpa using h2⟩
 ·rintro ⟨i, h, rfl, h2⟩
  exact ⟨i, List.mem_filter.2 ⟨List.mem_range.2 h, by rw [getD_at9 h, h2]; rfl⟩, rfl⟩
theorem free_nodup (u : List Bool) : (freeN u).Nodup := by
 unfold freeN
 have h : List.Pairwise (fun a b : Nat => a ≠ b) ((List.range u.length).filter fun i => !u.getD i true) := List.Pairwise.sublist List.filter_sublist List.nodup_range
 exact List.Pairwise.map _ (fun a b h e => h (by have e : (a : Int) = (b : Int) := e; omega)) h
theorem filter_two {α : Type} (p : α → Bool) : ∀ (l : List α), (l.filter fun i => !p i).length + (l.filter p).length = l.length
 | [] => rfl
 | x :: l => by
  have := filter_two p l
  cases h : p x <;> simp [h] <;> omega
theorem free_used (u : List Bool) : (freeN u).length + (usedN u).length = u.length := by
 unfold freeN usedN
 rw [List.length_map, List.length_map]
 have := filter_two (fun i => u.getD i true) (List.range u.length)
 rw [List.length_range] at this
 exact this
def firstN : List Bool → Nat
 | [] => 0
 | true :: l => firstN l + 1
 | false :: _ => 0
theorem firstN_at : ∀ {u : List Bool} {i : Nat} (h : i < u.length), u[i] = false → (∀ j (hj : j < u.length), j < i → u[j] = true) → firstN u = i
 | [], i, h, _, _ => by simp at h
 | true :: l, 0, h, h1, _ => by simp at h1
 | true :: l, i + 1, h, h1, h2 => by
  rw [firstN, firstN_at (u := l) (i := i) (by simp at h; omega) (by simpa using h1) fun j hj hji => by have := h2 (j + 1) (by simp; omega) om9; simpa using this]
 | false :: l, 0, _, _, _ => rfl
 | false :: l, i + 1, h, h1, h2 => by have := h2 0 (by simp) om9; simp at this
theorem firstN_all : ∀ {u : List Bool}, (∀ j (hj : j < u.length), u[j] = true) → firstN u = u.length
 | [], _ => rfl
 | true :: l, h => by rw [firstN, firstN_all (u := l) fun j hj => by have := h (j + 1) (by simp; omega); simpa using this]; rfl
 | false :: l, h => by have := h 0 (by simp); simp at this
theorem firstN_le : ∀ (u : List Bool), firstN u ≤ u.length
 | [] => Nat.le_refl _
 | true :: l => by have := firstN_le l; simp [firstN]; omega
 | false :: l => by simp [firstN]
theorem free_zero {u : List Bool} (h : (freeN u).length = 0) : firstN u = u.length := firstN_all fun j hj => by
 cases hu : u[j] with
 | true => rfl
 | false =>
  have := mem_free.2 ⟨j, hj, rfl, hu⟩
  rw [List.eq_nil_of_length_eq_zero h] at this; cases this
theorem perm_of_mem {a b : List Int} (ha : a.Nodup) (hb : b.Nodup) (h : ∀ x, x ∈ a ↔ x ∈ b) : a.Perm b := (List.perm_ext_iff_of_nodup ha hb).2 h
theorem take_first {f : List Int} {u : List Bool} (hH : Heap ltI f) (hp : f.Perm (freeN u)) (hl : 0 < f.length) : ∃ h : firstN u < u.length, nth f 0 = (firstN u : Int) ∧ Heap ltI (popL ltI f) ∧ (popL ltI f).Perm (freeN (u.set (firstN u) true)) := by
 obtain ⟨h1, h2, h3⟩ := pop_heap lo_int hH hl
 have hm : nth f 0 ∈ freeN u := hp.mem_iff.1 (by rw [nth_lt hl]; exact List.getElem_mem _)
 obtain ⟨i, hi, e, hu⟩ := mem_free.1 hm
 have hfi : firstN u = i := firstN_at hi hu fun j hj hji => by
  cases huj : u[j] with
  | true => rfl
  | false =>
   have hmj : ((j : Nat) : Int) ∈ f := hp.mem_iff.2 (mem_free.2 ⟨j, hj, rfl, huj⟩)
   obtain ⟨c, hc, e2⟩ := List.getElem_of_mem hmj
   have := heap_min lo_int hH c hc
   rw [nth_lt hc, e, e2] at this
   simp at this; omega
 subst hfi
 refine ⟨hi, e, h1, ?_⟩
 have hnd : (nth f 0 :: popL ltI f).Nodup := h2.nodup_iff.2 (hp.nodup_iff.2 (free_nodup u))
 obtain ⟨hn1, hn2⟩ := List.nodup_cons.1 hnd
 refine perm_of_mem hn2 (free_nodup _) fun x => ?_
 have hmx : x ∈ nth f 0 :: popL ltI f ↔ x ∈ freeN u := (h2.trans hp).mem_iff
 constructor
 ·intro hx
  obtain ⟨k, hk, rfl, hku⟩ := mem_free.1 (hmx.1 (List.mem_cons_of_mem _ hx))
  have hne : firstN u ≠ k := fun h => hn1 (by rw [e, h]; exact hx)
  exact mem_free.2 ⟨k, by rw [List.length_set]; exact hk, rfl, by rw [List.getElem_set_ne hne]; exact hku⟩
 ·intro hx
  obtain ⟨k, hk, rfl, hku⟩ := mem_free.1 hx
  rw [List.length_set] at hk
  have hne : firstN u ≠ k := fun h => by subst h; simp at hku
  rw [List.getElem_set_ne hne] at hku
  rcases List.mem_cons.1 (hmx.2 (mem_free.2 ⟨k, hk, rfl, hku⟩)) with h | h
  ·rw [e] at h; omega
  ·exact h
theorem give_back {f : List Int} {u : List Bool} {k : Nat} (hH : Heap ltI f) (hp : f.Perm (freeN u)) (hk : k < u.length) (hu : u[k] = true) : Heap ltI (pushL ltI f (k : Int)) ∧ (pushL ltI f (k : Int)).Perm (freeN (u.set k false)) := by
 obtain ⟨h1, h2⟩ := push_heap lo_int hH (k : Int)
 refine ⟨h1, h2.trans ?_⟩
 have hnk : (k : Int) ∉ f := fun h => by
  obtain ⟨j, hj, e, hju⟩ := mem_free.1 (hp.mem_iff.1 h)
  have : k = j := om9
  subst this
  rw [hu] at hju; cases hju
 refine perm_of_mem (List.nodup_cons.2 ⟨hnk, hp.nodup_iff.2 (free_nodup u)⟩) (free_nodup _) fun x => ?_
 rw [List.mem_cons, hp.mem_iff, mem_free, mem_free]
 constructor
 ·rintro (rfl | ⟨j, hj, rfl, hju⟩)
  ·exact ⟨k, by rw [List.length_set]; exact hk, rfl, by simp⟩
  ·refine ⟨j, by rw [List.length_set]; exact hj, rfl, ?_⟩
   rw [List.getElem_set]; split
   ·rfl
   ·exact hju
 ·rintro ⟨j, hj, rfl, hju⟩
  rw [List.length_set] at hj
  by_cases e : k = j
  ·left; omega
  ·rw [List.getElem_set_ne e] at hju
   exact .inr ⟨j, hj, rfl, hju⟩
def iotaN (n : Nat) : List Int := (List.range n).map fun i : Nat => (i : Int)
theorem iota_succ (n : Nat) : iotaN (n + 1) = iotaN n ++ [(n : Int)] := by simp [iotaN, List.range_succ]
theorem iota_len (n : Nat) : (iotaN n).length = n := by simp [iotaN]
theorem iota_heap (n : Nat) : Heap ltI (iotaN n) := fun c h0 hc _ => by
 rw [iota_len] at hc
 have h1 : nth (iotaN n) c = (c : Int) := by rw [nth_lt (by rw [iota_len]; exact hc)]; simp [iotaN]
 have h2 : nth (iotaN n) ((c - 1) / 2) = (((c - 1) / 2 : Nat) : Int) := by rw [nth_lt (by rw [iota_len]; omega)]; simp [iotaN]
 rw [h1, h2]
 simp only [decide_eq_false_iff_not]
 omega
theorem iota_free (n : Nat) : iotaN n = freeN (List.replicate n false) := by
 unfold iotaN freeN
 rw [List.length_replicate]
 congr 1
 symm
 rw [List.filter_eq_self]
 intro i hi
 rw [List.mem_range] at hi
 rw [getD_at9 (by simpa using hi)]
 simp
def nextA {α : Type} (st : List α × List Bool) (x : α) : (Int × Int) × (List α × List Bool) :=
 if firstN st.2 < st.2.length then ((firstN st.2, 0), (st.1.set (firstN st.2) x, st.2.set (firstN st.2) true)) else ((0, 4), st)
def freeA {α : Type} (st : List α × List Bool) (i : Int) (z : α) : Int × (List α × List Bool) := if hasN st.2 i = true then (0, (st.1.set i.toNat z, st.2.set i.toNat false)) else (8, st)
def layA {α : Type} (st : List α × List Bool) (i : Int) (x : α) : Int × (List α × List Bool) := if hasN st.2 i = true then (0, (st.1.set i.toNat x, st.2)) else (8, st)
def getA {α : Type} (st : List α × List Bool) (i : Int) (z : α) : α := if hasN st.2 i = true then st.1.getD i.toNat z else z
def ArP {α : Type} (e : Enc α) (Te TB TI Tb : TypeId) (b : Nat) (G : GH) (st : List α × List Bool × List Int) (M : MH) : Prop :=
 ∃ vc vu vf Mc Mu Mf, M = (b, .cells (List.toArray [vc, vu, vf]) Tb (0, 0)) :: (Mc ++ (Mu ++ Mf)) ∧ OwnR e Te G vc st.1 Mc ∧ OwnR eBool TB G vu st.2.1 Mu ∧ OwnR eInt TI G vf st.2.2 Mf
theorem ArP.mono {α : Type} {e : Enc α} {Te TB TI Tb : TypeId} {b : Nat} {G G' : GH} {st : List α × List Bool × List Int} {M : MH} (hl : Le G G') (h : ArP e Te TB TI Tb b G st M) : ArP e Te TB TI Tb b G' st M := by
 obtain ⟨vc, vu, vf, Mc, Mu, Mf, h1, h2, h3, h4⟩ := h
 exact ⟨vc, vu, vf, Mc, Mu, Mf, h1, h2.mono hl, h3.mono hl, h4.mono hl⟩
def ArR {α : Type} (e : Enc α) (Te TB TI Tb : TypeId) (b : Nat) (G : GH) (st : List α × List Bool) (M : MH) : Prop :=
 ∃ f, ArP e Te TB TI Tb b G (st.1, st.2, f) M ∧ st.1.length = st.2.length ∧ st.2.length ≤ 4096 ∧ Heap ltI f ∧ f.Perm (freeN st.2)
theorem ArR.mono {α : Type} {e : Enc α} {Te TB TI Tb : TypeId} {b : Nat} {G G' : GH} {st : List α × List Bool} {M : MH} (hl : Le G G') (h : ArR e Te TB TI Tb b G st M) : ArR e Te TB TI Tb b G' st M := by
 obtain ⟨f, h1, h2⟩ := h
 exact ⟨f, h1.mono hl, h2⟩
theorem ArR.cast {α : Type} {e : Enc α} {Te TB TI Tb : TypeId} {b : Nat} {G : GH} {st st' : List α × List Bool} {M M' : MH} (h : ArR e Te TB TI Tb b G st M) (e1 : st = st') (e2 : M = M') : ArR e Te TB TI Tb b G st' M' := by subst e1 e2; exact h
theorem hasN_get {u : List Bool} {i : Int} (h0 : 0 ≤ i) (h1 : i < u.length) : u[i.toNat]'om9 = hasN u i := by
 unfold hasN
 rw [decide_eq_true h0, decide_eq_true h1, getD_at9 om9]; rfl
theorem hasN_neg {u : List Bool} {i : Int} (h0 : ¬ 0 ≤ i) : false = hasN u i := by unfold hasN; rw [decide_eq_false h0]; rfl
theorem hasN_big {u : List Bool} {i : Int} (h1 : ¬ i < u.length) : false = hasN u i := by unfold hasN; rw [decide_eq_false h1]; simp
theorem hasN_lt {u : List Bool} {i : Int} (h : hasN u i = true) : 0 ≤ i ∧ i.toNat < u.length ∧ i = (i.toNat : Int) := by
 obtain ⟨k, hk, rfl, _⟩ := hasN_iff.1 h
 exact ⟨om9, by simpa using hk, by simp⟩
theorem freeA_t {α : Type} {st : List α × List Bool} {i : Int} {x : α} (h : hasN st.2 i = true) : freeA st i x = (0, (st.1.set i.toNat x, st.2.set i.toNat false)) := if_pos h
theorem freeA_f {α : Type} {st : List α × List Bool} {i : Int} {x : α} (h : hasN st.2 i = false) : freeA st i x = (8, st) := if_neg (by simp [h])
theorem nextA_t {α : Type} {st : List α × List Bool} {x : α} (h : firstN st.2 < st.2.length) : nextA st x = (((firstN st.2 : Int), 0), (st.1.set (firstN st.2) x, st.2.set (firstN st.2) true)) := if_pos h
theorem nextA_f {α : Type} {st : List α × List Bool} {x : α} (h : firstN st.2 = st.2.length) : nextA st x = ((0, 4), st) := if_neg om9
theorem give_back' {f : List Int} {u : List Bool} {i : Int} (hH : Heap ltI f) (hp : f.Perm (freeN u)) (h : hasN u i = true) : Heap ltI (pushL ltI f i) ∧ (pushL ltI f i).Perm (freeN (u.set i.toNat false)) := by
 obtain ⟨k, hk, rfl, hu⟩ := hasN_iff.1 h
 exact give_back hH hp hk hu
theorem NodeC.cast {G : GH} {cs : List Value} {n m : Nd} (h : NodeC G cs n) (e : n = m) : NodeC G cs m := e ▸ h
def usedK (u : List Bool) (k : Nat) : List Int := ((List.range k).filter fun i => u.getD i true).map fun i : Nat => (i : Int)
theorem usedK_len (u : List Bool) (k : Nat) : (usedK u k).length ≤ k := by
 unfold usedK; rw [List.length_map]
 have := List.length_filter_le (fun i => u.getD i true) (List.range k)
 rw [List.length_range] at this; exact this
theorem usedK_t {u : List Bool} {k : Nat} (hk : k < u.length) (h : u[k] = true) : usedK u (k + 1) = usedK u k ++ [(k : Int)] := by
 unfold usedK; rw [List.range_succ, List.filter_append, List.map_append]; congr 1; simp [List.getElem?_eq_getElem hk, h]
theorem usedK_f {u : List Bool} {k : Nat} (hk : k < u.length) (h : u[k] = false) : usedK u (k + 1) = usedK u k := by
 unfold usedK; rw [List.range_succ, List.filter_append, List.map_append]; simp [List.getElem?_eq_getElem hk, h]
theorem used_eq (u : List Bool) : usedN u = usedK u u.length := rfl
def CfgR (c : Cfg) : Prop := (4 ≤ c.fan ∧ c.fan ≤ 64) ∧ (2 ≤ c.leaf ∧ c.leaf ≤ 64) ∧ (36 ≤ c.bud ∧ c.bud ≤ 4096) ∧ (1 ≤ c.slots ∧ c.slots ≤ 4096) ∧ (0 ≤ c.rest ∧ c.rest ≤ 100)
instance (c : Cfg) : Decidable (CfgR c) := by unfold CfgR; infer_instance
def arOf (n : Nat) (l : List Nd) : List Nd × List Bool := (l ++ List.replicate (n - l.length) Nd.zero, List.replicate l.length true ++ List.replicate (n - l.length) false)
def putL (l : List Nd) (x : Nd) : Int × List Nd := if 0 ≤ x.slot ∧ x.slot < l.length then (0, l.set x.slot.toNat x) else (8, l)
def takeL (n : Nat) (l : List Nd) (x : Nd) : (Int × Int) × List Nd := if l.length < n then ((l.length, 0), l ++ [{ x with slot := l.length }]) else ((0, 4), l)
def getL (l : List Nd) (i : Int) : Nd := if 0 ≤ i then l.getD i.toNat Nd.zero else Nd.zero
theorem getL_at {l : List Nd} {k : Nat} (h : k < l.length) : getL l k = l[k] := by
 unfold getL; rw [if_pos om9, Int.toNat_natCast, List.getD_eq_getElem?_getD, List.getElem?_eq_getElem h]; rfl
def takeA (a : List Nd × List Bool) (x : Nd) : (Int × Int) × (List Nd × List Bool) :=
 if (nextA a Nd.zero).1.2 = 0 then (((nextA a Nd.zero).1.1, (layA (nextA a Nd.zero).2 (nextA a Nd.zero).1.1 { x with slot := (nextA a Nd.zero).1.1 }).1), (layA (nextA a Nd.zero).2 (nextA a Nd.zero).1.1 { x with slot := (nextA a Nd.zero).1.1 }).2)
 else ((0, (nextA a Nd.zero).1.2), (nextA a Nd.zero).2)
def StA (te tB ti tb TS b : Nat) (G : GH) (c : Cfg) (a : List Nd × List Bool) (M : MH) : Prop :=
 ∃ b2 Ma, M = (b, .cells (List.toArray [.int .i64 c.fan, .int .i64 c.leaf, .int .i64 c.bud, .int .i64 c.slots, .int .i64 c.rest, .pointer (some ⟨b2, 0, none⟩)]) TS (0, 0)) :: Ma ∧ ArR eNode te tB ti tb b2 G a Ma
theorem StA.mono {te tB ti tb TS b : Nat} {G G' : GH} {c : Cfg} {a : List Nd × List Bool} {M : MH} (hl : Le G G') (h : StA te tB ti tb TS b G c a M) : StA te tB ti tb TS b G' c a M := by
 obtain ⟨b2, Ma, h1, h2⟩ := h; exact ⟨b2, Ma, h1, h2.mono hl⟩
def StR (te tB ti tb TS b : Nat) (c : Cfg) (G : GH) (l : List Nd) (M : MH) : Prop := CfgR c ∧ l.length ≤ c.slots.toNat ∧ StA te tB ti tb TS b G c (arOf c.slots.toNat l) M
theorem StR.mono {te tB ti tb TS b : Nat} {G G' : GH} {c : Cfg} {l : List Nd} {M : MH} (hl : Le G G') (h : StR te tB ti tb TS b c G l M) : StR te tB ti tb TS b c G' l M := ⟨h.1, h.2.1, h.2.2.mono hl⟩
theorem StA.cast {te tB ti tb TS b : Nat} {G : GH} {c : Cfg} {a a' : List Nd × List Bool} {M : MH} (h : StA te tB ti tb TS b G c a M) (e : a = a') : StA te tB ti tb TS b G c a' M := e ▸ h
def leafN (slot : Int) : Nd := ⟨slot, 0, [], [], Str.nil, true, -1, 0, [], []⟩
theorem NodeC.of {G : GH} {cs : List Value} {n m : Nd} (h : NodeC G cs n) (e : n = m) : NodeC G cs m := e ▸ h
end Go.Fw
