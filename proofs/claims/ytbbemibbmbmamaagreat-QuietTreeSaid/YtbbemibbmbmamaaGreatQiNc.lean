/- What container/heap asks of a heap, and what it does with it. Nothing of the program is named here. No condition. -/
import Derived.RangeFuncRecord
import Derived.MapKept
import Derived.Test.YtbbemibbmbmamaaGreatQiGa
set_option linter.unusedVariables false
set_option linter.unusedSimpArgs false
set_option linter.unnecessarySimpa false

namespace Go.Fw
open Go Go.RowKit
structure HeapK (P : Program) {α : Type} [Inhabited α] (lt : α → α → Bool) (x : Value) (Rep : GH → List α → MH → Prop) (EV : GH → Value → α → Prop) (pu : Prop := True) : Prop where
 mono : ∀ {G G' l M}, Le G G' → Rep G l M → Rep G' l M
 bound : ∀ {G l M}, Rep G l M → l.length ≤ 140737488355328
 len : ∀ {G l M}, Rep G l M → Inv P x "Len" [] G M (fun v G' M' => v = .int .i64 (l.length : Int) ∧ M' = M)
 less : ∀ {G l M} {i j : Nat}, Rep G l M → i < l.length → j < l.length → Inv P x "Less" [.int .i64 (i : Int), .int .i64 (j : Int)] G M (fun v G' M' => v = .bool (lt (nth l i) (nth l j)) ∧ M' = M)
 swap : ∀ {G l M} {i j : Nat}, Rep G l M → i < l.length → j < l.length → Inv P x "Swap" [.int .i64 (i : Int), .int .i64 (j : Int)] G M (fun v G' M' => v = .tuple #[] ∧ Rep G' (YJ l i j) M')
 push : pu → ∀ {G l M u a}, Rep G l M → l.length < 1000000 → EV G u a → Inv P x "Push" [u] G M (fun v G' M' => v = .tuple #[] ∧ Rep G' (l ++ [a]) M')
 pop : ∀ {G l M}, Rep G l M → 0 < l.length → Inv P x "Pop" [] G M (fun v G' M' => EV G' v (nth l (l.length - 1)) ∧ Rep G' (l.take (l.length - 1)) M')
section
variable {α : Type} [Inhabited α] {lt : α → α → Bool}
theorem ZhK {f : Nat} {l : List α} {i n : Nat} (h : n ≤ 2 * i + 1) : YG lt f l i n = l := by
 cases f with
 | zero => rfl
 | succ f => rw [YG, if_pos h]
theorem ZhL {f : Nat} {l : List α} {i n : Nat} (h1 : ¬ n ≤ 2 * i + 1) (h2 : lt (nth l (YR lt l i n)) (nth l i) = false) : YG lt f l i n = l := by
 cases f with
 | zero => rfl
 | succ f => rw [YG, if_neg h1, if_pos h2]
theorem Znx {f : Nat} {l : List α} {i n : Nat} (hf : n ≤ i + f) (h1 : ¬ n ≤ 2 * i + 1) (h2 : lt (nth l (YR lt l i n)) (nth l i) = true) : YG lt f l i n = YG lt (f - 1) (YJ l i (YR lt l i n)) (YR lt l i n) n := by
 cases f with
 | zero => omega
 | succ f => rw [YG, if_neg h1, if_neg (by simp [h2])]; rfl
theorem Zny {l : List α} {i n : Nat} (h : 2 * i + 2 < n) (h2 : lt (nth l (2 * i + 2)) (nth l (2 * i + 1)) = true) : YR lt l i n = 2 * i + 2 := if_pos ⟨h, h2⟩
theorem ZhM {l : List α} {i n : Nat} (h : ¬ 2 * i + 2 < n ∨ lt (nth l (2 * i + 2)) (nth l (2 * i + 1)) = false) : YR lt l i n = 2 * i + 1 := if_neg (fun ⟨h1, h2⟩ => h.elim (fun h => h h1) (fun h => by rw [h2] at h; cases h))
theorem ZhN {f : Nat} {l : List α} {j : Nat} (h : (j - 1) / 2 = j ∨ lt (nth l j) (nth l ((j - 1) / 2)) = false) : upL lt f l j = l := by
 cases f with
 | zero => rfl
 | succ f => rw [upL, if_pos h]
theorem Znz {f : Nat} {l : List α} {j : Nat} (hf : j ≤ f) (h1 : ¬ (j - 1) / 2 = j) (h2 : lt (nth l j) (nth l ((j - 1) / 2)) = true) : upL lt f l j = upL lt (f - 1) (YJ l ((j - 1) / 2) j) ((j - 1) / 2) := by
 cases f with
 | zero => omega
 | succ f => rw [upL, if_neg (fun h => h.elim h1 (fun h => by rw [h2] at h; cases h))]; rfl
theorem ZnA {l : List α} (h : Heap lt l) (f i : Nat) : YG lt f l i l.length = l := by
 by_cases h1 : l.length ≤ 2 * i + 1
 ·exact ZhK h1
 ·have hk := Zcr (lt := lt) (l := l) h1
  have := h (YR lt l i l.length) om9 hk.1 om9
  rw [hk.2.2.1] at this
  exact ZhL h1 this
theorem ZhO {l : List α} (h : 0 < l.length) : (YG lt l.length (YJ l 0 (l.length - 1)) 0 (l.length - 1)).take ((YG lt l.length (YJ l 0 (l.length - 1)) 0 (l.length - 1)).length - 1) = Y6 lt l ∧
  nth (YG lt l.length (YJ l 0 (l.length - 1)) 0 (l.length - 1)) ((YG lt l.length (YJ l 0 (l.length - 1)) 0 (l.length - 1)).length - 1) = nth l 0 := by
 rw [Zdl, XH]
 refine ⟨rfl, ?_⟩
 rw [ZeX _ _ _ _ _ (by rw [XH]; omega) (Nat.le_refl _), Jt om9 om9, if_pos rfl]
theorem ZhP (j : Nat) : (((j : Int) - 1).tdiv 2) = (((j - 1) / 2 : Nat) : Int) := by
 cases j with
 | zero => rfl
 | succ j =>
  have : (((j + 1 : Nat) : Int) - 1) = (j : Int) := om9
  rw [this, Int.tdiv_eq_ediv_of_nonneg om9]
  simp
end
abbrev Hd := List Msg × Int
def Hd.st (a : Hd) : Int := match a.1 with | [] => 0 | m :: _ => m.stamp
def Hd.lt (a b : Hd) : Bool := decide (a.st < b.st) || (decide (a.st = b.st) && decide (a.2 < b.2))
theorem Hd.st_at {a : Hd} (h : 0 < a.1.length) : a.st = a.1[0].stamp := by
 obtain ⟨l, n⟩ := a
 cases l with
 | nil => simp at h
 | cons m l => rfl
theorem Hd.lo : LO Hd.lt where
 asymm := fun {a b} h => by
  simp only [Hd.lt, Bool.or_eq_true, Bool.and_eq_true, decide_eq_true_eq] at h
  simp only [Hd.lt, Bool.or_eq_false_iff, Bool.and_eq_false_iff, decide_eq_false_iff_not]
  omega
 trans := fun {a b c} h1 h2 => by
  simp only [Hd.lt, Bool.or_eq_false_iff, Bool.and_eq_false_iff, decide_eq_false_iff_not] at h1 h2 ⊢
  omega
def HdC (G : GH) (cs : List Value) (a : Hd) : Prop := ∃ p c, cs = [.slice p a.1.length c, .int .i64 a.2] ∧ SlR Zu G (.slice p a.1.length c) a.1 ∧ i64 a.2
theorem HdC.mono {G G' : GH} {cs a} (hl : Le G G') (h : HdC G cs a) : HdC G' cs a := by
 obtain ⟨p, c, h1, h2, h3⟩ := h; exact ⟨p, c, h1, h2.mono hl, h3⟩
def Jj : Enc Hd where
 k := 2
 w := 32
 R := HdC
 mono := fun hl h => h.mono hl
 len := fun h => by obtain ⟨p, c, h0, _⟩ := h; rw [h0]; rfl
 one := fun h u hu => by
  obtain ⟨p, c, h0, _⟩ := h
  rw [h0] at hu
  simp at hu
  rcases hu with rfl | rfl <;> rfl
theorem ZhQ : LO (fun a b : Int => decide (a < b)) where
 asymm := fun {a b} h => by simp at h ⊢; omega
 trans := fun {a b c} h1 h2 => by simp at h1 h2 ⊢; omega
def J1 : Enc Bool where
 k := 1
 w := 1
 R := fun _ cs b => cs = [.bool b]
 mono := fun _ h => h
 len := fun h => by rw [h]; rfl
 one := fun h u hu => by rw [h] at hu; simp at hu; subst hu; rfl
instance : EqE J1 (fun b => [.bool b]) := ⟨fun _ _ _ h => h⟩
instance : EqE XI (fun s => [.string s.lo.b, .string s.hi.b, .bool s.opn]) := ⟨fun _ _ _ h => h⟩
instance : EqP Znw (fun e => [.int .i64 e.kind, .string e.val.b]) (fun e => i64 e.kind) := ⟨fun _ _ _ h => h⟩
abbrev ltI : Int → Int → Bool := fun a b => decide (a < b)
def Y0 (u : List Bool) (i : Int) : Bool := decide (0 ≤ i) && (decide (i < u.length) && u.getD i.toNat false)
theorem ZhR {u : List Bool} {i : Int} : Y0 u i = true ↔ ∃ k : Nat, ∃ h : k < u.length, i = k ∧ u[k] = true := by
 unfold Y0
 simp only [Bool.and_eq_true, decide_eq_true_eq]
 constructor
 ·rintro ⟨h1, h2, h3⟩
  have h4 : i.toNat < u.length := om9
  rw [List.getD_eq_getElem?_getD, List.getElem?_eq_getElem h4] at h3
  exact ⟨i.toNat, h4, om9, h3⟩
 ·rintro ⟨k, h, rfl, h2⟩
  refine ⟨om9, om9, ?_⟩
  rw [List.getD_eq_getElem?_getD, Int.toNat_natCast, List.getElem?_eq_getElem h]
  exact h2
def Y7 (u : List Bool) : List Int := ((List.range u.length).filter fun i => !u.getD i true).map fun i : Nat => (i : Int)
def Xj (u : List Bool) : List Int := ((List.range u.length).filter fun i => u.getD i true).map fun i : Nat => (i : Int)
theorem Zcs {u : List Bool} {i : Nat} (h : i < u.length) (d : Bool) : u.getD i d = u[i] := by rw [List.getD_eq_getElem?_getD, List.getElem?_eq_getElem h]; rfl
theorem Zbb {u : List Bool} {a : Int} : a ∈ Y7 u ↔ ∃ i : Nat, ∃ h : i < u.length, a = i ∧ u[i] = false := by
 unfold Y7
 rw [List.mem_map]
 constructor
 ·rintro ⟨i, hi, rfl⟩
  rw [List.mem_filter, List.mem_range] at hi
  obtain ⟨h1, h2⟩ := hi
  rw [Zcs h1] at h2
  exact ⟨i, h1, rfl, by simpa using h2⟩
 ·rintro ⟨i, h, rfl, h2⟩
  exact ⟨i, List.mem_filter.2 ⟨List.mem_range.2 h, by rw [Zcs h, h2]; rfl⟩, rfl⟩
theorem ZhS (u : List Bool) : (Y7 u).Nodup := by
 unfold Y7
 have h : List.Pairwise (fun a b : Nat => a ≠ b) ((List.range u.length).filter fun i => !u.getD i true) := List.Pairwise.sublist List.filter_sublist List.nodup_range
 exact List.Pairwise.map _ (fun a b h e => h (by have e : (a : Int) = (b : Int) := e; omega)) h
theorem ZhT {α : Type} (p : α → Bool) : ∀ (l : List α), (l.filter fun i => !p i).length + (l.filter p).length = l.length
 | [] => rfl
 | x :: l => by
  have := ZhT p l
  cases h : p x <;> simp [h] <;> omega
theorem Zdn (u : List Bool) : (Y7 u).length + (Xj u).length = u.length := by
 unfold Y7 Xj
 rw [List.length_map, List.length_map]
 have := ZhT (fun i => u.getD i true) (List.range u.length)
 rw [List.length_range] at this
 exact this
def Yx : List Bool → Nat
 | [] => 0
 | true :: l => Yx l + 1
 | false :: _ => 0
theorem Ze0 : ∀ {u : List Bool} {i : Nat} (h : i < u.length), u[i] = false → (∀ j (hj : j < u.length), j < i → u[j] = true) → Yx u = i
 | [], i, h, _, _ => by simp at h
 | true :: l, 0, h, h1, _ => by simp at h1
 | true :: l, i + 1, h, h1, h2 => by
  rw [Yx, Ze0 (u := l) (i := i) (by simp at h; omega) (by simpa using h1) fun j hj hji => by have := h2 (j + 1) (by simp; omega) om9; simpa using this]
 | false :: l, 0, _, _, _ => rfl
 | false :: l, i + 1, h, h1, h2 => by have := h2 0 (by simp) om9; simp at this
theorem Ze1 : ∀ {u : List Bool}, (∀ j (hj : j < u.length), u[j] = true) → Yx u = u.length
 | [], _ => rfl
 | true :: l, h => by rw [Yx, Ze1 (u := l) fun j hj => by have := h (j + 1) (by simp; omega); simpa using this]; rfl
 | false :: l, h => by have := h 0 (by simp); simp at this
theorem ZnB {u : List Bool} (h : (Y7 u).length = 0) : Yx u = u.length := Ze1 fun j hj => by
 cases hu : u[j] with
 | true => rfl
 | false =>
  have := Zbb.2 ⟨j, hj, rfl, hu⟩
  rw [List.eq_nil_of_length_eq_zero h] at this; cases this
theorem ZnC {a b : List Int} (ha : a.Nodup) (hb : b.Nodup) (h : ∀ x, x ∈ a ↔ x ∈ b) : a.Perm b := (List.perm_ext_iff_of_nodup ha hb).2 h
theorem ZnD {f : List Int} {u : List Bool} (hH : Heap ltI f) (hp : f.Perm (Y7 u)) (hl : 0 < f.length) : ∃ h : Yx u < u.length, nth f 0 = (Yx u : Int) ∧ Heap ltI (Y6 ltI f) ∧ (Y6 ltI f).Perm (Y7 (u.set (Yx u) true)) := by
 obtain ⟨h1, h2, h3⟩ := Zdm ZhQ hH hl
 have hm : nth f 0 ∈ Y7 u := hp.mem_iff.1 (by rw [Yp hl]; exact List.getElem_mem _)
 obtain ⟨i, hi, e, hu⟩ := Zbb.1 hm
 have hfi : Yx u = i := Ze0 hi hu fun j hj hji => by
  cases huj : u[j] with
  | true => rfl
  | false =>
   have hmj : ((j : Nat) : Int) ∈ f := hp.mem_iff.2 (Zbb.2 ⟨j, hj, rfl, huj⟩)
   obtain ⟨c, hc, e2⟩ := List.getElem_of_mem hmj
   have := ZeY ZhQ hH c hc
   rw [Yp hc, e, e2] at this
   simp at this; omega
 subst hfi
 refine ⟨hi, e, h1, ?_⟩
 have hnd : (nth f 0 :: Y6 ltI f).Nodup := h2.nodup_iff.2 (hp.nodup_iff.2 (ZhS u))
 obtain ⟨hn1, hn2⟩ := List.nodup_cons.1 hnd
 refine ZnC hn2 (ZhS _) fun x => ?_
 have hmx : x ∈ nth f 0 :: Y6 ltI f ↔ x ∈ Y7 u := (h2.trans hp).mem_iff
 constructor
 ·intro hx
  obtain ⟨k, hk, rfl, hku⟩ := Zbb.1 (hmx.1 (List.mem_cons_of_mem _ hx))
  have hne : Yx u ≠ k := fun h => hn1 (by rw [e, h]; exact hx)
  exact Zbb.2 ⟨k, by rw [List.length_set]; exact hk, rfl, by rw [List.getElem_set_ne hne]; exact hku⟩
 ·intro hx
  obtain ⟨k, hk, rfl, hku⟩ := Zbb.1 hx
  rw [List.length_set] at hk
  have hne : Yx u ≠ k := fun h => by subst h; simp at hku
  rw [List.getElem_set_ne hne] at hku
  rcases List.mem_cons.1 (hmx.2 (Zbb.2 ⟨k, hk, rfl, hku⟩)) with h | h
  ·rw [e] at h; omega
  ·exact h
def Yi (n : Nat) : List Int := (List.range n).map fun i : Nat => (i : Int)
theorem ZhU (n : Nat) : Yi (n + 1) = Yi n ++ [(n : Int)] := by simp [Yi, List.range_succ]
theorem ZaA (n : Nat) : (Yi n).length = n := by simp [Yi]
theorem Zdo (n : Nat) : Heap ltI (Yi n) := fun c h0 hc _ => by
 rw [ZaA] at hc
 have h1 : nth (Yi n) c = (c : Int) := by rw [Yp (by rw [ZaA]; exact hc)]; simp [Yi]
 have h2 : nth (Yi n) ((c - 1) / 2) = (((c - 1) / 2 : Nat) : Int) := by rw [Yp (by rw [ZaA]; omega)]; simp [Yi]
 rw [h1, h2]
 simp only [decide_eq_false_iff_not]
 omega
theorem ZhV (n : Nat) : Yi n = Y7 (List.replicate n false) := by
 unfold Yi Y7
 rw [List.length_replicate]
 congr 1
 symm
 rw [List.filter_eq_self]
 intro i hi
 rw [List.mem_range] at hi
 rw [Zcs (by simpa using hi)]
 simp
def Yq {α : Type} (st : List α × List Bool) (x : α) : (Int × Int) × (List α × List Bool) :=
 if Yx st.2 < st.2.length then ((Yx st.2, 0), (st.1.set (Yx st.2) x, st.2.set (Yx st.2) true)) else ((0, 4), st)
def X3 {α : Type} (st : List α × List Bool) (i : Int) (x : α) : Int × (List α × List Bool) := if Y0 st.2 i = true then (0, (st.1.set i.toNat x, st.2)) else (8, st)
def JH {α : Type} (st : List α × List Bool) (i : Int) (z : α) : α := if Y0 st.2 i = true then st.1.getD i.toNat z else z
def ArP {α : Type} (e : Enc α) (Te TB TI Tb : TypeId) (b : Nat) (G : GH) (st : List α × List Bool × List Int) (M : MH) : Prop :=
 ∃ vc vu vf Mc Mu Mf, M = (b, .cells (List.toArray [vc, vu, vf]) Tb (0, 0)) :: (Mc ++ (Mu ++ Mf)) ∧ OwnR e Te G vc st.1 Mc ∧ OwnR J1 TB G vu st.2.1 Mu ∧ OwnR ZA TI G vf st.2.2 Mf
theorem ArP.mono {α : Type} {e : Enc α} {Te TB TI Tb : TypeId} {b : Nat} {G G' : GH} {st : List α × List Bool × List Int} {M : MH} (hl : Le G G') (h : ArP e Te TB TI Tb b G st M) : ArP e Te TB TI Tb b G' st M := by
 obtain ⟨vc, vu, vf, Mc, Mu, Mf, h1, h2, h3, h4⟩ := h
 exact ⟨vc, vu, vf, Mc, Mu, Mf, h1, h2.mono hl, h3.mono hl, h4.mono hl⟩
def ArR {α : Type} (e : Enc α) (Te TB TI Tb : TypeId) (b : Nat) (G : GH) (st : List α × List Bool) (M : MH) : Prop :=
 ∃ f, ArP e Te TB TI Tb b G (st.1, st.2, f) M ∧ st.1.length = st.2.length ∧ st.2.length ≤ 4096 ∧ Heap ltI f ∧ f.Perm (Y7 st.2)
theorem ArR.mono {α : Type} {e : Enc α} {Te TB TI Tb : TypeId} {b : Nat} {G G' : GH} {st : List α × List Bool} {M : MH} (hl : Le G G') (h : ArR e Te TB TI Tb b G st M) : ArR e Te TB TI Tb b G' st M := by
 obtain ⟨f, h1, h2⟩ := h
 exact ⟨f, h1.mono hl, h2⟩
theorem ArR.cast {α : Type} {e : Enc α} {Te TB TI Tb : TypeId} {b : Nat} {G : GH} {st st' : List α × List Bool} {M M' : MH} (h : ArR e Te TB TI Tb b G st M) (e1 : st = st') (e2 : M = M') : ArR e Te TB TI Tb b G st' M' := by subst e1 e2; exact h
theorem ZnE {u : List Bool} {i : Int} (h0 : 0 ≤ i) (h1 : i < u.length) : u[i.toNat]'om9 = Y0 u i := by
 unfold Y0
 rw [decide_eq_true h0, decide_eq_true h1, Zcs om9]; rfl
theorem ZnF {u : List Bool} {i : Int} (h0 : ¬ 0 ≤ i) : false = Y0 u i := by unfold Y0; rw [decide_eq_false h0]; rfl
theorem ZnG {u : List Bool} {i : Int} (h1 : ¬ i < u.length) : false = Y0 u i := by unfold Y0; rw [decide_eq_false h1]; simp
theorem ZhW {u : List Bool} {i : Int} (h : Y0 u i = true) : 0 ≤ i ∧ i.toNat < u.length ∧ i = (i.toNat : Int) := by
 obtain ⟨k, hk, rfl, _⟩ := ZhR.1 h
 exact ⟨om9, by simpa using hk, by simp⟩
theorem Ze2 {α : Type} {st : List α × List Bool} {i : Int} {x : α} (h : Y0 st.2 i = true) : X3 st i x = (0, (st.1.set i.toNat x, st.2)) := if_pos h
theorem Ze3 {α : Type} {st : List α × List Bool} {i : Int} {x : α} (h : Y0 st.2 i = false) : X3 st i x = (8, st) := if_neg (by simp [h])
theorem ZhX {α : Type} {st : List α × List Bool} {x : α} (h : Yx st.2 < st.2.length) : Yq st x = (((Yx st.2 : Int), 0), (st.1.set (Yx st.2) x, st.2.set (Yx st.2) true)) := if_pos h
theorem ZhY {α : Type} {st : List α × List Bool} {x : α} (h : Yx st.2 = st.2.length) : Yq st x = ((0, 4), st) := if_neg om9
theorem ZnH {α : Type} {st : List α × List Bool} {i : Int} {z : α} (h : Y0 st.2 i = true) (h2 : i.toNat < st.1.length) : JH st i z = st.1[i.toNat] := by
 unfold JH; rw [if_pos h, List.getD_eq_getElem?_getD, List.getElem?_eq_getElem h2]; rfl
theorem ZnI {α : Type} {st : List α × List Bool} {i : Int} {z : α} (h : Y0 st.2 i = false) : JH st i z = z := if_neg (by simp [h])
theorem NodeC.cast {G : GH} {cs : List Value} {n m : Nd} (h : NodeC G cs n) (e : n = m) : NodeC G cs m := e ▸ h
def J2 (u : List Bool) (k : Nat) : List Int := ((List.range k).filter fun i => u.getD i true).map fun i : Nat => (i : Int)
theorem ZhZ (u : List Bool) (k : Nat) : (J2 u k).length ≤ k := by
 unfold J2; rw [List.length_map]
 have := List.length_filter_le (fun i => u.getD i true) (List.range k)
 rw [List.length_range] at this; exact this
theorem ZnJ {u : List Bool} {k : Nat} (hk : k < u.length) (h : u[k] = true) : J2 u (k + 1) = J2 u k ++ [(k : Int)] := by
 unfold J2; rw [List.range_succ, List.filter_append, List.map_append]; congr 1; simp [List.getElem?_eq_getElem hk, h]
theorem ZnK {u : List Bool} {k : Nat} (hk : k < u.length) (h : u[k] = false) : J2 u (k + 1) = J2 u k := by
 unfold J2; rw [List.range_succ, List.filter_append, List.map_append]; simp [List.getElem?_eq_getElem hk, h]
theorem Zh0 (u : List Bool) : Xj u = J2 u u.length := rfl
def CfgR (c : Cfg) : Prop := (4 ≤ c.fan ∧ c.fan ≤ 64) ∧ (2 ≤ c.leaf ∧ c.leaf ≤ 64) ∧ (36 ≤ c.bud ∧ c.bud ≤ 4096) ∧ (1 ≤ c.slots ∧ c.slots ≤ 4096) ∧ (0 ≤ c.rest ∧ c.rest ≤ 100)
instance (c : Cfg) : Decidable (CfgR c) := by unfold CfgR; infer_instance
def Ys (n : Nat) (l : List Nd) : List Nd × List Bool := (l ++ List.replicate (n - l.length) Nd.zero, List.replicate l.length true ++ List.replicate (n - l.length) false)
theorem ZnL (n : Nat) : Ys n [] = (List.replicate n Nd.zero, List.replicate n false) := by simp [Ys]
theorem ZbH {n : Nat} {l : List Nd} (h : l.length ≤ n) : (Ys n l).2.length = n := by simp [Ys]; omega
theorem ZbI {n : Nat} {l : List Nd} {i : Nat} (h : i < (Ys n l).2.length) : (Ys n l).2[i] = decide (i < l.length) := by
 rw [List.getElem_of_eq (show (Ys n l).2 = List.replicate l.length true ++ List.replicate (n - l.length) false from rfl) h, List.getElem_append]
 split <;> rename_i h2 <;> simp only [List.length_replicate] at h2 <;> simp <;> omega
theorem Zdp {n : Nat} {l : List Nd} (h : l.length ≤ n) (i : Int) : Y0 (Ys n l).2 i = decide (0 ≤ i ∧ i < l.length) := by
 rw [Bool.eq_iff_iff, ZhR, decide_eq_true_iff]
 constructor
 ·rintro ⟨k, hk, rfl, h2⟩
  rw [ZbI hk] at h2
  have := of_decide_eq_true h2
  omega
 ·rintro ⟨h1, h2⟩
  have hl := ZbH h
  exact ⟨i.toNat, om9, om9, by rw [ZbI]; exact decide_eq_true om9⟩
theorem Zh1 {n : Nat} {l : List Nd} (h : l.length ≤ n) : Yx (Ys n l).2 = l.length := by
 have hl := ZbH h
 by_cases e : l.length = n
 ·rw [Ze1 fun j hj => by rw [ZbI hj]; exact decide_eq_true om9]; omega
 ·exact Ze0 om9 (by rw [ZbI]; exact decide_eq_false om9) fun j hj hjl => by rw [ZbI hj]; exact decide_eq_true hjl
theorem ZnM {n : Nat} {l : List Nd} {k : Nat} {x : Nd} (hk : k < l.length) : (Ys n l).1.set k x = (Ys n (l.set k x)).1 := by
 unfold Ys
 rw [List.length_set, List.set_append_left _ _ hk]
theorem ZnN {n : Nat} {l : List Nd} (h : l.length < n) : Yq (Ys n l) Nd.zero = (((l.length : Int), 0), Ys n (l ++ [Nd.zero])) := by
 have hf := Zh1 (Nat.le_of_lt h)
 have hl := ZbH (Nat.le_of_lt h)
 rw [ZhX om9, hf]
 refine congrArg (Prod.mk _) ?_
 obtain ⟨m, hm⟩ : ∃ m, n - l.length = m + 1 := ⟨n - l.length - 1, om9⟩
 have hm2 : n - (l ++ [Nd.zero]).length = m := by simp; omega
 unfold Ys
 rw [hm, hm2]
 refine Prod.ext ?_ ?_
 ·show (l ++ List.replicate (m + 1) Nd.zero).set l.length Nd.zero = (l ++ [Nd.zero]) ++ List.replicate m Nd.zero
  rw [List.set_append_right _ _ (Nat.le_refl _), Nat.sub_self, List.replicate_succ, List.set_cons_zero, List.append_assoc]; rfl
 ·show (List.replicate l.length true ++ List.replicate (m + 1) false).set l.length true = List.replicate (l ++ [Nd.zero]).length true ++ List.replicate m false
  rw [List.set_append_right _ _ (by simp), List.length_replicate, Nat.sub_self, List.replicate_succ, List.set_cons_zero, List.length_append, List.length_singleton, List.replicate_succ', List.append_assoc]; rfl
theorem ZnO {n : Nat} {l : List Nd} (h : l.length = n) : Yq (Ys n l) Nd.zero = ((0, 4), Ys n l) := ZhY (by rw [Zh1 om9, ZbH om9]; exact h)
def ZaB (l : List Nd) (x : Nd) : Int × List Nd := if 0 ≤ x.slot ∧ x.slot < l.length then (0, l.set x.slot.toNat x) else (8, l)
theorem Ze4 {l : List Nd} {x : Nd} (h : 0 ≤ x.slot ∧ x.slot < l.length) : ZaB l x = (0, l.set x.slot.toNat x) := if_pos h
theorem ZnP {l : List Nd} {x : Nd} (h : ¬ (0 ≤ x.slot ∧ x.slot < l.length)) : ZaB l x = (8, l) := if_neg h
theorem ZnQ (l : List Nd) (x : Nd) : (ZaB l x).2.length = l.length := by unfold ZaB; split <;> simp
theorem Ze5 {n : Nat} {l : List Nd} (h : l.length ≤ n) (x : Nd) : X3 (Ys n l) x.slot x = ((ZaB l x).1, Ys n (ZaB l x).2) := by
 by_cases hx : 0 ≤ x.slot ∧ x.slot < l.length
 ·rw [Ze2 (by rw [Zdp h]; exact decide_eq_true hx), Ze4 hx, ZnM om9]
  refine congrArg (Prod.mk _) (Prod.ext rfl ?_)
  unfold Ys; simp
 ·rw [Ze3 (by rw [Zdp h]; exact decide_eq_false hx), ZnP hx]
def J3 (n : Nat) (l : List Nd) (x : Nd) : (Int × Int) × List Nd := if l.length < n then ((l.length, 0), l ++ [{ x with slot := l.length }]) else ((0, 4), l)
theorem Ze6 {n : Nat} {l : List Nd} {x : Nd} (h : l.length < n) : J3 n l x = (((l.length : Int), 0), l ++ [{ x with slot := l.length }]) := if_pos h
theorem Zh2 {n : Nat} {l : List Nd} {x : Nd} (h : ¬ l.length < n) : J3 n l x = ((0, 4), l) := if_neg h
theorem ZnR {l : List Nd} {x : Nd} : ZaB (l ++ [Nd.zero]) { x with slot := l.length } = (0, l ++ [{ x with slot := l.length }]) := by
 rw [Ze4 (by simp; omega)]
 refine congrArg (Prod.mk _) ?_
 show (l ++ [Nd.zero]).set ((l.length : Int)).toNat _ = _
 rw [Int.toNat_natCast, List.set_append_right _ _ (Nat.le_refl _), Nat.sub_self]; rfl
def Za (l : List Nd) (i : Int) : Nd := if 0 ≤ i then l.getD i.toNat Nd.zero else Nd.zero
theorem Ju {l : List Nd} {k : Nat} (h : k < l.length) : Za l k = l[k] := by
 unfold Za; rw [if_pos om9, Int.toNat_natCast, List.getD_eq_getElem?_getD, List.getElem?_eq_getElem h]; rfl
theorem Zh3 {n : Nat} {l : List Nd} (h : l.length ≤ n) (i : Int) : JH (Ys n l) i Nd.zero = Za l i := by
 unfold JH Za
 rw [Zdp h]
 by_cases h0 : 0 ≤ i
 ·rw [if_pos h0]
  by_cases h1 : i < l.length
  ·rw [if_pos (decide_eq_true ⟨h0, h1⟩), List.getD_eq_getElem?_getD, List.getD_eq_getElem?_getD]
   unfold Ys
   rw [List.getElem?_append_left om9]
  ·rw [if_neg (by simp; omega), List.getD_eq_getElem?_getD, List.getElem?_eq_none om9]; rfl
 ·rw [if_neg h0, if_neg (by simp; omega)]
theorem Ze7 {n : Nat} {l : List Nd} (h : l.length ≤ n) : Xj (Ys n l).2 = Yi l.length := by
 have hl := ZbH h
 unfold Xj Yi
 congr 1
 rw [hl]
 have e : n = l.length + (n - l.length) := om9
 have key : ∀ m, m ≤ n → (List.range m).filter (fun i => (Ys n l).2.getD i true) = List.range (min m l.length) := by
  intro m
  induction m with
  | zero => intro _; simp
  | succ m ih =>
   intro hm
   rw [List.range_succ, List.filter_append, ih om9, List.filter_cons, Zcs om9, ZbI]
   by_cases hml : m < l.length
   ·rw [if_pos (decide_eq_true hml), List.filter_nil, Nat.min_eq_left om9, Nat.min_eq_left om9, List.range_succ]
   ·rw [if_neg (by simpa using hml), List.filter_nil, List.append_nil, Nat.min_eq_right om9, Nat.min_eq_right om9]
 rw [key n (Nat.le_refl _), Nat.min_eq_right h]
theorem ZnS {α : Type} {st : List α × List Bool} {x : α} (h : st.2.length ≤ 4096) : i64 (Yq st x).1.1 := by
 unfold Yq
 split
 ·exact ⟨by show (-9223372036854775808 : Int) ≤ (Yx st.2 : Int); omega, by show (Yx st.2 : Int) ≤ 9223372036854775807; omega⟩
 ·exact ⟨by show (-9223372036854775808 : Int) ≤ 0; omega, by show (0 : Int) ≤ 9223372036854775807; omega⟩
def ZbJ (a : List Nd × List Bool) (x : Nd) : (Int × Int) × (List Nd × List Bool) :=
 if (Yq a Nd.zero).1.2 = 0 then (((Yq a Nd.zero).1.1, (X3 (Yq a Nd.zero).2 (Yq a Nd.zero).1.1 { x with slot := (Yq a Nd.zero).1.1 }).1), (X3 (Yq a Nd.zero).2 (Yq a Nd.zero).1.1 { x with slot := (Yq a Nd.zero).1.1 }).2)
 else ((0, (Yq a Nd.zero).1.2), (Yq a Nd.zero).2)
theorem Zh4 {a : List Nd × List Bool} {x : Nd} (h : (Yq a Nd.zero).1.2 = 0) : ZbJ a x = (((Yq a Nd.zero).1.1, (X3 (Yq a Nd.zero).2 (Yq a Nd.zero).1.1 { x with slot := (Yq a Nd.zero).1.1 }).1), (X3 (Yq a Nd.zero).2 (Yq a Nd.zero).1.1 { x with slot := (Yq a Nd.zero).1.1 }).2) := if_pos h
theorem Zh5 {a : List Nd × List Bool} {x : Nd} (h : ¬ (Yq a Nd.zero).1.2 = 0) : ZbJ a x = ((0, (Yq a Nd.zero).1.2), (Yq a Nd.zero).2) := if_neg h
theorem Ze8 {n : Nat} {l : List Nd} (h : l.length ≤ n) (x : Nd) : ZbJ (Ys n l) x = ((J3 n l x).1, Ys n (J3 n l x).2) := by
 by_cases e : l.length < n
 ·have h1 := ZnN e
  rw [Zh4 (by rw [h1]), h1, Ze6 e]
  have h2 := Ze5 (n := n) (l := l ++ [Nd.zero]) (by simp; omega) { x with slot := (l.length : Int) }
  rw [ZnR] at h2
  show (((l.length : Int), (X3 (Ys n (l ++ [Nd.zero])) ({ x with slot := (l.length : Int) } : Nd).slot { x with slot := (l.length : Int) }).1), (X3 (Ys n (l ++ [Nd.zero])) ({ x with slot := (l.length : Int) } : Nd).slot { x with slot := (l.length : Int) }).2) = _
  rw [h2]
 ·have h1 := ZnO (n := n) (l := l) om9
  rw [Zh5 (by rw [h1]; show ¬ (4 : Int) = 0; omega), h1, Zh2 e]
def StA (te tB ti tb TS b : Nat) (G : GH) (c : Cfg) (a : List Nd × List Bool) (M : MH) : Prop :=
 ∃ b2 Ma, M = (b, .cells (List.toArray [.int .i64 c.fan, .int .i64 c.leaf, .int .i64 c.bud, .int .i64 c.slots, .int .i64 c.rest, .pointer (some ⟨b2, 0, none⟩)]) TS (0, 0)) :: Ma ∧ ArR Zv te tB ti tb b2 G a Ma
theorem StA.mono {te tB ti tb TS b : Nat} {G G' : GH} {c : Cfg} {a : List Nd × List Bool} {M : MH} (hl : Le G G') (h : StA te tB ti tb TS b G c a M) : StA te tB ti tb TS b G' c a M := by
 obtain ⟨b2, Ma, h1, h2⟩ := h; exact ⟨b2, Ma, h1, h2.mono hl⟩
def StR (te tB ti tb TS b : Nat) (c : Cfg) (G : GH) (l : List Nd) (M : MH) : Prop := CfgR c ∧ l.length ≤ c.slots.toNat ∧ StA te tB ti tb TS b G c (Ys c.slots.toNat l) M
theorem StR.mono {te tB ti tb TS b : Nat} {G G' : GH} {c : Cfg} {l : List Nd} {M : MH} (hl : Le G G') (h : StR te tB ti tb TS b c G l M) : StR te tB ti tb TS b c G' l M := ⟨h.1, h.2.1, h.2.2.mono hl⟩
theorem StA.cast {te tB ti tb TS b : Nat} {G : GH} {c : Cfg} {a a' : List Nd × List Bool} {M : MH} (h : StA te tB ti tb TS b G c a M) (e : a = a') : StA te tB ti tb TS b G c a' M := e ▸ h
def XR (slot : Int) : Nd := ⟨slot, 0, [], [], Str.nil, true, -1, 0, [], []⟩
theorem ZnT {n : Nat} {l : List Nd} {x : Nd} (h : l.length ≤ n) : (J3 n l x).2.length ≤ n := by unfold J3; split <;> simp <;> omega
theorem ZnU {n : Nat} {l : List Nd} (h : l.length ≤ n) : ((Xj (Ys n l).2).map fun i => JH (Ys n l) i Nd.zero) = l := by
 rw [Ze7 h]
 refine List.ext_getElem (by simp [Yi]) fun i h1 h2 => ?_
 rw [List.getElem_map, Zh3 h]
 simp only [Yi, List.getElem_map, List.getElem_range]
 exact Ju h2
theorem NodeC.of {G : GH} {cs : List Value} {n m : Nd} (h : NodeC G cs n) (e : n = m) : NodeC G cs m := e ▸ h
abbrev fcr (ro : Option Nat) : Fence := { Fence.wide with round := ro }
section
variable {P : Program} {ro : Option Nat} {n : Nat} {ops : Array Oper}
theorem Zh6 {m m' : Machine} (h : Steps P m m') : StepsIn (Machine.fenced P (fcr ro)) P m m' := (stepsIn_wide (P := P)).2 h
theorem ZnV {o : Oper} {a : Act} {next next' : Act → World → Prop} {Q Q' : Exit → Act → World → Prop} (hn : ∀ a w, next a w → next' a w) (hq : ∀ e a w, Q e a w → Q' e a w) :
    ∀ {res : Result Next}, o.upon P a next Q res → o.uponIn (fcr ro) n P a next' Q' res
  | .ok (.value v) w', h => hn _ _ h
  | .ok .skip w', h => hn _ _ h
  | .ok (.defer d) w', h => hn _ _ h
  | .ok (.enter f args) w', h => ⟨fun e => by simp [Fence.wide] at e, (callsIn_wide (n := n - 1)).2 (Calls.mono h fun e w'' hr => by
      cases e with
      | returned v => exact hn _ _ hr
      | panicked chain => exact hq _ _ _ hr
      | outgrown => exact let ⟨a, w, h⟩ := hr; ⟨a, w, hq _ _ _ h⟩)⟩
  | .ok (.row row args) w', h => ⟨fun e => by simp [Fence.wide] at e, fun c cs _ => let ⟨v, w'', hr, hs⟩ := h c cs; ⟨v, w'', hn _ _ hr, Zh6 hs⟩⟩
  | .ok (.round ..) w', h => h.elim
  | .halt (.panic v) w', h => hq _ _ _ h
  | .halt (.exit _) w', h => h.elim
  | .halt (.stuck _) w', h => h.elim
def NoDefer (l : List Oper) : Prop := ∀ o ∈ l, ∀ c, o.op ≠ .defer c
def JI (l : List Oper) : Bool := l.all fun o => match o.op with | .defer _ => false | _ => true
theorem Zct {l : List Oper} (h : JI l = true) : NoDefer l := fun o ho c e => by
  have := List.all_eq_true.1 h o ho
  rw [e] at this; cases this
theorem Zdq {Q1 Q : Exit → Act → World → Prop} {l2 : List Oper} (hQ : ∀ e a w, Q1 e a w → e = .normal ∧ wpListIn (fcr ro) n P ops Q l2 a w) :
    ∀ {l1 : List Oper} {a : Act} {w : World}, NoDefer l1 → wpList P ops Q1 l1 a w → wpListIn (fcr ro) n P ops Q (l1 ++ l2) a w
  | [], a, w, _, h => (hQ _ _ _ h).2
  | o :: l1, a, w, hd, h => by
    have ih : ∀ a w, wpList P ops Q1 l1 a w → wpListIn (fcr ro) n P ops Q (l1 ++ l2) a w := fun a w h => Zdq hQ (fun o ho => hd o (List.mem_cons_of_mem _ ho)) h
    have hq : ∀ e a w, Q1 e a w → e = .normal ∧ wpListIn (fcr ro) n P ops Q l2 a w := hQ
    unfold wpList at h
    rw [List.cons_append]
    unfold wpListIn
    by_cases hw : Region.wanted o (yielded ops a.tmps) = true
    · rw [if_pos hw] at h ⊢
      rcases h with h | ⟨_, a, w, h⟩
      · refine ⟨fun _ _ => trivial, ?_⟩
        rw [Oper.semAt_eq _ _ _ (hd o (by simp))]
        have h1 := ZnV (ro := ro) (n := n) (P := P) (o := o) (a := a) (next := wpList P ops Q1 l1) (next' := wpListIn (fcr ro) n P ops Q (l1 ++ l2)) (Q := Q1) (Q' := Q1) ih (fun _ _ _ h => h) h
        revert h1
        cases (execOp a.eval o).run P w with
        | halt x w' =>
          cases x <;> intro h1 <;> first | exact h1.elim | exact absurd (hQ _ _ _ h1).1 (by simp)
        | ok x w' =>
          cases x with
          | enter f args =>
            rintro ⟨h2, h3⟩
            refine ⟨h2, h3.1, fun cs hr => ?_⟩
            obtain ⟨e, w'', fr, h4, h5⟩ := h3.2 cs hr
            refine ⟨e, w'', fr, ?_, h5⟩
            cases e with
            | returned v => exact h4
            | panicked chain => exact absurd (hQ _ _ _ h4).1 (by simp)
            | outgrown => obtain ⟨a, w, h6⟩ := h4; exact absurd (hQ _ _ _ h6).1 (by simp)
          | round l f tmps assign body =>
            rintro ⟨h2, h3⟩
            refine ⟨h2, h3.1, fun c cs hr => ?_⟩
            obtain ⟨e, w'', h4, h5⟩ := h3.2 c cs hr
            refine ⟨e, w'', ?_, h5⟩
            cases e with
            | returned v => exact h4
            | panicked chain => exact absurd (hQ _ _ _ h4).1 (by simp)
            | outgrown => obtain ⟨a, w, h6⟩ := h4; exact absurd (hQ _ _ _ h6).1 (by simp)
          | _ => intro h1; exact h1
      · exact absurd (hQ _ _ _ h).1 (by simp)
    · rw [if_neg hw] at h ⊢
      exact ⟨fun _ _ => trivial, ih _ _ h⟩
end
/-! ## Regions that call yield -/
def WI (E : Env) (ops : Array Oper) (l : List Oper) (f : Fr) (G : GH) (M : MH) (K : Kt) : Prop :=
  ∀ a w (Q : Exit → Act → World → Prop), Is E.n a f → E.real G M w → (∀ f G M a w, Is E.n a f → E.real G M w → K f G M → Q .normal a w) → wpListIn (fcr none) 0 E.P ops Q l a w
def Yn (P : Program) (l : Nat) (args : List Value) (G : GH) (M : MH) (Q : Value → GH → MH → Prop) : Prop :=
  ∀ w, Real w (fun b => b ∈ M.map (·.1)) G M w → ∃ fn tmps assign body, (Instr.yield l args.toArray).run P w = .ok (.round l fn tmps assign body) w ∧
    RoundIn (fcr none) 0 P l fn tmps assign body w fun e w' => ∃ v G' M', e = .returned v ∧ Real w (fun b => b ∈ M.map (·.1)) G' M' w' ∧ Le G G' ∧ Newer w.heap.size M G G' ∧ Q v G' M'
theorem Yn.mono {P : Program} {l : Nat} {args : List Value} {G : GH} {M : MH} {Q Q' : Value → GH → MH → Prop} (h : Yn P l args G M Q) (hq : ∀ v G' M', Le G G' → Q v G' M' → Q' v G' M') : Yn P l args G M Q' := fun w hw => by
  obtain ⟨fn, tmps, assign, body, h1, h2⟩ := h w hw
  exact ⟨fn, tmps, assign, body, h1, h2.mono fun e w' ⟨v, G', M', a, b, c, d, e⟩ => ⟨v, G', M', a, b, c, d, hq _ _ _ c e⟩⟩
section
variable {E : Env} {f : Fr} {G : GH} {M : MH} {K : Kt} {ops rest : List Oper} {d : Nat} {ty : TypeId} {pos : String} {aft : Array Edge}
theorem WI.w {l : List Oper} (h : W E ops.toArray false l f G M K) (hd : NoDefer l) : WI E ops.toArray l f G M K := fun a w Q hi hr hK => by
  have h1 := h a w (fun e a w => e = .normal ∧ Q .normal a w) hi hr fun f G M a w h1 h2 h3 => ⟨rfl, hK f G M a w h1 h2 h3⟩
  have := Zdq (ro := none) (n := 0) (Q := Q) (l2 := []) (fun e a w h => ⟨h.1, h.2⟩) hd h1
  rwa [List.append_nil] at this
theorem WC.regionY {id : Nat} {Q : Exit → Kt} (i : Nat) (hd : JI (ops.take i) = true) (h : W E ops.toArray false (ops.take i) f G M (fun f G M => WI E ops.toArray (ops.drop i) f G M (Q .normal))) : WC E (.region id ops.toArray false) Q f G M := fun a w hi hr => by
  refine (wpIn_wide (n := 0)).1 (wpIn_mono (Q := fun e a w => e = .normal ∧ lift E Q .normal a w) (wpIn_region_lit ?_) fun e a w h => by obtain ⟨rfl, h⟩ := h; exact h)
  have h1 := h a w (fun e a w => e = .normal ∧ wpListIn (fcr none) 0 E.P ops.toArray (fun e a w => e = .normal ∧ lift E Q .normal a w) (ops.drop i) a w) hi hr fun f G M a w h1 h2 h3 =>
    ⟨rfl, h3 a w _ h1 h2 fun f G M a w h4 h5 h6 => ⟨rfl, f, G, M, h4, h5, h6⟩⟩
  have h2 := Zdq (ro := none) (n := 0) (Q := fun e a w => e = .normal ∧ lift E Q .normal a w) (l2 := ops.drop i) (fun e a w h => h) (Zct hd) h1
  rw [List.take_append_drop] at h2
  exact h2
theorem WI.yield {l j dj : Nat} {want b : Bool} {x : Operand} {args : List Operand} {at' : Array TypeId} {vs : List Value} {Mp Mr : MH} {Qy : Value → GH → MH → Prop} (hy : Yn E.P l vs G Mp Qy)
    (hj : (ops.toArray[j]?).bind (·.dst) = some dj) (hb : f dj = .bool b) (hn' : b = want) (hx : ev f x = .func (.yield l) #[] #[]) (ha : args.map (ev f) = vs) (hM : (Mp ++ Mr).Perm M)
    (k : ∀ v G' M', Le G G' → Qy v G' M' → WI E ops.toArray rest (upd f d v) G' (M' ++ Mr) K) (hd : Nat.blt d E.n = true := by rfl) (hdj : Nat.blt dj E.n = true := by rfl) :
    WI E ops.toArray (⟨some d, .call { callee := .value x, args := args.toArray, argTypes := at' }, ty, pos, aft, some (j, want)⟩ :: rest) f G M K := by
  intro a w Q hi hr hK
  have key : Region.wanted ⟨some d, .call { callee := .value x, args := args.toArray, argTypes := at' }, ty, pos, aft, some (j, want)⟩ (yielded ops.toArray a.tmps) = true := by
    have hn : (b == want) = true := by rw [hn']; cases want <;> rfl
    clear hn'
    have hl : dj < a.tmps.size := by rw [hi.size]; have h1 := hdj; simp [Nat.blt] at h1; omega
    have := hi.get dj
    rw [Array.getD_eq_getD_getElem?, hb, Array.getElem?_eq_getElem hl] at this
    simp at this
    simp only [Region.wanted, yielded, hj, Option.bind_some, Array.getElem?_eq_getElem hl, this]
    cases b <;> cases want <;> simp_all
  have hr' := hr.r.perm hM
  have hw : Real w (fun b => b ∈ (Mp.map (·.1))) G Mp w := by
    have hs := hr'.sub (M' := Mp) (List.sublist_append_left _ _)
    exact ⟨rfl, rfl, rfl, Nat.le_refl _, fun _ _ _ => rfl, hr.r.ro, hs.mu, hs.dis, hs.nd, fun p hp => .inr (List.mem_map_of_mem hp)⟩
  obtain ⟨fn, tmps, assign, body, h1, h2⟩ := hy w hw
  have hrun : (execOp (ev f) ⟨some d, .call { callee := .value x, args := args.toArray, argTypes := at' }, ty, pos, aft, some (j, want)⟩).run E.P w = .ok (.round l fn tmps assign body) w := by
    have ha' : (args.toArray.map (ev f)) = vs.toArray := by rw [List.map_toArray, ha]
    simp [execOp, resolve, hx, invoke, Deferred.ofValue, ha', h1, ha]
  unfold wpListIn
  rw [if_pos key]
  refine ⟨fun _ _ => trivial, ?_⟩
  rw [Oper.semAt_none, hi.eval, hrun, Oper.uponIn_round]
  refine ⟨fun e => by simp [Fence.wide] at e, h2.mono ?_⟩
  rintro e w' ⟨v', G', M', rfl, h3, h4, h5, h6⟩
  have h7 := Real.call hr' h3 h5
  refine k v' G' M' h4 h6 _ w' Q (hi.put hd v') ⟨h7, hr.le.trans h4, ?_⟩ hK
  intro b hb hb'
  cases hg : G b with
  | none =>
    rcases h5 b hg hb' with h8 | h8
    · exact .inl (Nat.le_trans hr.r.size h8)
    · obtain ⟨p, hp, e⟩ := List.mem_map.1 h8
      rcases hr'.lo p (by simp [hp]) with h9 | h9
      · exact .inl (e ▸ h9)
      · exact .inr (e ▸ h9)
  | some o => exact hr.nw b hb (by simp [hg])
end
def Xf (fn : FuncId) (tmps : Array Value) (tp : Tmp) (assign body : Code) (D : Nat) (st : LoopState) : Obj := .loop { state := st, pending := none, fn, tmps, params := #[tp], assign, body, defers := D }
section
variable {P : Program} {n : Nat}
theorem Zcu {ro : Option Nat} {E : Env} {id : Nat} {o : List Oper} {f : Fr} {G : GH} {M : MH} {K : Kt} {Q : Exit → Act → World → Prop} {a : Act} {w : World} (h : W E o.toArray false o f G M K) (hd : JI o = true) (hi : Is E.n a f) (hr : E.real G M w)
    (k : ∀ f G M a w, Is E.n a f → E.real G M w → K f G M → Q .normal a w) : (Code.region id o.toArray false).wpIn (fcr ro) 0 E.P Q a w := by
  refine wpIn_region_lit ?_
  have h1 := h a w (fun e a w => e = .normal ∧ Q .normal a w) hi hr fun f G M a w h1 h2 h3 => ⟨rfl, k f G M a w h1 h2 h3⟩
  have := Zdq (ro := ro) (n := 0) (Q := Q) (l2 := []) (fun e a w h => ⟨h.1, h.2⟩) (Zct hd) h1
  rwa [List.append_nil] at this
theorem Zdr {E : Env} {G : GH} {M : MH} {w : World} {b : Nat} {o o' : Obj} (h : E.real G ((b, o) :: M) w) : E.real G ((b, o') :: M) (w.putObj b o') := ⟨Real.set (M₁ := []) h.r, h.le, h.nw⟩
theorem Yn.of {fn : FuncId} {tmps : Array Value} {f0 : Fr} {tp : Tmp} {o3 o4 : List Oper} {i3 i4 b1 D l : Nat} {vx : Value} {G : GH} {M : MH} {Qy : GH → MH → Prop} (hi : Is n ⟨tmps, []⟩ f0) (htp : Nat.blt tp n = true) (hd3 : JI o3 = true) (hd4 : JI o4 = true)
    (h : ∀ (w0 : World) (own : Nat → Prop), W ⟨P, n, w0, own, G⟩ o3.toArray false o3 (upd f0 tp vx) G ((l, Xf fn tmps tp (.region i3 o3.toArray false) (.block b1 (.region i4 o4.toArray false)) D .ready) :: M) (fun f1 G1 M1 => ∃ R1, ((l, Xf fn tmps tp (.region i3 o3.toArray false) (.block b1 (.region i4 o4.toArray false)) D .ready) :: R1).Perm M1 ∧
      W ⟨P, n, w0, own, G⟩ o4.toArray false o4 f1 G1 ((l, Xf fn tmps tp (.region i3 o3.toArray false) (.block b1 (.region i4 o4.toArray false)) D .busy) :: R1) (fun f2 G2 M2 => ∃ R2 R3, ((l, Xf fn tmps tp (.region i3 o3.toArray false) (.block b1 (.region i4 o4.toArray false)) D .busy) :: R2).Perm M2 ∧ R3.Sublist R2 ∧ Qy G2 R3))) :
    Yn P l [vx] G ((l, Xf fn tmps tp (.region i3 o3.toArray false) (.block b1 (.region i4 o4.toArray false)) D .ready) :: M) (fun v G' M' => v = .bool true ∧ ∃ R, M' = (l, Xf fn tmps tp (.region i3 o3.toArray false) (.block b1 (.region i4 o4.toArray false)) D .ready) :: R ∧ Qy G' R) := by
  intro w hw
  have hl := hw.mu _ List.mem_cons_self
  refine ⟨fn, _, .region i3 o3.toArray false, .block b1 (.region i4 o4.toArray false), run_yield hl rfl, roundIn_of_wpIn (F := fcr none) trivial ?_⟩
  have hi' : Is n { tmps := ((#[tp] : Array Tmp).zip [vx].toArray).foldl (fun tmps (t, a) => tmps.setIfInBounds t a) tmps, defers := [] } (upd f0 tp vx) := by
    have h9 := hi.put htp vx
    have e : ((#[tp] : Array Tmp).zip [vx].toArray).foldl (fun tmps (t, a) => tmps.setIfInBounds t a) tmps = tmps.setIfInBounds tp vx := by simp [List.zip_toArray]
    rw [e]; exact h9
  refine Zcu (ro := some l) (h w (fun b => b ∈ ((l, Xf fn tmps tp (.region i3 o3.toArray false) (.block b1 (.region i4 o4.toArray false)) D .ready) :: M).map (·.1))) hd3 hi' ⟨hw, Le.rfl, fun b h1 h2 => absurd h1 h2⟩ ?_
  rintro f1 G1 M1 a1 w1 hi1 hr1 ⟨R1, hp1, hW4⟩
  have hr2 := hr1.perm hp1
  have hl2 := hr2.r.mu _ List.mem_cons_self
  refine ⟨_, run_beginRound hl2 rfl, ?_⟩
  have hr3 : Env.real ⟨P, n, w, _, G⟩ G1 ((l, Xf fn tmps tp (.region i3 o3.toArray false) (.block b1 (.region i4 o4.toArray false)) D .busy) :: R1) _ := Zdr hr2
  refine wpIn_block (F := fcr (some l)) (Zcu (ro := some l) hW4 hd4 hi1 hr3 ?_)
  rintro f2 G2 M2 a2 w3 hi2 hr4 ⟨R2, R3, hp2, hsub, hq⟩
  have hr5 := hr4.perm hp2
  have hl3 := hr5.r.mu _ List.mem_cons_self
  refine ⟨_, _, run_endRound none hl3, .bool true, G2, (l, Xf fn tmps tp (.region i3 o3.toArray false) (.block b1 (.region i4 o4.toArray false)) D .ready) :: R3, rfl, ?_, hr4.le, hr4.nw, rfl, R3, rfl, hq⟩
  have hr6 : Env.real ⟨P, n, w, _, G⟩ G2 ((l, Xf fn tmps tp (.region i3 o3.toArray false) (.block b1 (.region i4 o4.toArray false)) D .ready) :: R2) _ := Zdr hr5
  exact hr6.r.sub (hsub.cons_cons _)
/-! ## Behind the statement: an activation with a mark -/
def XB (ds : List Deferred) (a : Act) : Act := { a with defers := a.defers ++ ds }
theorem ZbK {ds : List Deferred} {a : Act} {d : Option Tmp} {v : Value} : XB ds (a.put d v) = (XB ds a).put d v := by cases d <;> rfl
theorem ZnW {ds : List Deferred} {o : Oper} {a : Act} {next next' : Act → World → Prop} {Q Q' : Exit → Act → World → Prop} (hn : ∀ a w, next a w → next' (XB ds a) w) (hq : ∀ e a w, Q e a w → e = .normal) :
    ∀ {res : Result Next}, o.upon P a next Q res → o.uponIn (fcr none) 0 P (XB ds a) next' Q' res
  | .ok (.value v) w', h => by have := hn _ _ h; rw [ZbK] at this; exact this
  | .ok .skip w', h => by have := hn _ _ h; rw [ZbK] at this; exact this
  | .ok (.defer d) w', h => by have := hn _ _ h; rw [ZbK] at this; exact this
  | .ok (.enter f args) w', h => ⟨fun e => by simp [Fence.wide] at e, (callsIn_wide (n := 0 - 1)).2 (Calls.mono h fun e w'' hr => by
      cases e with
      | returned v => have := hn _ _ hr; rw [ZbK] at this; exact this
      | panicked chain => exact absurd (hq _ _ _ hr) (by simp)
      | outgrown => obtain ⟨a, w, h⟩ := hr; exact absurd (hq _ _ _ h) (by simp))⟩
  | .ok (.row row args) w', h => ⟨fun e => by simp [Fence.wide] at e, fun c cs _ => let ⟨v, w'', hr, hs⟩ := h c cs; ⟨v, w'', by have := hn _ _ hr; rw [ZbK] at this; exact this, Zh6 hs⟩⟩
  | .ok (.round ..) w', h => h.elim
  | .halt (.panic v) w', h => absurd (hq _ _ _ h) (by simp)
  | .halt (.exit _) w', h => h.elim
  | .halt (.stuck _) w', h => h.elim
theorem Zh7 {ds : List Deferred} {ops : Array Oper} {Q1 Q : Exit → Act → World → Prop} (hQ : ∀ e a w, Q1 e a w → e = .normal ∧ Q .normal (XB ds a) w) :
    ∀ {l : List Oper} {a : Act} {w : World}, NoDefer l → wpList P ops Q1 l a w → wpListIn (fcr none) 0 P ops Q l (XB ds a) w
  | [], a, w, _, h => (hQ _ _ _ h).2
  | o :: l1, a, w, hd, h => by
    have ih : ∀ a w, wpList P ops Q1 l1 a w → wpListIn (fcr none) 0 P ops Q l1 (XB ds a) w := fun a w h => Zh7 hQ (fun o ho => hd o (List.mem_cons_of_mem _ ho)) h
    unfold wpList at h
    unfold wpListIn
    have he : (XB ds a).eval = a.eval := by funext x; cases x <;> rfl
    by_cases hw : Region.wanted o (yielded ops a.tmps) = true
    · rw [if_pos hw] at h
      rw [if_pos (show Region.wanted o (yielded ops (XB ds a).tmps) = true from hw)]
      rcases h with h | ⟨_, a, w, h⟩
      · refine ⟨fun _ _ => trivial, ?_⟩
        rw [Oper.semAt_none, he]
        exact ZnW ih (fun e a w h => (hQ _ _ _ h).1) h
      · exact absurd (hQ _ _ _ h).1 (by simp)
    · rw [if_neg hw] at h
      rw [if_neg (show ¬ Region.wanted o (yielded ops (XB ds a).tmps) = true from hw)]
      refine ⟨fun _ _ => trivial, ?_⟩
      have := ih _ _ h
      rw [ZbK] at this; exact this
theorem ZnX {ds : List Deferred} {E : Env} {id : Nat} {o : List Oper} {f : Fr} {G : GH} {M : MH} {K : Kt} {Q : Exit → Act → World → Prop} {a : Act} {w : World} (h : W E o.toArray false o f G M K) (hd : JI o = true) (hi : Is E.n a f) (hr : E.real G M w)
    (k : ∀ f G M a w, Is E.n a f → E.real G M w → K f G M → Q .normal (XB ds a) w) : (Code.region id o.toArray false).wpIn (fcr none) 0 E.P Q (XB ds a) w := by
  refine wpIn_region_lit ?_
  have h1 := h a w (fun e a w => e = .normal ∧ Q .normal (XB ds a) w) hi hr fun f G M a w h1 h2 h3 => ⟨rfl, k f G M a w h1 h2 h3⟩
  exact Zh7 (fun e a w h => h) (Zct hd) h1
end
theorem ZnY {fn : Func} {args : List Value} (hl : args.length ≤ fn.ntmps) : Is fn.ntmps { tmps := args.toArray ++ Array.replicate (fn.ntmps - args.toArray.size) undef, defers := [] } (ZX (fun _ => undef) (JW 0 args)) := by
  have hset : ∀ (l : List Value) (i t : Nat), ZX (fun _ => undef) (JW i l) t = if i ≤ t ∧ t < i + l.length then l.getD (t - i) undef else undef := by
    intro l
    induction l with
    | nil => intro i t; simp [JW, ZX]
    | cons v l ih =>
      intro i t
      simp only [JW, ZX, upd]
      cases hb : Nat.beq t i
      · have hne : t ≠ i := fun e => by subst e; simp at hb
        simp only [cond_false, ih]
        by_cases h1 : i + 1 ≤ t ∧ t < i + 1 + l.length
        · rw [if_pos h1, if_pos (by simp; omega)]
          obtain ⟨s, hs⟩ : ∃ s, t - i = s + 1 := ⟨t - i - 1, by omega⟩
          rw [hs, show t - (i + 1) = s from by omega]
          simp
        · rw [if_neg h1, if_neg (by simp; omega)]
      · have he : t = i := Nat.eq_of_beq_eq_true hb
        subst he
        simp
  refine ⟨by simp; omega, fun t => ?_, rfl⟩
  rw [hset]
  simp only [Nat.zero_le, true_and, Nat.zero_add, Nat.sub_zero, Array.getD_eq_getD_getElem?, List.getD_eq_getElem?_getD]
  by_cases h1 : t < args.length
  · rw [if_pos h1, Array.getElem?_append_left (by simpa using h1)]
    simp
  · rw [if_neg h1, Array.getElem?_append_right (by simpa using h1)]
    rw [Array.getElem?_replicate]
    split <;> rfl
def RoundK (P : Program) (n l : Nat) (rO : LoopState → Obj) (f0 : Fr) (tp : Tmp) (o3 o4 : List Oper) : Prop :=
  ∀ (vx : Value) (G : GH) (M : MH) (Qy : GH → MH → Prop), (∀ (w0 : World) (own : Nat → Prop), W ⟨P, n, w0, own, G⟩ o3.toArray false o3 (upd f0 tp vx) G ((l, rO .ready) :: M) (fun f1 G1 M1 => ∃ R1, ((l, rO .ready) :: R1).Perm M1 ∧
      W ⟨P, n, w0, own, G⟩ o4.toArray false o4 f1 G1 ((l, rO .busy) :: R1) (fun f2 G2 M2 => ∃ R2 R3, ((l, rO .busy) :: R2).Perm M2 ∧ R3.Sublist R2 ∧ Qy G2 R3))) →
    Yn P l [vx] G ((l, rO .ready) :: M) (fun v G' M' => v = .bool true ∧ ∃ R, M' = (l, rO .ready) :: R ∧ Qy G' R)
theorem Fc.range {P : Program} {g : FuncId} {fn : Func} {n : Nat} {rs : List ResultVar} {args : List Value} {G : GH} {M : MH} {Q : Value → GH → MH → Prop} {tg tp : Tmp} {o0 o1 o2 o3 o4 o5 : List Oper} {i0 i1 i2 i3 i4 i5 b0 b1 : Nat}
    (hcl : Callable P g) (hf : P.funcs[g]? = some fn) (hb : fn.body = some (.seq (.region i0 o0.toArray false) (.seq (.region i1 o1.toArray false) (.seq (.seq (.region i2 o2.toArray false) (.block b0 (.rangeFunc (.tmp tg) #[tp] (.region i3 o3.toArray false) (.block b1 (.region i4 o4.toArray false))))) (.seq (.region i5 o5.toArray false) .ret)))))
    (hn : fn.ntmps = n) (hr : fn.results.toList = rs) (hl : Nat.ble args.length n = true) (htp : Nat.blt tp n = true) (h0 : JI o0 = true) (h1 : JI o1 = true) (h2 : JI o2 = true) (h3 : JI o3 = true) (h4 : JI o4 = true) (h5 : JI o5 = true)
    (h : ∀ w0, W ⟨P, n, w0, fun b => b ∈ M.map (·.1), G⟩ o0.toArray false o0 (ZX (fun _ => undef) (JW 0 args)) G M (fun f G1 M1 => W ⟨P, n, w0, fun b => b ∈ M.map (·.1), G⟩ o1.toArray false o1 f G1 M1 (fun f G1 M1 => W ⟨P, n, w0, fun b => b ∈ M.map (·.1), G⟩ o2.toArray false o2 f G1 M1 (fun f2 G2 M2 =>
      ∃ gf caps, f2 tg = .func (.func gf) #[] (List.toArray caps) ∧ ∀ (l : Nat) (rO : LoopState → Obj), RoundK P n l rO f2 tp o3 o4 →
        Fc P gf (.func (.yield l) #[] #[] :: caps) G2 ((l, rO .ready) :: M2) (fun v G' M' => ∃ R, ((l, rO .ready) :: R).Perm M' ∧ ∀ Md, W ⟨P, n, w0, fun b => b ∈ M.map (·.1), G⟩ o5.toArray false o5 f2 G' (R ++ Md) (fun f5 G5 M5 => ∃ vs M6, ResL P f5 M6 rs vs ∧ (Md ++ M6).Sublist M5 ∧ Q (Zbu vs) G5 M6)))))) :
    Fc P g args G M Q := by
  subst hn; subst hr
  have hl' : args.length ≤ fn.ntmps := by simpa using hl
  refine ⟨hcl, fun w hw => (callsIn_wide (n := 0)).1 (callsIn_of_wp_marks (F := fcr none) (n := 0) hf hb trivial ?_)⟩
  refine wpIn_seq (F := fcr none) (Zcu (ro := none) (h w) h0 (ZnY hl') ⟨hw, Le.rfl, fun b h1 h2 => absurd h1 h2⟩ ?_)
  intro f G1 M1 a w1 hi hr hW
  refine wpIn_seq (F := fcr none) (Zcu (ro := none) hW h1 hi hr ?_)
  intro f G1 M1 a w2 hi hr hW
  refine wpIn_seq (F := fcr none) (wpIn_seq (F := fcr none) (Zcu (ro := none) hW h2 hi hr ?_))
  rintro f2 G2 M2 a w3 hi hr ⟨gf, caps, hg, hF⟩
  refine wpIn_block (F := fcr none) (wpIn_rangeFunc (F := fcr none) ?_)
  intro fn' _
  have hF := hF (w3.heap.size + 1) (Xf fn' a.tmps tp (.region i3 o3.toArray false) (.block b1 (.region i4 o4.toArray false)) w3.heap.size) (fun vx G M Qy hh => Yn.of ⟨hi.size, hi.get, rfl⟩ htp h3 h4 hh)
  obtain ⟨W1, hW1⟩ : ∃ W1, (w3.alloc (.deferred (some []))).alloc (Xf fn' a.tmps tp (.region i3 o3.toArray false) (.block b1 (.region i4 o4.toArray false)) w3.heap.size .ready) = W1 := ⟨_, rfl⟩
  have hr1 : Env.real ⟨P, fn.ntmps, w, fun b => b ∈ M.map (·.1), G⟩ G2 ((w3.heap.size + 1, Xf fn' a.tmps tp (.region i3 o3.toArray false) (.block b1 (.region i4 o4.toArray false)) w3.heap.size .ready) :: (w3.heap.size, Obj.deferred (some [])) :: M2) W1 := by
    have := (hr.alloc (.deferred (some []))).alloc (Xf fn' a.tmps tp (.region i3 o3.toArray false) (.block b1 (.region i4 o4.toArray false)) w3.heap.size .ready)
    rw [World.size_alloc] at this
    rw [← hW1]; exact this
  have hev : a.eval (.tmp tg) = .func (.func gf) #[] (List.toArray caps) := by rw [hi.eval]; exact hg
  refine ⟨w3.heap.size + 1, [{ target := .collected w3.heap.size, args := #[] }], W1, { target := .fn (.func gf) (List.toArray caps), args := #[.func (.yield (w3.heap.size + 1)) #[] #[]] }, W1, gf,
    (Value.func (.yield (w3.heap.size + 1)) #[] #[] :: caps).toArray, W1, ?_, ?_, fun _ _ => trivial, ?_, fun e => by simp [Fence.wide] at e, ?_⟩
  · rw [← hW1]; exact run_enterLoop_outer _ _ _ _ _
  · simp only [resolve, hev]
    simp [go_sem]
  · simp [invoke, go_sem, hF.1 _ _]
  · have hp : (((w3.heap.size + 1, Xf fn' a.tmps tp (.region i3 o3.toArray false) (.block b1 (.region i4 o4.toArray false)) w3.heap.size .ready) :: M2) ++ [(w3.heap.size, Obj.deferred (some []))]).Perm ((w3.heap.size + 1, Xf fn' a.tmps tp (.region i3 o3.toArray false) (.block b1 (.region i4 o4.toArray false)) w3.heap.size .ready) :: (w3.heap.size, Obj.deferred (some [])) :: M2) := by
      rw [List.cons_append]; exact (List.perm_append_singleton _ _).cons _
    have hr2 := hr1.r.perm hp
    have hs := hr2.sub (List.sublist_append_left _ _)
    have hws : Real W1 (fun b => b ∈ (((w3.heap.size + 1, Xf fn' a.tmps tp (.region i3 o3.toArray false) (.block b1 (.region i4 o4.toArray false)) w3.heap.size .ready) :: M2).map (·.1))) G2 ((w3.heap.size + 1, Xf fn' a.tmps tp (.region i3 o3.toArray false) (.block b1 (.region i4 o4.toArray false)) w3.heap.size .ready) :: M2) W1 :=
      ⟨rfl, rfl, rfl, Nat.le_refl _, fun _ _ _ => rfl, hr1.r.ro, hs.mu, hs.dis, hs.nd, fun p hp => .inr (List.mem_map_of_mem hp)⟩
    refine (callsIn_wide (n := 0 - 1)).2 ((hF.2 W1 hws).mono ?_)
    rintro e w5 ⟨v, G5, M5, rfl, hr5, hle, hnw, R, hpR, hW5⟩
    have hr6 := Real.call hr2 hr5 hnw
    have hnw6 : NewO w.heap.size (fun b => b ∈ M.map (·.1)) G G5 := fun b hb hb' => by
      cases hg : G2 b with
      | none =>
        rcases hnw b hg hb' with h8 | h8
        · exact .inl (Nat.le_trans hr1.r.size h8)
        · obtain ⟨p, hp, e⟩ := List.mem_map.1 h8
          rcases hr2.lo p (List.mem_append_left _ hp) with h9 | h9
          · exact .inl (e ▸ h9)
          · exact .inr (e ▸ h9)
      | some o => exact hr1.nw b hb (by simp [hg])
    have hr7 : Env.real ⟨P, fn.ntmps, w, fun b => b ∈ M.map (·.1), G⟩ G5 ((w3.heap.size + 1, Xf fn' a.tmps tp (.region i3 o3.toArray false) (.block b1 (.region i4 o4.toArray false)) w3.heap.size .ready) :: (R ++ [(w3.heap.size, Obj.deferred (some []))])) w5 :=
      ⟨hr6.perm (by rw [← List.cons_append]; exact hpR.append_right _), hr1.le.trans hle, hnw6⟩
    have hl5 := hr7.r.mu _ List.mem_cons_self
    refine ⟨none, _, run_endLoop hl5 (by simp [Xf]), ?_⟩
    have hr8 : Env.real ⟨P, fn.ntmps, w, fun b => b ∈ M.map (·.1), G⟩ G5 (R ++ [(w3.heap.size, Obj.deferred (some []))]) _ := (Zdr (o' := Xf fn' a.tmps tp (.region i3 o3.toArray false) (.block b1 (.region i4 o4.toArray false)) w3.heap.size .exhausted) hr7).sub (List.sublist_cons_self _ _)
    have hadd : ({ a with defers := [{ target := Target.collected w3.heap.size, args := #[] }] ++ a.defers } : Act) = XB [{ target := .collected w3.heap.size, args := #[] }] a := by unfold XB; rw [hi.dfr]; rfl
    show (Code.seq (.region i5 o5.toArray false) .ret).wpIn (fcr none) 0 P _ ({ a with defers := [{ target := Target.collected w3.heap.size, args := #[] }] ++ a.defers } : Act) _
    rw [hadd]
    refine wpIn_seq (F := fcr none) (ZnX (hW5 [(w3.heap.size, Obj.deferred (some []))]) h5 hi hr8 ?_)
    rintro f5 G6 M6 a6 w6 hi6 hr9 ⟨vs, M7, hres, hsub, hQ⟩
    refine wpIn_ret (F := fcr none) ?_
    have hr10 := hr9.sub hsub
    have hD := hr10.r.mu (w3.heap.size, Obj.deferred (some [])) (by simp)
    have hr11 : Env.real ⟨P, fn.ntmps, w, fun b => b ∈ M.map (·.1), G⟩ G6 M7 _ := (Zdr (o' := .deferred none) hr10).sub (List.sublist_cons_self _ _)
    have hdf : (XB [{ target := .collected w3.heap.size, args := #[] }] a6).defers = [{ target := .collected w3.heap.size, args := #[] }] := by unfold XB; rw [hi6.dfr]; rfl
    show LeavesInM (fcr none) 0 P fn a6.tmps _ (XB [{ target := .collected w3.heap.size, args := #[] }] a6).defers .returning w6
    rw [hdf]
    refine ⟨by simp, .inl ⟨_, _, rfl, run_takeDeferred hD, _, Zl3 hi6 hr11.r.mu hres, _, G6, M7, rfl, hr11.r, hr11.le, hr11.nw, hQ⟩⟩
structure VEnc (α : Type) where
 R : GH → Value → α → Prop
 mono : ∀ {G G' : GH} {v a}, Le G G' → R G v a → R G' v a
def ZaC : VEnc Nd := ⟨fun G v n => ∃ cs, v = .agg (List.toArray cs) ∧ NodeC G cs n, fun hl ⟨cs, h1, h2⟩ => ⟨cs, h1, h2.mono hl⟩⟩
def Zds : VEnc Bool := ⟨fun _ v b => v = .bool b, fun _ h => h⟩
section
variable {α : Type}
def MpE (V : VEnc α) (G : GH) : List MapEntry → List (Int × α) → Prop
 | [], [] => True
 | e :: es, p :: m => e.key = .int .i64 p.1 ∧ V.R G e.val p.2 ∧ MpE V G es m
 | _, _ => False
theorem MpE.mono {V : VEnc α} {G G' : GH} (hl : Le G G') : ∀ {es : List MapEntry} {m : List (Int × α)}, MpE V G es m → MpE V G' es m
 | [], [], _ => trivial
 | e :: es, p :: m, h => ⟨h.1, V.mono hl h.2.1, h.2.2.mono hl⟩
 | [], _ :: _, h => h.elim
 | _ :: _, [], h => h.elim
def ZP (m : List (Int × α)) (k : Int) : Option α := (m.find? fun p => decide (p.1 = k)).map (·.2)
def XS : List (Int × α) → Int → α → List (Int × α)
 | [], k, a => [(k, a)]
 | p :: m, k, a => if p.1 = k then (k, a) :: m else p :: XS m k a
def ZbL : List (Int × α) → Int → List (Int × α)
 | [], _ => []
 | p :: m, k => if p.1 = k then m else p :: ZbL m k
theorem ZaQ (p : Int × α) (m : List (Int × α)) (k : Int) : ZP (p :: m) k = if p.1 = k then some p.2 else ZP m k := by
 unfold ZP
 by_cases h : p.1 = k
 ·rw [List.find?_cons_of_pos (by simpa using h), if_pos h]; rfl
 ·rw [List.find?_cons_of_neg (by simpa using h), if_neg h]
theorem Ze9 : ∀ (m : List (Int × α)) (k : Int) (a : α) (j : Int), ZP (XS m k a) j = if j = k then some a else ZP m j
 | [], k, a, j => by
  rw [XS, ZaQ]
  by_cases h : k = j
  ·rw [if_pos h, if_pos h.symm]
  ·rw [if_neg h, if_neg (fun e => h e.symm)]
 | p :: m, k, a, j => by
  rw [XS]
  by_cases hp : p.1 = k
  ·rw [if_pos hp, ZaQ, ZaQ]
   by_cases h : k = j
   ·rw [if_pos h, if_pos h.symm]
   ·rw [if_neg h, if_neg (fun e => h e.symm), if_neg (by rw [hp]; exact h)]
  ·rw [if_neg hp, ZaQ, ZaQ, Ze9 m k a j]
   by_cases h : p.1 = j
   ·rw [if_pos h, if_pos h, if_neg (fun e => hp (h.trans e))]
   ·rw [if_neg h, if_neg h]
theorem Zh8 (k j : Int) : Instr.sameNow (.int .i64) (.int .i64 k) (.int .i64 j) = some (k == j) := by simp [Instr.sameNow]
theorem Zfa {V : VEnc α} {G : GH} {k : Int} : ∀ {es : List MapEntry} {m : List (Int × α)} (i : Nat), MpE V G es m →
  (ZP m k = none ∧ Instr.findNow (.int .i64) (.int .i64 k) es i = some none ∧ (∀ x a n, V.R G x a → MpE V G (es ++ [⟨.int .i64 k, x, n⟩]) (XS m k a)) ∧ ZbL m k = m) ∨
  ∃ j e a, ZP m k = some a ∧ es[j]? = some e ∧ Instr.findNow (.int .i64) (.int .i64 k) es i = some (some (i + j, e.val)) ∧ e.key = .int .i64 k ∧ V.R G e.val a ∧
   (∀ x b, V.R G x b → MpE V G (es.modify j fun e => { e with key := .int .i64 k, val := x }) (XS m k b)) ∧ MpE V G (es.eraseIdx j) (ZbL m k)
 | [], [], i, _ => .inl ⟨rfl, rfl, fun x a n hx => ⟨rfl, hx, trivial⟩, rfl⟩
 | e :: es, p :: m, i, h => by
  by_cases hk : p.1 = k
  ·refine .inr ⟨0, e, p.2, by rw [ZaQ, if_pos hk], rfl, ?_, by rw [h.1, hk], h.2.1, fun x b hx => ?_, ?_⟩
   ·rw [Instr.findNow, h.1, Zh8, hk]; simp
   ·rw [XS, if_pos hk]
    simp only [List.modify_zero_cons]
    exact ⟨rfl, hx, h.2.2⟩
   ·rw [ZbL, if_pos hk]; exact h.2.2
  ·have hf : ∀ i, Instr.findNow (.int .i64) (.int .i64 k) (e :: es) i = Instr.findNow (.int .i64) (.int .i64 k) es (i + 1) := fun i => by
    rw [Instr.findNow, h.1, Zh8]
    have : (k == p.1) = false := by simpa using fun e => hk e.symm
    rw [this]
   rcases Zfa (V := V) (k := k) (i + 1) h.2.2 with ⟨h1, h2, h3, h4⟩ | ⟨j, e', a, h1, h2, h3, h4, h5, h6, h7⟩
   ·refine .inl ⟨by rw [ZaQ, if_neg hk]; exact h1, by rw [hf]; exact h2, fun x a n hx => ?_, by rw [ZbL, if_neg hk, h4]⟩
    rw [XS, if_neg hk]
    exact ⟨h.1, h.2.1, h3 x a n hx⟩
   ·refine .inr ⟨j + 1, e', a, by rw [ZaQ, if_neg hk]; exact h1, by simpa using h2, by rw [hf, h3]; congr 3; omega, h4, h5, fun x b hx => ?_, ?_⟩
    ·rw [XS, if_neg hk]
     simp only [List.modify_succ_cons]
     exact ⟨h.1, h.2.1, h6 x b hx⟩
    ·rw [ZbL, if_neg hk]
     exact ⟨h.1, h.2.1, h7⟩
 | [], _ :: _, _, h => h.elim
 | _ :: _, [], _, h => h.elim
def J4 (P : Program) (t : TypeId) : Option TypeId :=
 match P.underlying t with
 | some (.map kt e) => match P.underlying kt with
  | some (.int .i64) => some e
  | _ => none
 | _ => none
theorem Zh9 {P : Program} {t e : TypeId} (h : J4 P t = some e) : ∃ kt, P.underlying t = some (.map kt e) ∧ P.underlying kt = some (.int .i64) ∧ ∀ b n v (w : World), (Instr.checkKey b (n + 1) kt v).run P w = .ok () w := by
 unfold J4 at h
 split at h
 ·rename_i kt e' h1
  split at h
  ·rename_i h2
   cases h
   refine ⟨kt, h1, h2, fun b n v w => ?_⟩
   simp only [Instr.checkKey, Sem.run_bind, run_underlying h2, Result.andThen_ok]
   rfl
  ·cases h
 ·cases h
def MpR (V : VEnc α) (b : Nat) (G : GH) (m : List (Int × α)) (M : MH) : Prop := ∃ (es : List MapEntry) (clock : Nat), M = [(b, .map es.toArray clock)] ∧ MpE V G es m
theorem MpR.mono {V : VEnc α} {b : Nat} {G G' : GH} {m : List (Int × α)} {M : MH} (hl : Le G G') (h : MpR V b G m M) : MpR V b G' m M := by
 obtain ⟨es, c, h1, h2⟩ := h; exact ⟨es, c, h1, h2.mono hl⟩
def MpG (V : VEnc α) (G : GH) (v : Value) (m : List (Int × α)) : Prop := ∃ (b : Nat) (es : List MapEntry) (clock : Nat), v = .map (some b) ∧ G b = some (.map es.toArray clock) ∧ MpE V G es m
theorem MpG.mono {V : VEnc α} {G G' : GH} {v : Value} {m : List (Int × α)} (hl : Le G G') (h : MpG V G v m) : MpG V G' v m := by
 obtain ⟨b, es, c, h1, h2, h3⟩ := h; exact ⟨b, es, c, h1, hl _ _ h2, h3.mono hl⟩
theorem MpG.form {V : VEnc α} {G : GH} {v : Value} {m : List (Int × α)} (h : MpG V G v m) : ∃ b, v = .map (some b) := by
 obtain ⟨b, _, _, h1, _⟩ := h; exact ⟨b, h1⟩
end
section
variable {α : Type} {E : Env} {f : Fr} {G : GH} {M Mk Ms Mr : MH} {ops rest : List Oper} {q : Bool} {K : Kt} {d : Nat} {ty : TypeId} {pos : String} {aft : Array Edge} {t et : TypeId} {x y kk : Operand} {b : Nat} {k : Int} {m : List (Int × α)} {V : VEnc α}
def zvK (P : Program) (t : TypeId) : Option Value := (P.info? t).bind (·.zero)
theorem Zia {P : Program} {es : List MapEntry} {clock : Nat} {z0 : Value} {z : α} (ht : J4 P t = some et) (hz : zvK P et = some z0) (hzz : V.R G z0 z) (he : MpE V G es m) :
  ∃ v, V.R G v ((ZP m k).getD z) ∧ ∀ (w : World) (ok : Bool), w.heap[b]? = some (.map es.toArray clock) → (Instr.lookup t (.map (some b)) (.int .i64 k) ok).run P w = .ok (if ok = true then .tuple #[v, .bool (ZP m k).isSome] else v) w := by
 obtain ⟨kt, h1, h2, h3⟩ := Zh9 ht
 have hzv : ∀ w, (zeroValue et).run P w = .ok z0 w := fun w => by
  unfold zvK at hz
  cases hi : P.info? et with
  | none => rw [hi] at hz; cases hz
  | some info => rw [hi] at hz; simp at hz; simp [zeroValue, typeInfo, hi, hz]
 rcases Zfa (k := k) 0 he with ⟨g1, g2, _, _⟩ | ⟨j, e, a, g1, g2, g3, g4, g5, _, _⟩
 ·refine ⟨z0, by rw [g1]; exact hzz, fun w ok hb => ?_⟩
  have hgo := MapKept.run_getObj_map (P := P) hb
  have hfk := MapKept.run_findKey (P := P) (w := w) h2 g2
  simp only [Instr.lookup, Sem.run_bind, run_underlying h1, Result.andThen_ok, hgo, Sem.run_pure]
  rw [h3]
  simp only [Result.andThen_ok]
  rw [hfk, g1]
  simp [hzv]
 ·refine ⟨e.val, by rw [g1]; exact g5, fun w ok hb => ?_⟩
  have hgo := MapKept.run_getObj_map (P := P) hb
  have hfk := MapKept.run_findKey (P := P) (w := w) h2 g3
  simp only [Instr.lookup, Sem.run_bind, run_underlying h1, Result.andThen_ok, hgo, Sem.run_pure]
  rw [h3]
  simp only [Result.andThen_ok]
  rw [hfk, g1]
  simp
theorem ZnZ {es : List MapEntry} {clock : Nat} (hp : ([(b, Obj.map es.toArray clock)] ++ Mr).Perm M) {w : World} (hr : E.real G M w) : w.heap[b]? = some (.map es.toArray clock) :=
 hr.r.mu (b, .map es.toArray clock) (hp.mem_iff.1 (by simp))
theorem Zn0 {z0 : Value} {z : α} {ok : Bool} (ht : J4 E.P t = some et) (hz : zvK E.P et = some z0) (hzz : V.R G z0 z) (hx : ev f x = .map (some b)) (hk : ev f kk = .int .i64 k) (hm : MpR V b G m Ms) (hp : (Ms ++ Mr).Perm M) :
  ∃ v, V.R G v ((ZP m k).getD z) ∧ Ok E f G M ⟨some d, .lookup t x kk ok, ty, pos, aft, none⟩ (if ok = true then .tuple #[v, .bool (ZP m k).isSome] else v) := by
 obtain ⟨es, clock, rfl, he⟩ := hm
 obtain ⟨v, h1, h2⟩ := Zia (b := b) (clock := clock) (k := k) ht hz hzz he
 refine ⟨v, h1, fun w hr => ?_⟩
 have := h2 w ok (ZnZ hp hr)
 simp [execOp, hx, hk, this]
theorem Zn1 {z0 mv : Value} {z : α} {ok : Bool} (ht : J4 E.P t = some et) (hz : zvK E.P et = some z0) (hzz : V.R G z0 z) (hm : MpG V G mv m) (hx : ev f x = mv) (hk : ev f kk = .int .i64 k) :
  ∃ v, V.R G v ((ZP m k).getD z) ∧ Ok E f G M ⟨some d, .lookup t x kk ok, ty, pos, aft, none⟩ (if ok = true then .tuple #[v, .bool (ZP m k).isSome] else v) := by
 obtain ⟨b, es, clock, rfl, hg, he⟩ := hm
 obtain ⟨v, h1, h2⟩ := Zia (b := b) (clock := clock) (k := k) ht hz hzz he
 refine ⟨v, h1, fun w hr => ?_⟩
 have := h2 w ok (hr.r.ro _ _ hg)
 simp [execOp, hx, hk, this]
theorem Zn2 {es : List MapEntry} {clock : Nat} {o : Obj} {w : World} (hr : E.real G ((b, Obj.map es.toArray clock) :: Mr) w) : E.real G ((b, o) :: Mr) { w with heap := w.heap.setIfInBounds b o } :=
 ⟨Real.set (M₁ := []) hr.r, hr.le, hr.nw⟩
theorem W.mapUp {v : Value} {a : α} (ht : J4 E.P t = some et) (hx : ev f x = .map (some b)) (hk : ev f kk = .int .i64 k) (hy : ev f y = v) (hm : MpR V b G m Ms) (hp : (Ms ++ Mr).Perm M) (ha : V.R G v a)
  (h : ∀ Ms', MpR V b G (XS m k a) Ms' → W E ops.toArray false rest f G (Ms' ++ Mr) K) : W E ops.toArray false (⟨none, .mapUpdate t x kk y, ty, pos, aft, none⟩ :: rest) f G M K := by
 intro a' w Q hi hr0 hK
 obtain ⟨es, clock, rfl, he⟩ := hm
 have hr := hr0.perm hp
 obtain ⟨kt, h1, h2, h3⟩ := Zh9 ht
 have hb : w.heap[b]? = some (.map es.toArray clock) := hr.r.mu (b, .map es.toArray clock) (by simp)
 have hgo := MapKept.run_getObj_map (P := E.P) hb
 have key : ∃ es' clock', MpE V G es' (XS m k a) ∧ (Instr.mapUpdate t (.map (some b)) (.int .i64 k) v).run E.P w = .ok () { w with heap := w.heap.setIfInBounds b (.map es'.toArray clock') } := by
  rcases Zfa (k := k) 0 he with ⟨g1, g2, g3, _⟩ | ⟨j, e, a2, g1, g2, g3, g4, g5, g6, _⟩
  ·refine ⟨_, clock + 1, g3 v a clock ha, ?_⟩
   have hfk := MapKept.run_findKey (P := E.P) (w := w) h2 g2
   have hset := MapKept.run_setObj_map (P := E.P) (.map (es.toArray.push ⟨.int .i64 k, v, clock⟩) (clock + 1)) hb
   simp only [Instr.mapUpdate, Sem.run_bind, run_underlying h1, Result.andThen_ok, hgo]
   rw [h3]
   simp only [Result.andThen_ok]
   rw [hfk]
   simp only [Result.andThen_ok, hset]
   congr 4
   simp
  ·refine ⟨_, clock, g6 v a ha, ?_⟩
   rw [Nat.zero_add] at g3
   have hfk := MapKept.run_findKey (P := E.P) (w := w) h2 g3
   have hset := MapKept.run_setObj_map (P := E.P) (.map (es.toArray.modify j fun e => { e with key := .int .i64 k, val := v }) clock) hb
   simp only [Instr.mapUpdate, Sem.run_bind, run_underlying h1, Result.andThen_ok, hgo]
   rw [h3]
   simp only [Result.andThen_ok]
   rw [hfk]
   have hsb : Instr.sameBits 10000 (((es.toArray[j]?).map (·.key)).getD (.int .i64 k)) (.int .i64 k) = true := by
    simp [g2, g4, Instr.sameBits]
   simp only [Result.andThen_ok, Instr.keyThatStays, hsb, if_true, Sem.run_pure]
   simp only [Sem.run_bind, Sem.run_pure, Result.andThen_ok, hset]
   congr 4
   simp
 obtain ⟨es', clock', k1, k2⟩ := key
 have hrun : (execOp (ev f) ⟨none, .mapUpdate t x kk y, ty, pos, aft, none⟩).run E.P w = .ok .skip { w with heap := w.heap.setIfInBounds b (.map es'.toArray clock') } := by
  simp [execOp, hx, hk, hy, k2]
 refine wpList_plain rfl fun K' hK' => ?_
 unfold Oper.wp
 rw [hi.eval, hrun]
 exact hK' _ _ (h _ ⟨es', clock', rfl, k1⟩ _ _ Q (hi.put_none undef) (Zn2 hr) hK)
theorem W.makeMap (h : ∀ b, MpR V b G [] [(b, .map #[] 0)] → W E ops.toArray false rest (upd f d (.map (some b))) G ((b, .map #[] 0) :: M) K) (hd : Nat.blt d E.n = true := by rfl) :
  W E ops.toArray false (⟨some d, .makeMap t none, ty, pos, aft, none⟩ :: rest) f G M K := by
 intro a w Q hi hr hK
 have hrun : (execOp (ev f) ⟨some d, .makeMap t none, ty, pos, aft, none⟩).run E.P w = .ok (.value (.map (some w.heap.size))) (w.alloc (.map #[] 0)) := by
  have h0 : (Instr.makeMap t none).run E.P w = .ok (.map (some w.heap.size)) (w.alloc (.map #[] 0)) := by simp [Instr.makeMap, newObj, Sem.run, bind, Sem.bind, pure]
  simp [execOp, h0]
 refine wpList_plain rfl fun K' hK' => ?_
 unfold Oper.wp
 rw [hi.eval, hrun]
 exact hK' _ _ (h _ ⟨[], 0, rfl, trivial⟩ _ _ Q (hi.put hd _) (hr.alloc _) hK)
theorem WC.giveMap {c : Code} {Q : Exit → Kt} (hm : MpR V b G m Ms) (hp : (Ms ++ Mr).Perm M) (h : ∀ G', Le G G' → MpG V G' (.map (some b)) m → WC E c Q f G' Mr) : WC E c Q f G M := by
 obtain ⟨es, clock, rfl, he⟩ := hm
 refine WC.perm hp (WC.give fun hl => h _ hl ⟨b, es, clock, rfl, Zc3 _ _ _, he.mono hl⟩)
end
theorem Zn3 {s : Int} (hs : i64 s) : (XR s).Ok := ⟨hs, ⟨by show (-9223372036854775808 : Int) ≤ 0; omega, by show (0 : Int) ≤ 9223372036854775807; omega⟩, ⟨by show (-9223372036854775808 : Int) ≤ -1; omega, by show (-1 : Int) ≤ 9223372036854775807; omega⟩, ⟨by show (-9223372036854775808 : Int) ≤ 0; omega, by show (0 : Int) ≤ 9223372036854775807; omega⟩⟩
theorem Zn4 {n : Nat} (h : 0 < n) : Ys n [] = Ys n [] ∧ J3 n [] (XR 0) = ((0, 0), [XR 0]) := ⟨rfl, by rw [Ze6 (by simpa using h)]; rfl⟩
end Go.Fw

namespace Go.Fw
abbrev Ls := List (List Msg)
def stN (l : List Msg) : Int := Hd.st (l, 0)
theorem Zib {l : List Msg} (h : 0 < l.length) : stN l = l[0].stamp := Hd.st_at (a := (l, 0)) h
structure Best (cur : Ls) (b : Nat) : Prop where
 lt : b < cur.length
 ne : 0 < cur[b].length
 min : ∀ j (h : j < cur.length), 0 < cur[j].length → stN cur[b] ≤ stN cur[j] ∧ (j < b → stN cur[b] < stN cur[j])
theorem Best.uniq {cur : Ls} {b c : Nat} (hb : Best cur b) (hc : Best cur c) : b = c := by
 have h1 := hb.min c hc.lt hc.ne
 have h2 := hc.min b hb.lt hb.ne
 rcases Nat.lt_trichotomy b c with h | h | h
 ·have := h2.2 h; omega
 ·exact h
 ·have := h1.2 h; omega
def YW (cur : Ls) : Nat := (cur.map List.length).sum
theorem Zic (a b : Ls) : YW (a ++ b) = YW a + YW b := by simp [YW]
theorem Zbc (a : List Msg) (b : Ls) : YW (a :: b) = a.length + YW b := by simp [YW]
open Classical in
noncomputable def ZbM : Nat → Ls → List Msg
 | 0, _ => []
 | f + 1, cur => if h : ∃ b, Best cur b then (cur[h.choose]'(h.choose_spec.lt))[0]'(h.choose_spec.ne) :: ZbM f (cur.set h.choose ((cur[h.choose]'(h.choose_spec.lt)).drop 1)) else []
noncomputable def ZO (cur : Ls) : List Msg := ZbM (YW cur) cur
theorem Zn5 {f : Nat} {cur : Ls} {b : Nat} (hb : Best cur b) : ZbM (f + 1) cur = (cur[b]'hb.lt)[0]'hb.ne :: ZbM f (cur.set b ((cur[b]'hb.lt).drop 1)) := by
 have h : ∃ b, Best cur b := ⟨b, hb⟩
 have e : h.choose = b := h.choose_spec.uniq hb
 rw [ZbM, dif_pos h]
 simp only [e]
theorem Zdt {cur : Ls} {b : Nat} (h : b < cur.length) (t : List Msg) : cur.set b t = cur.take b ++ t :: cur.drop (b + 1) := by
 rw [List.set_eq_take_append_cons_drop, if_pos h]
theorem Zfb {cur : Ls} {b : Nat} (h : b < cur.length) : cur = cur.take b ++ cur[b] :: cur.drop (b + 1) := by
 rw [← List.drop_eq_getElem_cons h, List.take_append_drop]
theorem ZaR {cur : Ls} {b : Nat} (hb : Best cur b) : YW (cur.set b ((cur[b]'hb.lt).drop 1)) + 1 = YW cur := by
 have h := hb.ne
 rw [Zdt hb.lt]
 conv => rhs; rw [Zfb hb.lt]
 rw [Zic, Zic, Zbc, Zbc, List.length_drop]
 omega
theorem Zcv {cur : Ls} {b : Nat} (hb : Best cur b) : ZO cur = (cur[b]'hb.lt)[0]'hb.ne :: ZO (cur.set b ((cur[b]'hb.lt).drop 1)) := by
 unfold ZO
 rw [← ZaR hb, Zn5 hb]
theorem Zn6 {cur : Ls} (h : ∀ i (hi : i < cur.length), cur[i].length = 0) : YW cur = 0 := by
 unfold YW
 rw [List.sum_eq_zero_iff_forall_eq_nat]
 intro x hx
 obtain ⟨l, hl, rfl⟩ := List.mem_map.1 hx
 obtain ⟨i, hi, rfl⟩ := List.getElem_of_mem hl
 exact h i hi
theorem Zcw {cur : Ls} (h : ∀ i (hi : i < cur.length), cur[i].length = 0) : ZO cur = [] := by
 unfold ZO
 rw [Zn6 h]; rfl
def Z3 (k : Int) : Ls → List Hd
 | [] => []
 | l :: ls => (if 0 < l.length then [(l, k)] else []) ++ Z3 (k + 1) ls
theorem ZbN : ∀ (a b : Ls) (k : Int), Z3 k (a ++ b) = Z3 k a ++ Z3 (k + a.length) b
 | [], b, k => by simp [Z3]
 | l :: a, b, k => by
  have e : k + ((l :: a).length : Nat) = k + 1 + (a.length : Nat) := by simp; omega
  rw [e]
  simp only [List.cons_append, Z3, ZbN a b, List.append_assoc]
theorem Zfc : ∀ (ls : Ls) (k : Int), (Z3 k ls).length ≤ ls.length
 | [], _ => Nat.le_refl _
 | l :: ls, k => by
  have := Zfc ls (k + 1)
  unfold Z3
  split <;> simp <;> omega
theorem Zdu : ∀ {ls : Ls} {k : Int} {h : Hd}, h ∈ Z3 k ls ↔ ∃ i, ∃ hi : i < ls.length, h = (ls[i], k + (i : Nat)) ∧ 0 < ls[i].length
 | [], k, h => by simp [Z3]
 | l :: ls, k, h => by
  rw [Z3, List.mem_append, Zdu]
  constructor
  ·rintro (h1 | ⟨i, hi, h1, h2⟩)
   ·split at h1
    ·rename_i h3
     rw [List.mem_singleton] at h1
     exact ⟨0, by simp, by simp [h1], h3⟩
    ·cases h1
   ·exact ⟨i + 1, by simp; omega, by rw [h1]; simp; omega, by simpa using h2⟩
  ·rintro ⟨i, hi, h1, h2⟩
   cases i with
   | zero =>
    left
    have h2 : 0 < l.length := h2
    rw [if_pos h2]
    simp [h1]
   | succ i => exact .inr ⟨i, by simp at hi; omega, by rw [h1]; simp; omega, by simpa using h2⟩
theorem Zn7 {H : List Hd} {ls : Ls} {k : Nat} (hk : k < ls.length) (hp : H.Perm (Z3 0 (ls.take k))) (hne : 0 < ls[k].length) : ((ls[k], (k : Int)) :: H).Perm (Z3 0 (ls.take (k + 1))) := by
 rw [List.take_succ_eq_append_getElem hk, ZbN]
 have e : (List.take k ls).length = k := by rw [List.length_take]; omega
 rw [e]
 simp only [Z3, if_pos hne, Int.zero_add, List.append_nil]
 exact (List.perm_append_singleton _ _).symm.trans (hp.append_right _)
theorem Zn8 {H : List Hd} {ls : Ls} {k : Nat} (hk : k < ls.length) (hp : H.Perm (Z3 0 (ls.take k))) (hne : ¬ 0 < ls[k].length) : H.Perm (Z3 0 (ls.take (k + 1))) := by
 rw [List.take_succ_eq_append_getElem hk, ZbN]
 simp only [Z3, if_neg hne, List.append_nil]
 exact hp
theorem Zn9 {H : List Hd} {cur : Ls} (hH : Heap Hd.lt H) (hp : H.Perm (Z3 0 cur)) (hl : 0 < H.length) : ∃ b, ∃ hb : Best cur b, nth H 0 = (cur[b]'hb.lt, (b : Int)) := by
 have hm : H[0] ∈ Z3 0 cur := hp.mem_iff.1 (List.getElem_mem hl)
 obtain ⟨b, hb, e, hne⟩ := Zdu.1 hm
 rw [Int.zero_add] at e
 refine ⟨b, ⟨hb, hne, fun j hj hjn => ?_⟩, by rw [Yp hl]; exact e⟩
 have hm2 : (cur[j], ((j : Nat) : Int)) ∈ H := hp.mem_iff.2 (Zdu.2 ⟨j, hj, by rw [Int.zero_add], hjn⟩)
 obtain ⟨c, hc, e2⟩ := List.getElem_of_mem hm2
 have := ZeY Hd.lo hH c hc
 rw [Yp hc, Yp hl, e, e2] at this
 have h5 : (decide (stN cur[j] < stN cur[b]) || (decide (stN cur[j] = stN cur[b]) && decide (((j : Nat) : Int) < ((b : Nat) : Int)))) = false := this
 simp only [Bool.or_eq_false_iff, Bool.and_eq_false_iff, decide_eq_false_iff_not] at h5
 omega
theorem Zid {H H' : List Hd} {cur : Ls} {b : Nat} (hb : Best cur b) (hp : H.Perm (Z3 0 cur)) (h : ((cur[b]'hb.lt, (b : Int)) :: H').Perm H) :
  H'.Perm (Z3 0 (cur.take b) ++ Z3 (b + 1) (cur.drop (b + 1))) := by
 have e : Z3 0 cur = Z3 0 (cur.take b) ++ (cur[b]'hb.lt, (b : Int)) :: Z3 (b + 1) (cur.drop (b + 1)) := by
  conv => lhs; rw [Zfb hb.lt]
  rw [ZbN]
  have e : (List.take b cur).length = b := by rw [List.length_take]; have := hb.lt; omega
  rw [e]
  simp only [Z3, if_pos hb.ne, Int.zero_add, List.singleton_append]
 rw [e] at hp
 exact List.Perm.cons_inv (h.trans (hp.trans List.perm_middle))
theorem Zoa {cur : Ls} {b : Nat} (hb : b < cur.length) {t : List Msg} (ht : 0 < t.length) : Z3 0 (cur.set b t) = Z3 0 (cur.take b) ++ (t, (b : Int)) :: Z3 (b + 1) (cur.drop (b + 1)) := by
 rw [Zdt hb, ZbN]
 have e : (List.take b cur).length = b := by rw [List.length_take]; omega
 rw [e]
 simp only [Z3, if_pos ht, Int.zero_add, List.singleton_append]
theorem Zob {cur : Ls} {b : Nat} (hb : b < cur.length) {t : List Msg} (ht : ¬ 0 < t.length) : Z3 0 (cur.set b t) = Z3 0 (cur.take b) ++ Z3 (b + 1) (cur.drop (b + 1)) := by
 rw [Zdt hb, ZbN]
 have e : (List.take b cur).length = b := by rw [List.length_take]; omega
 rw [e]
 simp only [Z3, if_neg ht, Int.zero_add, List.nil_append]
theorem Zie {H : List Hd} {cur : Ls} {b : Nat} (hH : Heap Hd.lt H) (hp : H.Perm (Z3 0 cur)) (hl : 0 < H.length) (hb : Best cur b) (he : nth H 0 = (cur[b]'hb.lt, (b : Int))) {el : Hd} (hel : el = ((cur[b]'hb.lt).drop 1, (b : Int))) (ht : 0 < el.1.length) :
  Heap Hd.lt (Zaz Hd.lt (Y6 Hd.lt H) el) ∧ (Zaz Hd.lt (Y6 Hd.lt H) el).Perm (Z3 0 (cur.set b ((cur[b]'hb.lt).drop 1))) := by
 obtain ⟨h1, h2, h3⟩ := Zdm Hd.lo hH hl
 obtain ⟨h4, h5⟩ := ZeZ Hd.lo h1 el
 refine ⟨h4, h5.trans ?_⟩
 rw [he] at h2
 subst hel
 rw [Zoa hb.lt ht]
 exact ((Zid hb hp h2).cons _).trans List.perm_middle.symm
theorem Zif {H : List Hd} {cur : Ls} {b : Nat} (hH : Heap Hd.lt H) (hp : H.Perm (Z3 0 cur)) (hl : 0 < H.length) (hb : Best cur b) (he : nth H 0 = (cur[b]'hb.lt, (b : Int))) (ht : ¬ 0 < ((cur[b]'hb.lt).drop 1).length) :
  Heap Hd.lt (Y6 Hd.lt H) ∧ (Y6 Hd.lt H).Perm (Z3 0 (cur.set b ((cur[b]'hb.lt).drop 1))) := by
 obtain ⟨h1, h2, h3⟩ := Zdm Hd.lo hH hl
 rw [he] at h2
 rw [Zob hb.lt ht]
 exact ⟨h1, Zid hb hp h2⟩
theorem Zoc {H : List Hd} {cur : Ls} (hp : H.Perm (Z3 0 cur)) (h0 : H.length = 0) : ZO cur = [] := by
 refine Zcw fun i hi => ?_
 cases hc : cur[i].length with
 | zero => rfl
 | succ n =>
  have hm : (cur[i], ((i : Nat) : Int)) ∈ H := hp.mem_iff.2 (Zdu.2 ⟨i, hi, by rw [Int.zero_add], om9⟩)
  rw [List.eq_nil_of_length_eq_zero h0] at hm; cases hm
theorem Zig : ∀ (n : Nat) (cur : Ls), YW cur = n → (ZO cur).length ≤ n
 | 0, cur, h => by unfold ZO; rw [h]; exact Nat.le_refl _
 | n + 1, cur, h => by
  by_cases hb : ∃ b, Best cur b
  ·obtain ⟨b, hb⟩ := hb
   rw [Zcv hb, List.length_cons]
   have := Zig n (cur.set b ((cur[b]'hb.lt).drop 1)) (by have := ZaR hb; omega)
   omega
  ·unfold ZO; rw [h, ZbM, dif_neg hb]; simp
theorem Zih (cur : Ls) : (ZO cur).length ≤ YW cur := Zig _ cur rfl
end Go.Fw

namespace Go.Fw
theorem Zii {f : List Msg → List Msg} (hf : ∀ l, (f l).length ≤ l.length) : ∀ (ls : Ls), YW (ls.map f) ≤ YW ls
 | [] => Nat.le_refl _
 | l :: ls => by
  have := hf l
  have ih := Zii hf ls
  rw [List.map_cons, Zbc, Zbc]; omega
def BI (C : Ls) (j : Nat) (c : Int) : Prop := (c = -1 ∧ ∀ q (h : q < C.length), q < j → C[q].length = 0) ∨
 ∃ b : Nat, ∃ h : b < C.length, c = b ∧ b < j ∧ 0 < C[b].length ∧ ∀ q (hq : q < C.length), q < j → 0 < C[q].length → stN C[b] ≤ stN C[q] ∧ (q < b → stN C[b] < stN C[q])
theorem BI_nil (C : Ls) : BI C 0 (-1) := .inl ⟨rfl, fun q _ h => by omega⟩
theorem BI_skip {C : Ls} {j : Nat} {c : Int} (h : BI C j c) (hj : j < C.length) (hz : C[j].length = 0) : BI C (j + 1) c := by
 rcases h with ⟨h1, h2⟩ | ⟨b, hb, h1, h2, h3, h4⟩
 ·exact .inl ⟨h1, fun q hq hqj => by
   by_cases e : q = j
   ·subst e; exact hz
   ·exact h2 q hq om9⟩
 ·exact .inr ⟨b, hb, h1, om9, h3, fun q hq hqj hn => by
   by_cases e : q = j
   ·subst e; omega
   ·exact h4 q hq om9 hn⟩
theorem BI_first {C : Ls} {j : Nat} {c : Int} (h : BI C j c) (hc : c < 0) (hj : j < C.length) (hn : 0 < C[j].length) : BI C (j + 1) j := by
 rcases h with ⟨h1, h2⟩ | ⟨b, hb, h1, h2, h3, h4⟩
 ·exact .inr ⟨j, hj, rfl, om9, hn, fun q hq hqj hqn => by
   by_cases e : q = j
   ·subst e; exact ⟨Int.le_refl _, fun h => by omega⟩
   ·have := h2 q hq om9; omega⟩
 ·omega
theorem BI_less {C : Ls} {j b : Nat} (h : BI C j b) (hb : b < C.length) (hj : j < C.length) (hn : 0 < C[j].length) (hl : stN C[j] < stN C[b]) : BI C (j + 1) j := by
 rcases h with ⟨h1, h2⟩ | ⟨b', hb', h1, h2, h3, h4⟩
 ·omega
 ·have e : b' = b := om9
  subst e
  exact .inr ⟨j, hj, rfl, om9, hn, fun q hq hqj hqn => by
   by_cases e : q = j
   ·subst e; exact ⟨Int.le_refl _, fun h => by omega⟩
   ·have := h4 q hq om9 hqn
    exact ⟨om9, fun _ => by omega⟩⟩
theorem BI_keep {C : Ls} {j b : Nat} (h : BI C j b) (hb : b < C.length) (hj : j < C.length) (hl : ¬ stN C[j] < stN C[b]) : BI C (j + 1) b := by
 rcases h with ⟨h1, h2⟩ | ⟨b', hb', h1, h2, h3, h4⟩
 ·omega
 ·have e : b' = b := om9
  subst e
  exact .inr ⟨b', hb', rfl, om9, h3, fun q hq hqj hqn => by
   by_cases e : q = j
   ·subst e; exact ⟨om9, fun h => by omega⟩
   ·exact h4 q hq om9 hqn⟩
theorem BI_best {C : Ls} {j : Nat} {c : Int} (h : BI C j c) (hc : ¬ c < 0) : ∃ b : Nat, ∃ hb : b < C.length, c = b ∧ b < j ∧ 0 < C[b].length := by
 rcases h with ⟨h1, h2⟩ | ⟨b, hb, h1, h2, h3, h4⟩
 ·omega
 ·exact ⟨b, hb, h1, h2, h3⟩
theorem BI_done {C : Ls} {j b : Nat} (h : BI C j b) (hj : C.length ≤ j) : Best C b := by
 rcases h with ⟨h1, h2⟩ | ⟨b', hb, h1, h2, h3, h4⟩
 ·omega
 ·have e : b' = b := om9
  subst e
  exact ⟨hb, h3, fun q hq hqn => h4 q hq om9 hqn⟩
end Go.Fw

namespace Go.Fw
open Go Go.RowKit
structure Seat where
 n : Nd
 s : Span
 ms : List Msg
instance : Inhabited Seat := ⟨⟨Nd.zero, Span.zero, []⟩⟩
theorem WD.doneP {E : Env} {f : Fr} {G : GH} {M M1 M' Mk : MH} {ops : Array Oper} {K : Kt} {fuel : Nat} {listed : Array Bool} (hr : Region.ready .any ops listed = []) (hs : M1.Sublist M) (hp : M'.Perm M1) (h : K f G M') : WD E ops fuel listed f G M Mk K := fun _ a w Q hi hw _ hK =>
 wpAnyH_done hr (hK _ _ _ _ _ hi ⟨(hw.r.sub hs).perm hp, hw.le, hw.nw⟩ h) fuel
def atS (l : List Nd) (i : Int) : List Nd := l.filter fun n => decide (n.slot = i)
def Zq (l : List Nd) (i : Int) : Nd × Bool := ((atS l i).getLast?.getD Nd.zero, decide ((atS l i).length = 1))
theorem Zij {l : List Nd} {i : Int} {k : Nat} (hk : k < l.length) (h : l[k].slot = i) : atS (l.take (k + 1)) i = atS (l.take k) i ++ [l[k]] := Zdj hk (decide_eq_true h)
theorem Zik {l : List Nd} {i : Int} {k : Nat} (hk : k < l.length) (h : ¬ l[k].slot = i) : atS (l.take (k + 1)) i = atS (l.take k) i := Zcp hk (decide_eq_false h)
theorem find_b {l : List Nd} {i : Int} {k : Nat} (h : l.length ≤ k) : decide ((((atS (l.take k) i).length : Nat) : Int) = 1) = (Zq l i).2 := by
 rw [List.take_of_length_le h]; exact decide_eq_decide.2 om9
noncomputable def Zb (l : List Nd) (x : Seat) (j : Nat) : Seat :=
 ⟨(Zq l (x.n.kids.getD j 0)).1, x.s.meet (Zf x.n.pivots (j : Int)), ZO [Zc (x.s.meet (Zf x.n.pivots (j : Int))) x.n.msgs, Zc (x.s.meet (Zf x.n.pivots (j : Int))) x.ms]⟩
def XC (l : List Nd) (x : Seat) (j : Nat) : Bool := (Zq l (x.n.kids.getD j 0)).2 && decide ((Zq l (x.n.kids.getD j 0)).1.level = x.n.level - 1)
noncomputable def Y8 (l : List Nd) (x : Seat) (j : Nat) : List Seat := (List.range j).map (Zb l x)
noncomputable def Z4 (l : List Nd) (x : Seat) : Option (List Seat) :=
 if x.n.level = 0 then some []
 else if x.n.level < 0 ∨ YB x.n.pivots x.n.kids.length = false then none
 else if (List.range x.n.kids.length).all (XC l x) = true then some (Y8 l x x.n.kids.length) else none
noncomputable def Zj (l : List Nd) (x : Seat) : List Seat := (Z4 l x).getD []
theorem ZaS {l : List Nd} {x : Seat} (h : x.n.level = 0) : Z4 l x = some [] := if_pos h
theorem Zod {l : List Nd} {x : Seat} (h0 : ¬ x.n.level = 0) (h1 : ¬ x.n.level < 0) (h2 : YB x.n.pivots x.n.kids.length = true) (h : ∀ j, j < x.n.kids.length → XC l x j = true) : Z4 l x = some (Y8 l x x.n.kids.length) := by
 rw [Z4, if_neg h0, if_neg (by rintro (h | h); exact h1 h; rw [h2] at h; cases h), if_pos]
 exact List.all_eq_true.2 fun j hj => h j (List.mem_range.1 hj)
theorem Zai (l : List Nd) (x : Seat) (j : Nat) : (Y8 l x j).length = j := by simp [Y8]
noncomputable def X4 (l : List Nd) : Nat → Nat → List Seat → Option (List Seat)
 | 0, _, _ => none
 | f + 1, i, out => if h : i < out.length then if l.length < out.length then none else match Z4 l out[i] with
   | none => none
   | some ks => X4 l f (i + 1) (out ++ ks)
  else some out
noncomputable def Zg (l : List Nd) (root : Int) : Seat := ⟨(Zq l root).1, Span.all, []⟩
noncomputable def JJ (l : List Nd) (root : Int) : Option (List Seat) := if (Zq l root).2 = true then X4 l (l.length + 2) 0 [Zg l root] else none
theorem Zfd {l : List Nd} {f i : Nat} {out : List Seat} (h : ¬ i < out.length) : X4 l (f + 1) i out = some out := by rw [X4, dif_neg h]
theorem Zoe {l : List Nd} {f i : Nat} {out : List Seat} (h : i < out.length) (hl : l.length < out.length) : X4 l (f + 1) i out = none := by rw [X4, dif_pos h, if_pos hl]
theorem Zil {l : List Nd} {f i : Nat} {out : List Seat} (h : i < out.length) (hk : Z4 l out[i] = none) : X4 l (f + 1) i out = none := by
 rw [X4, dif_pos h]
 split
 ·rfl
 ·rw [hk]
theorem Zfe {l : List Nd} {f i : Nat} {out ks : List Seat} (h : i < out.length) (hl : ¬ l.length < out.length) (hk : Z4 l out[i] = some ks) : X4 l (f + 1) i out = X4 l f (i + 1) (out ++ ks) := by
 rw [X4, dif_pos h, if_neg hl, hk]
structure QOk (l : List Nd) (root : Int) (i : Nat) (out : List Seat) : Prop where
 le : i ≤ out.length
 pos : 0 < out.length
 len : i ≤ l.length
 eq : JJ l root = X4 l (l.length + 2 - i) i out
theorem Zof {n i : Nat} (h : i ≤ n) : n + 2 - i = (n + 1 - i) + 1 := om9
theorem QOk.none {l : List Nd} {root : Int} {i : Nat} {out : List Seat} (h : QOk l root i out) (hi : i < out.length) (hk : Z4 l out[i] = none) : JJ l root = none := by
 rw [h.eq, Zof h.len, Zil hi hk]
def Sml (l : List Nd) : Prop := l.length ≤ 4096 ∧ ∀ n ∈ l, n.kids.length ≤ 4000 ∧ n.pivots.length ≤ 4000 ∧ n.msgs.length ≤ 4000 ∧ n.rows.length ≤ 4000 ∧ n.high.b.size ≤ 4000 ∧ (∀ m ∈ n.msgs, m.key.b.size ≤ 4000 ∧ m.hi.b.size ≤ 4000 ∧ m.val.b.size ≤ 4000) ∧ (∀ p ∈ n.pivots, p.b.size ≤ 4000) ∧ ∀ p ∈ n.rows, p.key.b.size ≤ 4000 ∧ p.val.b.size ≤ 4000
theorem Sml.zero : (Nd.zero.kids.length ≤ 4000 ∧ Nd.zero.pivots.length ≤ 4000 ∧ Nd.zero.msgs.length ≤ 4000 ∧ Nd.zero.rows.length ≤ 4000 ∧ Nd.zero.high.b.size ≤ 4000 ∧ (∀ m ∈ Nd.zero.msgs, m.key.b.size ≤ 4000 ∧ m.hi.b.size ≤ 4000 ∧ m.val.b.size ≤ 4000) ∧ (∀ p ∈ Nd.zero.pivots, p.b.size ≤ 4000) ∧ ∀ p ∈ Nd.zero.rows, p.key.b.size ≤ 4000 ∧ p.val.b.size ≤ 4000) := by
 refine ⟨by decide, by decide, by decide, by decide, by decide, ?_, ?_, ?_⟩ <;> (intro m hm; cases hm)
theorem Zdv (C : Ls) : (∀ q (h : q < C.length), C[q].length = 0) ∨ ∃ b, Best C b := by
 have key : ∀ j, j ≤ C.length → ∃ c : Int, BI C j c := by
  intro j
  induction j with
  | zero => intro _; exact ⟨-1, BI_nil C⟩
  | succ j ih =>
   intro hj
   obtain ⟨c, hc⟩ := ih om9
   by_cases hz : C[j].length = 0
   ·exact ⟨c, BI_skip hc om9 hz⟩
   ·by_cases h0 : c < 0
    ·exact ⟨j, BI_first hc h0 om9 om9⟩
    ·obtain ⟨b, hb, rfl, hbj, _⟩ := BI_best hc h0
     by_cases hl : stN C[j] < stN C[b]
     ·exact ⟨j, BI_less hc hb om9 om9 hl⟩
     ·exact ⟨b, BI_keep hc hb om9 hl⟩
 obtain ⟨c, hc⟩ := key C.length (Nat.le_refl _)
 by_cases h0 : c < 0
 ·rcases hc with ⟨h1, h2⟩ | ⟨b, hb, h1, _⟩
  ·exact .inl fun q h => h2 q h h
  ·omega
 ·obtain ⟨b, hb, rfl, _, _⟩ := BI_best hc h0
  exact .inr ⟨b, BI_done hc (Nat.le_refl _)⟩
theorem Zdw {C : Ls} (h : ∀ q (h : q < C.length), C[q].length = 0) : C.flatten = [] := by
 rw [List.flatten_eq_nil_iff]
 intro L hL
 obtain ⟨i, hi, rfl⟩ := List.getElem_of_mem hL
 exact List.eq_nil_of_length_eq_zero (h i hi)
theorem Zog {A R X : List Msg} (h : 0 < X.length) : (X[0] :: (A ++ (X.drop 1 ++ R))).Perm (A ++ (X ++ R)) := by
 cases X with
 | nil => simp at h
 | cons x X => exact List.perm_middle.symm
theorem Zim {C : Ls} {b : Nat} (hb : Best C b) : ((C[b]'hb.lt)[0]'hb.ne :: (C.set b ((C[b]'hb.lt).drop 1)).flatten).Perm C.flatten := by
 have e1 : (C.set b ((C[b]'hb.lt).drop 1)).flatten = (C.take b).flatten ++ ((C[b]'hb.lt).drop 1 ++ (C.drop (b + 1)).flatten) := by
  rw [Zdt hb.lt, List.flatten_append, List.flatten_cons]
 have e2 : C.flatten = (C.take b).flatten ++ (C[b]'hb.lt ++ (C.drop (b + 1)).flatten) := by
  conv => lhs; rw [Zfb hb.lt]
  rw [List.flatten_append, List.flatten_cons]
 have h := Zog (A := (C.take b).flatten) (R := (C.drop (b + 1)).flatten) hb.ne
 rw [← e1, ← e2] at h
 exact h
theorem Zoh : ∀ (n : Nat) (C : Ls), YW C = n → (ZO C).Perm C.flatten := by
 intro n
 induction n with
 | zero =>
  intro C h
  rcases Zdv C with h1 | ⟨b, hb⟩
  ·rw [Zcw h1, Zdw h1]
  ·have := ZaR hb; omega
 | succ n ih =>
  intro C h
  rcases Zdv C with h1 | ⟨b, hb⟩
  ·rw [Zcw h1, Zdw h1]
  ·rw [Zcv hb]
   exact ((ih _ (by have := ZaR hb; omega)).cons _).trans (Zim hb)
theorem Zoi {C : Ls} {m : Msg} : m ∈ ZO C ↔ ∃ L ∈ C, m ∈ L := by
 rw [(Zoh _ C rfl).mem_iff, List.mem_flatten]
def Rst (l : List Msg) : Prop := l.Pairwise fun a b => a.stamp < b.stamp
theorem Zin : ∀ (n : Nat) (C : Ls) (S : List Msg), YW C = n → (∀ L ∈ C, Rst L) → S.Perm C.flatten → Rst S → ZO C = S := by
 intro n
 induction n with
 | zero =>
  intro C S h _ hp _
  rcases Zdv C with h1 | ⟨b, hb⟩
  ·rw [Zdw h1] at hp
   rw [Zcw h1, List.Perm.eq_nil hp]
  ·have := ZaR hb; omega
 | succ n ih =>
  intro C S h hC hp hS
  rcases Zdv C with h1 | ⟨b, hb⟩
  ·rw [Zdw h1] at hp
   rw [Zcw h1, List.Perm.eq_nil hp]
  ·have hf := Zim hb
   rw [Zcv hb]
   cases S with
   | nil => have := (hp.trans hf.symm).length_eq; simp at this
   | cons s S =>
    have hp2 := hp.trans hf.symm
    have e : s = (C[b]'hb.lt)[0]'hb.ne := by
     have hs : s ∈ C.flatten := hp.mem_iff.1 (by simp)
     have hc : (C[b]'hb.lt)[0]'hb.ne ∈ s :: S := hp2.mem_iff.2 (by simp)
     rcases List.mem_cons.1 hc with h | h
     ·exact h.symm
     ·have h2 := (List.pairwise_cons.1 hS).1 _ h
      obtain ⟨L, hL, hsL⟩ := List.mem_flatten.1 hs
      obtain ⟨j, hj, rfl⟩ := List.getElem_of_mem hL
      obtain ⟨q, hq, rfl⟩ := List.getElem_of_mem hsL
      have h3 := (hb.min j hj om9).1
      rw [Zib hb.ne, Zib (show 0 < C[j].length by omega)] at h3
      have h4 : (C[j][0]'om9).stamp ≤ C[j][q].stamp := by
       by_cases e0 : q = 0
       ·subst e0; exact Int.le_refl _
       ·exact Int.le_of_lt (List.pairwise_iff_getElem.1 (hC _ (List.getElem_mem hj)) 0 q om9 hq om9)
      omega
    subst e
    congr 1
    refine ih _ S (by have := ZaR hb; omega) ?_ (List.Perm.cons_inv hp2) (List.pairwise_cons.1 hS).2
    intro L hL
    rcases List.mem_or_eq_of_mem_set hL with h | h
    ·exact hC _ h
    ·subst h; exact List.Pairwise.sublist (List.drop_sublist _ _) (hC _ (List.getElem_mem _))
theorem Zdx {a b : Span} {n : Nat} (ha : a.lo.b.size ≤ n ∧ a.hi.b.size ≤ n) (hb : b.lo.b.size ≤ n ∧ b.hi.b.size ≤ n) : (a.meet b).lo.b.size ≤ n ∧ (a.meet b).hi.b.size ≤ n := by
 unfold Span.meet
 refine Zdg ?_ ?_
 ·dsimp only; split; exact hb.1; exact ha.1
 ·dsimp only; split; exact hb.2; exact ha.2
theorem Zcx {p : List Str} {i : Int} {n : Nat} (h : ∀ k ∈ p, k.b.size ≤ n) : (Zf p i).lo.b.size ≤ n ∧ (Zf p i).hi.b.size ≤ n := by
 have h0 : Str.nil.b.size = 0 := rfl
 have hg : ∀ j, (p.getD j Str.nil).b.size ≤ n := by
  intro j
  by_cases hj : j < p.length
  ·rw [J0 hj]; exact h _ (List.getElem_mem _)
  ·rw [Zg3 om9]; omega
 unfold Zf
 split
 ·exact ⟨by show Str.nil.b.size ≤ n; omega, by show Str.nil.b.size ≤ n; omega⟩
 ·refine Zdg ?_ (hg _)
  dsimp only; split
  ·exact hg _
  ·omega
structure SeatS (l : List Nd) (p : Nat) (x : Seat) : Prop where
 nd : x.n = Nd.zero ∨ x.n ∈ l
 ms : x.ms.length ≤ 4000 * p
 sp : x.s.lo.b.size ≤ 4000 ∧ x.s.hi.b.size ≤ 4000
 key : ∀ m ∈ x.ms, m.key.b.size ≤ 4000 ∧ m.hi.b.size ≤ 4000 ∧ m.val.b.size ≤ 4000
def NdS (n : Nd) : Prop := n.kids.length ≤ 4000 ∧ n.pivots.length ≤ 4000 ∧ n.msgs.length ≤ 4000 ∧ n.rows.length ≤ 4000 ∧ n.high.b.size ≤ 4000 ∧ (∀ m ∈ n.msgs, m.key.b.size ≤ 4000 ∧ m.hi.b.size ≤ 4000 ∧ m.val.b.size ≤ 4000) ∧ (∀ p ∈ n.pivots, p.b.size ≤ 4000) ∧ ∀ p ∈ n.rows, p.key.b.size ≤ 4000 ∧ p.val.b.size ≤ 4000
theorem Sml.at {l : List Nd} (h : Sml l) {n : Nd} (hn : n = Nd.zero ∨ n ∈ l) : NdS n := by
 rcases hn with rfl | hn
 ·exact Sml.zero
 ·exact h.2 n hn
end Go.Fw

namespace Go.Fw
section
variable {α : Type} {q : α → Bool} {l m : List α}
def Yf (q : α → Bool) (l : List α) : Int := match l.findIdx? q with
 | some i => i
 | none => -1
theorem Zdy {k : Nat} (hk : k < l.length) (h : q l[k] = true) (hj : ∀ j (h : j < l.length), j < k → q l[j] = false) : Yf q l = k := by
 have e : l.findIdx? q = some k := by
  rw [List.findIdx?_eq_some_iff_getElem]
  exact ⟨hk, h, fun j hji => by have := hj j om9 hji; simp [this]⟩
 unfold Yf; rw [e]
theorem Zdz (h : ∀ j (h : j < l.length), q l[j] = false) : Yf q l = -1 := by
 have e : l.findIdx? q = none := by
  rw [List.findIdx?_eq_none_iff]
  intro x hx
  obtain ⟨j, hj, rfl⟩ := List.getElem_of_mem hx
  exact h j hj
 unfold Yf; rw [e]
theorem ZbO (q : α → Bool) (l : List α) : (Yf q l = -1 ∧ ∀ x ∈ l, q x = false) ∨ ∃ k, ∃ h : k < l.length, Yf q l = (k : Nat) ∧ q l[k] = true ∧ ∀ j (h : j < l.length), j < k → q l[j] = false := by
 cases e : l.findIdx? q with
 | none =>
  left
  refine ⟨by unfold Yf; rw [e], ?_⟩
  exact List.findIdx?_eq_none_iff.1 e
 | some k =>
  right
  obtain ⟨h1, h2, h3⟩ := List.findIdx?_eq_some_iff_getElem.1 e
  exact ⟨k, h1, by unfold Yf; rw [e], h2, fun j hj hji => by have := h3 j hji; simpa using this⟩
theorem Zff (q : α → Bool) (l : List α) : -1 ≤ Yf q l ∧ Yf q l < (l.length : Nat) := by
 rcases ZbO q l with ⟨h, _⟩ | ⟨k, h1, h2, _⟩
 ·omega
 ·omega
theorem Zoj (h : Yf q l = -1) : l.filter (fun a => !q a) = l := by
 rcases ZbO q l with ⟨_, h2⟩ | ⟨k, h1, h2, _⟩
 ·exact List.filter_eq_self.2 fun a ha => by rw [h2 a ha]; rfl
 ·omega
theorem Zok (h : ¬ Yf q l = -1) : l.take (Yf q l).toNat = (l.take ((Yf q l).toNat + 1)).filter (fun a => !q a) := by
 rcases ZbO q l with ⟨h1, _⟩ | ⟨k, h1, h2, h3, h4⟩
 ·exact absurd h1 h
 ·rw [h2]
  simp only [Int.toNat_natCast]
  rw [Zcp (p := fun a => !q a) h1 (by rw [h3]; rfl)]
  symm
  refine List.filter_eq_self.2 fun a ha => ?_
  obtain ⟨j, hj, rfl⟩ := List.getElem_of_mem ha
  simp only [List.length_take] at hj
  rw [List.getElem_take, h4 j om9 om9]; rfl
theorem Zio {j : Nat} (hj : j < m.length) (hl : j < l.length) (h : m.drop j = l.drop j) : m[j] = l[j] := by
 rw [List.drop_eq_getElem_cons hj, List.drop_eq_getElem_cons hl] at h
 exact (List.cons.inj h).1
theorem Zip {j : Nat} (h : m.drop j = l.drop j) : m.drop (j + 1) = l.drop (j + 1) := by
 have := congrArg (List.drop 1) h
 rwa [List.drop_drop, List.drop_drop] at this
theorem Ziq {i j : Nat} {p : α → Bool} (hij : i < j) (hjl : j < l.length) (hml : m.length = l.length) (hmt : m.take i = (l.take j).filter p) (hmd : m.drop j = l.drop j) (hq : p l[j] = true) : (m.set i (m[j]'om9)).take (i + 1) = (l.take (j + 1)).filter p ∧ (m.set i (m[j]'om9)).drop (j + 1) = l.drop (j + 1) := by
 have e := Zio om9 hjl hmd
 constructor
 ·rw [Zdj hjl hq, ← hmt, e, List.take_succ_eq_append_getElem (by simp; omega), List.take_set_of_le (Nat.le_refl _)]
  simp
 ·rw [List.drop_set_of_lt om9]
  exact Zip hmd
theorem Zir {i j : Nat} {p : α → Bool} (hjl : j < l.length) (hmt : m.take i = (l.take j).filter p) (hmd : m.drop j = l.drop j) (hq : p l[j] = false) : m.take i = (l.take (j + 1)).filter p ∧ m.drop (j + 1) = l.drop (j + 1) :=
 ⟨by rw [Zcp hjl hq]; exact hmt, Zip hmd⟩
end
end Go.Fw

namespace Go.Fw
theorem Zis {α : Type} {o : Option α} {d : α} (h : o.isSome = true) : o = some (o.getD d) := by cases o <;> simp_all
def Zbd (l : List Pair) (k : Str) (e : Eff) (n : Int) : Bool := (Zi l k).isSome || !(decide (e.kind = 1) || decide (e.kind = 2)) || decide ((l.length : Int) < n)
def Yj (l : List Pair) (m : Msg) (n : Int) : Bool := decide (m.kind = 4) || Zbd l m.key (m.on m.key) n
def ZbP (l : List Pair) (m : Msg) (n : Int) : Bool := decide (3 ≤ m.kind) || (Zi l m.key).isSome || decide ((l.length : Int) < n)
theorem Msg.has_key {m : Msg} (h : m.R) : m.span.has m.key = true := by
 unfold Msg.R at h
 obtain ⟨h1, h2⟩ := h
 unfold Msg.span
 by_cases hk : m.kind = 4
 ·rw [if_pos hk] at h2 ⊢
  have h3 := h2.2.2
  rw [Msg.span, if_pos hk] at h3
  have := Span.empty_eq ⟨m.key, m.hi, m.opn⟩
  rw [h3] at this
  simpa using this
 ·rw [if_neg hk, Zag om9]; simp
theorem ZdA {l : List Pair} {m : Msg} {n : Int} (h : m.R) : Yj l m n = ZbP l m n := by
 have hk := Msg.has_key h
 unfold Msg.R at h
 obtain ⟨h1, h2⟩ := h
 unfold Yj ZbP Zbd Msg.on
 rw [hk]
 by_cases h4 : m.kind = 4
 ·simp [h4]
 ·rw [if_neg h4] at h2
  rcases h2.2.2 with h5 | h5 | ⟨h5, _⟩ <;> rw [h5] <;> simp
def ZaD (l : List Pair) (m : Msg) (n : Int) : List Pair × Bool := if Yj l m n = true then (takeN l m, true) else ([], false)
theorem Zcy {l : List Pair} {m : Msg} {n : Int} (h : Yj l m n = true) : ZaD l m n = (takeN l m, true) := if_pos h
theorem Zfg {l : List Pair} {m : Msg} {n : Int} (h : Yj l m n = false) : ZaD l m n = ([], false) := if_neg (by simp [h])
def Yc (n : Int) : List Pair → List Msg → List Pair × Nat
 | l, [] => (l, 0)
 | l, m :: ms => if Yj l m n = true then ((Yc n (takeN l m) ms).1, (Yc n (takeN l m) ms).2 + 1) else (l, 0)
theorem Zfh (n : Int) : ∀ (ms : List Msg) (l : List Pair), (Yc n l ms).2 ≤ ms.length
 | [], l => by simp [Yc]
 | m :: ms, l => by
  unfold Yc; split
  ·have := Zfh n ms (takeN l m); simp; exact this
  ·simp
theorem Zit (n : Int) : ∀ (ms : List Msg) (l : List Pair), (Yc n l ms).1 = Zt l (ms.take (Yc n l ms).2)
 | [], l => by simp [Yc, Zt]
 | m :: ms, l => by
  unfold Yc; split
  ·rw [Zit n ms (takeN l m)]; simp [Zt]
  ·simp [Zt]
theorem Zol {n : Int} {l : List Pair} {ms : List Msg} {k : Nat} (hk : k < ms.length) (h : Yj (Zt l (ms.take k)) ms[k] n = true) :
  Yc n (Zt l (ms.take k)) (ms.drop k) = ((Yc n (Zt l (ms.take (k + 1))) (ms.drop (k + 1))).1, (Yc n (Zt l (ms.take (k + 1))) (ms.drop (k + 1))).2 + 1) := by
 rw [List.drop_eq_getElem_cons hk, Yc, if_pos h, ZeU hk]
theorem Zom {n : Int} {l : List Pair} {ms : List Msg} {k : Nat} (hk : k < ms.length) (h : Yj (Zt l (ms.take k)) ms[k] n = false) :
  Yc n (Zt l (ms.take k)) (ms.drop k) = (Zt l (ms.take k), 0) := by
 rw [List.drop_eq_getElem_cons hk, Yc, if_neg (by simp [h])]
def DrainAt (n : Int) (l : List Pair) (ms : List Msg) (k : Nat) : Prop := Yc n l ms = ((Yc n (Zt l (ms.take k)) (ms.drop k)).1, k + (Yc n (Zt l (ms.take k)) (ms.drop k)).2)
theorem DrainAt.zero (n : Int) (l : List Pair) (ms : List Msg) : DrainAt n l ms 0 := by simp [DrainAt, Zt]
theorem DrainAt.succ {n : Int} {l : List Pair} {ms : List Msg} {k : Nat} (h : DrainAt n l ms k) (hk : k < ms.length) (hf : Yj (Zt l (ms.take k)) ms[k] n = true) : DrainAt n l ms (k + 1) := by
 unfold DrainAt at h ⊢
 rw [h, Zol hk hf]
 simp only [Prod.mk.injEq, true_and]; omega
theorem DrainAt.stop {n : Int} {l : List Pair} {ms : List Msg} {k : Nat} (h : DrainAt n l ms k) (hk : k < ms.length) (hf : Yj (Zt l (ms.take k)) ms[k] n = false) : Yc n l ms = (Zt l (ms.take k), k) := by
 unfold DrainAt at h
 rw [h, Zom hk hf]; rfl
theorem DrainAt.all {n : Int} {l : List Pair} {ms : List Msg} {k : Nat} (h : DrainAt n l ms k) (hk : ms.length ≤ k) : Yc n l ms = (Zt l ms, k) := by
 unfold DrainAt at h
 rw [h, List.drop_eq_nil_of_le hk, List.take_of_length_le hk]; rfl
theorem Zfi (n : Int) : ∀ (ms : List Msg) (l : List Pair), PairsR l → (∀ m ∈ ms, m.R) → (((Yc n l ms).1.length : Nat) : Int) ≤ max (l.length : Int) n
 | [], l, _, _ => by first | (simp [Yc]; done) | (simp only [Yc]; omega)
 | m :: ms, l, hP, hm => by
  unfold Yc; split
  ·rename_i hf
   have hR := hm m (by simp)
   have hR' := hR
   unfold Msg.R at hR'
   have h1 := Zfi n ms (takeN l m) (hP.takeM hR'.1.2.1 hR'.1.2.2.1) (fun m h => hm m (by simp [h]))
   have h2 : (((takeN l m).length : Nat) : Int) ≤ max (l.length : Int) n := by
    rw [ZdA hR] at hf
    have h3 := hP.take_len m
    unfold takeN
    split
    ·have := List.length_filter_le (fun p : Pair => !m.span.has p.key) l; clear h3; omega
    ·rename_i h4
     clear h3
     have hr := hP.srt
     have key : ∀ {e : Eff}, ((Zi l m.key).isSome = true ∨ e.kind = 3) → (Y5 l m.key e).length ≤ l.length := fun {e} h => by
      rw [Zcq, hr.front]
      cases hs : (Zi l m.key).isSome
      ·rw [hr.back_no hs]
       rcases h with h | h
       ·rw [hs] at h; cases h
       ·have : Eff.apply e (Zi l m.key) = none := by simp [Eff.apply, h]
        rw [this]
        have := Zdi l m.key
        simp [Zay] <;> omega
      ·have hh := hr.has m.key
       rw [hs] at hh
       obtain ⟨q1, q2⟩ := of_decide_eq_true hh.symm
       rw [hr.back_yes q1 q2]
       have := Znt (Eff.apply e (Zi l m.key)) m.key
       simp; omega
     unfold ZbP at hf
     simp only [Bool.or_eq_true, decide_eq_true_eq] at hf
     have hk := Msg.has_key hR
     rcases hf with (hf | hf) | hf
     ·have hq := hR'.2
      rw [if_neg h4] at hq
      have hq3 : m.kind = 3 := by rcases hq.2.2 with h | h | h <;> omega
      have := key (e := m.on m.key) (.inr (by unfold Msg.on; rw [hk, hq3]; rfl))
      omega
     ·have := key (e := m.on m.key) (.inl hf); omega
     ·have := hr.with_len m.key (m.on m.key); omega
   have h5 : max ((takeN l m).length : Int) n ≤ max (l.length : Int) n := om9
   dsimp only; omega
  ·dsimp only; omega
theorem Ziu {m : Msg} (h : m.R) : m.key.b.size ≤ 16 ∧ m.val.b.size ≤ 16 := ⟨h.1.2.1, h.1.2.2.1⟩
theorem Zon {s : Span} {n : Nat} (h : s.lo.b.size ≤ n) : s.norm.lo.b.size ≤ n := by
 unfold Span.norm
 split
 ·show 0 ≤ n; omega
 ·split <;> exact h
def Msg.fit (m : Msg) : Prop := m.key.b.size ≤ 1000 ∧ (m.kind = 4 ∨ m.key.b.size ≤ 16) ∧ m.val.b.size ≤ 16
theorem Zcz {m : Msg} (h : m.key.b.size ≤ 16 ∧ m.val.b.size ≤ 16) : m.fit := ⟨om9, .inr h.1, h.2⟩
theorem PairsR.takeF {l : List Pair} {m : Msg} (h : PairsR l) (hf : m.fit) : PairsR (takeN l m) := by
 unfold takeN
 split
 ·exact h.filter _
 ·rename_i h4
  exact h.with (hf.2.1.resolve_left h4) (ZbG _ hf.2.2)
theorem PairsR.foldF {ms : List Msg} : ∀ {l : List Pair}, PairsR l → (∀ m ∈ ms, m.fit) → PairsR (Zt l ms) := by
 induction ms with
 | nil => exact fun h _ => h
 | cons m ms ih => exact fun h hm => ih (h.takeF (hm m (by simp))) (fun m h => hm m (by simp [h]))
theorem Ziv {l : List Pair} {ms : List Msg} (h : PairsR l) (hm : ∀ m ∈ ms, m.fit) : (Zt l ms).length ≤ l.length + ms.length := by
 induction ms generalizing l with
 | nil => simp [Zt]
 | cons m ms ih =>
  have h1 := ih (h.takeF (hm m (by simp))) (fun m h => hm m (by simp [h]))
  have h2 := h.take_len m
  simp only [Zt, List.foldl_cons, List.length_cons] at h1 ⊢; omega
theorem Ziw {s : Span} {ms : List Msg} (hs : s.lo.b.size ≤ 300) (hm : ∀ m ∈ ms, m.key.b.size ≤ 16 ∧ m.val.b.size ≤ 16) : ∀ m ∈ Zc s ms, m.fit := by
 intro m hmm
 unfold Zc at hmm
 obtain ⟨a, ha, he⟩ := List.mem_filterMap.1 hmm
 split at he
 ·cases he
  have h1 := hm a ha
  have h0 : ∀ x : Str, x = Str.nil → x.b.size ≤ 300 := fun x hx => by rw [hx]; show 0 ≤ 300; omega
  unfold Msg.clip
  split
  ·exact ⟨by show 0 ≤ 1000; omega, .inr (by show 0 ≤ 16; omega), by show 0 ≤ 16; omega⟩
  ·split
   ·rename_i h4
    refine ⟨?_, .inl h4, h1.2⟩
    show (a.span.meet s).lo.b.size ≤ 1000
    have hl : (if a.span.lo.lt s.lo = true then s.lo else a.span.lo).b.size ≤ 300 := by
     split
     ·exact hs
     ·rw [Msg.span, if_pos h4]; show a.key.b.size ≤ 300; omega
    unfold Span.meet
    exact Nat.le_trans (Zon hl) om9
   ·exact Zcz h1
 ·cases he
theorem ZH (a b : Span) (k : Str) : (a.meet b).has k = (a.has k && b.has k) := by
 unfold Span.meet
 rw [ZaP]
 rw [Bool.eq_iff_iff]
 simp only [Span.has, Bool.and_eq_true, Bool.not_eq_true', Bool.or_eq_true]
 have hlo : (k.lt (if a.lo.lt b.lo = true then b.lo else a.lo) = false) ↔ (k.lt a.lo = false ∧ k.lt b.lo = false) := by
  by_cases h : a.lo.lt b.lo = true
  ·rw [if_pos h]
   refine ⟨fun h1 => ⟨?_, h1⟩, fun h1 => h1.2⟩
   cases h2 : k.lt a.lo
   ·rfl
   ·rw [Str.lt_trans h2 h] at h1; cases h1
  ·rw [if_neg h]
   refine ⟨fun h1 => ⟨h1, ?_⟩, fun h1 => h1.1⟩
   cases h2 : k.lt b.lo
   ·rfl
   ·rw [Str.lt_of_lt_of_le h2 (by simpa using h)] at h1; cases h1
 rw [hlo]
 cases ha : a.opn <;> cases hb : b.opn <;> simp
 ·by_cases h : b.hi.lt a.hi = true
  ·rw [if_pos h]
   grind [Str.lt_trans]
  ·rw [if_neg h]
   have h : b.hi.lt a.hi = false := by simpa using h
   have : ∀ {x : Str}, x.lt a.hi = true → x.lt b.hi = true := fun hx => Str.lt_of_lt_of_le hx h
   grind
 all_goals grind
theorem Xp (s : Span) (m : Msg) (ms : List Msg) : Zc s (m :: ms) = if (m.clip s).2 = true then (m.clip s).1 :: Zc s ms else Zc s ms := by
 unfold Zc; rw [List.filterMap_cons]; split <;> simp_all
theorem Zoo {l : List Pair} {m : Msg} {s : Span} (hr : Srt l) (hk : m.key.b.size < 140737488355328) : (if (m.clip s).2 = true then takeN (l.filter fun p => s.has p.key) (m.clip s).1 else l.filter fun p => s.has p.key) = (takeN l m).filter fun p => s.has p.key := by
 have hmh := fun k => ZH m.span s k
 cases he : (m.span.meet s).empty
 ·by_cases h4 : m.kind = 4
  ·rw [Zaf he h4, if_pos rfl]
   unfold takeN
   rw [if_pos h4, if_pos h4, List.filter_filter, List.filter_filter]
   congr 1
   funext p
   have e1 : Msg.span { m with key := (m.span.meet s).lo, hi := (m.span.meet s).hi, opn := (m.span.meet s).opn } = m.span.meet s := by rw [Msg.span, if_pos h4]
   rw [e1, hmh]
   cases s.has p.key <;> simp
  ·rw [Zdd he h4, if_pos rfl]
   unfold takeN
   rw [if_neg h4, if_neg h4]
   have hsp : ∀ x, m.span.has x = decide (x = m.key) := fun x => by rw [Msg.span, if_neg h4]; exact Zag hk
   have hin : s.has m.key = true := by
    have := Span.empty_eq (m.span.meet s)
    rw [he, hmh, hsp] at this
    simp only [Bool.not_eq_false', Bool.and_eq_true, decide_eq_true_eq] at this
    rw [← this.1]; exact this.2
   rw [Zcq, Zcq, ZbF (fun k => s.has k), if_pos hin, List.filter_append, List.filter_append, List.filter_filter, List.filter_filter, List.filter_filter, List.filter_filter]
   congr 1
   ·congr 1
    ·congr 1; funext p; exact Bool.and_comm _ _
    ·cases Eff.apply (m.on m.key) (Zi l m.key) <;> simp [Zay, hin]
   ·congr 1; funext p; exact Bool.and_comm _ _
 ·rw [Zae he]
  simp only [Bool.false_eq_true, if_false]
  have hno : ∀ k, m.span.has k = true → s.has k = false := fun k h1 => by
   have h2 := hmh k
   have h3 : (m.span.meet s).has k = false := by
    cases h : (m.span.meet s).has k
    ·rfl
    ·simp only [Span.empty, Bool.and_eq_true, Bool.not_eq_true'] at he
     simp only [Span.has, he.1, Bool.false_or, Bool.and_eq_true, Bool.not_eq_true'] at h
     rw [Str.lt_of_le_of_lt h.1 h.2] at he; cases he.2
   rw [h3, h1] at h2; simpa using h2.symm
  unfold takeN
  by_cases h4 : m.kind = 4
  ·rw [if_pos h4, List.filter_filter]
   refine List.filter_congr fun p _ => ?_
   cases h : m.span.has p.key
   ·simp
   ·rw [hno _ h]; rfl
  ·rw [if_neg h4]
   have hsp : ∀ x, m.span.has x = decide (x = m.key) := fun x => by rw [Msg.span, if_neg h4]; exact Zag hk
   have hout : s.has m.key = false := hno _ (by rw [hsp]; simp)
   rw [Zcq, List.filter_append, List.filter_append]
   have e2 : (Zay (Eff.apply (m.on m.key) (Zi l m.key)) m.key).filter (fun p => s.has p.key) = [] := by
    cases Eff.apply (m.on m.key) (Zi l m.key) <;> simp [Zay, hout]
   rw [e2, List.append_nil, hr.front]
   cases hs : (Zi l m.key).isSome
   ·rw [hr.back_no hs, ← List.filter_append, List.take_append_drop]
   ·have hh := hr.has m.key
    rw [hs] at hh
    obtain ⟨q1, q2⟩ := of_decide_eq_true hh.symm
    rw [hr.back_yes q1 q2]
    have e3 : l = l.take (ZG l m.key) ++ l[ZG l m.key] :: l.drop (ZG l m.key + 1) := by rw [← List.drop_eq_getElem_cons q1, List.take_append_drop]
    conv => lhs; rw [e3]
    rw [List.filter_append, List.filter_cons_of_neg (by rw [q2, hout]; simp)]
theorem Zbe {s : Span} : ∀ {ms : List Msg} {l : List Pair}, Srt l → (∀ m ∈ ms, m.key.b.size < 140737488355328) → Zt (l.filter fun p => s.has p.key) (Zc s ms) = (Zt l ms).filter fun p => s.has p.key
 | [], l, _, _ => by simp [Zc, Zt]
 | m :: ms, l, hr, hm => by
  have h1 := Zoo (s := s) hr (hm m (by simp))
  have hrt : Srt (takeN l m) := by
   unfold takeN; split
   ·exact hr.filter _
   ·exact hr.with _ _
  have h2 := Zbe (s := s) (ms := ms) hrt (fun m h => hm m (List.mem_cons_of_mem _ h))
  rw [Xp]
  show _ = (Zt (takeN l m) ms).filter _
  rw [← h2]
  split
  ·rename_i hc
   rw [if_pos hc] at h1
   rw [← h1]; rfl
  ·rename_i hc
   rw [if_neg hc] at h1
   rw [← h1]
end Go.Fw

namespace Go.Fw
open Go Go.RowKit
def ZaT (ss : List Seat) (i : Nat) : Int := if i + 1 < ss.length ∧ (ss.getD (i + 1) default).n.level = (ss.getD i default).n.level then (ss.getD (i + 1) default).n.slot else -1
def LinkedP (ss : List Seat) : Prop := ∀ i (h : i < ss.length), ss[i].n.right = ZaT ss i
instance (ss : List Seat) : Decidable (LinkedP ss) := by unfold LinkedP; infer_instance
def PlacedP (x : Seat) : Prop := (x.n.top = x.s.opn ∧ x.n.high = x.s.hi) ∧ (∀ i (h : i < x.n.rows.length), x.s.has x.n.rows[i].key = true) ∧ (∀ i (h : i < x.n.pivots.length), x.s.has x.n.pivots[i] = true ∧ x.n.pivots[i] ≠ x.s.lo) ∧ ∀ i (h : i < x.n.msgs.length), x.n.msgs[i].span.meet x.s = x.n.msgs[i].span.norm
instance (x : Seat) : Decidable (PlacedP x) := by unfold PlacedP; infer_instance
def Zbf (ss : List Seat) (i : Int) : List Seat := ss.filter fun x => decide (x.n.slot = i)
def OnceP (l : List Nd) (ss : List Seat) : Prop := l.length = ss.length ∧ ∀ i (h : i < l.length), (Zbf ss l[i].slot).length = 1
instance (l : List Nd) (ss : List Seat) : Decidable (OnceP l ss) := by unfold OnceP; infer_instance
def StampP (x : Seat) : Prop := ∀ j (h : j < x.ms.length), x.n.seen < x.ms[j].stamp
instance (x : Seat) : Decidable (StampP x) := by unfold StampP; infer_instance
def SeatP (c : Cfg) (x : Seat) : Prop := x.n.R c.fan c.leaf c.bud ∧ PlacedP x ∧ x.n.slot < c.slots ∧ StampP x
instance (c : Cfg) (x : Seat) : Decidable (SeatP c x) := by unfold SeatP; infer_instance
def SoundQ (c : Cfg) (l : List Nd) (ss : List Seat) : Prop := (OnceP l ss ∧ LinkedP ss ∧ (l.length : Int) ≤ c.slots) ∧ ∀ i (h : i < ss.length), SeatP c ss[i]
instance (c : Cfg) (l : List Nd) (ss : List Seat) : Decidable (SoundQ c l ss) := by unfold SoundQ; infer_instance
def SlotsP (l : List Nd) : Prop := ∀ i (h : i < l.length), l[i].slot = (i : Int) ∧ l[i].seen ≤ 1099511627776
instance (l : List Nd) : Decidable (SlotsP l) := by unfold SlotsP; infer_instance
theorem Zfj {ss : List Seat} {i : Nat} (h : ¬ i + 1 < ss.length) : ZaT ss i = -1 := by
 unfold ZaT
 exact if_neg fun h2 => h h2.1
theorem Zop {l : List Nd} {r : Seat} : ∀ (f i : Nat) (out ss : List Seat), X4 l f i out = some ss → out = r :: (out.take i).flatMap (Zj l) → (∀ x ∈ out.take i, (Z4 l x).isSome = true) →
  ss = r :: ss.flatMap (Zj l) ∧ ∀ x ∈ ss, (Z4 l x).isSome = true := by
 intro f
 induction f with
 | zero => intro i out ss h; cases h
 | succ f ih =>
  intro i out ss h he hs
  by_cases hi : i < out.length
  ·by_cases hl : l.length < out.length
   ·rw [Zoe hi hl] at h; cases h
   ·cases hk : Z4 l out[i] with
    | none => rw [Zil hi hk] at h; cases h
    | some ks =>
     rw [Zfe hi hl hk] at h
     have e : (out ++ ks).take (i + 1) = out.take i ++ [out[i]] := by
      rw [List.take_append_of_le_length om9, List.take_succ_eq_append_getElem hi]
     refine ih _ _ _ h ?_ ?_
     ·rw [e, List.flatMap_append, ← List.cons_append, ← he]
      congr 1
      simp [Zj, hk]
     ·intro x hx
      rw [e, List.mem_append, List.mem_singleton] at hx
      rcases hx with hx | rfl
      ·exact hs x hx
      ·rw [hk]; rfl
  ·rw [Zfd hi] at h
   cases h
   rw [List.take_of_length_le om9] at he hs
   exact ⟨he, hs⟩
theorem Zix {l : List Nd} {root : Int} {ss : List Seat} (h : JJ l root = some ss) : (Zq l root).2 = true ∧ ss = Zg l root :: ss.flatMap (Zj l) ∧ ∀ x ∈ ss, (Z4 l x).isSome = true := by
 unfold JJ at h
 split at h
 ·rename_i hf
  exact ⟨hf, Zop _ _ _ _ h rfl (fun x hx => by simp at hx)⟩
 ·cases h
theorem Z5 {l : List Nd} {x : Seat} (h : (Z4 l x).isSome = true) (h0 : ¬ x.n.level = 0) : Zj l x = Y8 l x x.n.kids.length ∧ 0 < x.n.level ∧ YB x.n.pivots x.n.kids.length = true ∧ ∀ j, j < x.n.kids.length → XC l x j = true := by
 unfold Zj Z4 at *
 rw [if_neg h0] at h ⊢
 split at h
 ·cases h
 ·rename_i h1
  rw [if_neg h1]
  split at h
  ·rename_i h2
   rw [if_pos h2]
   refine ⟨rfl, om9, by simpa using fun h => h1 (.inr h), fun j hj => List.all_eq_true.1 h2 j (List.mem_range.2 hj)⟩
  ·cases h
theorem Xq {l : List Nd} {x : Seat} (h0 : x.n.level = 0) : Zj l x = [] := by rw [Zj, ZaS h0]; rfl
theorem Ziy {l : List Nd} (h : SlotsP l) (i : Int) : ∀ k, k ≤ l.length → atS (l.take k) i = if h : 0 ≤ i ∧ i < k ∧ i.toNat < l.length then [l[i.toNat]] else []
 | 0, _ => by rw [dif_neg om9]; rfl
 | k + 1, hk => by
  have ih := Ziy h i k om9
  have hs := (h k om9).1
  by_cases e : l[k].slot = i
  ·rw [Zij om9 e, ih, dif_neg om9, dif_pos ⟨om9, om9, om9⟩, List.nil_append]
   congr 2; omega
  ·rw [Zik om9 e, ih]
   by_cases e2 : 0 ≤ i ∧ i < k ∧ i.toNat < l.length
   ·rw [dif_pos e2, dif_pos ⟨e2.1, om9, e2.2.2⟩]
   ·rw [dif_neg e2, dif_neg om9]
theorem ZdB {l : List Nd} (h : SlotsP l) (i : Int) : atS l i = if h : 0 ≤ i ∧ i < l.length ∧ i.toNat < l.length then [l[i.toNat]] else [] := by
 have := Ziy h i l.length (Nat.le_refl _)
 rwa [List.take_length] at this
theorem Zfk {l : List Nd} (h : SlotsP l) {i : Nat} (hi : i < l.length) : Zq l i = (l[i], true) := by
 unfold Zq
 rw [ZdB h, dif_pos ⟨om9, om9, om9⟩]
 simp
theorem Zoq {l : List Nd} (h : SlotsP l) {i : Int} (hi : ¬ (0 ≤ i ∧ i < l.length)) : Zq l i = (Nd.zero, false) := by
 unfold Zq
 rw [ZdB h, dif_neg om9]
 rfl
theorem ZaE {l : List Nd} (h : SlotsP l) (i : Int) : Zq l i = (Za l i, decide (0 ≤ i ∧ i < l.length)) := by
 by_cases hi : 0 ≤ i ∧ i < l.length
 ·obtain ⟨k, rfl⟩ : ∃ k : Nat, i = k := ⟨i.toNat, om9⟩
  rw [Zfk h om9, Ju om9, decide_eq_true hi]
 ·rw [Zoq h hi, decide_eq_false hi]
  congr 1
  unfold Za
  split
  ·rw [List.getD_eq_getElem?_getD, List.getElem?_eq_none om9]; rfl
  ·rfl
structure Tree (c : Cfg) (l : List Nd) (ss : List Seat) : Prop where
 cfg : CfgR c
 pos : 0 < l.length
 sml : Sml l
 slot : SlotsP l
 sts : JJ l 0 = some ss
 q : SoundQ c l ss
variable {c : Cfg} {l : List Nd} {ss : List Seat}
theorem Tree.fix (t : Tree c l ss) : ss = Zg l 0 :: ss.flatMap (Zj l) := (Zix t.sts).2.1
theorem Tree.root (t : Tree c l ss) : Zg l 0 ∈ ss := by rw [t.fix]; simp
theorem Tree.kids (t : Tree c l ss) {x : Seat} (hx : x ∈ ss) : (Z4 l x).isSome = true := (Zix t.sts).2.2 x hx
theorem Tree.kid (t : Tree c l ss) {x y : Seat} (hx : x ∈ ss) (hy : y ∈ Zj l x) : y ∈ ss := by rw [t.fix]; exact List.mem_cons_of_mem _ (List.mem_flatMap.2 ⟨x, hx, hy⟩)
theorem Tree.seat (t : Tree c l ss) {x : Seat} (hx : x ∈ ss) : SeatP c x := by
 obtain ⟨i, hi, rfl⟩ := List.getElem_of_mem hx
 exact t.q.2 i hi
theorem Tree.lvl (t : Tree c l ss) {x : Seat} (hx : x ∈ ss) : 0 ≤ x.n.level := (t.seat hx).1.1.2.1
theorem Tree.rootn (t : Tree c l ss) : (Zg l 0).n = Za l 0 := by
 show (Zq l 0).1 = _
 rw [ZaE t.slot]
theorem Tree.at (t : Tree c l ss) {x : Seat} (hx : x ∈ ss) (h0 : ¬ x.n.level = 0) {j : Nat} (hj : j < x.n.kids.length) :
  Zb l x j ∈ ss ∧ (0 ≤ x.n.kids[j] ∧ x.n.kids[j] < l.length) ∧ (Zb l x j).n = Za l x.n.kids[j] ∧ (Zb l x j).n.level = x.n.level - 1 := by
 obtain ⟨h1, h2, h3, h4⟩ := Z5 (t.kids hx) h0
 have hk := h4 j hj
 unfold XC at hk
 have ej : x.n.kids.getD j 0 = x.n.kids[j] := by rw [List.getD_eq_getElem?_getD, List.getElem?_eq_getElem hj]; rfl
 rw [ej, ZaE t.slot, Bool.and_eq_true, decide_eq_true_eq, decide_eq_true_eq] at hk
 have en : (Zb l x j).n = Za l x.n.kids[j] := by
  show (Zq l (x.n.kids.getD j 0)).1 = _
  rw [ej, ZaE t.slot]
 refine ⟨t.kid hx ?_, hk.1, en, by rw [en]; exact hk.2⟩
 rw [h1]
 exact List.mem_map.2 ⟨j, List.mem_range.2 hj, rfl⟩
theorem Yv (h : SlotsP l) {i : Int} (hi : 0 ≤ i ∧ i < l.length) : (Za l i).slot = i ∧ Za l i ∈ l := by
 obtain ⟨k, rfl⟩ : ∃ k : Nat, i = k := ⟨i.toNat, om9⟩
 rw [Ju om9]
 exact ⟨(h k om9).1, List.getElem_mem _⟩
theorem Tree.nd (t : Tree c l ss) {x : Seat} (hx : x ∈ ss) : ∃ h : 0 ≤ x.n.slot ∧ x.n.slot < l.length, x.n = Za l x.n.slot ∧ x.n ∈ l := by
 have key : ∃ i : Int, (0 ≤ i ∧ i < l.length) ∧ x.n = Za l i := by
  rw [t.fix] at hx
  rcases List.mem_cons.1 hx with rfl | hx
  ·exact ⟨0, ⟨om9, by have := t.pos; omega⟩, t.rootn⟩
  ·obtain ⟨y, hy, hk⟩ := List.mem_flatMap.1 hx
   by_cases h0 : y.n.level = 0
   ·rw [Xq h0] at hk; cases hk
   ·rw [(Z5 (t.kids hy) h0).1] at hk
    obtain ⟨j, hj, rfl⟩ := List.mem_map.1 hk
    have := t.at hy h0 (List.mem_range.1 hj)
    exact ⟨_, this.2.1, this.2.2.1⟩
 obtain ⟨i, hi, e⟩ := key
 obtain ⟨h1, h2⟩ := Yv t.slot hi
 have hs : x.n.slot = i := by rw [e]; exact h1
 exact ⟨om9, by rw [hs]; exact e, by rw [e]; exact h2⟩
theorem Tree.perm (t : Tree c l ss) : (ss.map (·.n)).Perm l := by
 have hon := t.q.1.1
 have hnl : l.Nodup := by
  refine List.pairwise_iff_getElem.2 fun i j hi hj hij he => ?_
  have h1 := (t.slot i hi).1
  have h2 := (t.slot j hj).1
  rw [he] at h1
  omega
 refine (List.perm_ext_iff_of_nodup ?_ hnl).2 fun a => ⟨fun ha => ?_, fun ha => ?_⟩
 ·rw [List.nodup_iff_count]
  intro a
  by_cases ha : a ∈ ss.map (·.n)
  ·obtain ⟨x, hx, rfl⟩ := List.mem_map.1 ha
   obtain ⟨hs, hn, hm⟩ := t.nd hx
   have h1 := hon.2 x.n.slot.toNat om9
   rw [(t.slot _ _).1, show ((x.n.slot.toNat : Nat) : Int) = x.n.slot by omega] at h1
   rw [← h1, List.count_eq_countP, List.countP_map, Zbf, ← List.countP_eq_length_filter]
   refine List.countP_mono_left fun y _ hy => ?_
   simp only [Function.comp, beq_iff_eq] at hy
   simp [hy]
  ·rw [List.count_eq_zero_of_not_mem ha]; omega
 ·obtain ⟨x, hx, rfl⟩ := List.mem_map.1 ha
  exact (t.nd hx).2.2
 ·obtain ⟨i, hi, rfl⟩ := List.getElem_of_mem ha
  have h1 := hon.2 i hi
  have h2 : ∃ x, x ∈ Zbf ss l[i].slot := by
   cases h : Zbf ss l[i].slot with
   | nil => rw [h] at h1; simp at h1
   | cons x _ => exact ⟨x, by simp⟩
  obtain ⟨x, hx⟩ := h2
  obtain ⟨hx1, hx2⟩ := List.mem_filter.1 hx
  have hx2 := of_decide_eq_true hx2
  refine List.mem_map.2 ⟨x, hx1, ?_⟩
  have hnd := (t.nd hx1).2.1
  rw [hnd, hx2, (t.slot i hi).1, Ju hi]
theorem Tree.len (t : Tree c l ss) : ss.length = l.length := t.q.1.1.1.symm
theorem ZaF (k : Str) : Span.all.has k = true := by
 show (!k.lt Str.nil && (true || _)) = true
 rw [Str.nil_le]; rfl
theorem Zbg {x : Seat} (h : YB x.n.pivots x.n.kids.length = true) {j : Nat} (hj : j < x.n.kids.length) (k : Str) : (Zb l x j).s.has k = (x.s.has k && decide (j = Ze x.n.pivots k)) := by
 obtain ⟨h1, h2⟩ := YM h
 show (Span.meet _ _).has k = _
 rw [ZH, Xz h1 k om9]
theorem ZcA {x : Seat} (h : YB x.n.pivots x.n.kids.length = true) (k : Str) : Ze x.n.pivots k < x.n.kids.length := by
 have := (YM h).2
 have h2 : Ze x.n.pivots k ≤ x.n.pivots.length := List.length_filter_le _ _
 omega
theorem Ziz (b : Bool) (r : Nat) : ∀ n, (List.range n).filter (fun j => b && decide (j = r)) = if b = true ∧ r < n then [r] else []
 | 0 => by simp
 | n + 1 => by
  rw [List.range_succ, List.filter_append, Ziz b r n]
  cases b
  ·simp
  ·by_cases h : r < n
   ·rw [if_pos ⟨rfl, h⟩, if_pos ⟨rfl, om9⟩, List.filter_cons_of_neg (by simp; omega)]; simp
   ·rw [if_neg (by simp; omega)]
    by_cases h2 : r = n
    ·subst h2; rw [if_pos ⟨rfl, om9⟩, List.filter_cons_of_pos (by simp)]; simp
    ·rw [if_neg (by simp; omega), List.filter_cons_of_neg (by simp; omega)]; simp
noncomputable def JK (l : List Nd) (k : Str) (x : Seat) : Option Seat := if x.n.level = 0 then none else some (Zb l x (Ze x.n.pivots k))
theorem Zfl {k : Str} {x : Seat} (h : x.n.level = 0) : JK l k x = none := if_pos h
theorem J5 {k : Str} {x : Seat} (h : ¬ x.n.level = 0) : JK l k x = some (Zb l x (Ze x.n.pivots k)) := if_neg h
theorem ZdC {α β : Type} (p : β → Bool) (f : α → β) : ∀ (l : List α), (l.map f).filter p = (l.filter fun a => p (f a)).map f
 | [] => rfl
 | a :: l => by
  rw [List.map_cons, List.filter_cons, List.filter_cons, ZdC p f l]
  split <;> simp_all
theorem Zor {α : Type} {p q : α → Bool} {l : List α} (h : ∀ a ∈ l, p a = q a) : l.filter p = l.filter q := List.filter_congr h
theorem Tree.filt (t : Tree c l ss) (k : Str) {x : Seat} (hx : x ∈ ss) : ((Zj l x).filter fun y => y.s.has k) = if x.s.has k = true then (JK l k x).toList else [] := by
 by_cases h0 : x.n.level = 0
 ·rw [Xq h0, Zfl h0]; simp
 ·obtain ⟨h1, h2, h3, h4⟩ := Z5 (t.kids hx) h0
  rw [h1, J5 h0]
  unfold Y8
  rw [ZdC, Zor (q := fun j => x.s.has k && decide (j = Ze x.n.pivots k)) (fun j hj => Zbg h3 (List.mem_range.1 hj) k), Ziz]
  have := ZcA h3 k
  by_cases hk : x.s.has k = true
  ·rw [if_pos ⟨hk, this⟩, if_pos hk]; rfl
  ·rw [if_neg (fun h => hk h.1), if_neg hk]; rfl
def X5 (k : Str) (ss : List Seat) : List Seat := ss.filter fun y => y.s.has k
theorem Tree.has_fix (t : Tree c l ss) (k : Str) : X5 k ss = Zg l 0 :: (X5 k ss).filterMap (JK l k) := by
 have key : ∀ (ts : List Seat), (∀ x ∈ ts, x ∈ ss) → X5 k (ts.flatMap (Zj l)) = (X5 k ts).filterMap (JK l k) := by
  intro ts
  induction ts with
  | nil => intro _; rfl
  | cons x ts ih =>
   intro h
   unfold X5 at *
   rw [List.flatMap_cons, List.filter_append, ih (fun y hy => h y (List.mem_cons_of_mem _ hy)), t.filt k (h x (by simp)), List.filter_cons]
   split
   ·rw [List.filterMap_cons]
    cases JK l k x <;> rfl
   ·rfl
 have e := key ss (fun x hx => hx)
 rw [← e]
 conv => lhs; rw [t.fix]
 unfold X5
 rw [List.filter_cons_of_pos (by exact ZaF k)]
noncomputable def Xr (l : List Nd) (k : Str) : Nat → Seat → List Seat
 | 0, x => [x]
 | f + 1, x => x :: match JK l k x with
  | none => []
  | some y => Xr l k f y
theorem ZdD : ∀ (T : List Seat), T ≠ [] → ∃ m ∈ T, ∀ x ∈ T, x.n.level ≤ m.n.level
 | [], h => absurd rfl h
 | [x], _ => ⟨x, by simp, fun y hy => by simp at hy; subst hy; exact Int.le_refl _⟩
 | x :: y :: T, _ => by
  obtain ⟨m, hm, hx⟩ := ZdD (y :: T) (by simp)
  by_cases h : m.n.level ≤ x.n.level
  ·exact ⟨x, by simp, fun z hz => by
    rcases List.mem_cons.1 hz with rfl | hz
    ·exact Int.le_refl _
    ·exact Int.le_trans (hx z hz) h⟩
  ·exact ⟨m, List.mem_cons_of_mem _ hm, fun z hz => by
    rcases List.mem_cons.1 hz with rfl | hz
    ·omega
    ·exact hx z hz⟩
theorem Zos {f : Seat → Option Seat} {T : List Seat} (h : T = T.filterMap f) (hf : ∀ x ∈ T, ∀ y, f x = some y → y.n.level < x.n.level) : T = [] := by
 apply Classical.byContradiction
 intro hn
 obtain ⟨m, hm, hx⟩ := ZdD T hn
 have hm2 := hm
 rw [h] at hm2
 obtain ⟨x, hx1, hx2⟩ := List.mem_filterMap.1 hm2
 have := hf x hx1 m hx2
 have := hx x hx1
 omega
theorem Zot {k : Str} : ∀ (n : Nat) (z : Seat) (T : List Seat), z.n.level.toNat = n → T = z :: T.filterMap (JK l k) → (∀ x ∈ T, 0 ≤ x.n.level ∧ ∀ y, JK l k x = some y → y.n.level = x.n.level - 1) → T = Xr l k n z := by
 intro n
 induction n with
 | zero =>
  intro z T hz h hf
  have hzT : z ∈ T := by rw [h]; simp
  have h0 : z.n.level = 0 := by have := (hf z hzT).1; omega
  cases T with
  | nil => cases hzT
  | cons a R =>
   have ea : a = z := (List.cons.inj h).1
   subst ea
   have hR : R = R.filterMap (JK l k) := by
    have := (List.cons.inj h).2
    rw [List.filterMap_cons, Zfl h0] at this
    exact this
   rw [Zos hR (fun x hx y hy => by have := (hf x (List.mem_cons_of_mem _ hx)).2 y hy; omega)]
   rfl
 | succ n ih =>
  intro z T hz h hf
  have h0 : ¬ z.n.level = 0 := om9
  cases T with
  | nil => simp at h
  | cons a R =>
   have ea : a = z := (List.cons.inj h).1
   subst ea
   have hR := (List.cons.inj h).2
   rw [List.filterMap_cons, J5 h0] at hR
   dsimp only at hR
   have hl := (hf a (by simp)).2 _ (J5 h0)
   rw [Xr, J5 h0]
   dsimp only
   rw [← ih _ R om9 hR (fun x hx => hf x (List.mem_cons_of_mem _ hx))]
noncomputable def ZB (l : List Nd) (k : Str) : List Seat := Xr l k (Zg l 0).n.level.toNat (Zg l 0)
theorem Tree.step (t : Tree c l ss) {k : Str} {x y : Seat} (hx : x ∈ ss) (h : JK l k x = some y) : y ∈ ss ∧ y.n.level = x.n.level - 1 := by
 by_cases h0 : x.n.level = 0
 ·rw [Zfl h0] at h; cases h
 ·rw [J5 h0] at h
  cases h
  have h3 := (Z5 (t.kids hx) h0).2.2.1
  have := t.at hx h0 (ZcA h3 k)
  exact ⟨this.1, this.2.2.2⟩
theorem Tree.way (t : Tree c l ss) (k : Str) : X5 k ss = ZB l k := by
 refine Zot _ _ _ rfl (t.has_fix k) fun x hx => ?_
 have hx := (List.mem_filter.1 hx).1
 exact ⟨t.lvl hx, fun y hy => (t.step hx hy).2⟩
theorem ZdE {k : Str} {f : Nat} {x y : Seat} (h : JK l k x = some y) : Xr l k (f + 1) x = x :: Xr l k f y := by rw [Xr, h]
theorem YN {s : Span} : s.empty = true ↔ ∀ k, s.has k = false := by
 constructor
 ·intro h k
  have h1 : s.opn = false ∧ s.lo.lt s.hi = false := by simpa [Span.empty] using h
  unfold Span.has
  rw [h1.1, Bool.false_or, Bool.and_eq_false_iff]
  cases h2 : k.lt s.hi
  ·exact .inr rfl
  ·left
   cases h3 : k.lt s.lo
   ·have := Str.lt_of_le_of_lt h3 h2
    rw [h1.2] at this; cases this
   ·rfl
 ·intro h
  rw [← Span.empty_eq, h]; rfl
theorem Zbh {a b : Span} (h : ∀ k, a.has k = b.has k) : a.norm = b.norm := by
 have he : a.empty = b.empty := by
  rw [Bool.eq_iff_iff, YN, YN]
  exact ⟨fun h1 k => by rw [← h k]; exact h1 k, fun h1 k => by rw [h k]; exact h1 k⟩
 unfold Span.norm
 rw [← he]
 cases ea : a.empty
 ·have eb : b.empty = false := he ▸ ea
  simp only [Bool.false_eq_true, if_false]
  have la : a.has a.lo = true := by have := Span.empty_eq a; rw [ea] at this; simpa using this
  have lb : b.has b.lo = true := by have := Span.empty_eq b; rw [eb] at this; simpa using this
  have l1 : a.lo.lt b.lo = false := by
   have := h a.lo; rw [la] at this
   unfold Span.has at this
   simp only [Bool.true_eq, Bool.and_eq_true, Bool.not_eq_true'] at this
   exact this.1
  have l2 : b.lo.lt a.lo = false := by
   have := h b.lo; rw [lb] at this
   unfold Span.has at this
   simp only [Bool.and_eq_true, Bool.not_eq_true'] at this
   exact this.1
  have hlo : a.lo = b.lo := Str.lt_total l1 l2
  have hop : ∀ {x y : Span}, x.lo = y.lo → (∀ k, x.has k = y.has k) → x.empty = false → y.empty = false → x.opn = true → y.opn = true := by
   intro x y hxy hk hx hy ho
   cases hyo : y.opn
   ·exfalso
    have h1 : y.lo.lt y.hi = true := by simpa [Span.empty, hyo] using hy
    have h2 : y.has y.hi = false := by unfold Span.has; rw [hyo, Str.lt_irrefl]; simp
    have h3 : x.has y.hi = true := by unfold Span.has; rw [ho, hxy, Str.lt_asymm h1]; rfl
    rw [hk, h2] at h3; cases h3
   ·rfl
  cases oa : a.opn
  ·have ob : b.opn = false := by
    cases ob : b.opn
    ·rfl
    ·have := hop hlo.symm (fun k => (h k).symm) eb ea ob; rw [oa] at this; cases this
   have hhi : ∀ {x y : Span}, x.lo = y.lo → (∀ k, x.has k = y.has k) → x.empty = false → x.opn = false → y.opn = false → x.hi.lt y.hi = false := by
    intro x y hxy hk hx ho hyo
    cases hl : x.hi.lt y.hi
    ·rfl
    ·exfalso
     have h1 : x.lo.lt x.hi = true := by simpa [Span.empty, ho] using hx
     have h2 : x.has x.hi = false := by unfold Span.has; rw [ho, Str.lt_irrefl]; simp
     have h3 : y.has x.hi = true := by unfold Span.has; rw [hyo, ← hxy, Str.lt_asymm h1, hl]; rfl
     rw [← hk, h2] at h3; cases h3
   have e : a.hi = b.hi := Str.lt_total (hhi hlo h ea oa ob) (hhi hlo.symm (fun k => (h k).symm) eb ob oa)
   rw [if_neg (by simp), if_neg (by simp [ob])]
   cases a; cases b; simp_all
  ·have ob := hop hlo h ea eb oa
   rw [if_pos rfl, if_pos ob, ob]
   cases a; cases b; simp_all
 ·simp
theorem Zou (s : Span) : s.norm.norm = s.norm := Zbh fun k => ZaP s k
theorem XT (a b : Span) : (a.meet b).norm = a.meet b := Zou _
theorem Zfm {a b a' b' : Span} (h : ∀ k, (a.has k && b.has k) = (a'.has k && b'.has k)) : a.meet b = a'.meet b' := by
 rw [← XT a b, ← XT a' b']
 exact Zbh fun k => by rw [ZH, ZH]; exact h k
theorem Jv {m : Msg} {s : Span} : (m.clip s).2 = false ↔ (m.span.meet s).empty = true := by
 cases h : (m.span.meet s).empty
 ·by_cases k : m.kind = 4
  ·rw [Zaf h k]; simp
  ·rw [Zdd h k]; simp
 ·rw [Zae h]; simp
theorem ZbQ {m : Msg} {s : Span} (h : (m.clip s).2 = true) (k : m.kind = 4) : (m.clip s).1.span = m.span.meet s := by
 rw [(Xo h).2, if_pos k]
 show Msg.span { m with key := (m.span.meet s).lo, hi := (m.span.meet s).hi, opn := (m.span.meet s).opn } = _
 generalize m.span.meet s = z
 unfold Msg.span
 rw [if_pos k]
theorem Zov {m : Msg} {s t : Span} (hst : ∀ k, s.has k = true → t.has k = true) : (if (m.clip t).2 = true then (m.clip t).1.clip s else (⟨0, 0, Str.nil, Str.nil, false, Str.nil⟩, false)) = m.clip s := by
 cases h : (m.clip t).2
 ·rw [if_neg (by simp)]
  have h1 := Jv.1 h
  have h2 : (m.span.meet s).empty = true := YN.2 fun k => by
   have := YN.1 h1 k
   rw [ZH, Bool.and_eq_false_iff] at this ⊢
   rcases this with h | h
   ·exact .inl h
   ·right
    cases hs : s.has k
    ·rfl
    ·rw [hst k hs] at h; cases h
  rw [Zae h2]
 ·rw [if_pos rfl]
  by_cases k : m.kind = 4
  ·have hs := ZbQ h k
   have k2 : (m.clip t).1.kind = 4 := by rw [(Xo h).2, if_pos k]; exact k
   have e : (m.span.meet t).meet s = m.span.meet s := Zfm fun q => by
    rw [ZH]
    cases hs : s.has q
    ·simp
    ·rw [hst q hs]; simp
   cases he : (m.span.meet s).empty
   ·rw [Zaf (by rw [hs, e]; exact he) k2, Zaf he k, hs, e, (Xo h).2, if_pos k]
   ·rw [Zae (by rw [hs, e]; exact he), Zae he]
  ·rw [(Xo h).2, if_neg k]
theorem XJ {s t : Span} (hst : ∀ k, s.has k = true → t.has k = true) : ∀ (L : List Msg), Zc s (Zc t L) = Zc s L
 | [] => rfl
 | m :: L => by
  have e := Zov (m := m) hst
  rw [Xp t m L, Xp s m L, ← XJ hst L]
  cases h : (m.clip t).2
  ·rw [if_neg (by simp)]
   rw [h, if_neg (by simp)] at e
   rw [← e, if_neg (by simp)]
  ·rw [if_pos rfl, Xp]
   rw [h, if_pos rfl] at e
   rw [e]
theorem Jk (s : Span) (A B : List Msg) : Zc s (A ++ B) = Zc s A ++ Zc s B := List.filterMap_append
theorem Zow {s : Span} {A B : List Msg} (h : A.Perm B) : (Zc s A).Perm (Zc s B) := List.Perm.filterMap _ h
theorem ZiA (s : Span) : ∀ (L : List (List Msg)), Zc s L.flatten = (L.map (Zc s)).flatten
 | [] => rfl
 | A :: L => by rw [List.flatten_cons, Jk, ZiA s L]; rfl
theorem Jw {s : Span} {A : List Msg} (h : Rst A) : Rst (Zc s A) := by
 unfold Rst Zc
 rw [List.pairwise_filterMap]
 refine List.Pairwise.imp (fun {a b} hab x hx y hy => ?_) h
 split at hx
 ·split at hy
  ·rename_i h1 h2
   cases hx; cases hy
   rw [Jh h1, Jh h2]; exact hab
  ·cases hy
 ·cases hx
end Go.Fw
