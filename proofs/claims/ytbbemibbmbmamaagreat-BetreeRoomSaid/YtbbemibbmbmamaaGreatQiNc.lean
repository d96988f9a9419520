/- What container/heap asks of a heap, and what it does with it. Nothing of the program is named here. No condition. -/
import Derived.Test.YtbbemibbmbmamaaGreatProg
import Derived.Test.YtbbemibbmbmamaaGreatQiGa
set_option linter.unusedVariables false
set_option linter.unusedSimpArgs false
set_option linter.unnecessarySimpa false
set_option maxRecDepth 100000
set_option maxHeartbeats 1600000

namespace Go.Fw
open Go Go.RowKit
structure HeapK (P : Program) {α : Type} [Inhabited α] (lt : α → α → Bool) (x : Value) (Rep : GH → List α → MH → Prop) (EV : GH → Value → α → Prop) (pu : Prop := True) : Prop where
 mono : ∀ {G G' l M}, Le G G' → Rep G l M → Rep G' l M
 bound : ∀ {G l M}, Rep G l M → l.length ≤ 140737488355328
 len : ∀ {G l M}, Rep G l M → Inv P x "Len" [] G M (fun v G' M' => v = .int .i64 (l.length : Int) ∧ M' = M)
 less : ∀ {G l M} {i j : Nat}, Rep G l M → i < l.length → j < l.length → Inv P x "Less" [.int .i64 (i : Int), .int .i64 (j : Int)] G M (fun v G' M' => v = .bool (lt (nth l i) (nth l j)) ∧ M' = M)
 swap : ∀ {G l M} {i j : Nat}, Rep G l M → i < l.length → j < l.length → Inv P x "Swap" [.int .i64 (i : Int), .int .i64 (j : Int)] G M (fun v G' M' => v = .tuple #[] ∧ Rep G' (YG l i j) M')
 push : pu → ∀ {G l M u a}, Rep G l M → l.length < 1000000 → EV G u a → Inv P x "Push" [u] G M (fun v G' M' => v = .tuple #[] ∧ Rep G' (l ++ [a]) M')
 pop : ∀ {G l M}, Rep G l M → 0 < l.length → Inv P x "Pop" [] G M (fun v G' M' => EV G' v (nth l (l.length - 1)) ∧ Rep G' (l.take (l.length - 1)) M')
section
variable {α : Type} [Inhabited α] {lt : α → α → Bool}
theorem ZhG {f : Nat} {l : List α} {i n : Nat} (h : n ≤ 2 * i + 1) : YE lt f l i n = l := by
 cases f with
 | zero => rfl
 | succ f => rw [YE, if_pos h]
theorem ZhH {f : Nat} {l : List α} {i n : Nat} (h1 : ¬ n ≤ 2 * i + 1) (h2 : lt (nth l (YO lt l i n)) (nth l i) = false) : YE lt f l i n = l := by
 cases f with
 | zero => rfl
 | succ f => rw [YE, if_neg h1, if_pos h2]
theorem ZnJ {f : Nat} {l : List α} {i n : Nat} (hf : n ≤ i + f) (h1 : ¬ n ≤ 2 * i + 1) (h2 : lt (nth l (YO lt l i n)) (nth l i) = true) : YE lt f l i n = YE lt (f - 1) (YG l i (YO lt l i n)) (YO lt l i n) n := by
 cases f with
 | zero => omega
 | succ f => rw [YE, if_neg h1, if_neg (by simp [h2])]; rfl
theorem ZnK {l : List α} {i n : Nat} (h : 2 * i + 2 < n) (h2 : lt (nth l (2 * i + 2)) (nth l (2 * i + 1)) = true) : YO lt l i n = 2 * i + 2 := if_pos ⟨h, h2⟩
theorem ZhI {l : List α} {i n : Nat} (h : ¬ 2 * i + 2 < n ∨ lt (nth l (2 * i + 2)) (nth l (2 * i + 1)) = false) : YO lt l i n = 2 * i + 1 := if_neg (fun ⟨h1, h2⟩ => h.elim (fun h => h h1) (fun h => by rw [h2] at h; cases h))
theorem ZhJ {f : Nat} {l : List α} {j : Nat} (h : (j - 1) / 2 = j ∨ lt (nth l j) (nth l ((j - 1) / 2)) = false) : upL lt f l j = l := by
 cases f with
 | zero => rfl
 | succ f => rw [upL, if_pos h]
theorem ZnL {f : Nat} {l : List α} {j : Nat} (hf : j ≤ f) (h1 : ¬ (j - 1) / 2 = j) (h2 : lt (nth l j) (nth l ((j - 1) / 2)) = true) : upL lt f l j = upL lt (f - 1) (YG l ((j - 1) / 2) j) ((j - 1) / 2) := by
 cases f with
 | zero => omega
 | succ f => rw [upL, if_neg (fun h => h.elim h1 (fun h => by rw [h2] at h; cases h))]; rfl
theorem ZnM {l : List α} (h : Heap lt l) (f i : Nat) : YE lt f l i l.length = l := by
 by_cases h1 : l.length ≤ 2 * i + 1
 ·exact ZhG h1
 ·have hk := Zcg (lt := lt) (l := l) h1
  have := h (YO lt l i l.length) om9 hk.1 om9
  rw [hk.2.2.1] at this
  exact ZhH h1 this
theorem ZhK {l : List α} (h : 0 < l.length) : (YE lt l.length (YG l 0 (l.length - 1)) 0 (l.length - 1)).take ((YE lt l.length (YG l 0 (l.length - 1)) 0 (l.length - 1)).length - 1) = Y2 lt l ∧
  nth (YE lt l.length (YG l 0 (l.length - 1)) 0 (l.length - 1)) ((YE lt l.length (YG l 0 (l.length - 1)) 0 (l.length - 1)).length - 1) = nth l 0 := by
 rw [Zc2, XD]
 refine ⟨rfl, ?_⟩
 rw [Zey _ _ _ _ _ (by rw [XD]; omega) (Nat.le_refl _), Jp om9 om9, if_pos rfl]
theorem ZhL (j : Nat) : (((j : Int) - 1).tdiv 2) = (((j - 1) / 2 : Nat) : Int) := by
 cases j with
 | zero => rfl
 | succ j =>
  have : (((j + 1 : Nat) : Int) - 1) = (j : Int) := om9
  rw [this, Int.tdiv_eq_ediv_of_nonneg om9]
  simp
end
abbrev Hd := List Msg × Int
def Hd.st (a : Hd) : Int := match a.1 with | [] => 0 | m :: _ => m.stamp
def Hd.lt (a b : Hd) : Bool := decide (a.st < b.st) || (decide (a.st = b.st) && decide (a.2 < b.2))
theorem Hd.st_at {a : Hd} (h : 0 < a.1.length) : a.st = a.1[0].stamp := by
 obtain ⟨l, n⟩ := a
 cases l with
 | nil => simp at h
 | cons m l => rfl
theorem Hd.lo : LO Hd.lt where
 asymm := fun {a b} h => by
  simp only [Hd.lt, Bool.or_eq_true, Bool.and_eq_true, decide_eq_true_eq] at h
  simp only [Hd.lt, Bool.or_eq_false_iff, Bool.and_eq_false_iff, decide_eq_false_iff_not]
  omega
 trans := fun {a b c} h1 h2 => by
  simp only [Hd.lt, Bool.or_eq_false_iff, Bool.and_eq_false_iff, decide_eq_false_iff_not] at h1 h2 ⊢
  omega
def HdC (G : GH) (cs : List Value) (a : Hd) : Prop := ∃ p c, cs = [.slice p a.1.length c, .int .i64 a.2] ∧ SlR Zs G (.slice p a.1.length c) a.1 ∧ i64 a.2
theorem HdC.mono {G G' : GH} {cs a} (hl : Le G G') (h : HdC G cs a) : HdC G' cs a := by
 obtain ⟨p, c, h1, h2, h3⟩ := h; exact ⟨p, c, h1, h2.mono hl, h3⟩
def X8 : Enc Hd where
 k := 2
 w := 32
 R := HdC
 mono := fun hl h => h.mono hl
 len := fun h => by obtain ⟨p, c, h0, _⟩ := h; rw [h0]; rfl
 one := fun h u hu => by
  obtain ⟨p, c, h0, _⟩ := h
  rw [h0] at hu
  simp at hu
  rcases hu with rfl | rfl <;> rfl
theorem ZhM : LO (fun a b : Int => decide (a < b)) where
 asymm := fun {a b} h => by simp at h ⊢; omega
 trans := fun {a b c} h1 h2 => by simp at h1 h2 ⊢; omega
def J5 : Enc Bool where
 k := 1
 w := 1
 R := fun _ cs b => cs = [.bool b]
 mono := fun _ h => h
 len := fun h => by rw [h]; rfl
 one := fun h u hu => by rw [h] at hu; simp at hu; subst hu; rfl
instance : EqE J5 (fun b => [.bool b]) := ⟨fun _ _ _ h => h⟩
instance : EqE XE (fun s => [.string s.lo.b, .string s.hi.b, .bool s.opn]) := ⟨fun _ _ _ h => h⟩
instance : EqP Zm0 (fun e => [.int .i64 e.kind, .string e.val.b]) (fun e => i64 e.kind) := ⟨fun _ _ _ h => h⟩
abbrev ltI : Int → Int → Bool := fun a b => decide (a < b)
def YY (u : List Bool) (i : Int) : Bool := decide (0 ≤ i) && (decide (i < u.length) && u.getD i.toNat false)
theorem ZhN {u : List Bool} {i : Int} : YY u i = true ↔ ∃ k : Nat, ∃ h : k < u.length, i = k ∧ u[k] = true := by
 unfold YY
 simp only [Bool.and_eq_true, decide_eq_true_eq]
 constructor
 ·rintro ⟨h1, h2, h3⟩
  have h4 : i.toNat < u.length := om9
  rw [List.getD_eq_getElem?_getD, List.getElem?_eq_getElem h4] at h3
  exact ⟨i.toNat, h4, om9, h3⟩
 ·rintro ⟨k, h, rfl, h2⟩
  refine ⟨om9, om9, ?_⟩
  rw [List.getD_eq_getElem?_getD, Int.toNat_natCast, List.getElem?_eq_getElem h]
  exact h2
def Y8 (u : List Bool) : List Int := ((List.range u.length).filter fun i => !u.getD i true).map fun i : Nat => (i : Int)
def XF (u : List Bool) : List Int := ((List.range u.length).filter fun i => u.getD i true).map fun i : Nat => (i : Int)
theorem Zcl {u : List Bool} {i : Nat} (h : i < u.length) (d : Bool) : u.getD i d = u[i] := by rw [List.getD_eq_getElem?_getD, List.getElem?_eq_getElem h]; rfl
theorem Za1 {u : List Bool} {a : Int} : a ∈ Y8 u ↔ ∃ i : Nat, ∃ h : i < u.length, a = i ∧ u[i] = false := by
 unfold Y8
 rw [List.mem_map]
 constructor
 ·rintro ⟨i, hi, rfl⟩
  rw [List.mem_filter, List.mem_range] at hi
  obtain ⟨h1, h2⟩ := hi
  rw [Zcl h1] at h2
  exact ⟨i, h1, rfl, by simpa using h2⟩
 ·rintro ⟨i, h, rfl, h2⟩
  exact ⟨i, List.mem_filter.2 ⟨List.mem_range.2 h, by rw [Zcl h, h2]; rfl⟩, rfl⟩
theorem ZhO (u : List Bool) : (Y8 u).Nodup := by
 unfold Y8
 have h : List.Pairwise (fun a b : Nat => a ≠ b) ((List.range u.length).filter fun i => !u.getD i true) := List.Pairwise.sublist List.filter_sublist List.nodup_range
 exact List.Pairwise.map _ (fun a b h e => h (by have e : (a : Int) = (b : Int) := e; omega)) h
theorem ZhP {α : Type} (p : α → Bool) : ∀ (l : List α), (l.filter fun i => !p i).length + (l.filter p).length = l.length
 | [] => rfl
 | x :: l => by
  have := ZhP p l
  cases h : p x <;> simp [h] <;> omega
theorem ZeL (u : List Bool) : (Y8 u).length + (XF u).length = u.length := by
 unfold Y8 XF
 rw [List.length_map, List.length_map]
 have := ZhP (fun i => u.getD i true) (List.range u.length)
 rw [List.length_range] at this
 exact this
def Yv : List Bool → Nat
 | [] => 0
 | true :: l => Yv l + 1
 | false :: _ => 0
theorem ZeM : ∀ {u : List Bool} {i : Nat} (h : i < u.length), u[i] = false → (∀ j (hj : j < u.length), j < i → u[j] = true) → Yv u = i
 | [], i, h, _, _ => by simp at h
 | true :: l, 0, h, h1, _ => by simp at h1
 | true :: l, i + 1, h, h1, h2 => by
  rw [Yv, ZeM (u := l) (i := i) (by simp at h; omega) (by simpa using h1) fun j hj hji => by have := h2 (j + 1) (by simp; omega) om9; simpa using this]
 | false :: l, 0, _, _, _ => rfl
 | false :: l, i + 1, h, h1, h2 => by have := h2 0 (by simp) om9; simp at this
theorem ZeN : ∀ {u : List Bool}, (∀ j (hj : j < u.length), u[j] = true) → Yv u = u.length
 | [], _ => rfl
 | true :: l, h => by rw [Yv, ZeN (u := l) fun j hj => by have := h (j + 1) (by simp; omega); simpa using this]; rfl
 | false :: l, h => by have := h 0 (by simp); simp at this
theorem ZnN {u : List Bool} (h : (Y8 u).length = 0) : Yv u = u.length := ZeN fun j hj => by
 cases hu : u[j] with
 | true => rfl
 | false =>
  have := Za1.2 ⟨j, hj, rfl, hu⟩
  rw [List.eq_nil_of_length_eq_zero h] at this; cases this
theorem ZnO {a b : List Int} (ha : a.Nodup) (hb : b.Nodup) (h : ∀ x, x ∈ a ↔ x ∈ b) : a.Perm b := (List.perm_ext_iff_of_nodup ha hb).2 h
theorem ZnP {f : List Int} {u : List Bool} (hH : Heap ltI f) (hp : f.Perm (Y8 u)) (hl : 0 < f.length) : ∃ h : Yv u < u.length, nth f 0 = (Yv u : Int) ∧ Heap ltI (Y2 ltI f) ∧ (Y2 ltI f).Perm (Y8 (u.set (Yv u) true)) := by
 obtain ⟨h1, h2, h3⟩ := Zc3 ZhM hH hl
 have hm : nth f 0 ∈ Y8 u := hp.mem_iff.1 (by rw [Yl hl]; exact List.getElem_mem _)
 obtain ⟨i, hi, e, hu⟩ := Za1.1 hm
 have hfi : Yv u = i := ZeM hi hu fun j hj hji => by
  cases huj : u[j] with
  | true => rfl
  | false =>
   have hmj : ((j : Nat) : Int) ∈ f := hp.mem_iff.2 (Za1.2 ⟨j, hj, rfl, huj⟩)
   obtain ⟨c, hc, e2⟩ := List.getElem_of_mem hmj
   have := Zez ZhM hH c hc
   rw [Yl hc, e, e2] at this
   simp at this; omega
 subst hfi
 refine ⟨hi, e, h1, ?_⟩
 have hnd : (nth f 0 :: Y2 ltI f).Nodup := h2.nodup_iff.2 (hp.nodup_iff.2 (ZhO u))
 obtain ⟨hn1, hn2⟩ := List.nodup_cons.1 hnd
 refine ZnO hn2 (ZhO _) fun x => ?_
 have hmx : x ∈ nth f 0 :: Y2 ltI f ↔ x ∈ Y8 u := (h2.trans hp).mem_iff
 constructor
 ·intro hx
  obtain ⟨k, hk, rfl, hku⟩ := Za1.1 (hmx.1 (List.mem_cons_of_mem _ hx))
  have hne : Yv u ≠ k := fun h => hn1 (by rw [e, h]; exact hx)
  exact Za1.2 ⟨k, by rw [List.length_set]; exact hk, rfl, by rw [List.getElem_set_ne hne]; exact hku⟩
 ·intro hx
  obtain ⟨k, hk, rfl, hku⟩ := Za1.1 hx
  rw [List.length_set] at hk
  have hne : Yv u ≠ k := fun h => by subst h; simp at hku
  rw [List.getElem_set_ne hne] at hku
  rcases List.mem_cons.1 (hmx.2 (Za1.2 ⟨k, hk, rfl, hku⟩)) with h | h
  ·rw [e] at h; omega
  ·exact h
def Yh (n : Nat) : List Int := (List.range n).map fun i : Nat => (i : Int)
theorem ZhQ (n : Nat) : Yh (n + 1) = Yh n ++ [(n : Int)] := by simp [Yh, List.range_succ]
theorem ZaD (n : Nat) : (Yh n).length = n := by simp [Yh]
theorem Zc7 (n : Nat) : Heap ltI (Yh n) := fun c h0 hc _ => by
 rw [ZaD] at hc
 have h1 : nth (Yh n) c = (c : Int) := by rw [Yl (by rw [ZaD]; exact hc)]; simp [Yh]
 have h2 : nth (Yh n) ((c - 1) / 2) = (((c - 1) / 2 : Nat) : Int) := by rw [Yl (by rw [ZaD]; omega)]; simp [Yh]
 rw [h1, h2]
 simp only [decide_eq_false_iff_not]
 omega
theorem ZhR (n : Nat) : Yh n = Y8 (List.replicate n false) := by
 unfold Yh Y8
 rw [List.length_replicate]
 congr 1
 symm
 rw [List.filter_eq_self]
 intro i hi
 rw [List.mem_range] at hi
 rw [Zcl (by simpa using hi)]
 simp
def Ym {α : Type} (st : List α × List Bool) (x : α) : (Int × Int) × (List α × List Bool) :=
 if Yv st.2 < st.2.length then ((Yv st.2, 0), (st.1.set (Yv st.2) x, st.2.set (Yv st.2) true)) else ((0, 4), st)
def XV {α : Type} (st : List α × List Bool) (i : Int) (x : α) : Int × (List α × List Bool) := if YY st.2 i = true then (0, (st.1.set i.toNat x, st.2)) else (8, st)
def Jz {α : Type} (st : List α × List Bool) (i : Int) (z : α) : α := if YY st.2 i = true then st.1.getD i.toNat z else z
def ArP {α : Type} (e : Enc α) (Te TB TI Tb : TypeId) (b : Nat) (G : GH) (st : List α × List Bool × List Int) (M : MH) : Prop :=
 ∃ vc vu vf Mc Mu Mf, M = (b, .cells (List.toArray [vc, vu, vf]) Tb (0, 0)) :: (Mc ++ (Mu ++ Mf)) ∧ OwnR e Te G vc st.1 Mc ∧ OwnR J5 TB G vu st.2.1 Mu ∧ OwnR ZA TI G vf st.2.2 Mf
theorem ArP.mono {α : Type} {e : Enc α} {Te TB TI Tb : TypeId} {b : Nat} {G G' : GH} {st : List α × List Bool × List Int} {M : MH} (hl : Le G G') (h : ArP e Te TB TI Tb b G st M) : ArP e Te TB TI Tb b G' st M := by
 obtain ⟨vc, vu, vf, Mc, Mu, Mf, h1, h2, h3, h4⟩ := h
 exact ⟨vc, vu, vf, Mc, Mu, Mf, h1, h2.mono hl, h3.mono hl, h4.mono hl⟩
def ArR {α : Type} (e : Enc α) (Te TB TI Tb : TypeId) (b : Nat) (G : GH) (st : List α × List Bool) (M : MH) : Prop :=
 ∃ f, ArP e Te TB TI Tb b G (st.1, st.2, f) M ∧ st.1.length = st.2.length ∧ st.2.length ≤ 4096 ∧ Heap ltI f ∧ f.Perm (Y8 st.2)
theorem ArR.mono {α : Type} {e : Enc α} {Te TB TI Tb : TypeId} {b : Nat} {G G' : GH} {st : List α × List Bool} {M : MH} (hl : Le G G') (h : ArR e Te TB TI Tb b G st M) : ArR e Te TB TI Tb b G' st M := by
 obtain ⟨f, h1, h2⟩ := h
 exact ⟨f, h1.mono hl, h2⟩
theorem ArR.cast {α : Type} {e : Enc α} {Te TB TI Tb : TypeId} {b : Nat} {G : GH} {st st' : List α × List Bool} {M M' : MH} (h : ArR e Te TB TI Tb b G st M) (e1 : st = st') (e2 : M = M') : ArR e Te TB TI Tb b G st' M' := by subst e1 e2; exact h
theorem ZnQ {u : List Bool} {i : Int} (h0 : 0 ≤ i) (h1 : i < u.length) : u[i.toNat]'om9 = YY u i := by
 unfold YY
 rw [decide_eq_true h0, decide_eq_true h1, Zcl om9]; rfl
theorem ZnR {u : List Bool} {i : Int} (h0 : ¬ 0 ≤ i) : false = YY u i := by unfold YY; rw [decide_eq_false h0]; rfl
theorem ZnS {u : List Bool} {i : Int} (h1 : ¬ i < u.length) : false = YY u i := by unfold YY; rw [decide_eq_false h1]; simp
theorem ZhS {u : List Bool} {i : Int} (h : YY u i = true) : 0 ≤ i ∧ i.toNat < u.length ∧ i = (i.toNat : Int) := by
 obtain ⟨k, hk, rfl, _⟩ := ZhN.1 h
 exact ⟨om9, by simpa using hk, by simp⟩
theorem ZeO {α : Type} {st : List α × List Bool} {i : Int} {x : α} (h : YY st.2 i = true) : XV st i x = (0, (st.1.set i.toNat x, st.2)) := if_pos h
theorem ZeP {α : Type} {st : List α × List Bool} {i : Int} {x : α} (h : YY st.2 i = false) : XV st i x = (8, st) := if_neg (by simp [h])
theorem ZhT {α : Type} {st : List α × List Bool} {x : α} (h : Yv st.2 < st.2.length) : Ym st x = (((Yv st.2 : Int), 0), (st.1.set (Yv st.2) x, st.2.set (Yv st.2) true)) := if_pos h
theorem ZhU {α : Type} {st : List α × List Bool} {x : α} (h : Yv st.2 = st.2.length) : Ym st x = ((0, 4), st) := if_neg om9
theorem ZnT {α : Type} {st : List α × List Bool} {i : Int} {z : α} (h : YY st.2 i = true) (h2 : i.toNat < st.1.length) : Jz st i z = st.1[i.toNat] := by
 unfold Jz; rw [if_pos h, List.getD_eq_getElem?_getD, List.getElem?_eq_getElem h2]; rfl
theorem ZnU {α : Type} {st : List α × List Bool} {i : Int} {z : α} (h : YY st.2 i = false) : Jz st i z = z := if_neg (by simp [h])
theorem NodeC.cast {G : GH} {cs : List Value} {n m : Nd} (h : NodeC G cs n) (e : n = m) : NodeC G cs m := e ▸ h
def JR (u : List Bool) (k : Nat) : List Int := ((List.range k).filter fun i => u.getD i true).map fun i : Nat => (i : Int)
theorem ZhV (u : List Bool) (k : Nat) : (JR u k).length ≤ k := by
 unfold JR; rw [List.length_map]
 have := List.length_filter_le (fun i => u.getD i true) (List.range k)
 rw [List.length_range] at this; exact this
theorem ZnV {u : List Bool} {k : Nat} (hk : k < u.length) (h : u[k] = true) : JR u (k + 1) = JR u k ++ [(k : Int)] := by
 unfold JR; rw [List.range_succ, List.filter_append, List.map_append]; congr 1; simp [List.getElem?_eq_getElem hk, h]
theorem ZnW {u : List Bool} {k : Nat} (hk : k < u.length) (h : u[k] = false) : JR u (k + 1) = JR u k := by
 unfold JR; rw [List.range_succ, List.filter_append, List.map_append]; simp [List.getElem?_eq_getElem hk, h]
theorem ZhW (u : List Bool) : XF u = JR u u.length := rfl
def CfgR (c : Cfg) : Prop := (4 ≤ c.fan ∧ c.fan ≤ 64) ∧ (2 ≤ c.leaf ∧ c.leaf ≤ 64) ∧ (36 ≤ c.bud ∧ c.bud ≤ 4096) ∧ (1 ≤ c.slots ∧ c.slots ≤ 4096) ∧ (0 ≤ c.rest ∧ c.rest ≤ 100)
instance (c : Cfg) : Decidable (CfgR c) := by unfold CfgR; infer_instance
def Yo (n : Nat) (l : List Nd) : List Nd × List Bool := (l ++ List.replicate (n - l.length) Nd.zero, List.replicate l.length true ++ List.replicate (n - l.length) false)
theorem ZnX (n : Nat) : Yo n [] = (List.replicate n Nd.zero, List.replicate n false) := by simp [Yo]
theorem Zbu {n : Nat} {l : List Nd} (h : l.length ≤ n) : (Yo n l).2.length = n := by simp [Yo]; omega
theorem Zbv {n : Nat} {l : List Nd} {i : Nat} (h : i < (Yo n l).2.length) : (Yo n l).2[i] = decide (i < l.length) := by
 rw [List.getElem_of_eq (show (Yo n l).2 = List.replicate l.length true ++ List.replicate (n - l.length) false from rfl) h, List.getElem_append]
 split <;> rename_i h2 <;> simp only [List.length_replicate] at h2 <;> simp <;> omega
theorem Zc8 {n : Nat} {l : List Nd} (h : l.length ≤ n) (i : Int) : YY (Yo n l).2 i = decide (0 ≤ i ∧ i < l.length) := by
 rw [Bool.eq_iff_iff, ZhN, decide_eq_true_iff]
 constructor
 ·rintro ⟨k, hk, rfl, h2⟩
  rw [Zbv hk] at h2
  have := of_decide_eq_true h2
  omega
 ·rintro ⟨h1, h2⟩
  have hl := Zbu h
  exact ⟨i.toNat, om9, om9, by rw [Zbv]; exact decide_eq_true om9⟩
theorem ZhX {n : Nat} {l : List Nd} (h : l.length ≤ n) : Yv (Yo n l).2 = l.length := by
 have hl := Zbu h
 by_cases e : l.length = n
 ·rw [ZeN fun j hj => by rw [Zbv hj]; exact decide_eq_true om9]; omega
 ·exact ZeM om9 (by rw [Zbv]; exact decide_eq_false om9) fun j hj hjl => by rw [Zbv hj]; exact decide_eq_true hjl
theorem ZnY {n : Nat} {l : List Nd} {k : Nat} {x : Nd} (hk : k < l.length) : (Yo n l).1.set k x = (Yo n (l.set k x)).1 := by
 unfold Yo
 rw [List.length_set, List.set_append_left _ _ hk]
theorem ZnZ {n : Nat} {l : List Nd} (h : l.length < n) : Ym (Yo n l) Nd.zero = (((l.length : Int), 0), Yo n (l ++ [Nd.zero])) := by
 have hf := ZhX (Nat.le_of_lt h)
 have hl := Zbu (Nat.le_of_lt h)
 rw [ZhT om9, hf]
 refine congrArg (Prod.mk _) ?_
 obtain ⟨m, hm⟩ : ∃ m, n - l.length = m + 1 := ⟨n - l.length - 1, om9⟩
 have hm2 : n - (l ++ [Nd.zero]).length = m := by simp; omega
 unfold Yo
 rw [hm, hm2]
 refine Prod.ext ?_ ?_
 ·show (l ++ List.replicate (m + 1) Nd.zero).set l.length Nd.zero = (l ++ [Nd.zero]) ++ List.replicate m Nd.zero
  rw [List.set_append_right _ _ (Nat.le_refl _), Nat.sub_self, List.replicate_succ, List.set_cons_zero, List.append_assoc]; rfl
 ·show (List.replicate l.length true ++ List.replicate (m + 1) false).set l.length true = List.replicate (l ++ [Nd.zero]).length true ++ List.replicate m false
  rw [List.set_append_right _ _ (by simp), List.length_replicate, Nat.sub_self, List.replicate_succ, List.set_cons_zero, List.length_append, List.length_singleton, List.replicate_succ', List.append_assoc]; rfl
theorem Zn0 {n : Nat} {l : List Nd} (h : l.length = n) : Ym (Yo n l) Nd.zero = ((0, 4), Yo n l) := ZhU (by rw [ZhX om9, Zbu om9]; exact h)
def Zal (l : List Nd) (x : Nd) : Int × List Nd := if 0 ≤ x.slot ∧ x.slot < l.length then (0, l.set x.slot.toNat x) else (8, l)
theorem ZeQ {l : List Nd} {x : Nd} (h : 0 ≤ x.slot ∧ x.slot < l.length) : Zal l x = (0, l.set x.slot.toNat x) := if_pos h
theorem Zn1 {l : List Nd} {x : Nd} (h : ¬ (0 ≤ x.slot ∧ x.slot < l.length)) : Zal l x = (8, l) := if_neg h
theorem Zn2 (l : List Nd) (x : Nd) : (Zal l x).2.length = l.length := by unfold Zal; split <;> simp
theorem ZeR {n : Nat} {l : List Nd} (h : l.length ≤ n) (x : Nd) : XV (Yo n l) x.slot x = ((Zal l x).1, Yo n (Zal l x).2) := by
 by_cases hx : 0 ≤ x.slot ∧ x.slot < l.length
 ·rw [ZeO (by rw [Zc8 h]; exact decide_eq_true hx), ZeQ hx, ZnY om9]
  refine congrArg (Prod.mk _) (Prod.ext rfl ?_)
  unfold Yo; simp
 ·rw [ZeP (by rw [Zc8 h]; exact decide_eq_false hx), Zn1 hx]
def JS (n : Nat) (l : List Nd) (x : Nd) : (Int × Int) × List Nd := if l.length < n then ((l.length, 0), l ++ [{ x with slot := l.length }]) else ((0, 4), l)
theorem ZeS {n : Nat} {l : List Nd} {x : Nd} (h : l.length < n) : JS n l x = (((l.length : Int), 0), l ++ [{ x with slot := l.length }]) := if_pos h
theorem ZhY {n : Nat} {l : List Nd} {x : Nd} (h : ¬ l.length < n) : JS n l x = ((0, 4), l) := if_neg h
theorem Zn3 {l : List Nd} {x : Nd} : Zal (l ++ [Nd.zero]) { x with slot := l.length } = (0, l ++ [{ x with slot := l.length }]) := by
 rw [ZeQ (by simp; omega)]
 refine congrArg (Prod.mk _) ?_
 show (l ++ [Nd.zero]).set ((l.length : Int)).toNat _ = _
 rw [Int.toNat_natCast, List.set_append_right _ _ (Nat.le_refl _), Nat.sub_self]; rfl
def Za (l : List Nd) (i : Int) : Nd := if 0 ≤ i then l.getD i.toNat Nd.zero else Nd.zero
theorem Zam {l : List Nd} {k : Nat} (h : k < l.length) : Za l k = l[k] := by
 unfold Za; rw [if_pos om9, Int.toNat_natCast, List.getD_eq_getElem?_getD, List.getElem?_eq_getElem h]; rfl
theorem ZhZ {n : Nat} {l : List Nd} (h : l.length ≤ n) (i : Int) : Jz (Yo n l) i Nd.zero = Za l i := by
 unfold Jz Za
 rw [Zc8 h]
 by_cases h0 : 0 ≤ i
 ·rw [if_pos h0]
  by_cases h1 : i < l.length
  ·rw [if_pos (decide_eq_true ⟨h0, h1⟩), List.getD_eq_getElem?_getD, List.getD_eq_getElem?_getD]
   unfold Yo
   rw [List.getElem?_append_left om9]
  ·rw [if_neg (by simp; omega), List.getD_eq_getElem?_getD, List.getElem?_eq_none om9]; rfl
 ·rw [if_neg h0, if_neg (by simp; omega)]
theorem Zh0 {n : Nat} {l : List Nd} (h : l.length ≤ n) : XF (Yo n l).2 = Yh l.length := by
 have hl := Zbu h
 unfold XF Yh
 congr 1
 rw [hl]
 have e : n = l.length + (n - l.length) := om9
 have key : ∀ m, m ≤ n → (List.range m).filter (fun i => (Yo n l).2.getD i true) = List.range (min m l.length) := by
  intro m
  induction m with
  | zero => intro _; simp
  | succ m ih =>
   intro hm
   rw [List.range_succ, List.filter_append, ih om9, List.filter_cons, Zcl om9, Zbv]
   by_cases hml : m < l.length
   ·rw [if_pos (decide_eq_true hml), List.filter_nil, Nat.min_eq_left om9, Nat.min_eq_left om9, List.range_succ]
   ·rw [if_neg (by simpa using hml), List.filter_nil, List.append_nil, Nat.min_eq_right om9, Nat.min_eq_right om9]
 rw [key n (Nat.le_refl _), Nat.min_eq_right h]
theorem Zn4 {α : Type} {st : List α × List Bool} {x : α} (h : st.2.length ≤ 4096) : i64 (Ym st x).1.1 := by
 unfold Ym
 split
 ·exact ⟨by show (-9223372036854775808 : Int) ≤ (Yv st.2 : Int); omega, by show (Yv st.2 : Int) ≤ 9223372036854775807; omega⟩
 ·exact ⟨by show (-9223372036854775808 : Int) ≤ 0; omega, by show (0 : Int) ≤ 9223372036854775807; omega⟩
def Zbw (a : List Nd × List Bool) (x : Nd) : (Int × Int) × (List Nd × List Bool) :=
 if (Ym a Nd.zero).1.2 = 0 then (((Ym a Nd.zero).1.1, (XV (Ym a Nd.zero).2 (Ym a Nd.zero).1.1 { x with slot := (Ym a Nd.zero).1.1 }).1), (XV (Ym a Nd.zero).2 (Ym a Nd.zero).1.1 { x with slot := (Ym a Nd.zero).1.1 }).2)
 else ((0, (Ym a Nd.zero).1.2), (Ym a Nd.zero).2)
theorem Zh1 {a : List Nd × List Bool} {x : Nd} (h : (Ym a Nd.zero).1.2 = 0) : Zbw a x = (((Ym a Nd.zero).1.1, (XV (Ym a Nd.zero).2 (Ym a Nd.zero).1.1 { x with slot := (Ym a Nd.zero).1.1 }).1), (XV (Ym a Nd.zero).2 (Ym a Nd.zero).1.1 { x with slot := (Ym a Nd.zero).1.1 }).2) := if_pos h
theorem Zh2 {a : List Nd × List Bool} {x : Nd} (h : ¬ (Ym a Nd.zero).1.2 = 0) : Zbw a x = ((0, (Ym a Nd.zero).1.2), (Ym a Nd.zero).2) := if_neg h
theorem ZeT {n : Nat} {l : List Nd} (h : l.length ≤ n) (x : Nd) : Zbw (Yo n l) x = ((JS n l x).1, Yo n (JS n l x).2) := by
 by_cases e : l.length < n
 ·have h1 := ZnZ e
  rw [Zh1 (by rw [h1]), h1, ZeS e]
  have h2 := ZeR (n := n) (l := l ++ [Nd.zero]) (by simp; omega) { x with slot := (l.length : Int) }
  rw [Zn3] at h2
  show (((l.length : Int), (XV (Yo n (l ++ [Nd.zero])) ({ x with slot := (l.length : Int) } : Nd).slot { x with slot := (l.length : Int) }).1), (XV (Yo n (l ++ [Nd.zero])) ({ x with slot := (l.length : Int) } : Nd).slot { x with slot := (l.length : Int) }).2) = _
  rw [h2]
 ·have h1 := Zn0 (n := n) (l := l) om9
  rw [Zh2 (by rw [h1]; show ¬ (4 : Int) = 0; omega), h1, ZhY e]
def StA (te tB ti tb TS b : Nat) (G : GH) (c : Cfg) (a : List Nd × List Bool) (M : MH) : Prop :=
 ∃ b2 Ma, M = (b, .cells (List.toArray [.int .i64 c.fan, .int .i64 c.leaf, .int .i64 c.bud, .int .i64 c.slots, .int .i64 c.rest, .pointer (some ⟨b2, 0, none⟩)]) TS (0, 0)) :: Ma ∧ ArR ZF te tB ti tb b2 G a Ma
theorem StA.mono {te tB ti tb TS b : Nat} {G G' : GH} {c : Cfg} {a : List Nd × List Bool} {M : MH} (hl : Le G G') (h : StA te tB ti tb TS b G c a M) : StA te tB ti tb TS b G' c a M := by
 obtain ⟨b2, Ma, h1, h2⟩ := h; exact ⟨b2, Ma, h1, h2.mono hl⟩
def StR (te tB ti tb TS b : Nat) (c : Cfg) (G : GH) (l : List Nd) (M : MH) : Prop := CfgR c ∧ l.length ≤ c.slots.toNat ∧ StA te tB ti tb TS b G c (Yo c.slots.toNat l) M
theorem StR.mono {te tB ti tb TS b : Nat} {G G' : GH} {c : Cfg} {l : List Nd} {M : MH} (hl : Le G G') (h : StR te tB ti tb TS b c G l M) : StR te tB ti tb TS b c G' l M := ⟨h.1, h.2.1, h.2.2.mono hl⟩
theorem StA.cast {te tB ti tb TS b : Nat} {G : GH} {c : Cfg} {a a' : List Nd × List Bool} {M : MH} (h : StA te tB ti tb TS b G c a M) (e : a = a') : StA te tB ti tb TS b G c a' M := e ▸ h
def Xc (slot : Int) : Nd := ⟨slot, 0, [], [], Str.nil, true, -1, 0, [], []⟩
theorem Zn5 {n : Nat} {l : List Nd} {x : Nd} (h : l.length ≤ n) : (JS n l x).2.length ≤ n := by unfold JS; split <;> simp <;> omega
theorem Zn6 {n : Nat} {l : List Nd} (h : l.length ≤ n) : ((XF (Yo n l).2).map fun i => Jz (Yo n l) i Nd.zero) = l := by
 rw [Zh0 h]
 refine List.ext_getElem (by simp [Yh]) fun i h1 h2 => ?_
 rw [List.getElem_map, ZhZ h]
 simp only [Yh, List.getElem_map, List.getElem_range]
 exact Zam h2
theorem NodeC.of {G : GH} {cs : List Value} {n m : Nd} (h : NodeC G cs n) (e : n = m) : NodeC G cs m := e ▸ h
end Go.Fw
namespace Go.Proofs.YtbbemibbmbmamaaGreat
open Go.Fw
theorem Zh3 : tyK Tryz.prog 23 = some (true, 5) := by kernel_rfl
theorem Zh4 : Yc Tryz.prog 23 = some [.int .i64 0, .int .i64 0, .int .i64 0, .int .i64 0, .int .i64 0] := by kernel_rfl
theorem Zc9 : ZW Tryz.prog 24 = some 36 := by kernel_rfl
theorem Zh5 : tyK Tryz.prog 36 = some (true, 7) := by kernel_rfl
theorem Zn7 : Yc Tryz.prog 36 = some [.int .i64 0, .string ⟨#[]⟩, .string ⟨#[]⟩, .bool false, .string ⟨#[]⟩, .int .i64 0, .int .i64 0] := by kernel_rfl
theorem Zn8 : Xt Tryz.prog 36 = some 80 := by kernel_rfl
theorem Zn9 : ZM Tryz.prog 23 3 = some 3 := by kernel_rfl
theorem ty3 : tyK Tryz.prog 3 = some (false, 1) := by kernel_rfl
theorem zr3 : Yc Tryz.prog 3 = some [.int .i64 0] := by kernel_rfl
theorem Zcm : tyK Tryz.prog 38 = some (true, 4) := by kernel_rfl
theorem Za2 : Yc Tryz.prog 38 = some [.int .i64 0, .bool false, .string ⟨#[]⟩, .slice none 0 0] := by kernel_rfl
theorem Zoa : ZM Tryz.prog 36 0 = some 0 := by kernel_rfl
theorem Zob : tyK Tryz.prog 34 = some (true, 6) := by kernel_rfl
theorem Zcn : Yc Tryz.prog 34 = some [.int .i64 0, .string ⟨#[]⟩, .string ⟨#[]⟩, .bool false, .string ⟨#[]⟩, .int .i64 0] := by kernel_rfl
theorem Zy : ZW Tryz.prog 32 = some 74 := by kernel_rfl
theorem Zz : tyK Tryz.prog 74 = some (true, 2) := by kernel_rfl
theorem Yy : Yc Tryz.prog 74 = some [.string ⟨#[]⟩, .string ⟨#[]⟩] := by kernel_rfl
theorem JA : Xt Tryz.prog 74 = some 32 := by kernel_rfl
theorem Zoc : ZM Tryz.prog 36 1 = some 6 := by kernel_rfl
theorem Xj : ZW Tryz.prog 49 = some 60 := by kernel_rfl
theorem Yp : tyK Tryz.prog 60 = some (true, 10) := by kernel_rfl
theorem Zp : Yc Tryz.prog 60 = some [.int .i64 0, .int .i64 0, .slice none 0 0, .slice none 0 0, .string ⟨#[]⟩, .bool false, .int .i64 0, .int .i64 0, .slice none 0 0, .slice none 0 0] := by kernel_rfl
theorem Zan : Xt Tryz.prog 60 = some 152 := by kernel_rfl
theorem bo4 : Tryz.prog.underlying 4 = some .bool := by kernel_rfl
theorem Zod : ZM Tryz.prog 60 9 = some 9 := by kernel_rfl
theorem Zoe : tyK Tryz.prog 32 = some (false, 1) := by kernel_rfl
theorem Zbx : Zbl Tryz.prog 27 = true := by kernel_rfl
theorem Zof : ZM Tryz.prog 38 0 = some 0 := by kernel_rfl
theorem Zog : tyK Tryz.prog 28 = some (false, 1) := by kernel_rfl
theorem Zoh : ZM Tryz.prog 34 0 = some 0 := by kernel_rfl
theorem Zh6 : Jk Tryz.prog 38 = some [(0, 1), (1, 1), (2, 1), (3, 1)] := by kernel_rfl
theorem Zoi : ZM Tryz.prog 60 1 = some 1 := by kernel_rfl
theorem Zoj : ZM Tryz.prog 23 0 = some 0 := by kernel_rfl
theorem Zok : ZM Tryz.prog 23 1 = some 1 := by kernel_rfl
theorem Zol : Jk Tryz.prog 23 = some [(0, 1), (1, 1), (2, 1), (3, 1), (4, 1)] := by kernel_rfl
theorem Zco : Jk Tryz.prog 34 = some [(0, 1), (1, 1), (2, 1), (3, 1), (4, 1), (5, 1)] := by kernel_rfl
theorem Zom : ZM Tryz.prog 38 1 = some 1 := by kernel_rfl
theorem ty4 : tyK Tryz.prog 4 = some (false, 1) := by kernel_rfl
theorem zr4 : Yc Tryz.prog 4 = some [.bool false] := by kernel_rfl
theorem Zon : ZM Tryz.prog 38 2 = some 2 := by kernel_rfl
theorem ty9 : tyK Tryz.prog 9 = some (false, 1) := by kernel_rfl
theorem zr9 : Yc Tryz.prog 9 = some [.string ⟨#[]⟩] := by kernel_rfl
theorem st9 : Tryz.prog.underlying 9 = some .string := by kernel_rfl
theorem ZeU : Jk Tryz.prog 74 = some [(0, 1), (1, 1)] := by kernel_rfl
theorem Zoo : Yc Tryz.prog 79 = some [.pointer none, .string ⟨#[]⟩] := by kernel_rfl
theorem Zop : Jk Tryz.prog 79 = some [(0, 1), (1, 1)] := by kernel_rfl
theorem Zoq : ZM Tryz.prog 23 2 = some 2 := by kernel_rfl
theorem Zor : ZM Tryz.prog 23 4 = some 4 := by kernel_rfl
theorem Zos : ZM Tryz.prog 34 1 = some 1 := by kernel_rfl
theorem Zot : ZM Tryz.prog 34 5 = some 5 := by kernel_rfl
theorem Zou : ZM Tryz.prog 38 3 = some 3 := by kernel_rfl
theorem Zov : ZM Tryz.prog 34 2 = some 2 := by kernel_rfl
theorem Zow : ZM Tryz.prog 34 3 = some 3 := by kernel_rfl
theorem Zox : ZM Tryz.prog 34 4 = some 4 := by kernel_rfl
theorem Z3 : tyK Tryz.prog 87 = some (true, 6) := by kernel_rfl
theorem ZT : Yc Tryz.prog 87 = some [.int .i64 0, .int .i64 0, .string ⟨#[]⟩, .string ⟨#[]⟩, .bool false, .string ⟨#[]⟩] := by kernel_rfl
theorem Zda : Jk Tryz.prog 87 = some [(0, 1), (1, 1), (2, 1), (3, 1), (4, 1), (5, 1)] := by kernel_rfl
theorem Zoy : ZM Tryz.prog 79 0 = some 0 := by kernel_rfl
theorem Zoz : tyK Tryz.prog 75 = some (false, 1) := by kernel_rfl
theorem ZoA : ZM Tryz.prog 79 1 = some 1 := by kernel_rfl
theorem ZoB : Zec Tryz.prog 74 = some [.string, .string] := by kernel_rfl
theorem ZoC : ZM Tryz.prog 60 0 = some 0 := by kernel_rfl
theorem Zby : tyK Tryz.prog 58 = some (false, 1) := by kernel_rfl
theorem Zdb : Yc Tryz.prog 58 = some [.slice none 0 0] := by kernel_rfl
theorem ZY : ZW Tryz.prog 58 = some 87 := by kernel_rfl
theorem JB : Xt Tryz.prog 87 = some 72 := by kernel_rfl
theorem ZoD : ZM Tryz.prog 87 0 = some 0 := by kernel_rfl
theorem ZoE : ZM Tryz.prog 60 7 = some 7 := by kernel_rfl
theorem Yq : tyK Tryz.prog 62 = some (true, 3) := by kernel_rfl
theorem ZL : Yc Tryz.prog 62 = some [.string ⟨#[]⟩, .string ⟨#[]⟩, .bool false] := by kernel_rfl
theorem Xw : Jk Tryz.prog 62 = some [(0, 1), (1, 1), (2, 1)] := by kernel_rfl
theorem ZoF : ZM Tryz.prog 60 2 = some 2 := by kernel_rfl
theorem ZoG : tyK Tryz.prog 56 = some (false, 1) := by kernel_rfl
theorem ZoH : ZM Tryz.prog 60 3 = some 3 := by kernel_rfl
theorem ZoI : tyK Tryz.prog 57 = some (false, 1) := by kernel_rfl
theorem Ya : ZW Tryz.prog 56 = some 9 := by kernel_rfl
theorem by9 : Xt Tryz.prog 9 = some 16 := by kernel_rfl
theorem Z5 : ZW Tryz.prog 57 = some 3 := by kernel_rfl
theorem by3 : Xt Tryz.prog 3 = some 8 := by kernel_rfl
theorem ZoJ : ZM Tryz.prog 60 8 = some 8 := by kernel_rfl
theorem Zbz : ZW Tryz.prog 107 = some 58 := by kernel_rfl
theorem Zh7 : Xt Tryz.prog 58 = some 24 := by kernel_rfl
theorem ZoK : ZM Tryz.prog 74 0 = some 0 := by kernel_rfl
theorem ZoL : Yc Tryz.prog 139 = some [.int .i64 0, .int .i64 0, .int .i64 0, .int .i64 0, .int .i64 0, .pointer none] := by kernel_rfl
theorem ZoM : Jk Tryz.prog 139 = some [(0, 5), (5, 1)] := by kernel_rfl
theorem ZoN : ZM Tryz.prog 74 1 = some 1 := by kernel_rfl
theorem ZoO : ZM Tryz.prog 87 1 = some 1 := by kernel_rfl
theorem ZoP : ZM Tryz.prog 87 2 = some 2 := by kernel_rfl
theorem Zh8 : ZM Tryz.prog 62 0 = some 0 := by kernel_rfl
theorem ZeV : ZM Tryz.prog 62 2 = some 2 := by kernel_rfl
theorem ZeW : ZM Tryz.prog 62 1 = some 1 := by kernel_rfl
theorem Zao : Zbl Tryz.prog 75 = true := by kernel_rfl
theorem ZoQ : ZM Tryz.prog 139 1 = some 5 := by kernel_rfl
theorem ZoR : tyK Tryz.prog 135 = some (false, 1) := by kernel_rfl
theorem ZoS : ZM Tryz.prog 60 6 = some 6 := by kernel_rfl
theorem ZoT : ZM Tryz.prog 60 5 = some 5 := by kernel_rfl
theorem ZoU : ZM Tryz.prog 60 4 = some 4 := by kernel_rfl
theorem Zap : Jk Tryz.prog 60 = some [(0, 1), (1, 1), (2, 1), (3, 1), (4, 1), (5, 1), (6, 1), (7, 1), (8, 1), (9, 1)] := by kernel_rfl
theorem ZoV : tyK Tryz.prog 49 = some (false, 1) := by kernel_rfl
theorem ZbA : ZW Tryz.prog 168 = some 4 := by kernel_rfl
theorem by4 : Xt Tryz.prog 4 = some 1 := by kernel_rfl
theorem ZoW : tyK Tryz.prog 169 = some (false, 1) := by kernel_rfl
theorem Xk : ZW Tryz.prog 169 = some 3 := by kernel_rfl
theorem ZeX : ZaT Tryz.prog 173 = true := by kernel_rfl
theorem pi3 : ZaT Tryz.prog 3 = true := by kernel_rfl
theorem ZoX : tyK Tryz.prog 168 = some (false, 1) := by kernel_rfl
theorem ZoY : tyK Tryz.prog 132 = some (true, 2) := by kernel_rfl
theorem XG : Yc Tryz.prog 132 = some [.int .i64 0, .string ⟨#[]⟩] := by kernel_rfl
theorem Jq : Jk Tryz.prog 132 = some [(0, 1), (1, 1)] := by kernel_rfl
theorem ZoZ : ZM Tryz.prog 87 5 = some 5 := by kernel_rfl
theorem Zh9 : Yc Tryz.prog 189 = some [.slice none 0 0, .slice none 0 0, .slice none 0 0] := by kernel_rfl
theorem Zia : Jk Tryz.prog 189 = some [(0, 1), (1, 1), (2, 1)] := by kernel_rfl
theorem Zo0 : ZM Tryz.prog 189 2 = some 2 := by kernel_rfl
theorem Zo1 : ZM Tryz.prog 87 3 = some 3 := by kernel_rfl
theorem Zo2 : ZM Tryz.prog 87 4 = some 4 := by kernel_rfl
theorem XW : ZW Tryz.prog 193 = some 62 := by kernel_rfl
theorem ZbB : Xt Tryz.prog 62 = some 40 := by kernel_rfl
theorem Zcp : Zbl Tryz.prog 135 = true := by kernel_rfl
theorem Zo3 : ZM Tryz.prog 189 1 = some 1 := by kernel_rfl
theorem Zo4 : ZM Tryz.prog 189 0 = some 0 := by kernel_rfl
theorem Zo5 : ZM Tryz.prog 132 0 = some 0 := by kernel_rfl
theorem Zo6 : ZM Tryz.prog 132 1 = some 1 := by kernel_rfl
theorem Zib : Zed Tryz.prog 23 1 = some (false, 1, 1) := by kernel_rfl
theorem Zic : Zed Tryz.prog 23 2 = some (false, 2, 1) := by kernel_rfl
theorem Zo7 : ZM Tryz.prog 139 0 = some 0 := by kernel_rfl
theorem un3 : Tryz.prog.underlying 3 = some (.int .i64) := by kernel_rfl
theorem ZbC : Tryz.prog.underlying 255 = some (.int .u64) := by kernel_rfl
theorem XN : ZW Tryz.prog 269 = some 271 := by kernel_rfl
theorem YL : tyK Tryz.prog 271 = some (true, 2) := by kernel_rfl
theorem JC : Yc Tryz.prog 271 = some [.slice none 0 0, .int .i64 0] := by kernel_rfl
theorem Zid : Xt Tryz.prog 271 = some 32 := by kernel_rfl
theorem Zo8 : tyK Tryz.prog 269 = some (false, 1) := by kernel_rfl
theorem ZeY : ZaT Tryz.prog 267 = true := by kernel_rfl
theorem Zo9 : Jk Tryz.prog 271 = some [(0, 1), (1, 1)] := by kernel_rfl
theorem Zcq : ZaT Tryz.prog 271 = true := by kernel_rfl
theorem Zpa : ZM Tryz.prog 271 0 = some 0 := by kernel_rfl
theorem Zpb : ZM Tryz.prog 271 1 = some 1 := by kernel_rfl
theorem mix : Tryz.prog.follows .mixedOrders = true := by kernel_rfl
end Go.Proofs.YtbbemibbmbmamaaGreat
theorem List.Sublist.k9 {α : Type} {a : α} {l l' : List α} (h : l.Sublist l') : (a :: l).Sublist (a :: l') := h.cons_cons a
namespace Go.Fw
open Go Go.RowKit
theorem sn9 {α : Type} {l : List α} : List.Sublist [] l := List.nil_sublist l
theorem sr9 {α : Type} {l : List α} : List.Sublist l l := List.Sublist.refl l
theorem pr9 {α : Type} {l : List α} : List.Perm l l := List.Perm.refl l
abbrev nd9 {a b : Int} {c : Option Addr} {d e : Nat} {f : Option Addr} {g h : Nat} {i : ByteArray} {j : Bool} {k l : Int} {m : Option Addr} {n o : Nat} {p : Option Addr} {q r : Nat} : List Value := [.int .i64 a, .int .i64 b, .slice c d e, .slice f g h, .string i, .bool j, .int .i64 k, .int .i64 l, .slice m n o, .slice p q r]
abbrev ndl (x : Nd) (a1 : Option Addr) (c1 : Nat) (a2 : Option Addr) (c2 : Nat) (a3 : Option Addr) (c3 : Nat) (a4 : Option Addr) (c4 : Nat) : List Value := [.int .i64 x.slot, .int .i64 x.level, .slice a1 x.pivots.length c1, .slice a2 x.kids.length c2, .string x.high.b, .bool x.top, .int .i64 x.right, .int .i64 x.seen, .slice a3 x.msgs.length c3, .slice a4 x.rows.length c4]
abbrev ms9 {a b : Int} {c d : ByteArray} {e : Bool} {f : ByteArray} : List Value := [.int .i64 a, .int .i64 b, .string c, .string d, .bool e, .string f]
abbrev sp9 {a b : ByteArray} {c : Bool} : List Value := [.string a, .string b, .bool c]
abbrev cf9 {a b c d e : Int} : List Value := [.int .i64 a, .int .i64 b, .int .i64 c, .int .i64 d, .int .i64 e]
abbrev ic9 {a : Int} : List Value := [.int .i64 a]
abbrev sc9 {a : ByteArray} : List Value := [.string a]
abbrev bc9 {a : Bool} : List Value := [.bool a]
abbrev lc9 {a : Option Addr} {b c : Nat} : List Value := [.slice a b c]
abbrev ef9 {a : Int} {b : ByteArray} : List Value := [.int .i64 a, .string b]
abbrev pr29 {a b : ByteArray} : List Value := [.string a, .string b]
theorem Zdc {E : Env} {f : Fr} {G : GH} {M : MH} {d : Nat} {t ty : TypeId} {pos : String} {aft : Array Edge} {x : Operand} (i : Nat) (vs : List Value) {b o : Nat} {L : List Value} {T : TypeId} {bb : Bool} {j : Nat} (ht : tyK E.P t = some (bb, j))
    (hq : (ev f x, X6 M i, (L.drop o).take j, vs.length) = (.pointer (some ⟨b, o, none⟩), some (b, .cells L.toArray T (0, 0)), vs, j)) (hb : bb = false → j = 1 := by simp) : Ok E f G M ⟨some d, .load t x, ty, pos, aft, none⟩ (mkV bb vs) := by
  obtain ⟨h1, h⟩ := Prod.mk.inj hq
  obtain ⟨h2, h⟩ := Prod.mk.inj h
  obtain ⟨h3, h4⟩ := Prod.mk.inj h
  exact Zea ht h1 h2 h3 h4 hb
theorem W.fb {E : Env} {f : Fr} {G : GH} {M : MH} {ops rest : List Oper} {q : Bool} {K : Kt} {d : Nat} {t ty : TypeId} {pos : String} {aft : Array Edge} {x : Operand} {b o off j : Nat} (ht : ZM E.P t j = some off) (hx : ev f x = .pointer (some ⟨b, o, none⟩))
    (k : W E ops.toArray q rest (upd f d (.pointer (some ⟨b, o + off, none⟩))) G M K) (hd : Nat.blt d E.n = true := by rfl) : W E ops.toArray q (⟨some d, .fieldAddr t x j, ty, pos, aft, none⟩ :: rest) f G M K := W.ok (Zlu ht hx) k hd
theorem W.st {E : Env} {f : Fr} {G : GH} {M : MH} {ops rest : List Oper} {K : Kt} {t ty : TypeId} {pos : String} {aft : Array Edge} {x y : Operand} (i : Nat) (vs L' : List Value) {b o : Nat} {L : List Value} {T : TypeId} {bb : Bool} {j : Nat} {v : Value} (ht : tyK E.P t = some (bb, j))
    (hq : (ev f x, X6 M i, ev f y, v.cells.toList, vs.length, vs.all Value.oneCell', Nat.ble (o + j) L.length, Ye L o vs) = (.pointer (some ⟨b, o, none⟩), some (b, .cells L.toArray T (0, 0)), v, vs, j, true, true, L'))
    (k : W E ops.toArray false rest f G (Xg M i (.cells L'.toArray T (0, 0))) K) : W E ops.toArray false (⟨none, .store t x y, ty, pos, aft, none⟩ :: rest) f G M K := by
  obtain ⟨h1, h⟩ := Prod.mk.inj hq
  obtain ⟨h2, h⟩ := Prod.mk.inj h
  obtain ⟨h3, h⟩ := Prod.mk.inj h
  obtain ⟨h4, h⟩ := Prod.mk.inj h
  obtain ⟨h5, h⟩ := Prod.mk.inj h
  obtain ⟨h6, h⟩ := Prod.mk.inj h
  obtain ⟨h7, h8⟩ := Prod.mk.inj h
  exact W.store ht h1 h2 h3 h4 h5 h6 h7 h8 k
theorem W.y9 {E : Env} {f : Fr} {G : GH} {M : MH} {ops rest : List Oper} {q : Bool} {K : Kt} {op : Op} {ty : TypeId} {pos : String} {aft : Array Edge} {dst : Option Nat} {j dj : Nat} {want b : Bool} (hn : b = want) (hq : ((ops.toArray[j]?).bind (·.dst), f dj) = (some dj, .bool b))
    (k : W E ops.toArray q (⟨dst, op, ty, pos, aft, none⟩ :: rest) f G M K) (hdj : Nat.blt dj E.n = true := by rfl) : W E ops.toArray q (⟨dst, op, ty, pos, aft, some (j, want)⟩ :: rest) f G M K := W.yes (Prod.mk.inj hq).1 (Prod.mk.inj hq).2 hn k hdj
theorem W.n8 {E : Env} {f : Fr} {G : GH} {M : MH} {ops rest : List Oper} {q : Bool} {K : Kt} {d : Nat} {op : Op} {ty : TypeId} {pos : String} {aft : Array Edge} {j dj : Nat} {want b : Bool} (hn : b = !want) (hq : ((ops.toArray[j]?).bind (·.dst), f dj) = (some dj, .bool b))
    (k : W E ops.toArray q rest (upd f d undef) G M K) (hd : Nat.blt d E.n = true := by rfl) : W E ops.toArray q (⟨some d, op, ty, pos, aft, some (j, want)⟩ :: rest) f G M K := W.no (Prod.mk.inj hq).1 (Prod.mk.inj hq).2 hn k hd
theorem W.nt {E : Env} {f : Fr} {G : GH} {M : MH} {ops : List Oper} {q : Bool} {K : Kt} {Q : Exit → Kt} (h : K f G M) : W E ops.toArray q [] f G M (thn K Q .normal) := W.nil (Xf h)
theorem WC.sr {E : Env} {f : Fr} {G : GH} {M : MH} {Q : Exit → Kt} {id : Nat} {l : List Oper} {y : Code} (h : W E l.toArray false l f G M (thn (WC E y Q) Q .normal)) : WC E (.seq (.region id l.toArray false) y) Q f G M := WC.seq (WC.region h)
theorem W.ns {E : Env} {f : Fr} {G : GH} {M : MH} {ops : List Oper} {q : Bool} {Q Q' : Exit → Kt} {id : Nat} {l : List Oper} {y : Code} (h : W E l.toArray false l f G M (thn (WC E y Q) Q .normal)) : W E ops.toArray q [] f G M (thn (WC E (.seq (.region id l.toArray false) y) Q) Q' .normal) := W.nt (WC.sr h)
theorem W.an {E : Env} {f : Fr} {G : GH} {M : MH} {ops : List Oper} {q : Bool} {K : Kt} {Q : Exit → Kt} {d : Nat} {ty : TypeId} {pos : String} {aft : Array Edge} {x : Operand} (k : K (upd f d (ev f x)) G M) (hd : Nat.blt d E.n = true := by rfl) : W E ops.toArray q [⟨some d, .assign x, ty, pos, aft, none⟩] f G M (thn K Q .normal) := W.as (W.nt k) hd
theorem WC.sk {E : Env} {f : Fr} {G : GH} {M : MH} {K : Kt} {Q : Exit → Kt} (h : K f G M) : WC E .skip (thn K Q) f G M := WC.skip (Xf h)
theorem WC.rt {E : Env} {f : Fr} {G : GH} {M : MH} {K : Kt} {Q : Exit → Kt} (h : Q .ret f G M) : WC E .ret (thn K Q) f G M := WC.ret (Zll h)
theorem WD.dn {E : Env} {f : Fr} {G : GH} {M Mk : MH} {ops : Array Oper} {K : Kt} {Q : Exit → Kt} {fuel : Nat} {listed : Array Bool} (h : K f G M) (hr : Region.ready .any ops listed = [] := by kernel_rfl) : WD E ops fuel listed f G M Mk (thn K Q .normal) := WD.done hr (Xf h)
theorem odt {p : Prop} [Decidable p] (h : decide p = true) : p := of_decide_eq_true h
theorem odf {p : Prop} [Decidable p] (h : decide p = false) : ¬ p := of_decide_eq_false h
theorem nk9 {G : GH} {n : Nd} {a1 a2 a3 a4 : Option Addr} {c1 c2 c3 c4 : Nat} (h1 : SlR Yf G (.slice a1 n.pivots.length c1) n.pivots) (h2 : SlR ZA G (.slice a2 n.kids.length c2) n.kids) (h3 : SlR Zs G (.slice a3 n.msgs.length c3) n.msgs) (h4 : SlR Zl G (.slice a4 n.rows.length c4) n.rows) (h : n.Ok) :
    NodeC G [.int .i64 n.slot, .int .i64 n.level, .slice a1 n.pivots.length c1, .slice a2 n.kids.length c2, .string n.high.b, .bool n.top, .int .i64 n.right, .int .i64 n.seen, .slice a3 n.msgs.length c3, .slice a4 n.rows.length c4] n := ⟨_, _, _, _, _, _, _, _, rfl, h1, h2, h3, h4, h⟩
theorem nm9 {G G' : GH} {n : Nd} {a1 a2 a3 a4 : Option Addr} {c1 c2 c3 c4 : Nat} (hl : Le G G') (h1 : SlR Yf G (.slice a1 n.pivots.length c1) n.pivots) (h2 : SlR ZA G (.slice a2 n.kids.length c2) n.kids) (h3 : SlR Zs G (.slice a3 n.msgs.length c3) n.msgs) (h4 : SlR Zl G (.slice a4 n.rows.length c4) n.rows) (h : n.Ok) :
    NodeC G' [.int .i64 n.slot, .int .i64 n.level, .slice a1 n.pivots.length c1, .slice a2 n.kids.length c2, .string n.high.b, .bool n.top, .int .i64 n.right, .int .i64 n.seen, .slice a3 n.msgs.length c3, .slice a4 n.rows.length c4] n := (nk9 h1 h2 h3 h4 h).mono hl
end Go.Fw
namespace Go.Proofs.YtbbemibbmbmamaaGreat
open Go Go.Fw
instance : TyK Tryz.prog 23 true 5 := ⟨Zh3⟩
instance : SlK Tryz.prog 24 36 := ⟨Zc9⟩
instance : TyK Tryz.prog 36 true 7 := ⟨Zh5⟩
instance : FdK Tryz.prog 23 3 3 := ⟨Zn9⟩
instance : TyK Tryz.prog 3 false 1 := ⟨ty3⟩
instance : TyK Tryz.prog 38 true 4 := ⟨Zcm⟩
instance : FdK Tryz.prog 36 0 0 := ⟨Zoa⟩
instance : TyK Tryz.prog 34 true 6 := ⟨Zob⟩
instance : SlK Tryz.prog 32 74 := ⟨Zy⟩
instance : TyK Tryz.prog 74 true 2 := ⟨Zz⟩
instance : FdK Tryz.prog 36 1 6 := ⟨Zoc⟩
instance : SlK Tryz.prog 49 60 := ⟨Xj⟩
instance : TyK Tryz.prog 60 true 10 := ⟨Yp⟩
instance : BoK Tryz.prog 4 := ⟨bo4⟩
instance : FdK Tryz.prog 60 9 9 := ⟨Zod⟩
instance : TyK Tryz.prog 32 false 1 := ⟨Zoe⟩
instance : FdK Tryz.prog 38 0 0 := ⟨Zof⟩
instance : TyK Tryz.prog 28 false 1 := ⟨Zog⟩
instance : FdK Tryz.prog 34 0 0 := ⟨Zoh⟩
instance : FdK Tryz.prog 60 1 1 := ⟨Zoi⟩
instance : FdK Tryz.prog 23 0 0 := ⟨Zoj⟩
instance : FdK Tryz.prog 23 1 1 := ⟨Zok⟩
instance : FdK Tryz.prog 38 1 1 := ⟨Zom⟩
instance : TyK Tryz.prog 4 false 1 := ⟨ty4⟩
instance : FdK Tryz.prog 38 2 2 := ⟨Zon⟩
instance : TyK Tryz.prog 9 false 1 := ⟨ty9⟩
instance : StK Tryz.prog 9 := ⟨st9⟩
instance : FdK Tryz.prog 23 2 2 := ⟨Zoq⟩
instance : FdK Tryz.prog 23 4 4 := ⟨Zor⟩
instance : FdK Tryz.prog 34 1 1 := ⟨Zos⟩
instance : FdK Tryz.prog 34 5 5 := ⟨Zot⟩
instance : FdK Tryz.prog 38 3 3 := ⟨Zou⟩
instance : FdK Tryz.prog 34 2 2 := ⟨Zov⟩
instance : FdK Tryz.prog 34 3 3 := ⟨Zow⟩
instance : FdK Tryz.prog 34 4 4 := ⟨Zox⟩
instance : TyK Tryz.prog 87 true 6 := ⟨Z3⟩
instance : FdK Tryz.prog 79 0 0 := ⟨Zoy⟩
instance : TyK Tryz.prog 75 false 1 := ⟨Zoz⟩
instance : FdK Tryz.prog 79 1 1 := ⟨ZoA⟩
instance : FdK Tryz.prog 60 0 0 := ⟨ZoC⟩
instance : TyK Tryz.prog 58 false 1 := ⟨Zby⟩
instance : SlK Tryz.prog 58 87 := ⟨ZY⟩
instance : FdK Tryz.prog 87 0 0 := ⟨ZoD⟩
instance : FdK Tryz.prog 60 7 7 := ⟨ZoE⟩
instance : TyK Tryz.prog 62 true 3 := ⟨Yq⟩
instance : FdK Tryz.prog 60 2 2 := ⟨ZoF⟩
instance : TyK Tryz.prog 56 false 1 := ⟨ZoG⟩
instance : FdK Tryz.prog 60 3 3 := ⟨ZoH⟩
instance : TyK Tryz.prog 57 false 1 := ⟨ZoI⟩
instance : SlK Tryz.prog 56 9 := ⟨Ya⟩
instance : SlK Tryz.prog 57 3 := ⟨Z5⟩
instance : FdK Tryz.prog 60 8 8 := ⟨ZoJ⟩
instance : SlK Tryz.prog 107 58 := ⟨Zbz⟩
instance : FdK Tryz.prog 74 0 0 := ⟨ZoK⟩
instance : FdK Tryz.prog 74 1 1 := ⟨ZoN⟩
instance : FdK Tryz.prog 87 1 1 := ⟨ZoO⟩
instance : FdK Tryz.prog 87 2 2 := ⟨ZoP⟩
instance : FdK Tryz.prog 62 0 0 := ⟨Zh8⟩
instance : FdK Tryz.prog 62 2 2 := ⟨ZeV⟩
instance : FdK Tryz.prog 62 1 1 := ⟨ZeW⟩
instance : FdK Tryz.prog 139 1 5 := ⟨ZoQ⟩
instance : TyK Tryz.prog 135 false 1 := ⟨ZoR⟩
instance : FdK Tryz.prog 60 6 6 := ⟨ZoS⟩
instance : FdK Tryz.prog 60 5 5 := ⟨ZoT⟩
instance : FdK Tryz.prog 60 4 4 := ⟨ZoU⟩
instance : TyK Tryz.prog 49 false 1 := ⟨ZoV⟩
instance : SlK Tryz.prog 168 4 := ⟨ZbA⟩
instance : TyK Tryz.prog 169 false 1 := ⟨ZoW⟩
instance : SlK Tryz.prog 169 3 := ⟨Xk⟩
instance : TyK Tryz.prog 168 false 1 := ⟨ZoX⟩
instance : TyK Tryz.prog 132 true 2 := ⟨ZoY⟩
instance : FdK Tryz.prog 87 5 5 := ⟨ZoZ⟩
instance : FdK Tryz.prog 189 2 2 := ⟨Zo0⟩
instance : FdK Tryz.prog 87 3 3 := ⟨Zo1⟩
instance : FdK Tryz.prog 87 4 4 := ⟨Zo2⟩
instance : SlK Tryz.prog 193 62 := ⟨XW⟩
instance : FdK Tryz.prog 189 1 1 := ⟨Zo3⟩
instance : FdK Tryz.prog 189 0 0 := ⟨Zo4⟩
instance : FdK Tryz.prog 132 0 0 := ⟨Zo5⟩
instance : FdK Tryz.prog 132 1 1 := ⟨Zo6⟩
instance : FdK Tryz.prog 139 0 0 := ⟨Zo7⟩
instance : SlK Tryz.prog 269 271 := ⟨XN⟩
instance : TyK Tryz.prog 271 true 2 := ⟨YL⟩
instance : TyK Tryz.prog 269 false 1 := ⟨Zo8⟩
instance : FdK Tryz.prog 271 0 0 := ⟨Zpa⟩
instance : FdK Tryz.prog 271 1 1 := ⟨Zpb⟩
instance : MixK Tryz.prog := ⟨mix⟩
end Go.Proofs.YtbbemibbmbmamaaGreat
namespace Go.Proofs.YtbbemibbmbmamaaGreat
open Go Go.Fw Go.RowKit
attribute [local irreducible] Ok W WC
theorem Zcr {G : GH} (a : Str) (b : Str) :
    Fc Tryz.prog 114 [sV a.b, sV b.b] G [] (fun v _ _ => v = .bool (Str.lt a b)) := by
 have ha := a.le
 have hb := b.le
 refine Fc.go [.tmp 4] Tryz.func114 Tryz.ntmps114 rfl (fun w0 => (g9 12 ?_))
 refine WC.loop (X := Nat) (fun k => [(5, nt9 k), (0, sV a.b), (1, sV b.b)]) (fun k _ Ml => Ml = [] ∧ k ≤ a.b.size ∧ k ≤ b.b.size ∧ ∀ i, i < k → a.b[i]? = b.b[i]?) (fun k => a.b.size - k) 0 hs9 ?_ ?_
 ·exact ⟨rfl, om9, om9, fun i hi => by omega⟩
 rintro k gG1 G1 _ hG1 ⟨rfl, hk1, hk2, hk3⟩
 refine g9 8 ?_
 refine W.sd 10 (fun h9 p9 => ?_) (fun h9 p9 => ?_)
 ·refine g9 11 ?_
  refine WC.cd (fun h14 p14 => ?_) (fun h14 p14 => ?_)
  ·refine g9 8 ?_
   refine W.ok (Zb1 (i := k) st9 rfl rfl ⟨om9, om9⟩) (g9 2 ?_)
   refine W.ok (Zb1 (i := k) st9 rfl rfl ⟨om9, om9⟩) (g9 3 ?_)
   refine WC.cn (fun h24 p24 => ?_) (fun h24 p24 => ?_)
   ·refine g9 4 ?_
    refine W.ok (Zb1 (i := k) st9 rfl rfl ⟨om9, om9⟩) (g9 2 ?_)
    refine W.ok (Zb1 (i := k) st9 rfl rfl ⟨om9, om9⟩) (g9 11 ?_)
    exact congrArg Value.bool (ZgG hk3 _ _ om9)
   refine g9 9 ?_
   exact ⟨Le.rfl, k + 1, hs9, ⟨rfl, om9, om9, ZlI hk3 om9 om9 p24⟩, om9⟩
  refine g9 17 ?_
  exact congrArg Value.bool (Zb6 hk3 om9 om9 om9)
 refine g9 25 ?_
 exact congrArg Value.bool (Zb6 hk3 om9 om9 om9)

theorem Zdd {G : GH} (slo : Str) (shi : Str) (so : Bool) (k : Str) :
    Fc Tryz.prog 87 [.agg #[sV slo.b, sV shi.b, .bool so], sV k.b] G [] (fun v _ _ => v = .bool (Span.has ⟨slo, shi, so⟩ k)) := by
 refine Fc.go [.tmp 4] Tryz.func87 Tryz.ntmps87 rfl (fun w0 => (g9 2 ?_))
 refine W.box (L := [sV _, sV _, .bool _]) rfl rfl (fun b2 => (g9 8 ?_))
 refine W.qcall (Zcr _ _) rfl (g9 2 ?_)
 refine W.sp 10 rfl (fun h9 => ?_) (fun h9 => ?_)
 ·refine g9 6 ?_
  refine W.sp 13 rfl (fun ha_so => ?_) (fun ha_so => ?_)
  ·refine g9 12 ?_
   refine congrArg Value.bool ?_
   simp_all [Span.has]
  refine g9 7 ?_
  refine W.qcall (Zcr _ _) rfl (g9 8 ?_)
  refine congrArg Value.bool ?_
  simp_all [Span.has]
 refine g9 14 ?_
 refine congrArg Value.bool ?_
 simp_all [Span.has]

theorem Zie {G : GH} (slo : Str) (shi : Str) (so : Bool) :
    Fc Tryz.prog 86 [.agg #[sV slo.b, sV shi.b, .bool so]] G [] (fun v _ _ => v = .bool (Span.empty ⟨slo, shi, so⟩)) := by
 refine Fc.go [.tmp 2] Tryz.func86 Tryz.ntmps86 rfl (fun w0 => (g9 2 ?_))
 refine W.box (L := [sV _, sV _, .bool _]) rfl rfl (fun b3 => (g9 8 ?_))
 refine W.qcall (Zdd _ _ _ _) rfl (g9 6 ?_)
 refine congrArg Value.bool ?_
 exact Span.empty_eq ⟨slo, shi, so⟩

theorem ZeZ {G : GH}  :
    Fc Tryz.prog 81 [] G [] (fun v _ _ => v = .agg (List.toArray ((Span.all : Span).cells))) := by
 refine Fc.go [.cell 0 62] Tryz.func81 Tryz.ntmps81 rfl (fun w0 => (g9 2 ?_))
 refine W.alloc ZL (fun b6 => (g9 4 ?_))
 refine W.ok (ZE (L := [sV _, sV _, .bool _]) Xw ZL rfl rfl rfl) (g9 5 ?_)
 rfl

theorem Zcs {G : GH} (slo : Str) (shi : Str) (so : Bool) :
    Fc Tryz.prog 95 [.agg #[sV slo.b, sV shi.b, .bool so]] G [] (fun v _ _ => v = .bool (Span.empty ⟨slo, shi, so⟩)) := by
 refine Fc.go [.tmp 2] Tryz.func95 Tryz.ntmps95 rfl (fun w0 => (g9 2 ?_))
 refine W.box (L := [sV _, sV _, .bool _]) rfl rfl (fun b7 => (g9 9 ?_))
 refine W.sp 6 rfl (fun h5 => ?_) (fun h5 => ?_)
 ·refine g9 9 ?_
  refine W.ok (Zd8 rfl rfl) (g9 6 ?_)
  refine congrArg Value.bool ?_
  simp_all [Span.empty, Str.lt]
 refine g9 11 ?_
 refine congrArg Value.bool ?_
 simp_all [Span.empty, Str.lt]

theorem ZaE {G : GH} (slo : Str) (shi : Str) (so : Bool) :
    Fc Tryz.prog 99 [.agg #[sV slo.b, sV shi.b, .bool so]] G [] (fun v _ _ => v = .agg (List.toArray ((Span.norm ⟨slo, shi, so⟩ : Span).cells))) := by
 refine Fc.go [.cell 2 62] Tryz.func99 Tryz.ntmps99 rfl (fun w0 => (g9 2 ?_))
 refine W.box (L := [sV _, sV _, .bool _]) rfl rfl (fun b8 => (W.alloc ZL (fun b9 => (g9 7 ?_))))
 refine W.qcall (Zcs _ _ _) rfl (g9 3 ?_)
 refine WC.cond rfl (fun h5 => ?_) (fun h5 => ?_)
 ·refine g9 2 ?_
  refine W.ok (ZE (L := [sV _, sV _, .bool _]) Xw ZL rfl rfl rfl) (g9 7 ?_)
  refine congrArg (fun l => Value.agg (List.toArray l)) ?_
  show [Value.string _, Value.string _, Value.bool _] = _
  simp_all [Span.norm, Span.cells, Span.zero, Str.nil, Ye]
 refine g9 7 ?_
 refine WC.cond rfl (fun ha_so => ?_) (fun ha_so => ?_)
 ·refine g9 14 ?_
  refine congrArg (fun l => Value.agg (List.toArray l)) ?_
  show [Value.string _, Value.string _, Value.bool _] = _
  simp_all [Span.norm, Span.cells, Span.zero, Str.nil, Ye]
 refine g9 11 ?_
 refine congrArg (fun l => Value.agg (List.toArray l)) ?_
 show [Value.string _, Value.string _, Value.bool _] = _
 simp_all [Span.norm, Span.cells, Span.zero, Str.nil, Ye]

theorem Zde {G : GH} (slo : Str) (shi : Str) (so : Bool) (k : Str) :
    Fc Tryz.prog 136 [.agg #[sV slo.b, sV shi.b, .bool so], sV k.b] G [] (fun v _ _ => v = .bool (Span.has ⟨slo, shi, so⟩ k)) := by
 refine Fc.go [.tmp 4] Tryz.func136 Tryz.ntmps136 rfl (fun w0 => (g9 2 ?_))
 refine W.box (L := [sV _, sV _, .bool _]) rfl rfl (fun b10 => (g9 8 ?_))
 refine W.ok (Zd8 rfl rfl) (W.mv ?_)
 refine W.sp 9 rfl (fun h8 => ?_) (fun h8 => ?_)
 ·refine g9 6 ?_
  refine W.sp 12 rfl (fun ha_so => ?_) (fun ha_so => ?_)
  ·refine g9 12 ?_
   refine congrArg Value.bool ?_
   simp_all [Span.has, Str.lt]
  refine g9 16 ?_
  refine congrArg Value.bool ?_
  simp_all [Span.has, Str.lt]
 refine g9 14 ?_
 refine congrArg Value.bool ?_
 simp_all [Span.has, Str.lt]

theorem Ze0 {G : GH} {v_p : Value} {p : List Str} (h_p : SlR Yf G v_p p) {v_c : Value} {c : List Int} (h_c : SlR ZA G v_c c) :
    Fc Tryz.prog 180 [v_p, v_c] G [] (fun v _ _ => v = .bool (YC p c.length)) := by
 obtain ⟨sa_p, sc_p, rfl⟩ := h_p.form
 obtain ⟨sa_c, sc_c, rfl⟩ := h_c.form
 have hc := h_c.len47
 have hp := h_p.len47
 refine Fc.go [.tmp 4] Tryz.func180 Tryz.ntmps180 rfl (fun w0 => (g9 12 ?_))
 refine WC.loop (X := Nat) (fun k => [(5, nt9 (k + 1)), (0, lV sa_p p.length sc_p), (1, lV sa_c c.length sc_c)]) (fun k _ Ml => Ml = [] ∧ ∀ i (h : i + 1 < p.length), i < k → p[i].lt p[i + 1] = true) (fun k => p.length - k) 0 hs9 ?_ ?_
 ·exact ⟨rfl, fun i _ h => by omega⟩
 rintro k gG18 G18 _ hG18 ⟨rfl, hk⟩
 refine g9 9 ?_
 refine WC.cd (fun h9 p9 => ?_) (fun h9 p9 => ?_)
 ·refine g9 9 ?_
  refine (h_p.mono hG18).a1 (i := k) om9 (fun he19 => (W.ok (Yt (i := k) Ya ty9 (h_p.mono hG18) rfl rfl ⟨om9, om9⟩) (g9 3 ?_)))
  refine (h_p.mono hG18).a1 (i := k + 1) om9 (fun he22 => (W.ok (Yt (i := k + 1) Ya ty9 (h_p.mono hG18) rfl rfl ⟨om9, om9⟩) (g9 1 ?_)))
  refine W.ok (Zd8 rfl rfl) (g9 2 ?_)
  refine WC.cond rfl (fun h21 => ?_) (fun h21 => ?_)
  ·refine g9 12 ?_
   refine congrArg Value.bool ?_
   simp [YC, Zt3 (l := p) (i := k) om9 (by simpa [Str.lt] using h21)]
  refine g9 9 ?_
  exact ⟨Le.rfl, k + 1, hs9, ⟨rfl, fun i h hi => by
      by_cases e : i = k
      · subst e; simpa [Str.lt] using h21
      · exact hk i h om9⟩, om9⟩
 refine g9 11 ?_
 refine W.sd 25 (fun h24 p24 => ?_) (fun h24 p24 => ?_)
 ·refine g9 18 ?_
  refine congrArg Value.bool ?_
  simp only [YC, JZ.2 (fun i h => hk i h om9), Bool.true_and]
  first | (rw [decide_eq_decide]; omega) | (symm; rw [decide_eq_false_iff_not]; omega)
 refine g9 12 ?_
 refine congrArg Value.bool ?_
 simp only [YC, JZ.2 (fun i h => hk i h om9), Bool.true_and]
 first | (rw [decide_eq_decide]; omega) | (symm; rw [decide_eq_false_iff_not]; omega)

theorem Ze1 {G : GH} (a : Str) :
    Fc Tryz.prog 227 [sV a.b] G [] (fun v _ _ => v = .bool (false)) := by
 refine Fc.go [.tmp 2] Tryz.func227 Tryz.ntmps227 rfl (fun w0 => (g9 15 ?_))
 refine congrArg Value.bool ?_
 simp

theorem Zpc {G : GH} (a : Str) :
    Fc Tryz.prog 198 [sV a.b] G [] (fun v _ _ => v = .bool (false)) := by
 refine Fc.go [.tmp 2] Tryz.func198 Tryz.ntmps198 rfl (fun w0 => (g9 15 ?_))
 refine congrArg Value.bool ?_
 simp

theorem Zpd {G : GH} (a : Str) (b : Str) :
    Fc Tryz.prog 197 [sV a.b, sV b.b] G [] (fun v _ _ => v = .bool (Str.lt a b)) := by
 refine Fc.go [.tmp 4] Tryz.func197 Tryz.ntmps197 rfl (fun w0 => (g9 8 ?_))
 refine W.qcall (Ze1 _) rfl (W.mv ?_)
 refine W.sp 7 rfl (fun h6 => ?_) (fun h6 => ?_)
 ·cases h6
 refine g9 17 ?_
 refine congrArg Value.bool ?_
 rfl

theorem Zpe {G : GH} {v_l : Value} {l : List Str} (h_l : SlR Yf G v_l l) (k : Str) (hr : ZX l = true) :
    Fc Tryz.prog 163 [v_l, sV k.b] G [] (fun v _ _ => v = .tuple #[iV (((YK l k : Nat) : Int)), .bool (decide (l[YK l k]? = some k))]) := by
 obtain ⟨sa_l, sc_l, rfl⟩ := h_l.form
 have hlen := h_l.len47
 refine Fc.go [.tmp 4, .tmp 5] Tryz.func163 Tryz.ntmps163 rfl (fun w0 => (g9 22 ?_))
 refine WC.loop (X := Nat × Nat) (fun x => [(6, nt9 l.length), (7, nt9 x.1), (8, nt9 x.2), (0, lV sa_l l.length sc_l), (1, sV k.b)]) (fun x _ Ml => Ml = [] ∧ x.1 ≤ x.2 ∧ x.2 ≤ l.length ∧ (∀ q (h : q < l.length), q < x.1 → l[q].lt k = true) ∧ (∀ q (h : q < l.length), x.2 ≤ q → l[q].lt k = false)) (fun x => x.2 - x.1) (0, l.length) hs9 ?_ ?_
 ·exact ⟨rfl, by simp, by simp, (fun q _ h => by simp at h), (fun q h h' => by simp at h'; omega)⟩
 rintro ⟨i, j⟩ gG25 G25 _ hG25 ⟨rfl, hi, hj, h1, h2⟩
 dsimp only at hi hj h1 h2
 refine g9 8 ?_
 refine WC.cd (fun h15 p15 => ?_) (fun h15 p15 => ?_)
 ·refine g9 8 ?_
  refine W.ok (ZgD un3 ZbC rfl om9) (W.ok (ZgF rfl rfl om9) (W.ok (ZgE ZbC un3 rfl om9) (g9 7 ?_)))
  refine (h_l.mono hG25).a1 (i := (i + j) / 2) om9 (fun he26 => (W.ok (Yt (i := (i + j) / 2) Ya ty9 (h_l.mono hG25) rfl rfl ⟨by dsimp only; omega, om9⟩) (g9 2 ?_)))
  refine W.qcall (Zpd _ _) rfl (g9 2 ?_)
  refine WC.cond rfl (fun h27 => ?_) (fun h27 => ?_)
  ·refine g9 7 ?_
   exact ⟨Le.rfl, ((i + j) / 2 + 1, j), hs9, ⟨rfl, by dsimp only; omega, by dsimp only; omega, (fun q h hq => Zt4 hr om9 h27 q h (by dsimp only at hq; omega)), h2⟩, by dsimp only; omega⟩
  refine g9 6 ?_
  exact ⟨Le.rfl, (i, (i + j) / 2), hs9, ⟨rfl, by dsimp only; omega, by dsimp only; omega, h1, (fun q h hq => ZlM hr om9 h27 q h (by dsimp only at hq; omega))⟩, by dsimp only; omega⟩
 refine g9 12 ?_
 refine W.sd 35 (fun h34 p34 => ?_) (fun h34 p34 => ?_)
 ·refine g9 5 ?_
  refine (h_l.mono hG25).a1 (i := i) om9 (fun he29 => (g9 9 ?_))
  refine W.sd 42 (fun h41 p41 => ?_) (fun h41 p41 => ?_)
  ·refine g9 18 ?_
   have hlow : YK l k = i := Zeg om9 h1 (fun q h hq => h2 q h om9)
   refine Zbh (by rw [hlow]) ?_
   rw [hlow]
   simp only [Str.b_inj] at p41
   rw [List.getElem?_eq_getElem om9]
   simp [p41]
  refine g9 5 ?_
  refine (h_l.mono hG25).a1 (i := i) om9 (fun he32 => (g9 4 ?_))
  refine W.qcall (Zpc _) rfl (g9 2 ?_)
  refine W.sp 48 rfl (fun h47 => ?_) (fun h47 => ?_)
  ·cases h47
  refine g9 13 ?_
  have hlow : YK l k = i := Zeg om9 h1 (fun q h hq => h2 q h om9)
  refine Zbh (by rw [hlow]) ?_
  rw [hlow]
  simp only [Str.b_inj] at p41
  rw [List.getElem?_eq_getElem om9]
  simp [p41]
 refine g9 24 ?_
 have hlow : YK l k = i := Zeg om9 h1 (fun q h hq => h2 q h om9)
 refine Zbh (by rw [hlow]) ?_
 rw [hlow]
 rw [List.getElem?_eq_none om9] <;> simp

theorem ZbD {G : GH} {v_l : Value} {l : List Str} (h_l : SlR Yf G v_l l) (k : Str) (hr : ZX l = true) :
    Fc Tryz.prog 124 [v_l, sV k.b] G [] (fun v _ _ => v = iV (((Ze l k : Nat) : Int))) := by
 obtain ⟨sa_l, sc_l, rfl⟩ := h_l.form
 have hlo := ZlN l k
 have hlen := h_l.len47
 refine Fc.go [.tmp 4] Tryz.func124 Tryz.ntmps124 rfl (fun w0 => (g9 9 ?_))
 refine W.qcall (Zpe h_l _ (by assumption)) rfl (g9 13 ?_)
 refine WC.cond rfl (fun h10_1 => ?_) (fun h10_1 => ?_)
 ·refine g9 14 ?_
  exact iv (ZlO hr (odt h10_1))
 refine g9 10 ?_
 exact iv (ZlP hr (odf h10_1))

theorem ZaF {G : GH} {v_l : Value} {l : List Str} (h_l : SlR Yf G v_l l) (i : Int) (hi : i64 i) :
    Fc Tryz.prog 128 [v_l, iV i] G [] (fun v _ _ => v = .agg (List.toArray ((Zf l i : Span).cells))) := by
 obtain ⟨sa_l, sc_l, rfl⟩ := h_l.form
 have hl := h_l.len47
 obtain ⟨hi1, hi2⟩ := hi
 refine Fc.go [.cell 4 62] Tryz.func128 Tryz.ntmps128 rfl (fun w0 => (WC.sr (W.alloc ZL (fun b46 => (W.nt (WC.seq (WC.sr (W.mv (W.ok (Zd6 rfl rfl) (W.mv ?_))))))))))
 refine W.sd 8 (fun h7 p7 => ?_) (fun h7 p7 => ?_)
 ·refine W.n8 h7 rfl (W.n8 h7 rfl (W.n8 h7 rfl (W.n8 h7 rfl (W.ok (Zlo rfl h7) (W.nt (WC.cond_t rfl rfl (WC.sr (W.ok (ZE (L := [sV _, sV _, .bool _]) Xw ZL rfl rfl rfl) (W.st 0 sp9 sp9 Yq rfl (W.nt (WC.rt ?_)))))))))))
  refine ⟨.inr rfl, [_], ⟨⟨_, _, _, _, _, rfl, YF (i := 0) rfl, Yq, (by simp), rfl, rfl⟩, trivial⟩, [], sn9, ?_⟩
  refine congrArg (fun l => Value.agg (List.toArray l)) ?_
  show [Value.string _, Value.string _, Value.bool _] = _
  rw [ZgK om9]; rfl
 refine W.y9 h7 rfl (W.mv (W.y9 h7 rfl (W.mv (W.y9 h7 rfl (W.ok (Zd9 Ya h_l rfl) (W.y9 h7 rfl (W.ok (Zgy rfl rfl) (W.ok (Zlp rfl h7) (W.nt ?_)))))))))
 refine WC.cd (fun h12 p12 => ?_) (fun h12 p12 => ?_)
 ·refine WC.sr (W.ok (ZE (L := [sV _, sV _, .bool _]) Xw ZL rfl rfl rfl) (W.st 0 sp9 sp9 Yq rfl (W.nt (WC.rt ?_))))
  refine ⟨.inr rfl, [_], ⟨⟨_, _, _, _, _, rfl, YF (i := 0) rfl, Yq, (by simp), rfl, rfl⟩, trivial⟩, [], sn9, ?_⟩
  refine congrArg (fun l => Value.agg (List.toArray l)) ?_
  show [Value.string _, Value.string _, Value.bool _] = _
  rw [ZgK om9]; rfl
 refine WC.sk (WC.sr (W.qcall (ZeZ) rfl (W.alloc ZL (fun b47 => (W.st 0 sp9 sp9 Yq rfl (W.nt (WC.seq (WC.sr (W.mv (W.ok (Zgy rfl rfl) (W.nt ?_)))))))))))
 refine WC.cd (fun h17 p17 => ?_) (fun h17 p17 => ?_)
 ·refine WC.region (W.mv (W.mv (W.ok (Zaz rfl rfl om9) (h_l.a1 (i := (i - 1).toNat) om9 (fun he48 => (W.ok (Yt (i := (i - 1).toNat) Ya ty9 h_l rfl rfl ⟨om9, om9⟩) (W.ok (Zb2 (vs := sc9) ty9 he48 rfl rfl rfl (by simp)) (W.fb Zh8 rfl (W.st 0 sc9 sp9 ty9 rfl (W.nt (WC.seq (WC.sr (W.mv (W.mv ?_))))))))))))))
  refine W.ok (Zd9 Ya h_l rfl) (W.ok (Zd6 rfl rfl) (W.nt ?_))
  refine WC.cd (fun h27 p27 => ?_) (fun h27 p27 => ?_)
  ·refine WC.region (W.mv (W.mv (h_l.a1 (i := i.toNat) om9 (fun he51 => (W.ok (Yt (i := i.toNat) Ya ty9 h_l rfl rfl ⟨om9, om9⟩) (W.ok (Zb2 (vs := sc9) ty9 he51 rfl rfl rfl (by simp)) (W.fb ZeW rfl (W.st 0 sc9 sp9 ty9 rfl (W.fb ZeV rfl (W.st 0 bc9 sp9 ty4 rfl (W.ns (W.ok (Zdc 0 sp9 Yq rfl) (W.qcall (ZaE _ _ _) rfl (W.st 1 sp9 sp9 Yq rfl ?_))))))))))))))
   refine W.nt (WC.ret ?_)
   refine ⟨.inr rfl, [_], ⟨⟨_, _, _, _, _, rfl, YF (i := 1) rfl, Yq, (by simp), rfl, rfl⟩, trivial⟩, [], sn9, ?_⟩
   exact congrArg (fun s : Span => Value.agg (List.toArray s.cells)) (Zt6 p17 p27 om9 om9)
  refine WC.sk (WC.sr (W.ok (Zdc 0 sp9 Yq rfl) (W.qcall (ZaE _ _ _) rfl (W.st 1 sp9 sp9 Yq rfl (W.nt (WC.ret ?_))))))
  refine ⟨.inr rfl, [_], ⟨⟨_, _, _, _, _, rfl, YF (i := 1) rfl, Yq, (by simp), rfl, rfl⟩, trivial⟩, [], sn9, ?_⟩
  exact congrArg (fun s : Span => Value.agg (List.toArray s.cells)) (Zt7 p17 p27 om9 om9)
 refine WC.sk (WC.seq (WC.sr (W.mv (W.mv (W.ok (Zd9 Ya h_l rfl) (W.ok (Zd6 rfl rfl) (W.nt ?_)))))))
 refine WC.cd (fun h27 p27 => ?_) (fun h27 p27 => ?_)
 ·refine WC.region (W.mv (W.mv (h_l.a1 (i := i.toNat) om9 (fun he54 => (W.ok (Yt (i := i.toNat) Ya ty9 h_l rfl rfl ⟨om9, om9⟩) (W.ok (Zb2 (vs := sc9) ty9 he54 rfl rfl rfl (by simp)) (W.fb ZeW rfl (W.st 0 sc9 sp9 ty9 rfl (W.fb ZeV rfl (W.st 0 bc9 sp9 ty4 rfl (W.ns (W.ok (Zdc 0 sp9 Yq rfl) (W.qcall (ZaE _ _ _) rfl (W.st 1 sp9 sp9 Yq rfl ?_))))))))))))))
  refine W.nt (WC.ret ?_)
  refine ⟨.inr rfl, [_], ⟨⟨_, _, _, _, _, rfl, YF (i := 1) rfl, Yq, (by simp), rfl, rfl⟩, trivial⟩, [], sn9, ?_⟩
  exact congrArg (fun s : Span => Value.agg (List.toArray s.cells)) (Zt8 om9 p17 p27 om9)
 refine WC.sk (WC.sr (W.ok (Zdc 0 sp9 Yq rfl) (W.qcall (ZaE _ _ _) rfl (W.st 1 sp9 sp9 Yq rfl (W.nt (WC.ret ?_))))))
 refine ⟨.inr rfl, [_], ⟨⟨_, _, _, _, _, rfl, YF (i := 1) rfl, Yq, (by simp), rfl, rfl⟩, trivial⟩, [], sn9, ?_⟩
 exact congrArg (fun s : Span => Value.agg (List.toArray s.cells)) (Zt9 om9 p17 p27 om9)

theorem J6 {G : GH} (alo : Str) (ahi : Str) (ao : Bool) (blo : Str) (bhi : Str) (bo : Bool) :
    Fc Tryz.prog 101 [.agg #[sV alo.b, sV ahi.b, .bool ao], .agg #[sV blo.b, sV bhi.b, .bool bo]] G [] (fun v _ _ => v = .agg (List.toArray ((Span.meet ⟨alo, ahi, ao⟩ ⟨blo, bhi, bo⟩ : Span).cells))) := by
 refine Fc.go [.cell 4 62] Tryz.func101 Tryz.ntmps101 rfl (fun w0 => (g9 2 ?_))
 refine W.box (L := [sV _, sV _, .bool _]) rfl rfl (fun b5 => (W.box (L := [sV _, sV _, .bool _]) rfl rfl (fun b6 => (W.alloc ZL (fun b7 => (g9 8 ?_))))))
 refine W.ok (Zum rfl rfl) (g9 3 ?_)
 refine W.sp 13 rfl (fun ha_ao => ?_) (fun ha_ao => ?_)
 ·refine g9 5 ?_
  refine W.ok (ZE (L := [sV _, sV _, .bool _]) Xw ZL rfl rfl rfl) (W.alloc ZL (fun b8 => (g9 24 ?_)))
  refine W.qcall (ZaE _ _ _) rfl (g9 5 ?_)
  refine congrArg (fun l => Value.agg (List.toArray l)) ?_
  show [Value.string _, Value.string _, Value.bool _] = _
  rw [← Zem]
  simp_all [Ye] <;> rfl
 refine g9 3 ?_
 refine W.ok (ZE (L := [sV _, sV _, .bool _]) Xw ZL rfl rfl rfl) (W.alloc ZL (fun b9 => (g9 20 ?_)))
 refine WC.cond rfl (fun ha_bo => ?_) (fun ha_bo => ?_)
 ·refine g9 11 ?_
  refine W.qcall (ZaE _ _ _) rfl (g9 5 ?_)
  refine congrArg (fun l => Value.agg (List.toArray l)) ?_
  show [Value.string _, Value.string _, Value.bool _] = _
  rw [← Zem]
  simp_all [Ye] <;> rfl
 refine g9 5 ?_
 refine W.ok (Zun rfl rfl) (g9 8 ?_)
 refine W.qcall (ZaE _ _ _) rfl (g9 5 ?_)
 refine congrArg (fun l => Value.agg (List.toArray l)) ?_
 show [Value.string _, Value.string _, Value.bool _] = _
 rw [← Zem]
 simp_all [Ye] <;> rfl

theorem Zpf {G : GH} (k : Str) (hk : k.b.size < 140737488355328) :
    Fc Tryz.prog 147 [sV k.b] G [] (fun v _ _ => v = sV (Str.b (k.next))) := by
 refine Fc.go [.tmp 2] Tryz.func147 Tryz.ntmps147 rfl (fun w0 => (g9 8 ?_))
 refine W.ok (Zbj rfl rfl (by show _ + 1 ≤ _; omega)) (g9 5 ?_)
 refine congrArg Value.string ?_
 exact (Str.next_b hk).symm

theorem Zif {G : GH} (k : Str) (hk : k.b.size < 140737488355328) :
    Fc Tryz.prog 103 [sV k.b] G [] (fun v _ _ => v = .agg (List.toArray ((⟨k, k.next, false⟩ : Span).cells))) := by
 refine Fc.go [.cell 2 62] Tryz.func103 Tryz.ntmps103 rfl (fun w0 => (g9 2 ?_))
 refine W.alloc ZL (fun b10 => (g9 6 ?_))
 refine W.qcall (Zpf _ (by first | assumption | omega | (dsimp only; omega))) rfl (W.ok (ZE (L := [sV _, sV _, .bool _]) Xw ZL rfl rfl rfl) (g9 5 ?_))
 rfl

theorem Zct {G : GH} (ms : Int) (mk : Int) (mkey : Str) (mhi : Str) (mo : Bool) (mv : Str) (hk : mkey.b.size < 140737488355328) :
    Fc Tryz.prog 137 [.agg #[iV ms, iV mk, sV mkey.b, sV mhi.b, .bool mo, sV mv.b]] G [] (fun v _ _ => v = .agg (List.toArray ((Msg.span (⟨ms, mk, mkey, mhi, mo, mv⟩ : Msg) : Span).cells))) := by
 refine Fc.go [.cell 2 62] Tryz.func137 Tryz.ntmps137 rfl (fun w0 => (g9 2 ?_))
 refine W.box (L := [iV _, iV _, sV _, sV _, .bool _, sV _]) rfl rfl (fun b11 => (W.alloc ZL (fun b12 => (g9 10 ?_))))
 refine WC.cd (fun h5 p5 => ?_) (fun h5 p5 => ?_)
 ·refine g9 8 ?_
  refine W.ok (ZE (L := [sV _, sV _, .bool _]) Xw ZL rfl rfl rfl) (g9 6 ?_)
  refine congrArg (fun l => Value.agg (List.toArray l)) ?_
  rw [Msg.span, if_pos p5]; rfl
 refine g9 6 ?_
 refine W.qcall (Zif _ (by first | assumption | omega | (dsimp only; omega))) rfl (g9 5 ?_)
 refine congrArg (fun l => Value.agg (List.toArray l)) ?_
 rw [Msg.span, if_neg p5] <;> simp [Span.cells, Str.next_b hk, Ye]

theorem Zig {G : GH} (ms : Int) (mk : Int) (mkey : Str) (mhi : Str) (mo : Bool) (mv : Str) (hk : mkey.b.size < 140737488355328) :
    Fc Tryz.prog 90 [.agg #[iV ms, iV mk, sV mkey.b, sV mhi.b, .bool mo, sV mv.b]] G [] (fun v _ _ => v = .agg (List.toArray ((Msg.span (⟨ms, mk, mkey, mhi, mo, mv⟩ : Msg) : Span).cells))) := by
 refine Fc.go [.cell 2 62] Tryz.func90 Tryz.ntmps90 rfl (fun w0 => (g9 2 ?_))
 refine W.box (L := [iV _, iV _, sV _, sV _, .bool _, sV _]) rfl rfl (fun b13 => (W.alloc ZL (fun b14 => (g9 10 ?_))))
 refine WC.cd (fun h5 p5 => ?_) (fun h5 p5 => ?_)
 ·refine g9 8 ?_
  refine W.ok (ZE (L := [sV _, sV _, .bool _]) Xw ZL rfl rfl rfl) (g9 6 ?_)
  refine congrArg (fun l => Value.agg (List.toArray l)) ?_
  rw [Msg.span, if_pos p5]; rfl
 refine g9 8 ?_
 refine W.ok (Zbj rfl rfl (by show _ + 1 ≤ _; omega)) (W.ok (ZE (L := [sV _, sV _, .bool _]) Xw ZL rfl rfl rfl) (g9 5 ?_))
 refine congrArg (fun l => Value.agg (List.toArray l)) ?_
 rw [Msg.span, if_neg p5] <;> simp [Span.cells, Str.next_b hk, Ye]

theorem Zpg {G : GH} (alo : Str) (ahi : Str) (ao : Bool) (blo : Str) (bhi : Str) (bo : Bool) :
    Fc Tryz.prog 127 [.agg #[sV alo.b, sV ahi.b, .bool ao], .agg #[sV blo.b, sV bhi.b, .bool bo]] G [] (fun v _ _ => v = .bool (!(Span.meet ⟨alo, ahi, ao⟩ ⟨blo, bhi, bo⟩).empty)) := by
 refine Fc.go [.tmp 4] Tryz.func127 Tryz.ntmps127 rfl (fun w0 => (g9 2 ?_))
 refine W.box (L := [sV _, sV _, .bool _]) rfl rfl (fun b15 => (W.box (L := [sV _, sV _, .bool _]) rfl rfl (fun b16 => (g9 7 ?_))))
 refine W.qcall (J6 _ _ _ _ _ _) rfl (W.qcall (Zcs _ _ _) rfl (g9 6 ?_))
 rfl

theorem Zph {G : GH} (ms : Int) (mk : Int) (mkey : Str) (mhi : Str) (mo : Bool) (mv : Str) (alo : Str) (ahi : Str) (ao : Bool) (hk : mkey.b.size < 140737488355328) :
    Fc Tryz.prog 240 [.agg #[iV ms, iV mk, sV mkey.b, sV mhi.b, .bool mo, sV mv.b], .agg #[sV alo.b, sV ahi.b, .bool ao]] G [] (fun v _ _ => v = .bool (!((Msg.span (⟨ms, mk, mkey, mhi, mo, mv⟩ : Msg)).meet ⟨alo, ahi, ao⟩).empty)) := by
 refine Fc.go [.tmp 4] Tryz.func240 Tryz.ntmps240 rfl (fun w0 => (g9 2 ?_))
 refine W.box (L := [iV _, iV _, sV _, sV _, .bool _, sV _]) rfl rfl (fun b17 => (W.box (L := [sV _, sV _, .bool _]) rfl rfl (fun b18 => (g9 6 ?_))))
 refine W.qcall (Zct _ _ _ _ _ _ (by first | assumption | omega | (dsimp only; omega))) rfl (g9 1 ?_)
 refine W.qcall (Zpg _ _ _ _ _ _) rfl (g9 5 ?_)
 rfl

theorem Ze2 {G : GH} (ms : Int) (mk : Int) (mkey : Str) (mhi : Str) (mo : Bool) (mv : Str) (alo : Str) (ahi : Str) (ao : Bool) (hk : mkey.b.size < 140737488355328) :
    Fc Tryz.prog 212 [.agg #[iV ms, iV mk, sV mkey.b, sV mhi.b, .bool mo, sV mv.b], .agg #[sV alo.b, sV ahi.b, .bool ao]] G [] (fun v _ _ => v = .tuple #[.agg (List.toArray ((Msg.clip (⟨ms, mk, mkey, mhi, mo, mv⟩ : Msg) ⟨alo, ahi, ao⟩).1.cells)), .bool ((Msg.clip (⟨ms, mk, mkey, mhi, mo, mv⟩ : Msg) ⟨alo, ahi, ao⟩).2)]) := by
 refine Fc.go [.cell 4 87, .tmp 5] Tryz.func212 Tryz.ntmps212 rfl (fun w0 => (g9 2 ?_))
 refine W.box (L := [iV _, iV _, sV _, sV _, .bool _, sV _]) rfl rfl (fun b26 => (W.box (L := [sV _, sV _, .bool _]) rfl rfl (fun b27 => (W.alloc ZT (fun b28 => (g9 8 ?_))))))
 refine W.qcall (Zph _ _ _ _ _ _ _ _ _ (by first | assumption | omega | (dsimp only; omega))) rfl (g9 3 ?_)
 refine WC.cond rfl (fun h10 => ?_) (fun h10 => ?_)
 ·refine g9 2 ?_
  refine W.ok (ZE (L := [iV _, iV _, sV _, sV _, .bool _, sV _]) Zda ZT rfl rfl rfl) (g9 7 ?_)
  show Value.tuple #[Value.agg (List.toArray [_, _, _, _, _, _]), Value.bool _] = _
  rw [J1 (by simpa using h10)]; rfl
 refine g9 10 ?_
 refine WC.cd (fun h14 p14 => ?_) (fun h14 p14 => ?_)
 ·refine WC.seq (WC.dw ((sr9.k9.k9).k9) (d9 [0, 2] ?_))
  refine WD.any [1, 4] (by kernel_rfl) rfl ⟨WD.ap ?_, WD.ap ?_, trivial⟩
  ·refine W.qcall (Zct _ _ _ _ _ _ (by first | assumption | omega | (dsimp only; omega))) rfl (W.nn ?_)
   refine WD.any [3, 4] (by kernel_rfl) rfl ⟨WD.ap ?_, WD.ap ?_, trivial⟩
   ·refine W.qcall (J6 _ _ _ _ _ _) rfl (W.nn (WD.a1 4 rfl (W.alloc ZL (fun b29 => (W.nn (d9 [5] ?_))))))
    refine g9 2 ?_
    refine WC.dw ((((sr9.cons _).k9).k9).k9) (d9 [0, 1, 2, 3, 4, 5, 6, 7, 8, 9, 10, 11] ?_)
    refine g9 11 ?_
    show Value.tuple #[Value.agg (List.toArray [_, _, _, _, _, _]), Value.bool _] = _
    rw [J2 (by simpa using h10) p14]; rfl
   refine W.alloc ZL (fun b30 => (W.nn (WD.a1 3 rfl (W.qcall (J6 _ _ _ _ _ _) rfl (W.nn (d9 [5] ?_))))))
   refine g9 2 ?_
   refine WC.dw ((((sr9.cons _).k9).k9).k9) (d9 [0, 1, 2, 3, 4, 5, 6, 7, 8, 9, 10, 11] ?_)
   refine g9 11 ?_
   show Value.tuple #[Value.agg (List.toArray [_, _, _, _, _, _]), Value.bool _] = _
   rw [J2 (by simpa using h10) p14]; rfl
  refine W.alloc ZL (fun b31 => (W.nn (WD.a1 1 rfl (W.qcall (Zct _ _ _ _ _ _ (by first | assumption | omega | (dsimp only; omega))) rfl (W.nn (WD.a1 3 rfl (W.qcall (J6 _ _ _ _ _ _) rfl (W.nn (d9 [5] ?_)))))))))
  refine g9 2 ?_
  refine WC.dw ((((sr9.cons _).k9).k9).k9) (d9 [0, 1, 2, 3, 4, 5, 6, 7, 8, 9, 10, 11] ?_)
  refine g9 11 ?_
  show Value.tuple #[Value.agg (List.toArray [_, _, _, _, _, _]), Value.bool _] = _
  rw [J2 (by simpa using h10) p14]; rfl
 refine g9 11 ?_
 show Value.tuple #[Value.agg (List.toArray [_, _, _, _, _, _]), Value.bool _] = _
 rw [ZcV (by simpa using h10) p14]; rfl

theorem Zpi {G : GH} (s : Str) :
    Fc Tryz.prog 239 [sV s.b] G [] (fun v _ _ => v = sV (Str.b (s.tail))) := by
 have hs := s.le
 refine Fc.go [.tmp 2] Tryz.func239 Tryz.ntmps239 rfl (fun w0 => (g9 11 ?_))
 refine W.ok (Zd7 rfl rfl) (W.ok (ZgS (s.b.size - 16) (s.b.size) st9 rfl ⟨_, _, rfl, om9⟩ rfl ⟨om9, om9⟩) (g9 5 ?_))
 rfl

theorem Zih {G : GH} (a : Str) (b : Str) (ha : a.b.size ≤ 1048576) (hb : b.b.size ≤ 1048576) :
    Fc Tryz.prog 210 [sV a.b, sV b.b] G [] (fun v _ _ => v = sV (Str.b (a.add b))) := by
 refine Fc.go [.tmp 4] Tryz.func210 Tryz.ntmps210 rfl (fun w0 => (g9 9 ?_))
 refine W.ok (Ok.str (b := (a.cat b).b) (Zbj rfl rfl om9) ((Str.cat_b om9).symm)) (W.qcall (Zpi _) rfl (g9 5 ?_))
 exact congrArg (fun s => Value.string (Str.b s)) (Str.cat_tail om9)

theorem Zii {G : GH} (s : Str) :
    Fc Tryz.prog 179 [sV s.b] G [] (fun v _ _ => v = sV (Str.b (s.tail))) := by
 have hs := s.le
 refine Fc.go [.tmp 2] Tryz.func179 Tryz.ntmps179 rfl (fun w0 => (g9 20 ?_))
 refine WC.loop (X := Nat) (fun k => [(3, sV (s.cut (s.b.size - k) s.b.size).b), (4, iV ((s.b.size : Int) - 1 - ((k : Nat) : Int))), (0, sV s.b)]) (fun k _ Ml => Ml = [] ∧ k ≤ s.b.size ∧ k ≤ 16) (fun k => 17 - k) 0 ⟨(congrArg Value.string (Str.cut_nil om9).symm), (iv om9), eqv, trivial⟩ ?_ ?_
 ·exact ⟨rfl, om9, om9⟩
 rintro k gG1 G1 _ hG1 ⟨rfl, hk, hk16⟩
 have hz := s.cut_size (s.b.size - k) s.b.size
 refine g9 6 ?_
 refine W.sd 10 (fun h9 p9 => ?_) (fun h9 p9 => ?_)
 ·refine g9 9 ?_
  refine WC.cd (fun h13 p13 => ?_) (fun h13 p13 => ?_)
  ·refine g9 9 ?_
   refine W.ok (ZgS (s.b.size - 1 - k) (s.b.size - k) st9 rfl ⟨_, _, rfl, om9⟩ ⟨_, _, rfl, om9⟩ ⟨om9, om9⟩) (W.mv (W.ok (Zbj rfl rfl (by simp only [Str.cut_size]; omega)) (g9 10 ?_)))
   exact ⟨Le.rfl, k + 1, ⟨(congrArg Value.string (Str.cut_cat om9)), (iv om9), eqv, trivial⟩, ⟨rfl, om9, om9⟩, om9⟩
  refine g9 13 ?_
  have hk2 : s.b.size - k = s.b.size - 16 := by simp only [Str.cut_size] at *; omega
  rw [hk2]; rfl
 refine g9 20 ?_
 have hk2 : s.b.size - k = s.b.size - 16 := by simp only [Str.cut_size] at *; omega
 rw [hk2]; rfl

theorem Zij {G : GH} (s : Str) :
    Fc Tryz.prog 91 [sV s.b] G [] (fun v _ _ => v = .bool (decide (s.b.size ≤ 16))) := by
 have hs := s.le
 refine Fc.go [.tmp 2] Tryz.func91 Tryz.ntmps91 rfl (fun w0 => (g9 15 ?_))
 refine congrArg Value.bool ?_
 rw [decide_eq_decide]; omega

theorem Zpj {G : GH} (s : Str) :
    Fc Tryz.prog 92 [sV s.b] G [] (fun v _ _ => v = .bool (decide (s.b.size ≤ 16))) := by
 have hs := s.le
 refine Fc.go [.tmp 2] Tryz.func92 Tryz.ntmps92 rfl (fun w0 => (g9 15 ?_))
 refine congrArg Value.bool ?_
 rw [decide_eq_decide]; omega

theorem Zpk {G : GH} (ek : Int) (ev : Str) (has : Bool) (x : Str) (he : ev.b.size ≤ 1048576) (hv : x.b.size ≤ 1048576) :
    Fc Tryz.prog 141 [.agg #[iV ek, sV ev.b], .bool has, sV x.b] G [] (fun v _ _ => v = .tuple #[.bool (((Eff.apply (⟨ek, ev⟩ : Eff) (Z4 has x))).isSome), sV (Str.b (((Eff.apply (⟨ek, ev⟩ : Eff) (Z4 has x))).getD Str.nil))]) := by
 refine Fc.go [.tmp 6, .tmp 7] Tryz.func141 Tryz.ntmps141 rfl (fun w0 => (g9 2 ?_))
 refine W.box (L := [iV _, sV _]) rfl rfl (fun b2 => (g9 12 ?_))
 refine WC.cd (fun h10 p10 => ?_) (fun h10 p10 => ?_)
 ·refine g9 11 ?_
  show Value.tuple #[Value.bool _, Value.string _] = _
  simp_all [Eff.apply, Z4, Str.nil]
 refine g9 10 ?_
 refine WC.cd (fun h15 p15 => ?_) (fun h15 p15 => ?_)
 ·refine g9 9 ?_
  show Value.tuple #[Value.bool _, Value.string _] = _
  simp_all [Eff.apply, Z4, Str.nil]
 refine g9 9 ?_
 refine WC.cond rfl (fun h17 => ?_) (fun h17 => ?_)
 ·refine g9 12 ?_
  refine WC.cd (fun h20 p20 => ?_) (fun h20 p20 => ?_)
  ·refine g9 5 ?_
   refine W.ok (Ok.str (b := (Str.nil.cat ev).b) (Zbj rfl rfl ((by first | omega | (show 0 + ev.b.size ≤ _; omega)))) ((Str.cat_b (a := Str.nil) (by first | omega | (show 0 + ev.b.size ≤ _; omega))).symm)) (W.qcall (Zii _) rfl (g9 7 ?_))
   show Value.tuple #[Value.bool _, Value.string _] = _
   rw [Str.cat_tail (by first | omega | (show 0 + ev.b.size ≤ _; omega))]
   simp_all [Eff.apply, Z4, Str.nil]
  refine g9 12 ?_
  show Value.tuple #[Value.bool _, Value.string _] = _
  simp_all [Eff.apply, Z4, Str.nil]
 refine g9 10 ?_
 refine WC.cd (fun h20 p20 => ?_) (fun h20 p20 => ?_)
 ·refine g9 5 ?_
  refine W.ok (Ok.str (b := (x.cat ev).b) (Zbj rfl rfl ((by first | omega | (show 0 + ev.b.size ≤ _; omega)))) ((Str.cat_b om9).symm)) (W.qcall (Zii _) rfl (g9 7 ?_))
  show Value.tuple #[Value.bool _, Value.string _] = _
  rw [Str.cat_tail (by first | omega | (show 0 + ev.b.size ≤ _; omega))]
  simp_all [Eff.apply, Z4, Str.nil]
 refine g9 12 ?_
 show Value.tuple #[Value.bool _, Value.string _] = _
 simp_all [Eff.apply, Z4, Str.nil]

theorem Zdf {G : GH} (ek : Int) (ev : Str) (has : Bool) (x : Str) (he : ev.b.size ≤ 1048576) (hv : x.b.size ≤ 1048576) :
    Fc Tryz.prog 181 [.agg #[iV ek, sV ev.b], .bool has, sV x.b] G [] (fun v _ _ => v = .tuple #[.bool (((Eff.apply (⟨ek, ev⟩ : Eff) (Z4 has x))).isSome), sV (Str.b (((Eff.apply (⟨ek, ev⟩ : Eff) (Z4 has x))).getD Str.nil))]) := by
 refine Fc.go [.tmp 6, .tmp 7] Tryz.func181 Tryz.ntmps181 rfl (fun w0 => (g9 2 ?_))
 refine W.box (L := [iV _, sV _]) rfl rfl (fun b3 => (g9 11 ?_))
 refine WC.cond rfl (fun h9 => ?_) (fun h9 => ?_)
 ·refine g9 18 ?_
  refine WC.cd (fun h13 p13 => ?_) (fun h13 p13 => ?_)
  ·refine g9 12 ?_
   show Value.tuple #[Value.bool _, Value.string _] = _
   simp_all [Eff.apply, Z4, Str.nil]
  refine g9 6 ?_
  refine WC.cd (fun h17 p17 => ?_) (fun h17 p17 => ?_)
  ·refine g9 5 ?_
   refine W.qcall (Zih Str.nil ev (by show 0 ≤ 1048576; omega) (by assumption)) rfl (g9 8 ?_)
   show Value.tuple #[Value.bool _, Value.string _] = _
   simp_all [Eff.apply, Z4, Str.nil]
  refine g9 6 ?_
  refine WC.cd (fun h23 p23 => ?_) (fun h23 p23 => ?_)
  ·refine g9 10 ?_
   show Value.tuple #[Value.bool _, Value.string _] = _
   simp_all [Eff.apply, Z4, Str.nil]
  refine g9 13 ?_
  show Value.tuple #[Value.bool _, Value.string _] = _
  simp_all [Eff.apply, Z4, Str.nil]
 refine g9 16 ?_
 refine WC.cd (fun h13 p13 => ?_) (fun h13 p13 => ?_)
 ·refine g9 12 ?_
  show Value.tuple #[Value.bool _, Value.string _] = _
  simp_all [Eff.apply, Z4, Str.nil]
 refine g9 6 ?_
 refine WC.cd (fun h17 p17 => ?_) (fun h17 p17 => ?_)
 ·refine g9 5 ?_
  refine W.qcall (Zih x ev (by assumption) (by assumption)) rfl (g9 8 ?_)
  show Value.tuple #[Value.bool _, Value.string _] = _
  simp_all [Eff.apply, Z4, Str.nil]
 refine g9 6 ?_
 refine WC.cd (fun h23 p23 => ?_) (fun h23 p23 => ?_)
 ·refine g9 10 ?_
  show Value.tuple #[Value.bool _, Value.string _] = _
  simp_all [Eff.apply, Z4, Str.nil]
 refine g9 13 ?_
 show Value.tuple #[Value.bool _, Value.string _] = _
 simp_all [Eff.apply, Z4, Str.nil]

theorem Zdg {G : GH} (ms : Int) (mk : Int) (mkey : Str) (mhi : Str) (mo : Bool) (mv : Str) (k : Str) (hk : mkey.b.size < 140737488355328) :
    Fc Tryz.prog 80 [.agg #[iV ms, iV mk, sV mkey.b, sV mhi.b, .bool mo, sV mv.b], sV k.b] G [] (fun v _ _ => v = .agg (List.toArray ((Msg.on (⟨ms, mk, mkey, mhi, mo, mv⟩ : Msg) k).cells))) := by
 refine Fc.go [.cell 4 132] Tryz.func80 Tryz.ntmps80 rfl (fun w0 => (g9 2 ?_))
 refine W.box (L := [iV _, iV _, sV _, sV _, .bool _, sV _]) rfl rfl (fun b4 => (W.alloc XG (fun b5 => (g9 6 ?_))))
 refine W.qcall (Zct _ _ _ _ _ _ (by first | assumption | omega | (dsimp only; omega))) rfl (W.mv (W.qcall (Zde _ _ _ _) rfl (g9 3 ?_)))
 refine WC.cond rfl (fun h9 => ?_) (fun h9 => ?_)
 ·refine g9 2 ?_
  refine W.ok (ZE (L := [iV _, sV _]) Jq XG rfl rfl rfl) (g9 6 ?_)
  refine congrArg (fun l => Value.agg (List.toArray l)) ?_
  show [Value.int _ _, Value.string _] = _
  first | (simp_all [Msg.on, Eff.cells, Eff.zero, Str.nil]; done) | (simp_all [Msg.on, Eff.cells, Eff.zero, Str.nil]; split <;> first | (exfalso; omega) | (simp; done) | (split <;> first | (exfalso; omega) | (simp; done)))
 refine g9 17 ?_
 refine WC.cd (fun h14 p14 => ?_) (fun h14 p14 => ?_)
 ·refine g9 9 ?_
  refine W.ok (ZE (L := [iV _, sV _]) Jq XG rfl rfl rfl) (g9 7 ?_)
  refine congrArg (fun l => Value.agg (List.toArray l)) ?_
  show [Value.int _ _, Value.string _] = _
  first | (simp_all [Msg.on, Eff.cells, Eff.zero, Str.nil]; done) | (simp_all [Msg.on, Eff.cells, Eff.zero, Str.nil]; split <;> first | (exfalso; omega) | (simp; done) | (split <;> first | (exfalso; omega) | (simp; done)))
 refine g9 5 ?_
 refine WC.cd (fun h15 p15 => ?_) (fun h15 p15 => ?_)
 ·refine g9 6 ?_
  refine W.ok (ZE (L := [iV _, sV _]) Jq XG rfl rfl rfl) (g9 7 ?_)
  refine congrArg (fun l => Value.agg (List.toArray l)) ?_
  show [Value.int _ _, Value.string _] = _
  first | (simp_all [Msg.on, Eff.cells, Eff.zero, Str.nil]; done) | (simp_all [Msg.on, Eff.cells, Eff.zero, Str.nil]; split <;> first | (exfalso; omega) | (simp; done) | (split <;> first | (exfalso; omega) | (simp; done)))
 refine g9 7 ?_
 refine WC.cd (fun h22 p22 => ?_) (fun h22 p22 => ?_)
 ·refine g9 5 ?_
  refine W.ok (ZE (L := [iV _, sV _]) Jq XG rfl rfl rfl) (g9 7 ?_)
  refine congrArg (fun l => Value.agg (List.toArray l)) ?_
  show [Value.int _ _, Value.string _] = _
  first | (simp_all [Msg.on, Eff.cells, Eff.zero, Str.nil]; done) | (simp_all [Msg.on, Eff.cells, Eff.zero, Str.nil]; split <;> first | (exfalso; omega) | (simp; done) | (split <;> first | (exfalso; omega) | (simp; done)))
 refine g9 5 ?_
 refine WC.cd (fun h23 p23 => ?_) (fun h23 p23 => ?_)
 ·refine g9 2 ?_
  refine W.ok (ZE (L := [iV _, sV _]) Jq XG rfl rfl rfl) (g9 7 ?_)
  refine congrArg (fun l => Value.agg (List.toArray l)) ?_
  show [Value.int _ _, Value.string _] = _
  first | (simp_all [Msg.on, Eff.cells, Eff.zero, Str.nil]; done) | (simp_all [Msg.on, Eff.cells, Eff.zero, Str.nil]; split <;> first | (exfalso; omega) | (simp; done) | (split <;> first | (exfalso; omega) | (simp; done)))
 refine g9 5 ?_
 refine W.ok (ZE (L := [iV _, sV _]) Jq XG rfl rfl rfl) (g9 5 ?_)
 refine congrArg (fun l => Value.agg (List.toArray l)) ?_
 show [Value.int _ _, Value.string _] = _
 first | (simp_all [Msg.on, Eff.cells, Eff.zero, Str.nil]; done) | (simp_all [Msg.on, Eff.cells, Eff.zero, Str.nil]; split <;> first | (exfalso; omega) | (simp; done) | (split <;> first | (exfalso; omega) | (simp; done)))

theorem Zpl {G : GH} (ms : Int) (mk : Int) (mkey : Str) (mhi : Str) (mo : Bool) (mv : Str) (k : Str) (hk : mkey.b.size < 140737488355328) :
    Fc Tryz.prog 89 [.agg #[iV ms, iV mk, sV mkey.b, sV mhi.b, .bool mo, sV mv.b], sV k.b] G [] (fun v _ _ => v = .agg (List.toArray ((Msg.on (⟨ms, mk, mkey, mhi, mo, mv⟩ : Msg) k).cells))) := by
 refine Fc.go [.cell 4 132] Tryz.func89 Tryz.ntmps89 rfl (fun w0 => (g9 2 ?_))
 refine W.box (L := [iV _, iV _, sV _, sV _, .bool _, sV _]) rfl rfl (fun b6 => (W.alloc XG (fun b7 => (g9 6 ?_))))
 refine W.qcall (Zig _ _ _ _ _ _ (by first | assumption | omega | (dsimp only; omega))) rfl (W.mv (W.qcall (Zdd _ _ _ _) rfl (g9 2 ?_)))
 refine W.sp 10 rfl (fun h9 => ?_) (fun h9 => ?_)
 ·refine g9 14 ?_
  refine W.ok (ZE (L := [iV _, sV _]) Jq XG rfl rfl rfl) (g9 6 ?_)
  refine congrArg (fun l => Value.agg (List.toArray l)) ?_
  show [Value.int _ _, Value.string _] = _
  first | (simp_all [Msg.on, Eff.cells, Eff.zero, Str.nil]; done) | (simp_all [Msg.on, Eff.cells, Eff.zero, Str.nil]; split <;> first | (exfalso; omega) | (simp; done) | (split <;> first | (exfalso; omega) | (simp; done)))
 refine g9 8 ?_
 refine W.sd 15 (fun h13 p13 => ?_) (fun h13 p13 => ?_)
 ·refine g9 9 ?_
  refine W.ok (ZE (L := [iV _, sV _]) Jq XG rfl rfl rfl) (g9 6 ?_)
  refine congrArg (fun l => Value.agg (List.toArray l)) ?_
  show [Value.int _ _, Value.string _] = _
  first | (simp_all [Msg.on, Eff.cells, Eff.zero, Str.nil]; done) | (simp_all [Msg.on, Eff.cells, Eff.zero, Str.nil]; split <;> first | (exfalso; omega) | (simp; done) | (split <;> first | (exfalso; omega) | (simp; done)))
 refine g9 9 ?_
 refine WC.cd (fun h18 p18 => ?_) (fun h18 p18 => ?_)
 ·refine g9 2 ?_
  refine W.ok (ZE (L := [iV _, sV _]) Jq XG rfl rfl rfl) (g9 6 ?_)
  refine congrArg (fun l => Value.agg (List.toArray l)) ?_
  show [Value.int _ _, Value.string _] = _
  first | (simp_all [Msg.on, Eff.cells, Eff.zero, Str.nil]; done) | (simp_all [Msg.on, Eff.cells, Eff.zero, Str.nil]; split <;> first | (exfalso; omega) | (simp; done) | (split <;> first | (exfalso; omega) | (simp; done)))
 refine g9 10 ?_
 refine WC.cd (fun h23 p23 => ?_) (fun h23 p23 => ?_)
 ·refine g9 2 ?_
  refine W.ok (ZE (L := [iV _, sV _]) Jq XG rfl rfl rfl) (g9 6 ?_)
  refine congrArg (fun l => Value.agg (List.toArray l)) ?_
  show [Value.int _ _, Value.string _] = _
  first | (simp_all [Msg.on, Eff.cells, Eff.zero, Str.nil]; done) | (simp_all [Msg.on, Eff.cells, Eff.zero, Str.nil]; split <;> first | (exfalso; omega) | (simp; done) | (split <;> first | (exfalso; omega) | (simp; done)))
 refine g9 8 ?_
 refine W.ok (ZE (L := [iV _, sV _]) Jq XG rfl rfl rfl) (g9 5 ?_)
 refine congrArg (fun l => Value.agg (List.toArray l)) ?_
 show [Value.int _ _, Value.string _] = _
 first | (simp_all [Msg.on, Eff.cells, Eff.zero, Str.nil]; done) | (simp_all [Msg.on, Eff.cells, Eff.zero, Str.nil]; split <;> first | (exfalso; omega) | (simp; done) | (split <;> first | (exfalso; omega) | (simp; done)))

theorem Ze3 {G : GH} {v_a : Value} {a : List Pair} (h_a : SlR Zl G v_a a) {v_b : Value} {b : List Pair} (h_b : SlR Zl G v_b b) :
    Fc Tryz.prog 17 [v_a, v_b] G [] (fun v _ _ => v = .bool (decide (a = b))) := by
 obtain ⟨sa_a, sc_a, rfl⟩ := h_a.form
 obtain ⟨sa_b, sc_b, rfl⟩ := h_b.form
 have ha := h_a.len47
 have hb := h_b.len47
 refine Fc.go [.tmp 4] Tryz.func17 Tryz.ntmps17 rfl (fun w0 => (g9 15 ?_))
 refine WC.cn (fun h10 p10 => ?_) (fun h10 p10 => ?_)
 ·refine g9 8 ?_
  refine congrArg Value.bool ?_
  exact (decide_eq_false fun e => by subst e; omega).symm
 have hab : a.length = b.length := by omega
 refine g9 9 ?_
 refine WC.loop (X := Nat) (fun k => [(5, nt9 k), (0, lV sa_a a.length sc_a), (1, lV sa_b b.length sc_b)]) (fun k _ Ml => Ml = [] ∧ k ≤ a.length ∧ ∀ i (h : i < a.length) (h2 : i < b.length), i < k → a[i] = b[i]) (fun k => a.length - k) 0 hs9 ?_ ?_
 ·exact ⟨rfl, om9, fun i _ _ h => by omega⟩
 rintro k gG1 G1 _ hG1 ⟨rfl, hk0, hk⟩
 refine g9 9 ?_
 refine WC.cd (fun h14 p14 => ?_) (fun h14 p14 => ?_)
 ·refine g9 8 ?_
  refine (h_a.mono hG1).a1 (i := k) om9 (fun he2 => (g9 4 ?_))
  refine (h_b.mono hG1).a1 (i := k) om9 (fun he5 => (g9 2 ?_))
  refine W.ok (ZtZ (L1 := [sV _, sV _]) (L2 := [sV _, sV _]) ZoB rfl rfl rfl rfl) (g9 2 ?_)
  refine WC.cond rfl (fun h25 => ?_) (fun h25 => ?_)
  ·refine g9 12 ?_
   refine congrArg Value.bool ?_
   exact (decide_eq_false fun e => by subst e; exact Pair.ne_of h25 rfl).symm
  refine g9 9 ?_
  exact ⟨Le.rfl, k + 1, hs9, ⟨rfl, om9, fun i h h2 hi => by
      by_cases e : i = k
      · subst e; exact Pair.eq_of h25
      · exact hk i h h2 om9⟩, om9⟩
 refine g9 12 ?_
 refine congrArg Value.bool ?_
 exact (decide_eq_true (List.ext_getElem om9 fun i h h2 => hk i h h2 om9)).symm

theorem XX {G : GH} {v_a : Value} {a : List Pair} (h_a : SlR Zl G v_a a) :
    Fc Tryz.prog 146 [v_a] G [] (fun v G' M' => M' = [] ∧ ∃ u0, v = u0 ∧ SlR Zl G' u0 (a)) := by
 obtain ⟨sa_a, sc_a, rfl⟩ := h_a.form
 have ha := h_a.bytes
 refine Fc.go [.tmp 2] Tryz.func146 Tryz.ntmps146 rfl (fun w0 => (g9 9 ?_))
 refine W.ok (ZaR Zy rfl rfl) (g9 2 ?_)
 refine WC.cond rfl (fun h4 => ?_) (fun h4 => ?_)
 ·have hn := SlR.isNone h_a h4
  subst hn
  refine g9 8 ?_
  refine ⟨rfl, _, rfl, ?_⟩
  · exact SlR.nil
 refine g9 4 ?_
 refine W.lit0 (e := Zl) Zy Zz Yy rfl (fun v21 Ms22 ho23 => (W.mv (W.app (e := Zl) Zy Zz Yy rfl JA rfl rfl (ho23) (h_a) pr9 (by simpa using ha) (fun v24 Ms25 ho26 => (g9 3 ?_)))))
 refine WC.giveO ho26 pr9 (fun G27 hG27 hv27 => (g9 2 ?_))
 refine ⟨rfl, _, rfl, ?_⟩
 · exact hv27

theorem JD {G : GH} {v_a : Value} {a : List Msg} (h_a : SlR Zs G v_a a) :
    Fc Tryz.prog 160 [v_a] G [] (fun v G' M' => M' = [] ∧ ∃ u0, v = u0 ∧ SlR Zs G' u0 (a)) := by
 obtain ⟨sa_a, sc_a, rfl⟩ := h_a.form
 have ha := h_a.bytes
 refine Fc.go [.tmp 2] Tryz.func160 Tryz.ntmps160 rfl (fun w0 => (g9 9 ?_))
 refine W.ok (ZaR ZY rfl rfl) (g9 2 ?_)
 refine WC.cond rfl (fun h4 => ?_) (fun h4 => ?_)
 ·have hn := SlR.isNone h_a h4
  subst hn
  refine g9 8 ?_
  refine ⟨rfl, _, rfl, ?_⟩
  · exact SlR.nil
 refine g9 4 ?_
 refine W.lit0 (e := Zs) ZY Z3 ZT rfl (fun v28 Ms29 ho30 => (W.mv (W.app (e := Zs) ZY Z3 ZT rfl JB rfl rfl (ho30) (h_a) pr9 (by simpa using ha) (fun v31 Ms32 ho33 => (g9 3 ?_)))))
 refine WC.giveO ho33 pr9 (fun G34 hG34 hv34 => (g9 2 ?_))
 refine ⟨rfl, _, rfl, ?_⟩
 · exact hv34

theorem Zik {G : GH} (ak : Int) (av : Str) (bk : Int) (bv : Str) (ha : av.b.size ≤ 1048576) (hb : bv.b.size ≤ 1048576) :
    Fc Tryz.prog 211 [.agg #[iV ak, sV av.b], .agg #[iV bk, sV bv.b]] G [] (fun v _ _ => v = .agg (List.toArray ((Eff.then (⟨ak, av⟩ : Eff) (⟨bk, bv⟩ : Eff)).cells))) := by
 refine Fc.go [.cell 4 132] Tryz.func211 Tryz.ntmps211 rfl (fun w0 => (g9 2 ?_))
 refine W.box (L := [iV _, sV _]) rfl rfl (fun b1 => (W.box (L := [iV _, sV _]) rfl rfl (fun b2 => (W.alloc XG (fun b3 => (g9 12 ?_))))))
 refine WC.cd (fun h10 p10 => ?_) (fun h10 p10 => ?_)
 ·refine g9 10 ?_
  refine congrArg (fun l => Value.agg (List.toArray l)) ?_
  show [Value.int _ _, Value.string _] = _
  first | (simp_all [Eff.then, Eff.cells, Eff.apply, Z4, Str.nil]; done) | (simp_all [Eff.then, Eff.cells, Eff.apply, Z4, Str.nil]; split <;> simp)
 refine g9 6 ?_
 refine W.sm 16 (fun h15 p15 => ?_) (fun h15 p15 => ?_)
 ·refine g9 18 ?_
  refine congrArg (fun l => Value.agg (List.toArray l)) ?_
  show [Value.int _ _, Value.string _] = _
  first | (simp_all [Eff.then, Eff.cells, Eff.apply, Z4, Str.nil]; done) | (simp_all [Eff.then, Eff.cells, Eff.apply, Z4, Str.nil]; split <;> simp)
 refine g9 10 ?_
 refine WC.cd (fun h19 p19 => ?_) (fun h19 p19 => ?_)
 ·refine g9 10 ?_
  refine congrArg (fun l => Value.agg (List.toArray l)) ?_
  show [Value.int _ _, Value.string _] = _
  first | (simp_all [Eff.then, Eff.cells, Eff.apply, Z4, Str.nil]; done) | (simp_all [Eff.then, Eff.cells, Eff.apply, Z4, Str.nil]; split <;> simp)
 refine g9 11 ?_
 refine W.qcall (Zdf _ _ _ _ (by first | assumption | omega | (dsimp only; omega) | (simp; omega)) (by first | assumption | omega | (dsimp only; omega) | (simp; omega))) rfl (g9 20 ?_)
 refine WC.cd (fun h37 p37 => ?_) (fun h37 p37 => ?_)
 ·refine g9 3 ?_
  refine W.ok (ZE (L := [iV _, sV _]) Jq XG rfl rfl rfl) (g9 6 ?_)
  refine congrArg (fun l => Value.agg (List.toArray l)) ?_
  show [Value.int _ _, Value.string _] = _
  first | (simp_all [Eff.then, Eff.cells, Eff.apply, Z4, Str.nil]; done) | (simp_all [Eff.then, Eff.cells, Eff.apply, Z4, Str.nil]; split <;> simp)
 refine g9 3 ?_
 refine W.ok (ZE (L := [iV _, sV _]) Jq XG rfl rfl rfl) (g9 6 ?_)
 refine congrArg (fun l => Value.agg (List.toArray l)) ?_
 show [Value.int _ _, Value.string _] = _
 first | (simp_all [Eff.then, Eff.cells, Eff.apply, Z4, Str.nil]; done) | (simp_all [Eff.then, Eff.cells, Eff.apply, Z4, Str.nil]; split <;> simp)

theorem Zpm {G : GH} {v_l : Value} {l : List Msg} (h_l : SlR Zs G v_l l) (key : Str) (hm : ∀ m ∈ l, m.key.b.size < 140737488355328 ∧ m.val.b.size ≤ 16) :
    Fc Tryz.prog 182 [v_l, sV key.b] G [] (fun v _ _ => v = .agg (List.toArray ((YD l key).cells))) := by
 obtain ⟨sa_l, sc_l, rfl⟩ := h_l.form
 have hl := h_l.len47
 refine Fc.go [.cell 4 132] Tryz.func182 Tryz.ntmps182 rfl (fun w0 => (g9 2 ?_))
 refine W.alloc XG (fun b4 => (g9 11 ?_))
 refine WC.loop (X := Nat) (fun k => [(9, nt9 k), (4, pt9 b4), (1, sV key.b), (7, lV sa_l l.length sc_l), (8, nt9 ((l).length))]) (fun k _ Ml => Ml = [(b4, ce9 132 [iV (YD (l.take k) key).kind, sV (YD (l.take k) key).val.b])] ∧ k ≤ l.length) (fun k => l.length - k) 0 hs9 ?_ ?_
 ·exact ⟨rfl, om9⟩
 rintro k gG5 G5 _ hG5 ⟨rfl, hk⟩
 have hon := Zex (l.take k) key (fun m hm2 => (hm m (List.mem_of_mem_take hm2)).2)
 refine g9 6 ?_
 refine WC.cd (fun h10 p10 => ?_) (fun h10 p10 => ?_)
 ·refine g9 6 ?_
  refine (h_l.mono hG5).a2 (i := k) om9 (fun he6 hm7 => (g9 2 ?_))
  refine W.alloc ZT (fun b11 => (g9 3 ?_))
  refine WC.dw ((sr9.cons _).k9) (d9 [1, 2] ?_)
  refine WD.any [0, 3] (by kernel_rfl) rfl ⟨WD.ap ?_, WD.ap ?_, trivial⟩
  ·refine g9 1 ?_
   refine W.nn (WD.a1 3 rfl (W.qcall (Zdg _ _ _ _ _ _ _ (hm _ (List.getElem_mem _)).1) rfl (W.nn (WD.a1 4 rfl (W.qcall (Zik (YD (l.take k) key).kind (YD (l.take k) key).val (Msg.on l[k] key).kind (Msg.on l[k] key).val om9 (by have := ZaX key (hm _ (List.getElem_mem (by omega : k < l.length))).2; omega)) rfl (W.nn (d9 [5] ?_)))))))
   refine WD.done (by kernel_rfl) (JX (Xf (g9 3 ?_)))
   refine W.sub (sr9.cons _) (g9 2 ?_)
   exact ⟨Le.rfl, k + 1, hs9, ⟨(by rw [Zhd _ om9]; rfl), om9⟩, om9⟩
  refine W.qcall (Zdg _ _ _ _ _ _ _ (hm _ (List.getElem_mem _)).1) rfl (W.nn (WD.a1 0 rfl (g9 1 ?_)))
  refine W.nn (WD.a1 4 rfl (W.qcall (Zik (YD (l.take k) key).kind (YD (l.take k) key).val (Msg.on l[k] key).kind (Msg.on l[k] key).val om9 (by have := ZaX key (hm _ (List.getElem_mem (by omega : k < l.length))).2; omega)) rfl (W.nn (d9 [5] ?_))))
  refine WD.done (by kernel_rfl) (JX (Xf (g9 3 ?_)))
  refine W.sub (sr9.cons _) (g9 2 ?_)
  exact ⟨Le.rfl, k + 1, hs9, ⟨(by rw [Zhd _ om9]; rfl), om9⟩, om9⟩
 refine g9 13 ?_
 refine congrArg (fun l => Value.agg (List.toArray l)) ?_
 show [Value.int _ _, Value.string _] = _
 rw [List.take_of_length_le om9]; rfl

theorem Zil {G : GH} {v_l : Value} {l : List Pair} (h_l : SlR Zl G v_l l) (k : Str) :
    Fc Tryz.prog 40 [v_l, sV k.b] G [] (fun v _ _ => v = .tuple #[sV (Str.b ((Zg l k).getD Str.nil)), .bool ((Zg l k).isSome)]) := by
 obtain ⟨sa_l, sc_l, rfl⟩ := h_l.form
 have hl := h_l.len47
 refine Fc.go [.tmp 4, .tmp 5] Tryz.func40 Tryz.ntmps40 rfl (fun w0 => (g9 13 ?_))
 refine WC.loop (X := Nat) (fun i => [(6, nt9 i), (0, lV sa_l l.length sc_l), (1, sV k.b)]) (fun i _ Ml => Ml = [] ∧ i ≤ l.length ∧ ∀ j (h : j < l.length), j < i → l[j].key ≠ k) (fun i => l.length - i) 0 hs9 ?_ ?_
 ·exact ⟨rfl, om9, fun j _ h => by omega⟩
 rintro i gG12 G12 _ hG12 ⟨rfl, hi, hj⟩
 refine g9 9 ?_
 refine WC.cd (fun h10 p10 => ?_) (fun h10 p10 => ?_)
 ·refine g9 8 ?_
  refine (h_l.mono hG12).a1 (i := i) om9 (fun he13 => (g9 7 ?_))
  refine WC.cd (fun h19 p19 => ?_) (fun h19 p19 => ?_)
  ·refine g9 4 ?_
   refine (h_l.mono hG12).a1 (i := i) om9 (fun he16 => (g9 14 ?_))
   show Value.tuple #[Value.string _, Value.bool _] = _
   have e1 : l[i].key = k := Str.ext' p19
   have e := Zhe (by omega : i < l.length) (fun j h hji => by rw [e1]; exact hj j h hji)
   rw [e1] at e
   rw [e]; rfl
  refine g9 9 ?_
  exact ⟨Le.rfl, i + 1, hs9, ⟨rfl, om9, fun j h hji e => by
      by_cases e2 : j = i
      · subst e2; exact p19 (congrArg Str.b e)
      · exact hj j h om9 e⟩, om9⟩
 refine g9 13 ?_
 show Value.tuple #[Value.string _, Value.bool _] = _
 rw [Zhf (fun j h => hj j h om9)]; rfl

theorem Zpn {G : GH} (a : Str) (b : Str) :
    Fc Tryz.prog 199 [sV a.b, sV b.b] G [] (fun v _ _ => v = iV (Jo a b)) := by
 refine Fc.go [.tmp 4] Tryz.func199 Tryz.ntmps199 rfl (fun w0 => (g9 8 ?_))
 refine W.qcall (Ze1 _) rfl (g9 6 ?_)
 refine W.qcall (Ze1 _) rfl (g9 9 ?_)
 refine WC.cond rfl (fun h8 => ?_) (fun h8 => ?_)
 ·cases h8
 refine g9 8 ?_
 refine WC.cond rfl (fun h10 => ?_) (fun h10 => ?_)
 ·cases h10
 refine g9 10 ?_
 refine WC.cond rfl (fun h16 => ?_) (fun h16 => ?_)
 ·refine g9 8 ?_
  refine congrArg (Value.int .i64) ?_
  simp_all [Jo, Str.lt]
 refine g9 7 ?_
 refine W.ok (Zup rfl rfl) (g9 2 ?_)
 refine WC.cond rfl (fun h19 => ?_) (fun h19 => ?_)
 ·refine g9 8 ?_
  refine congrArg (Value.int .i64) ?_
  simp_all [Jo, Str.lt]
 refine g9 9 ?_
 refine congrArg (Value.int .i64) ?_
 simp_all [Jo, Str.lt]

theorem Zim {G : GH} (a : Str) (b : Str) :
    Fc Tryz.prog 166 [sV a.b, sV b.b] G [] (fun v _ _ => v = iV (Jo a b)) := by
 refine Fc.go [.tmp 4] Tryz.func166 Tryz.ntmps166 rfl (fun w0 => (g9 9 ?_))
 refine W.qcall (Zpn _ _) rfl (g9 5 ?_)
 rfl

theorem Zin {G : GH} (pk : Str) (pv : Str) (k : Str) :
    Fc Tryz.prog 165 [.agg #[sV pk.b, sV pv.b], sV k.b] G [] (fun v _ _ => v = iV (Jo pk k)) := by
 refine Fc.go [.tmp 4] Tryz.func165 Tryz.ntmps165 rfl (fun w0 => (g9 2 ?_))
 refine W.box (L := [sV _, sV _]) rfl rfl (fun b19 => (g9 8 ?_))
 refine W.qcall (Zim _ _) rfl (g9 5 ?_)
 rfl

theorem Zio {G : GH} (pk : Str) (pv : Str) (k : Str) :
    Fc Tryz.prog 206 [.agg #[sV pk.b, sV pv.b], sV k.b] G [] (fun v _ _ => v = iV (Jo pk k)) := by
 refine Fc.go [.tmp 4] Tryz.func206 Tryz.ntmps206 rfl (fun w0 => (g9 2 ?_))
 refine W.box (L := [sV _, sV _]) rfl rfl (fun b20 => (g9 8 ?_))
 refine W.qcall (Zim _ _) rfl (g9 5 ?_)
 rfl

theorem Zpo {G : GH} {v_l : Value} {l : List Pair} (h_l : SlR Zl G v_l l) (k : Str) (hr : Srt l) :
    Fc Tryz.prog 164 [v_l, sV k.b, .func (.func 165) #[] #[]] G [] (fun v _ _ => v = .tuple #[nt9 (ZH l k), .bool ((Zg l k).isSome)]) := by
 obtain ⟨sa_l, sc_l, rfl⟩ := h_l.form
 have hlen := h_l.len47
 refine Fc.go [.tmp 6, .tmp 7] Tryz.func164 Tryz.ntmps164 rfl (fun w0 => (g9 22 ?_))
 refine WC.loop (X := Nat × Nat) (fun x => [(9, nt9 x.1), (10, nt9 x.2), (0, lV sa_l l.length sc_l), (1, sV k.b), (2, .func (.func 165) #[] #[]), (8, nt9 ((l).length))]) (fun x _ Ml => Ml = [] ∧ x.1 ≤ x.2 ∧ x.2 ≤ l.length ∧ (∀ q (h : q < l.length), q < x.1 → l[q].key.lt k = true) ∧ (∀ q (h : q < l.length), x.2 ≤ q → l[q].key.lt k = false)) (fun x => x.2 - x.1) (0, l.length) hs9 ?_ ?_
 ·exact ⟨rfl, by simp, by simp, (fun q _ h => by simp at h), (fun q h h' => by simp at h'; omega)⟩
 rintro ⟨i, j⟩ gG21 G21 _ hG21 ⟨rfl, hi, hj, h1, h2⟩
 dsimp only at hi hj h1 h2
 refine g9 8 ?_
 refine WC.cd (fun h17 p17 => ?_) (fun h17 p17 => ?_)
 ·refine g9 8 ?_
  refine W.ok (ZgD un3 ZbC rfl om9) (W.ok (ZgF rfl rfl om9) (W.ok (ZgE ZbC un3 rfl om9) (g9 8 ?_)))
  refine (h_l.mono hG21).a1 (i := (i + j) / 2) om9 (fun he22 => (W.ok (Yt (i := (i + j) / 2) Zy Zz (h_l.mono hG21) rfl rfl ⟨by dsimp only; omega, om9⟩) (g9 2 ?_)))
  refine W.qcallV (fst := []) (caps := []) rfl (Zin _ _ _) rfl (g9 3 ?_)
  refine WC.cd (fun h31 p31 => ?_) (fun h31 p31 => ?_)
  ·refine g9 7 ?_
   exact ⟨Le.rfl, ((i + j) / 2 + 1, j), hs9, ⟨rfl, by dsimp only; omega, by dsimp only; omega, (fun q h hq => hr.below om9 (Zew.1 p31) q h (by dsimp only at hq; omega)), h2⟩, by dsimp only; omega⟩
  refine g9 6 ?_
  exact ⟨Le.rfl, (i, (i + j) / 2), hs9, ⟨rfl, by dsimp only; omega, by dsimp only; omega, h1, (fun q h hq => hr.above om9 (Zhk p31) q h (by dsimp only at hq; omega))⟩, by dsimp only; omega⟩
 refine g9 12 ?_
 refine W.sd 39 (fun h38 p38 => ?_) (fun h38 p38 => ?_)
 ·refine g9 7 ?_
  refine (h_l.mono hG21).a1 (i := i) om9 (fun he25 => (g9 6 ?_))
  refine W.qcallV (fst := []) (caps := []) rfl (Zin _ _ _) rfl (g9 9 ?_)
  have hlow : ZH l k = i := Zcd om9 h1 (fun q h hq => h2 q h om9)
  refine Zbh (by rw [hlow]) ?_
  rw [hr.has]
  rw [Zhj]
  exact decide_eq_decide.2 ⟨fun e => ⟨om9, by simp only [hlow]; exact e⟩, fun ⟨_, e⟩ => by simp only [hlow] at e; exact e⟩
 refine g9 15 ?_
 have hlow : ZH l k = i := Zcd om9 h1 (fun q h hq => h2 q h om9)
 refine Zbh (by rw [hlow]) ?_
 rw [hr.has]
 exact (decide_eq_false (by rintro ⟨h, _⟩; omega)).symm

theorem Zpp {G : GH} {v_l : Value} {l : List Pair} (h_l : SlR Zl G v_l l) (k : Str) (hr : Srt l) :
    Fc Tryz.prog 164 [v_l, sV k.b, .func (.func 206) #[] #[]] G [] (fun v _ _ => v = .tuple #[nt9 (ZH l k), .bool ((Zg l k).isSome)]) := by
 obtain ⟨sa_l, sc_l, rfl⟩ := h_l.form
 have hlen := h_l.len47
 refine Fc.go [.tmp 6, .tmp 7] Tryz.func164 Tryz.ntmps164 rfl (fun w0 => (g9 22 ?_))
 refine WC.loop (X := Nat × Nat) (fun x => [(9, nt9 x.1), (10, nt9 x.2), (0, lV sa_l l.length sc_l), (1, sV k.b), (2, .func (.func 206) #[] #[]), (8, nt9 ((l).length))]) (fun x _ Ml => Ml = [] ∧ x.1 ≤ x.2 ∧ x.2 ≤ l.length ∧ (∀ q (h : q < l.length), q < x.1 → l[q].key.lt k = true) ∧ (∀ q (h : q < l.length), x.2 ≤ q → l[q].key.lt k = false)) (fun x => x.2 - x.1) (0, l.length) hs9 ?_ ?_
 ·exact ⟨rfl, by simp, by simp, (fun q _ h => by simp at h), (fun q h h' => by simp at h'; omega)⟩
 rintro ⟨i, j⟩ gG28 G28 _ hG28 ⟨rfl, hi, hj, h1, h2⟩
 dsimp only at hi hj h1 h2
 refine g9 8 ?_
 refine WC.cd (fun h17 p17 => ?_) (fun h17 p17 => ?_)
 ·refine g9 8 ?_
  refine W.ok (ZgD un3 ZbC rfl om9) (W.ok (ZgF rfl rfl om9) (W.ok (ZgE ZbC un3 rfl om9) (g9 8 ?_)))
  refine (h_l.mono hG28).a1 (i := (i + j) / 2) om9 (fun he29 => (W.ok (Yt (i := (i + j) / 2) Zy Zz (h_l.mono hG28) rfl rfl ⟨by dsimp only; omega, om9⟩) (g9 2 ?_)))
  refine W.qcallV (fst := []) (caps := []) rfl (Zio _ _ _) rfl (g9 3 ?_)
  refine WC.cd (fun h31 p31 => ?_) (fun h31 p31 => ?_)
  ·refine g9 7 ?_
   exact ⟨Le.rfl, ((i + j) / 2 + 1, j), hs9, ⟨rfl, by dsimp only; omega, by dsimp only; omega, (fun q h hq => hr.below om9 (Zew.1 p31) q h (by dsimp only at hq; omega)), h2⟩, by dsimp only; omega⟩
  refine g9 6 ?_
  exact ⟨Le.rfl, (i, (i + j) / 2), hs9, ⟨rfl, by dsimp only; omega, by dsimp only; omega, h1, (fun q h hq => hr.above om9 (Zhk p31) q h (by dsimp only at hq; omega))⟩, by dsimp only; omega⟩
 refine g9 12 ?_
 refine W.sd 39 (fun h38 p38 => ?_) (fun h38 p38 => ?_)
 ·refine g9 7 ?_
  refine (h_l.mono hG28).a1 (i := i) om9 (fun he32 => (g9 6 ?_))
  refine W.qcallV (fst := []) (caps := []) rfl (Zio _ _ _) rfl (g9 9 ?_)
  have hlow : ZH l k = i := Zcd om9 h1 (fun q h hq => h2 q h om9)
  refine Zbh (by rw [hlow]) ?_
  rw [hr.has]
  rw [Zhj]
  exact decide_eq_decide.2 ⟨fun e => ⟨om9, by simp only [hlow]; exact e⟩, fun ⟨_, e⟩ => by simp only [hlow] at e; exact e⟩
 refine g9 15 ?_
 have hlow : ZH l k = i := Zcd om9 h1 (fun q h hq => h2 q h om9)
 refine Zbh (by rw [hlow]) ?_
 rw [hr.has]
 exact (decide_eq_false (by rintro ⟨h, _⟩; omega)).symm

theorem Zip {G : GH} {v_l : Value} {l : List Pair} (h_l : SlR Zl G v_l l) (k : Str) (hr : Srt l) :
    Fc Tryz.prog 125 [v_l, sV k.b] G [] (fun v _ _ => v = .tuple #[nt9 (ZH l k), .bool ((Zg l k).isSome)]) := by
 obtain ⟨sa_l, sc_l, rfl⟩ := h_l.form
 refine Fc.go [.tmp 4, .tmp 5] Tryz.func125 Tryz.ntmps125 rfl (fun w0 => (g9 10 ?_))
 refine W.qcall (Zpo h_l k hr) rfl (g9 8 ?_)
 rfl

theorem Zpq {G : GH} {v_l : Value} {l : List Pair} (h_l : SlR Zl G v_l l) (k : Str) (hr : Srt l) :
    Fc Tryz.prog 172 [v_l, sV k.b] G [] (fun v _ _ => v = .tuple #[nt9 (ZH l k), .bool ((Zg l k).isSome)]) := by
 obtain ⟨sa_l, sc_l, rfl⟩ := h_l.form
 refine Fc.go [.tmp 4, .tmp 5] Tryz.func172 Tryz.ntmps172 rfl (fun w0 => (g9 10 ?_))
 refine W.qcall (Zpp h_l k hr) rfl (g9 8 ?_)
 rfl

theorem Zpr {G : GH} {v_l : Value} {l : List Pair} (h_l : SlR Zl G v_l l) (k : Str) (hr : Srt l) :
    Fc Tryz.prog 75 [v_l, sV k.b] G [] (fun v _ _ => v = .tuple #[sV (Str.b ((Zg l k).getD Str.nil)), .bool ((Zg l k).isSome)]) := by
 obtain ⟨sa_l, sc_l, rfl⟩ := h_l.form
 have hlen := h_l.len47
 have hh := hr.has k
 refine Fc.go [.tmp 4, .tmp 5] Tryz.func75 Tryz.ntmps75 rfl (fun w0 => (g9 10 ?_))
 refine W.qcall (Zip h_l _ (by assumption)) rfl (g9 14 ?_)
 refine WC.cond rfl (fun h15 => ?_) (fun h15 => ?_)
 ·refine g9 9 ?_
  show Value.tuple #[Value.string _, Value.bool _] = _
  have e : Zg l k = none := by simpa using h15
  rw [e]; rfl
 have hs : (Zg l k).isSome = true := by simpa using h15
 obtain ⟨q1, q2⟩ := odt (hh.symm.trans hs)
 have hv := hr.val q1 q2
 refine g9 6 ?_
 refine h_l.a1 (i := ZH l k) (q1) (fun he35 => (W.ok (Yt (i := ZH l k) Zy Zz h_l rfl rfl ⟨om9, q1⟩) (g9 8 ?_)))
 show Value.tuple #[Value.string _, Value.bool _] = _
 rw [hv]; rfl

theorem Zps {G : GH} {v_l : Value} {l : List Pair} (h_l : SlR Zl G v_l l) (slo : Str) (shi : Str) (so : Bool) (n : Int) (hn : l.length ≤ 100000000) :
    Fc Tryz.prog 41 [v_l, .agg #[sV slo.b, sV shi.b, .bool so], iV n] G [] (fun v G' M' => M' = [] ∧ ∃ u0, v = u0 ∧ SlR Zl G' u0 (Ys l ⟨slo, shi, so⟩ n)) := by
 obtain ⟨sa_l, sc_l, rfl⟩ := h_l.form
 have hl := h_l.len47
 refine Fc.go [.tmp 6] Tryz.func41 Tryz.ntmps41 rfl (fun w0 => (g9 2 ?_))
 refine W.box (L := [sV _, sV _, .bool _]) rfl rfl (fun b1 => (g9 15 ?_))
 refine WC.loop (X := (Nat) × Value × MH) (fun i => [(8, nt9 i.1), (4, pt9 b1), (0, lV sa_l l.length sc_l), (2, iV n), (7, i.2.1)]) (fun i G Ml => Ml = ((b1, ce9 62 [sV slo.b, sV shi.b, .bool so]) :: (i.2.2 ++ [])) ∧ OwnR Zl 74 G i.2.1 (Ys (l.take i.1) ⟨slo, shi, so⟩ n) i.2.2 ∧ i.1 ≤ l.length) (fun i => l.length - i.1) (0, lV none 0 0, ([] : MH)) hs9 ?_ ?_
 ·exact ⟨rfl, (by simpa [Ys] using OwnR.nil), om9⟩
 rintro ⟨i, v_7, M_7⟩ gG2 G2 _ hG2 ⟨rfl, ho_7, hi⟩
 try dsimp only at ho_7 hi
 have hsl := ZmY (l := l.take i) (s := ⟨slo, shi, so⟩) (n := n)
 have htl : (l.take i).length ≤ i := by simp; omega
 refine WC.fr (f := ZZ gG2 [(8, nt9 i), (4, pt9 b1), (0, lV sa_l l.length sc_l), (2, iV n), (7, v_7)]) rfl (g9 9 ?_)
 refine WC.cd (fun h12 p12 => ?_) (fun h12 p12 => ?_)
 ·refine g9 9 ?_
  refine (h_l.mono hG2).a1 (i := i) om9 (fun he3 => (g9 3 ?_))
  refine W.qcall (Zdd _ _ _ _) rfl (W.mv ?_)
  refine W.sp 22 rfl (fun h21 => ?_) (fun h21 => ?_)
  ·refine g9 11 ?_
   refine WC.cd (fun h26 p26 => ?_) (fun h26 p26 => ?_)
   ·refine g9 4 ?_
    refine (h_l.mono hG2).a1 (i := i) om9 (fun he6 => (g9 2 ?_))
    refine W.lit (e := Zl) (l := [((l)[i])]) (css := [[sV _, sV _]]) Zy Zz Yy rfl rfl rfl rfl rfl rfl ⟨rfl, trivial⟩ (fun bl9 G9 hG9 hv9 => (W.app (e := Zl) Zy Zz Yy rfl JA rfl rfl ((ho_7.mono hG9)) (hv9) (pmC pr9) (by show (_ + 1) * 32 ≤ _; (try simp only [List.length_append] at *); omega) (fun v10 Ms11 ho12 => (W.perm (pmC pr9).symm (g9 10 ?_)))))
    exact ⟨hG9, (i + 1, v10, Ms11), hs9, ⟨rfl, (by have h := ho12; rw [ZmW om9 om9 (by simpa using h21)]; exact h), om9⟩, om9⟩
   refine g9 9 ?_
   exact ⟨Le.rfl, (i + 1, v_7, M_7), hs9, ⟨rfl, (by have h := ho_7; rw [ZmZ om9 om9]; exact h), om9⟩, om9⟩
  refine g9 17 ?_
  exact ⟨Le.rfl, (i + 1, v_7, M_7), hs9, ⟨rfl, (by have h := ho_7; rw [ZmX om9 (by simpa using h21)]; exact h), om9⟩, om9⟩
 refine g9 11 ?_
 refine WC.giveO ho_7 (pmC pr9) (fun G13 hG13 hv13 => (g9 2 ?_))
 refine ⟨rfl, _, rfl, ?_⟩
 · have h := hv13; rw [List.take_of_length_le om9] at h; exact h

theorem Zpt {G : GH} {v_l : Value} {l : List Pair} (h_l : SlR Zl G v_l l) (slo : Str) (shi : Str) (so : Bool) (hn : l.length ≤ 1000000) :
    Fc Tryz.prog 126 [v_l, .agg #[sV slo.b, sV shi.b, .bool so]] G [] (fun v G' M' => M' = [] ∧ ∃ u0, v = u0 ∧ SlR Zl G' u0 (l.filter (fun p : Pair => Span.has ⟨slo, shi, so⟩ p.key))) := by
 obtain ⟨sa_l, sc_l, rfl⟩ := h_l.form
 have hl := h_l.len47
 refine Fc.go [.tmp 4] Tryz.func126 Tryz.ntmps126 rfl (fun w0 => (g9 2 ?_))
 refine W.box (L := [sV _, sV _, .bool _]) rfl rfl (fun b14 => (g9 17 ?_))
 refine WC.loop (X := (Nat) × Value × MH) (fun i => [(10, nt9 i.1), (3, pt9 b14), (8, lV sa_l l.length sc_l), (9, nt9 ((l).length)), (5, i.2.1)]) (fun i G Ml => Ml = ((b14, ce9 62 [sV slo.b, sV shi.b, .bool so]) :: (i.2.2 ++ [])) ∧ OwnR Zl 74 G i.2.1 (List.filter (fun p : Pair => Span.has ⟨slo, shi, so⟩ p.key) (l.take i.1)) i.2.2 ∧ i.1 ≤ l.length) (fun i => l.length - i.1) (0, lV none 0 0, ([] : MH)) hs9 ?_ ?_
 ·exact ⟨rfl, (by simpa using OwnR.nil), om9⟩
 rintro ⟨i, v_5, M_5⟩ gG15 G15 _ hG15 ⟨rfl, ho_5, hi⟩
 try dsimp only at ho_5 hi
 have hfl := Zce (fun p : Pair => Span.has ⟨slo, shi, so⟩ p.key) l i
 refine WC.fr (f := ZZ gG15 [(10, nt9 i), (3, pt9 b14), (8, lV sa_l l.length sc_l), (9, nt9 ((l).length)), (5, v_5)]) rfl (g9 6 ?_)
 refine WC.cd (fun h11 p11 => ?_) (fun h11 p11 => ?_)
 ·refine g9 6 ?_
  refine (h_l.mono hG15).a1 (i := i) om9 (fun he16 => (g9 2 ?_))
  refine W.alloc Yy (fun b19 => (g9 8 ?_))
  refine W.qcall (Zde _ _ _ _) rfl (g9 2 ?_)
  refine WC.cond rfl (fun h17 => ?_) (fun h17 => ?_)
  ·refine g9 3 ?_
   refine W.lit (e := Zl) (l := [⟨((l)[i]).key, ((l)[i]).val⟩]) (css := [[sV _, sV _]]) Zy Zz Yy rfl rfl rfl rfl rfl rfl ⟨rfl, trivial⟩ (fun bl20 G20 hG20 hv20 => (W.app (e := Zl) Zy Zz Yy rfl JA rfl rfl ((ho_5.mono hG20)) (hv20) (pmC (pmC pr9)) (by show (_ + 1) * 32 ≤ _; (try simp only [List.length_append] at *); omega) (fun v21 Ms22 ho23 => (W.perm (pmC (pmC pr9)).symm (g9 7 ?_)))))
   refine W.sub (sr9.cons _) (g9 2 ?_)
   exact ⟨hG20, (i + 1, v21, Ms22), hs9, ⟨rfl, (by have h := ho23; rw [ZaC (p := (fun p : Pair => Span.has ⟨slo, shi, so⟩ p.key)) om9 (by simpa using h17)]; exact h), om9⟩, om9⟩
  refine g9 6 ?_
  refine W.sub (sr9.cons _) (g9 2 ?_)
  exact ⟨Le.rfl, (i + 1, v_5, M_5), hs9, ⟨rfl, (by have h := ho_5; rw [Zai (p := (fun p : Pair => Span.has ⟨slo, shi, so⟩ p.key)) om9 (by simpa using h17)]; exact h), om9⟩, om9⟩
 refine g9 11 ?_
 refine WC.giveO ho_5 (pmC pr9) (fun G24 hG24 hv24 => (g9 2 ?_))
 refine ⟨rfl, _, rfl, ?_⟩
 · have h := hv24; rw [List.take_of_length_le om9] at h; exact h

end Go.Proofs.YtbbemibbmbmamaaGreat

namespace Go.Fw
section
variable {α : Type} {q : α → Bool} {l m : List α}
def Yw (q : α → Bool) (l : List α) : Int := match l.findIdx? q with
 | some i => i
 | none => -1
theorem Ze4 {k : Nat} (hk : k < l.length) (h : q l[k] = true) (hj : ∀ j (h : j < l.length), j < k → q l[j] = false) : Yw q l = k := by
 have e : l.findIdx? q = some k := by
  rw [List.findIdx?_eq_some_iff_getElem]
  exact ⟨hk, h, fun j hji => by have := hj j om9 hji; simp [this]⟩
 unfold Yw; rw [e]
theorem Ze5 (h : ∀ j (h : j < l.length), q l[j] = false) : Yw q l = -1 := by
 have e : l.findIdx? q = none := by
  rw [List.findIdx?_eq_none_iff]
  intro x hx
  obtain ⟨j, hj, rfl⟩ := List.getElem_of_mem hx
  exact h j hj
 unfold Yw; rw [e]
theorem Zcu (q : α → Bool) (l : List α) : (Yw q l = -1 ∧ ∀ x ∈ l, q x = false) ∨ ∃ k, ∃ h : k < l.length, Yw q l = (k : Nat) ∧ q l[k] = true ∧ ∀ j (h : j < l.length), j < k → q l[j] = false := by
 cases e : l.findIdx? q with
 | none =>
  left
  refine ⟨by unfold Yw; rw [e], ?_⟩
  exact List.findIdx?_eq_none_iff.1 e
 | some k =>
  right
  obtain ⟨h1, h2, h3⟩ := List.findIdx?_eq_some_iff_getElem.1 e
  exact ⟨k, h1, by unfold Yw; rw [e], h2, fun j hj hji => by have := h3 j hji; simpa using this⟩
theorem Ze6 (q : α → Bool) (l : List α) : -1 ≤ Yw q l ∧ Yw q l < (l.length : Nat) := by
 rcases Zcu q l with ⟨h, _⟩ | ⟨k, h1, h2, _⟩
 ·omega
 ·omega
theorem Zpu (h : Yw q l = -1) : l.filter (fun a => !q a) = l := by
 rcases Zcu q l with ⟨_, h2⟩ | ⟨k, h1, h2, _⟩
 ·exact List.filter_eq_self.2 fun a ha => by rw [h2 a ha]; rfl
 ·omega
theorem Zpv (h : ¬ Yw q l = -1) : l.take (Yw q l).toNat = (l.take ((Yw q l).toNat + 1)).filter (fun a => !q a) := by
 rcases Zcu q l with ⟨h1, _⟩ | ⟨k, h1, h2, h3, h4⟩
 ·exact absurd h1 h
 ·rw [h2]
  simp only [Int.toNat_natCast]
  rw [Zai (p := fun a => !q a) h1 (by rw [h3]; rfl)]
  symm
  refine List.filter_eq_self.2 fun a ha => ?_
  obtain ⟨j, hj, rfl⟩ := List.getElem_of_mem ha
  simp only [List.length_take] at hj
  rw [List.getElem_take, h4 j om9 om9]; rfl
theorem Ziq {j : Nat} (hj : j < m.length) (hl : j < l.length) (h : m.drop j = l.drop j) : m[j] = l[j] := by
 rw [List.drop_eq_getElem_cons hj, List.drop_eq_getElem_cons hl] at h
 exact (List.cons.inj h).1
theorem Zir {j : Nat} (h : m.drop j = l.drop j) : m.drop (j + 1) = l.drop (j + 1) := by
 have := congrArg (List.drop 1) h
 rwa [List.drop_drop, List.drop_drop] at this
theorem Zis {i j : Nat} {p : α → Bool} (hij : i < j) (hjl : j < l.length) (hml : m.length = l.length) (hmt : m.take i = (l.take j).filter p) (hmd : m.drop j = l.drop j) (hq : p l[j] = true) : (m.set i (m[j]'om9)).take (i + 1) = (l.take (j + 1)).filter p ∧ (m.set i (m[j]'om9)).drop (j + 1) = l.drop (j + 1) := by
 have e := Ziq om9 hjl hmd
 constructor
 ·rw [ZaC hjl hq, ← hmt, e, List.take_succ_eq_append_getElem (by simp; omega), List.take_set_of_le (Nat.le_refl _)]
  simp
 ·rw [List.drop_set_of_lt om9]
  exact Zir hmd
theorem Zit {i j : Nat} {p : α → Bool} (hjl : j < l.length) (hmt : m.take i = (l.take j).filter p) (hmd : m.drop j = l.drop j) (hq : p l[j] = false) : m.take i = (l.take (j + 1)).filter p ∧ m.drop (j + 1) = l.drop (j + 1) :=
 ⟨by rw [Zai hjl hq]; exact hmt, Zir hmd⟩
end
end Go.Fw
namespace Go.Proofs.YtbbemibbmbmamaaGreat
open Go Go.Fw Go.RowKit
attribute [local irreducible] Ok W WC
theorem Ziu {G : GH} (pk : Str) (pv : Str) (slo : Str) (shi : Str) (so : Bool) {b_s : Nat} (h_s : CellsG G b_s 0 [sV slo.b, sV shi.b, .bool so]) :
    Fc Tryz.prog 257 [.agg #[sV pk.b, sV pv.b], pt9 b_s] G [] (fun v _ _ => v = .bool (Span.has ⟨slo, shi, so⟩ pk)) := by
 refine Fc.go [.tmp 3] Tryz.func257 Tryz.ntmps257 rfl (fun w0 => (g9 2 ?_))
 refine W.box (L := [sV _, sV _]) rfl rfl (fun b1 => (g9 5 ?_))
 refine W.ok (Zuu (vs := sp9) Yq h_s rfl rfl rfl (by simp)) (g9 2 ?_)
 refine W.qcall (Zde _ _ _ _) rfl (g9 5 ?_)
 rfl

theorem Zpw {G : GH} {v_l : Value} {l : List Pair} {Ms_l : MH} (h_l : OwnR Zl 74 G v_l l Ms_l) (slo : Str) (shi : Str) (so : Bool) {b_s : Nat} (h_s : CellsG G b_s 0 [sV slo.b, sV shi.b, .bool so]) :
    Fc Tryz.prog 261 [v_l, .func (.func 257) #[] #[pt9 b_s]] G Ms_l (fun v _ M' => v = iV (Yw (fun p : Pair => Span.has ⟨slo, shi, so⟩ p.key) l) ∧ Ms_l = M') := by
 have hl := h_l.len47
 refine Fc.go [.tmp 4] Tryz.func261 Tryz.ntmps261 rfl (fun w0 => (WC.perm (M' := (Ms_l ++ [])) (by simp) (g9 14 ?_)))
 refine WC.loop (X := Nat) (fun k => [(8, nt9 k), (0, v_l), (1, .func (.func 257) #[] #[pt9 b_s]), (7, nt9 ((l).length))]) (fun k _ Ml => Ml = (Ms_l ++ []) ∧ k ≤ l.length ∧ ∀ j (h : j < l.length), j < k → (fun p : Pair => Span.has ⟨slo, shi, so⟩ p.key) l[j] = false) (fun k => l.length - k) 0 hs9 ?_ ?_
 ·exact ⟨rfl, om9, fun j _ h => by omega⟩
 rintro k gG2 G2 _ hG2 ⟨rfl, hk, hj⟩
 refine g9 6 ?_
 refine WC.cd (fun h9 p9 => ?_) (fun h9 p9 => ?_)
 ·refine g9 15 ?_
  refine (h_l.mono hG2).a1 (i := k) om9 (fun he3 => (W.ok (Yu (i := k) Zy Zz (h_l.mono hG2) rfl rfl ⟨om9, om9⟩) (W.ok (Y1 (vs := pr29) Zz he3 pr9 rfl rfl rfl (by simp)) (W.qcallV (fst := []) (caps := [pt9 b_s]) rfl (Ziu _ _ _ _ _ (h_s.mono hG2)) rfl (g9 2 ?_)))))
  refine WC.cond rfl (fun h16 => ?_) (fun h16 => ?_)
  ·refine g9 12 ?_
   refine ⟨.inr rfl, [_], ⟨rfl, trivial⟩, Ms_l, List.sublist_append_left _ _, ?_⟩
   refine ⟨congrArg (Value.int .i64) ?_, rfl⟩
   exact (Ze4 om9 (h16) hj).symm
  refine g9 8 ?_
  exact ⟨Le.rfl, k + 1, hs9, ⟨rfl, om9, fun j h hji => by
      by_cases e2 : j = k
      · subst e2; exact h16
      · exact hj j h om9⟩, om9⟩
 refine g9 11 ?_
 refine ⟨.inr rfl, [_], ⟨rfl, trivial⟩, Ms_l, List.sublist_append_left _ _, ?_⟩
 refine ⟨congrArg (Value.int .i64) ?_, rfl⟩
 exact (Ze5 (fun j h => hj j h om9)).symm

theorem Zpx {G : GH} {v_l : Value} {l : List Pair} {Ms_l : MH} (h_l : OwnR Zl 74 G v_l l Ms_l) (slo : Str) (shi : Str) (so : Bool) {b_s : Nat} (h_s : CellsG G b_s 0 [sV slo.b, sV shi.b, .bool so]) :
    Fc Tryz.prog 256 [v_l, .func (.func 257) #[] #[pt9 b_s]] G Ms_l (fun v G' M' => OwnR Zl 74 G' v (l.filter (fun a => !(fun p : Pair => Span.has ⟨slo, shi, so⟩ p.key) a)) M') := by
 have hl := h_l.len47
 have hix := Ze6 (fun p : Pair => Span.has ⟨slo, shi, so⟩ p.key) l
 refine Fc.go [.tmp 4] Tryz.func256 Tryz.ntmps256 rfl (fun w0 => (WC.perm (M' := (Ms_l ++ [])) (by simp) (g9 9 ?_)))
 refine W.call (Mp := Ms_l) (Zpw h_l _ _ _ h_s) rfl pr9 ?_
 intro _ G6 Ms8 hG6 q7
 refine match q7 with | ⟨e_9, e_10⟩ => ?_
 subst e_9
 subst e_10
 refine g9 10 ?_
 refine WC.cd (fun h12 p12 => ?_) (fun h12 p12 => ?_)
 ·try dsimp only at p12
  refine g9 8 ?_
  refine ⟨.inr rfl, [_], ⟨rfl, trivial⟩, Ms_l, List.sublist_append_left _ _, ?_⟩
  have h := (h_l.mono hG6)
  rw [Zpu p12]
  exact h
 try dsimp only at p12
 refine g9 11 ?_
 refine WC.loop (X := (Nat × Nat × List Pair) × Value × MH) (fun x => [(5, nt9 x.1.1), (6, nt9 x.1.2.1), (1, .func (.func 257) #[] #[pt9 b_s]), (0, x.2.1)]) (fun x G Ml => Ml = (x.2.2 ++ []) ∧ OwnR Zl 74 G x.2.1 (x.1.2.2) x.2.2 ∧ x.1.1 < x.1.2.1 ∧ x.1.2.1 ≤ l.length ∧ x.1.2.2.length = l.length ∧ x.1.2.2.take x.1.1 = (l.take x.1.2.1).filter (fun a => !(fun p : Pair => Span.has ⟨slo, shi, so⟩ p.key) a) ∧ x.1.2.2.drop x.1.2.1 = l.drop x.1.2.1) (fun x => l.length - x.1.2.1) (((Yw (fun p : Pair => Span.has ⟨slo, shi, so⟩ p.key) l).toNat, (Yw (fun p : Pair => Span.has ⟨slo, shi, so⟩ p.key) l).toNat + 1, l), v_l, Ms_l) hs9 ?_ ?_
 ·exact ⟨rfl, (by exact (h_l.mono hG6)), by dsimp only; omega, by dsimp only; omega, rfl, Zpv p12, rfl⟩
 rintro ⟨⟨i, j, m⟩, v_0, M_0⟩ gG11 G11 _ hG11 ⟨rfl, ho_0, hij, hjl, hml, hmt, hmd⟩
 try dsimp only at ho_0 hij hjl hml hmt hmd
 have hmj := fun (h : j < l.length) => Ziq (by omega : j < m.length) h hmd
 refine g9 9 ?_
 refine WC.cd (fun h19 p19 => ?_) (fun h19 p19 => ?_)
 ·try dsimp only at p19
  refine g9 8 ?_
  refine ho_0.a1 (i := j) om9 (fun he12 => (W.ok (Yu (i := j) Zy Zz ho_0 rfl rfl ⟨by dsimp only, om9⟩) (W.ok (Y1 (vs := pr29) Zz he12 pr9 rfl rfl rfl (by simp)) (W.alloc Yy (fun b15 => (g9 7 ?_))))))
  refine W.qcallV (fst := []) (caps := [pt9 b_s]) rfl (Ziu _ _ _ _ _ (h_s.mono lec)) rfl (g9 3 ?_)
  refine WC.cond rfl (fun h29 => ?_) (fun h29 => ?_)
  ·refine g9 5 ?_
   refine ho_0.a1 (i := i) om9 (fun he16 => (W.ok (Yu (i := i) Zy Zz ho_0 rfl rfl ⟨by dsimp only, om9⟩) (W.storeO (i := i) (o := 0) (vs := pr29) (a' := m[j]) Zz rfl rfl rfl rfl rfl (ho_0) (pmC pr9) om9 (by decide) (fun cs h => by first | (rw [h]; rfl) | (rw [h.1]; exact ⟨rfl, by assumption⟩)) (fun Ms19 ho20 => (W.perm (pmC pr9).symm (g9 13 ?_))))))
   refine W.sub (sr9.cons _) (g9 2 ?_)
   exact ⟨Le.rfl, ((i + 1, j + 1, m.set i m[j]), v_0, Ms19), hs9, ⟨rfl, (by exact ho20), by dsimp only; omega, by dsimp only; omega, by simpa using hml, (Zis (p := (fun a => !(fun p : Pair => Span.has ⟨slo, shi, so⟩ p.key) a)) hij om9 hml hmt hmd (by rw [← hmj om9]; simpa using h29)).1, (Zis (p := (fun a => !(fun p : Pair => Span.has ⟨slo, shi, so⟩ p.key) a)) hij om9 hml hmt hmd (by rw [← hmj om9]; simpa using h29)).2⟩, by dsimp only; omega⟩
  refine g9 7 ?_
  refine W.sub (sr9.cons _) (g9 2 ?_)
  exact ⟨Le.rfl, ((i, j + 1, m), v_0, M_0), hs9, ⟨rfl, (by exact ho_0), by dsimp only; omega, by dsimp only; omega, hml, (Zit (p := (fun a => !(fun p : Pair => Span.has ⟨slo, shi, so⟩ p.key) a)) om9 hmt hmd (by rw [← hmj om9]; simpa using h29)).1, (Zit (p := (fun a => !(fun p : Pair => Span.has ⟨slo, shi, so⟩ p.key) a)) om9 hmt hmd (by rw [← hmj om9]; simpa using h29)).2⟩, by dsimp only; omega⟩
 try dsimp only at p19
 refine g9 9 ?_
 have q22 := ho_0.formB om9
 refine match q22 with | ⟨b38, c38, e_21⟩ => ?_
 subst e_21
 have hc38 := ho_0.cap_le
 refine W.ok (XL i m.length Zy Zz ho_0 rfl ⟨_, _, rfl, by first | omega | (dsimp only; omega) | dsimp only⟩ rfl ⟨om9, .inl om9⟩) (W.clearO (e := Zl) (lo := i) (hi := m.length) (m := i) Zy Zz Yy rfl rfl ho_0 pr9 rfl om9 hc38 ⟨_, rfl⟩ om9 om9 (fun Ms38 ho38 => (g9 6 ?_)))
 refine W.ok (Zei 0 i Zy Zz rfl rfl ⟨_, _, rfl, by first | omega | (dsimp only; omega) | dsimp only⟩ ⟨om9, by simp only [YW] at hc38; omega⟩) (g9 4 ?_)
 refine ⟨.inr rfl, [_], ⟨rfl, trivial⟩, Ms38, List.sublist_append_left _ _, ?_⟩
 have h := ho38
 rw [← List.take_of_length_le (l := l) (i := j) om9, ← hmt]
 exact h

theorem Zpy {G : GH} {v_s : Value} {s : List Pair} {Ms_s : MH} (h_s : OwnR Zl 74 G v_s s Ms_s) (i : Nat) {v_u : Value} {u : List Pair} {Ms_u : MH} (h_u : OwnR Zl 74 G v_u u Ms_u) (hi : i ≤ s.length) (hu : 0 < u.length) (hw : (s.length + u.length) * 32 ≤ 140737488355328) :
    Fc Tryz.prog 200 [v_s, nt9 i, v_u] G (Ms_s ++ Ms_u) (fun v G' M' => OwnR Zl 74 G' v ((s.take i ++ u) ++ s.drop i) M') := by
 have hs := h_s.len47
 have hul := h_u.len47
 have hcs := h_s.cap_le
 refine Fc.go [.tmp 6] Tryz.func200 Tryz.ntmps200 rfl (fun w0 => (WC.perm (M' := (Ms_s ++ (Ms_u ++ []))) (by simp) (g9 9 ?_)))
 refine W.ok (XL (i) (s.length) Zy Zz h_s rfl ⟨_, _, rfl, om9⟩ rfl ⟨om9, .inl om9⟩) (g9 16 ?_)
 refine WC.cd (fun h16 p16 => ?_) (fun h16 p16 => ?_)
 ·exact absurd p16 om9
 refine g9 17 ?_
 refine WC.cd (fun h22 p22 => ?_) (fun h22 p22 => ?_)
 ·refine g9 4 ?_
  refine W.giveO h_u (pmA pr9) (fun G1 hG1 hv1 => ?_)
  have q3 := hv1.form
  refine match q3 with | ⟨_, _, e_2⟩ => ?_
  subst e_2
  refine W.app (e := Zl) Zy Zz Yy rfl JA rfl rfl ((h_s.mono hG1)) (hv1) pr9 (hw) (fun v4 Ms5 ho6 => (g9 5 ?_))
  refine ⟨.inr rfl, [_], ⟨rfl, trivial⟩, Ms5, List.sublist_append_left _ _, ?_⟩
  have h := ho6
  rw [show (s.take i ++ u) ++ s.drop i = s ++ u from by rw [List.take_of_length_le om9, List.drop_eq_nil_of_le om9, List.append_nil]]
  exact h
 refine g9 7 ?_
 refine W.ok (Ok.int (n := ((s.length + u.length : Nat) : Int)) (YV rfl rfl om9) om9) (W.mv ?_)
 have q7 := h_s.capForm
 refine match q7 with | ⟨ac30, hcf30⟩ => ?_
 refine W.ok (ZgU (c := YW v_s) Zy hcf30) (g9 3 ?_)
 refine WC.cd (fun h31 p31 => ?_) (fun h31 p31 => ?_)
 ·refine g9 4 ?_
  refine W.ok (XL (0) (i) Zy Zz h_s rfl rfl ⟨_, _, rfl, om9⟩ ⟨om9, .inl om9⟩) (g9 2 ?_)
  refine W.ok (Ok.int (n := ((s.length + u.length : Nat) : Int)) (YV rfl rfl om9) om9) (W.mv (W.ok (Ok.int (n := ((s.length + u.length - i : Nat) : Int)) (Zaz rfl rfl om9) om9) (W.appZ (e := Zl) (i := i) (c := s.length + u.length - i) Zy Zz Yy rfl JA Tryz.underlying3 h_s pr9 rfl rfl om9 om9 om9 om9 (by rw [show i + (s.length + u.length - i) = s.length + u.length from by omega]; exact hw) rfl (fun v40 Ms40 hp40 => (g9 7 ?_)))))
  refine W.ok (XA (i) (i + (s.length + u.length - i)) Zy Zz hp40 rfl ⟨_, _, rfl, om9⟩ rfl ⟨om9, by have := OwnP.cap_le hp40; omega⟩) (W.mv (W.copyP (i) (by simp; omega) Zy Zz hp40 pr9 (Src.ofOwn0 h_u (pmA (pmA pr9)) om9) rfl rfl om9 om9 (fun z45 Ms45 hp45 => (g9 3 ?_))))
  refine WC.dw sn9 (d9 [0, 1, 2] ?_)
  refine WD.tk 3 rfl (Ok.int (n := ((i + u.length : Nat) : Int)) (YV rfl rfl om9) om9) (WD.tk 4 rfl (XA (i + u.length) (i + (s.length + u.length - i)) Zy Zz hp45 rfl ⟨_, _, rfl, om9⟩ rfl ⟨om9, by have := OwnP.cap_le hp45; omega⟩) (d9 [5, 6] ?_))
  refine WD.tk 7 rfl (XL (i) (s.length) Zy Zz h_s rfl ⟨_, _, rfl, om9⟩ rfl ⟨om9, .inl om9⟩) (WD.a1 8 rfl (W.copyP (i + u.length) (by simp; omega) Zy Zz hp45 pr9 (Src.ofOwn (lo := i) h_s (pmA pr9) om9 om9) rfl rfl (by simp; omega) om9 (fun z54 Ms54 hp54 => (W.nn (g9 10 ?_)))))
  refine ⟨.inr rfl, [_], ⟨rfl, trivial⟩, Ms54, List.sublist_append_left _ _, ?_⟩
  have h := (hp54.own' (by simp; omega))
  rw [List.append_nil] at h
  exact h
 refine g9 7 ?_
 refine W.ok (Ok.int (n := ((s.length + u.length : Nat) : Int)) (YV rfl rfl om9) om9) (W.ok (XL 0 (s.length + u.length) Zy Zz h_s rfl rfl ⟨_, _, rfl, om9⟩ ⟨om9, .inr om9⟩) ?_)
 have hp60 := OwnP.extend (m := u.length) (OwnR.open h_s om9) om9 hw om9
 refine g9 10 ?_
 refine W.ok (Ok.int (n := ((i + u.length : Nat) : Int)) (YV rfl rfl om9) om9) (W.ok (XA (i + u.length) (s.length + u.length) Zy Zz hp60 rfl ⟨_, _, rfl, om9⟩ rfl ⟨om9, by have := OwnP.cap_le hp60; omega⟩) ?_)
 have hc67 := OwnP.cap_le hp60
 refine W.ok (ZgV (fn := Tryz.f228) (tR := 4) (lo := i + u.length) (hi := s.length + u.length) Tryz.func228 (by kernel_rfl) (by kernel_rfl) (by kernel_rfl) (by kernel_rfl) Zy Zz h_u hp60 ((List.Perm.append_left _ pr9).trans (pmA pr9)) om9 om9 rfl rfl rfl) (g9 5 ?_)
 refine WC.dw sn9 (d9 [0, 1, 2] ?_)
 refine WD.tk 3 rfl (Ok.int (n := ((i + u.length : Nat) : Int)) (YV rfl rfl om9) om9) (WD.tk 4 rfl (XA (i + u.length) (s.length + u.length) Zy Zz hp60 rfl ⟨_, _, rfl, om9⟩ rfl ⟨om9, by have := OwnP.cap_le hp60; omega⟩) (d9 [5, 6] ?_))
 refine WD.tk 7 rfl (XA (i) (s.length + u.length) Zy Zz hp60 rfl ⟨_, _, rfl, om9⟩ rfl ⟨om9, by have := OwnP.cap_le hp60; omega⟩) (WD.a1 8 rfl (W.copyShift (i := i) Zy Zz hp60 pr9 rfl rfl om9 (fun z77 Ms77 hp77 => (W.nn (g9 6 ?_)))))
 refine W.ok (XA (i) (s.length + u.length) Zy Zz hp77 rfl ⟨_, _, rfl, om9⟩ rfl ⟨om9, by have := OwnP.cap_le hp77; omega⟩) (W.mv (W.copyP (i) (by simp; omega) Zy Zz hp77 pr9 (Src.ofOwn0 h_u (pmA pr9) om9) rfl rfl om9 om9 (fun z82 Ms82 hp82 => (g9 10 ?_))))
 refine ⟨.inr rfl, [_], ⟨rfl, trivial⟩, Ms82, List.sublist_append_left _ _, ?_⟩
 exact (hp82.own' om9)

theorem Zpz {G : GH} {v_s : Value} {s : List Pair} {Ms_s : MH} (h_s : OwnR Zl 74 G v_s s Ms_s) (i : Nat) (j : Nat) (hij : i < j ∧ j ≤ s.length) :
    Fc Tryz.prog 201 [v_s, nt9 i, nt9 j] G Ms_s (fun v G' M' => OwnR Zl 74 G' v (s.take i ++ s.drop j) M') := by
 have hs := h_s.len47
 obtain ⟨hij1, hij2⟩ := hij
 refine Fc.go [.tmp 6] Tryz.func201 Tryz.ntmps201 rfl (fun w0 => (WC.perm (M' := (Ms_s ++ [])) (by simp) (g9 12 ?_)))
 have q8 := h_s.capForm
 refine match q8 with | ⟨ac13, hcf13⟩ => ?_
 have hcl13 := h_s.cap_le
 refine W.okx (Zut i j s.length Zy Zz hcf13 ⟨_, _, rfl, om9⟩ ⟨_, _, rfl, om9⟩ ⟨_, _, rfl, om9⟩ ⟨om9, om9, om9⟩) (fun u13 => (g9 10 ?_))
 refine WC.cd (fun h16 p16 => ?_) (fun h16 p16 => ?_)
 ·exact absurd p16 om9
 refine g9 10 ?_
 refine WC.dw sn9 (d9 [0, 1] ?_)
 refine WD.tk 2 rfl (XL (0) (i) Zy Zz h_s rfl rfl ⟨_, _, rfl, om9⟩ ⟨om9, .inl om9⟩) (d9 [3, 4] ?_)
 refine WD.tk 5 rfl (XL (j) (s.length) Zy Zz h_s rfl ⟨_, _, rfl, om9⟩ rfl ⟨om9, .inl om9⟩) (WD.a1 6 rfl (W.appDel (e := Zl) (i := i) (j := j) Zy Zz Yy rfl h_s pr9 rfl rfl om9 om9 om9 (fun v26 Ms26 ho26 hc26 hf26 => (W.nn (d9 [7] ?_)))))
 refine g9 8 ?_
 have hl31 : (s.take i ++ s.drop j).length = i + (s.length - j) := by simp; omega
 refine W.ok (XL (s.take i ++ s.drop j).length s.length Zy Zz ho26 rfl ⟨_, _, rfl, om9⟩ ⟨_, _, rfl, om9⟩ ⟨om9, .inr om9⟩) (W.clearT (e := Zl) (lo := (s.take i ++ s.drop j).length) (hi := s.length) Zy Zz Yy rfl rfl ho26 pr9 rfl om9 hc26 hf26 om9 (fun Ms31 ho31 => (g9 9 ?_)))
 refine ⟨.inr rfl, [_], ⟨rfl, trivial⟩, Ms31, List.sublist_append_left _ _, ?_⟩
 exact ho31

end Go.Proofs.YtbbemibbmbmamaaGreat
