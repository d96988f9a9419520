/- What container/heap asks of a heap, and what it does with it. Nothing of the program is named here. No condition. -/
import Derived.Test.YtbbemibbmbmamaaGreatProg
import Derived.Test.YtbbemibbmbmamaaGreatQhGa
set_option linter.unusedVariables false
set_option linter.unusedSimpArgs false
set_option linter.unnecessarySimpa false
set_option maxRecDepth 100000
set_option maxHeartbeats 1600000

namespace Go.Fw
open Go Go.RowKit
structure HeapK (P : Program) {α : Type} [Inhabited α] (lt : α → α → Bool) (x : Value) (Rep : GH → List α → MH → Prop) (EV : GH → Value → α → Prop) (pu : Prop := True) : Prop where
 mono : ∀ {G G' l M}, Le G G' → Rep G l M → Rep G' l M
 bound : ∀ {G l M}, Rep G l M → l.length ≤ 140737488355328
 len : ∀ {G l M}, Rep G l M → Inv P x "Len" [] G M (fun v G' M' => v = .int .i64 (l.length : Int) ∧ M' = M)
 less : ∀ {G l M} {i j : Nat}, Rep G l M → i < l.length → j < l.length → Inv P x "Less" [.int .i64 (i : Int), .int .i64 (j : Int)] G M (fun v G' M' => v = .bool (lt (nth l i) (nth l j)) ∧ M' = M)
 swap : ∀ {G l M} {i j : Nat}, Rep G l M → i < l.length → j < l.length → Inv P x "Swap" [.int .i64 (i : Int), .int .i64 (j : Int)] G M (fun v G' M' => v = .tuple #[] ∧ Rep G' (YG l i j) M')
 push : pu → ∀ {G l M u a}, Rep G l M → l.length < 1000000 → EV G u a → Inv P x "Push" [u] G M (fun v G' M' => v = .tuple #[] ∧ Rep G' (l ++ [a]) M')
 pop : ∀ {G l M}, Rep G l M → 0 < l.length → Inv P x "Pop" [] G M (fun v G' M' => EV G' v (nth l (l.length - 1)) ∧ Rep G' (l.take (l.length - 1)) M')
section
variable {α : Type} [Inhabited α] {lt : α → α → Bool}
theorem ZhG {f : Nat} {l : List α} {i n : Nat} (h : n ≤ 2 * i + 1) : YC lt f l i n = l := by
 cases f with
 | zero => rfl
 | succ f => rw [YC, if_pos h]
theorem ZhH {f : Nat} {l : List α} {i n : Nat} (h1 : ¬ n ≤ 2 * i + 1) (h2 : lt (nth l (YM lt l i n)) (nth l i) = false) : YC lt f l i n = l := by
 cases f with
 | zero => rfl
 | succ f => rw [YC, if_neg h1, if_pos h2]
theorem Zne {f : Nat} {l : List α} {i n : Nat} (hf : n ≤ i + f) (h1 : ¬ n ≤ 2 * i + 1) (h2 : lt (nth l (YM lt l i n)) (nth l i) = true) : YC lt f l i n = YC lt (f - 1) (YG l i (YM lt l i n)) (YM lt l i n) n := by
 cases f with
 | zero => omega
 | succ f => rw [YC, if_neg h1, if_neg (by simp [h2])]; rfl
theorem Znf {l : List α} {i n : Nat} (h : 2 * i + 2 < n) (h2 : lt (nth l (2 * i + 2)) (nth l (2 * i + 1)) = true) : YM lt l i n = 2 * i + 2 := if_pos ⟨h, h2⟩
theorem ZhI {l : List α} {i n : Nat} (h : ¬ 2 * i + 2 < n ∨ lt (nth l (2 * i + 2)) (nth l (2 * i + 1)) = false) : YM lt l i n = 2 * i + 1 := if_neg (fun ⟨h1, h2⟩ => h.elim (fun h => h h1) (fun h => by rw [h2] at h; cases h))
theorem ZhJ {f : Nat} {l : List α} {j : Nat} (h : (j - 1) / 2 = j ∨ lt (nth l j) (nth l ((j - 1) / 2)) = false) : upL lt f l j = l := by
 cases f with
 | zero => rfl
 | succ f => rw [upL, if_pos h]
theorem Zng {f : Nat} {l : List α} {j : Nat} (hf : j ≤ f) (h1 : ¬ (j - 1) / 2 = j) (h2 : lt (nth l j) (nth l ((j - 1) / 2)) = true) : upL lt f l j = upL lt (f - 1) (YG l ((j - 1) / 2) j) ((j - 1) / 2) := by
 cases f with
 | zero => omega
 | succ f => rw [upL, if_neg (fun h => h.elim h1 (fun h => by rw [h2] at h; cases h))]; rfl
theorem Znh {l : List α} (h : Heap lt l) (f i : Nat) : YC lt f l i l.length = l := by
 by_cases h1 : l.length ≤ 2 * i + 1
 ·exact ZhG h1
 ·have hk := Zcq (lt := lt) (l := l) h1
  have := h (YM lt l i l.length) om9 hk.1 om9
  rw [hk.2.2.1] at this
  exact ZhH h1 this
theorem ZhK {l : List α} (h : 0 < l.length) : (YC lt l.length (YG l 0 (l.length - 1)) 0 (l.length - 1)).take ((YC lt l.length (YG l 0 (l.length - 1)) 0 (l.length - 1)).length - 1) = Y1 lt l ∧
  nth (YC lt l.length (YG l 0 (l.length - 1)) 0 (l.length - 1)) ((YC lt l.length (YG l 0 (l.length - 1)) 0 (l.length - 1)).length - 1) = nth l 0 := by
 rw [Zc9, XC]
 refine ⟨rfl, ?_⟩
 rw [ZeP _ _ _ _ _ (by rw [XC]; omega) (Nat.le_refl _), Jg om9 om9, if_pos rfl]
theorem ZhL (j : Nat) : (((j : Int) - 1).tdiv 2) = (((j - 1) / 2 : Nat) : Int) := by
 cases j with
 | zero => rfl
 | succ j =>
  have : (((j + 1 : Nat) : Int) - 1) = (j : Int) := om9
  rw [this, Int.tdiv_eq_ediv_of_nonneg om9]
  simp
end
abbrev Hd := List Msg × Int
def Hd.st (a : Hd) : Int := match a.1 with | [] => 0 | m :: _ => m.stamp
def Hd.lt (a b : Hd) : Bool := decide (a.st < b.st) || (decide (a.st = b.st) && decide (a.2 < b.2))
theorem Hd.st_at {a : Hd} (h : 0 < a.1.length) : a.st = a.1[0].stamp := by
 obtain ⟨l, n⟩ := a
 cases l with
 | nil => simp at h
 | cons m l => rfl
theorem Hd.lo : LO Hd.lt where
 asymm := fun {a b} h => by
  simp only [Hd.lt, Bool.or_eq_true, Bool.and_eq_true, decide_eq_true_eq] at h
  simp only [Hd.lt, Bool.or_eq_false_iff, Bool.and_eq_false_iff, decide_eq_false_iff_not]
  omega
 trans := fun {a b c} h1 h2 => by
  simp only [Hd.lt, Bool.or_eq_false_iff, Bool.and_eq_false_iff, decide_eq_false_iff_not] at h1 h2 ⊢
  omega
def HdC (G : GH) (cs : List Value) (a : Hd) : Prop := ∃ p c, cs = [.slice p a.1.length c, .int .i64 a.2] ∧ SlR Zp G (.slice p a.1.length c) a.1 ∧ i64 a.2
theorem HdC.mono {G G' : GH} {cs a} (hl : Le G G') (h : HdC G cs a) : HdC G' cs a := by
 obtain ⟨p, c, h1, h2, h3⟩ := h; exact ⟨p, c, h1, h2.mono hl, h3⟩
def X2 : Enc Hd where
 k := 2
 w := 32
 R := HdC
 mono := fun hl h => h.mono hl
 len := fun h => by obtain ⟨p, c, h0, _⟩ := h; rw [h0]; rfl
 one := fun h u hu => by
  obtain ⟨p, c, h0, _⟩ := h
  rw [h0] at hu
  simp at hu
  rcases hu with rfl | rfl <;> rfl
theorem ZhM : LO (fun a b : Int => decide (a < b)) where
 asymm := fun {a b} h => by simp at h ⊢; omega
 trans := fun {a b c} h1 h2 => by simp at h1 h2 ⊢; omega
def JM : Enc Bool where
 k := 1
 w := 1
 R := fun _ cs b => cs = [.bool b]
 mono := fun _ h => h
 len := fun h => by rw [h]; rfl
 one := fun h u hu => by rw [h] at hu; simp at hu; subst hu; rfl
instance : EqE JM (fun b => [.bool b]) := ⟨fun _ _ _ h => h⟩
instance : EqE XD (fun s => [.string s.lo.b, .string s.hi.b, .bool s.opn]) := ⟨fun _ _ _ h => h⟩
instance : EqP Znd (fun e => [.int .i64 e.kind, .string e.val.b]) (fun e => i64 e.kind) := ⟨fun _ _ _ h => h⟩
abbrev ltI : Int → Int → Bool := fun a b => decide (a < b)
def YY (u : List Bool) (i : Int) : Bool := decide (0 ≤ i) && (decide (i < u.length) && u.getD i.toNat false)
theorem ZhN {u : List Bool} {i : Int} : YY u i = true ↔ ∃ k : Nat, ∃ h : k < u.length, i = k ∧ u[k] = true := by
 unfold YY
 simp only [Bool.and_eq_true, decide_eq_true_eq]
 constructor
 ·rintro ⟨h1, h2, h3⟩
  have h4 : i.toNat < u.length := om9
  rw [List.getD_eq_getElem?_getD, List.getElem?_eq_getElem h4] at h3
  exact ⟨i.toNat, h4, om9, h3⟩
 ·rintro ⟨k, h, rfl, h2⟩
  refine ⟨om9, om9, ?_⟩
  rw [List.getD_eq_getElem?_getD, Int.toNat_natCast, List.getElem?_eq_getElem h]
  exact h2
def Y2 (u : List Bool) : List Int := ((List.range u.length).filter fun i => !u.getD i true).map fun i : Nat => (i : Int)
def Xc (u : List Bool) : List Int := ((List.range u.length).filter fun i => u.getD i true).map fun i : Nat => (i : Int)
theorem Zcr {u : List Bool} {i : Nat} (h : i < u.length) (d : Bool) : u.getD i d = u[i] := by rw [List.getD_eq_getElem?_getD, List.getElem?_eq_getElem h]; rfl
theorem ZaZ {u : List Bool} {a : Int} : a ∈ Y2 u ↔ ∃ i : Nat, ∃ h : i < u.length, a = i ∧ u[i] = false := by
 unfold Y2
 rw [List.mem_map]
 constructor
 ·rintro ⟨i, hi, rfl⟩
  rw [List.mem_filter, List.mem_range] at hi
  obtain ⟨h1, h2⟩ := hi
  rw [Zcr h1] at h2
  exact ⟨i, h1, rfl, by simpa using h2⟩
 ·rintro ⟨i, h, rfl, h2⟩
  exact ⟨i, List.mem_filter.2 ⟨List.mem_range.2 h, by rw [Zcr h, h2]; rfl⟩, rfl⟩
theorem ZhO (u : List Bool) : (Y2 u).Nodup := by
 unfold Y2
 have h : List.Pairwise (fun a b : Nat => a ≠ b) ((List.range u.length).filter fun i => !u.getD i true) := List.Pairwise.sublist List.filter_sublist List.nodup_range
 exact List.Pairwise.map _ (fun a b h e => h (by have e : (a : Int) = (b : Int) := e; omega)) h
theorem ZhP {α : Type} (p : α → Bool) : ∀ (l : List α), (l.filter fun i => !p i).length + (l.filter p).length = l.length
 | [] => rfl
 | x :: l => by
  have := ZhP p l
  cases h : p x <;> simp [h] <;> omega
theorem Zdb (u : List Bool) : (Y2 u).length + (Xc u).length = u.length := by
 unfold Y2 Xc
 rw [List.length_map, List.length_map]
 have := ZhP (fun i => u.getD i true) (List.range u.length)
 rw [List.length_range] at this
 exact this
def Yt : List Bool → Nat
 | [] => 0
 | true :: l => Yt l + 1
 | false :: _ => 0
theorem ZeS : ∀ {u : List Bool} {i : Nat} (h : i < u.length), u[i] = false → (∀ j (hj : j < u.length), j < i → u[j] = true) → Yt u = i
 | [], i, h, _, _ => by simp at h
 | true :: l, 0, h, h1, _ => by simp at h1
 | true :: l, i + 1, h, h1, h2 => by
  rw [Yt, ZeS (u := l) (i := i) (by simp at h; omega) (by simpa using h1) fun j hj hji => by have := h2 (j + 1) (by simp; omega) om9; simpa using this]
 | false :: l, 0, _, _, _ => rfl
 | false :: l, i + 1, h, h1, h2 => by have := h2 0 (by simp) om9; simp at this
theorem ZeT : ∀ {u : List Bool}, (∀ j (hj : j < u.length), u[j] = true) → Yt u = u.length
 | [], _ => rfl
 | true :: l, h => by rw [Yt, ZeT (u := l) fun j hj => by have := h (j + 1) (by simp; omega); simpa using this]; rfl
 | false :: l, h => by have := h 0 (by simp); simp at this
theorem Zni {u : List Bool} (h : (Y2 u).length = 0) : Yt u = u.length := ZeT fun j hj => by
 cases hu : u[j] with
 | true => rfl
 | false =>
  have := ZaZ.2 ⟨j, hj, rfl, hu⟩
  rw [List.eq_nil_of_length_eq_zero h] at this; cases this
theorem Znj {a b : List Int} (ha : a.Nodup) (hb : b.Nodup) (h : ∀ x, x ∈ a ↔ x ∈ b) : a.Perm b := (List.perm_ext_iff_of_nodup ha hb).2 h
theorem Znk {f : List Int} {u : List Bool} (hH : Heap ltI f) (hp : f.Perm (Y2 u)) (hl : 0 < f.length) : ∃ h : Yt u < u.length, nth f 0 = (Yt u : Int) ∧ Heap ltI (Y1 ltI f) ∧ (Y1 ltI f).Perm (Y2 (u.set (Yt u) true)) := by
 obtain ⟨h1, h2, h3⟩ := Zda ZhM hH hl
 have hm : nth f 0 ∈ Y2 u := hp.mem_iff.1 (by rw [Yj hl]; exact List.getElem_mem _)
 obtain ⟨i, hi, e, hu⟩ := ZaZ.1 hm
 have hfi : Yt u = i := ZeS hi hu fun j hj hji => by
  cases huj : u[j] with
  | true => rfl
  | false =>
   have hmj : ((j : Nat) : Int) ∈ f := hp.mem_iff.2 (ZaZ.2 ⟨j, hj, rfl, huj⟩)
   obtain ⟨c, hc, e2⟩ := List.getElem_of_mem hmj
   have := ZeQ ZhM hH c hc
   rw [Yj hc, e, e2] at this
   simp at this; omega
 subst hfi
 refine ⟨hi, e, h1, ?_⟩
 have hnd : (nth f 0 :: Y1 ltI f).Nodup := h2.nodup_iff.2 (hp.nodup_iff.2 (ZhO u))
 obtain ⟨hn1, hn2⟩ := List.nodup_cons.1 hnd
 refine Znj hn2 (ZhO _) fun x => ?_
 have hmx : x ∈ nth f 0 :: Y1 ltI f ↔ x ∈ Y2 u := (h2.trans hp).mem_iff
 constructor
 ·intro hx
  obtain ⟨k, hk, rfl, hku⟩ := ZaZ.1 (hmx.1 (List.mem_cons_of_mem _ hx))
  have hne : Yt u ≠ k := fun h => hn1 (by rw [e, h]; exact hx)
  exact ZaZ.2 ⟨k, by rw [List.length_set]; exact hk, rfl, by rw [List.getElem_set_ne hne]; exact hku⟩
 ·intro hx
  obtain ⟨k, hk, rfl, hku⟩ := ZaZ.1 hx
  rw [List.length_set] at hk
  have hne : Yt u ≠ k := fun h => by subst h; simp at hku
  rw [List.getElem_set_ne hne] at hku
  rcases List.mem_cons.1 (hmx.2 (ZaZ.2 ⟨k, hk, rfl, hku⟩)) with h | h
  ·rw [e] at h; omega
  ·exact h
def Yf (n : Nat) : List Int := (List.range n).map fun i : Nat => (i : Int)
theorem ZhQ (n : Nat) : Yf (n + 1) = Yf n ++ [(n : Int)] := by simp [Yf, List.range_succ]
theorem Zac (n : Nat) : (Yf n).length = n := by simp [Yf]
theorem Zdc (n : Nat) : Heap ltI (Yf n) := fun c h0 hc _ => by
 rw [Zac] at hc
 have h1 : nth (Yf n) c = (c : Int) := by rw [Yj (by rw [Zac]; exact hc)]; simp [Yf]
 have h2 : nth (Yf n) ((c - 1) / 2) = (((c - 1) / 2 : Nat) : Int) := by rw [Yj (by rw [Zac]; omega)]; simp [Yf]
 rw [h1, h2]
 simp only [decide_eq_false_iff_not]
 omega
theorem ZhR (n : Nat) : Yf n = Y2 (List.replicate n false) := by
 unfold Yf Y2
 rw [List.length_replicate]
 congr 1
 symm
 rw [List.filter_eq_self]
 intro i hi
 rw [List.mem_range] at hi
 rw [Zcr (by simpa using hi)]
 simp
def Yk {α : Type} (st : List α × List Bool) (x : α) : (Int × Int) × (List α × List Bool) :=
 if Yt st.2 < st.2.length then ((Yt st.2, 0), (st.1.set (Yt st.2) x, st.2.set (Yt st.2) true)) else ((0, 4), st)
def XP {α : Type} (st : List α × List Bool) (i : Int) (x : α) : Int × (List α × List Bool) := if YY st.2 i = true then (0, (st.1.set i.toNat x, st.2)) else (8, st)
def Jw {α : Type} (st : List α × List Bool) (i : Int) (z : α) : α := if YY st.2 i = true then st.1.getD i.toNat z else z
def ArP {α : Type} (e : Enc α) (Te TB TI Tb : TypeId) (b : Nat) (G : GH) (st : List α × List Bool × List Int) (M : MH) : Prop :=
 ∃ vc vu vf Mc Mu Mf, M = (b, .cells (List.toArray [vc, vu, vf]) Tb (0, 0)) :: (Mc ++ (Mu ++ Mf)) ∧ OwnR e Te G vc st.1 Mc ∧ OwnR JM TB G vu st.2.1 Mu ∧ OwnR Zz TI G vf st.2.2 Mf
theorem ArP.mono {α : Type} {e : Enc α} {Te TB TI Tb : TypeId} {b : Nat} {G G' : GH} {st : List α × List Bool × List Int} {M : MH} (hl : Le G G') (h : ArP e Te TB TI Tb b G st M) : ArP e Te TB TI Tb b G' st M := by
 obtain ⟨vc, vu, vf, Mc, Mu, Mf, h1, h2, h3, h4⟩ := h
 exact ⟨vc, vu, vf, Mc, Mu, Mf, h1, h2.mono hl, h3.mono hl, h4.mono hl⟩
def ArR {α : Type} (e : Enc α) (Te TB TI Tb : TypeId) (b : Nat) (G : GH) (st : List α × List Bool) (M : MH) : Prop :=
 ∃ f, ArP e Te TB TI Tb b G (st.1, st.2, f) M ∧ st.1.length = st.2.length ∧ st.2.length ≤ 4096 ∧ Heap ltI f ∧ f.Perm (Y2 st.2)
theorem ArR.mono {α : Type} {e : Enc α} {Te TB TI Tb : TypeId} {b : Nat} {G G' : GH} {st : List α × List Bool} {M : MH} (hl : Le G G') (h : ArR e Te TB TI Tb b G st M) : ArR e Te TB TI Tb b G' st M := by
 obtain ⟨f, h1, h2⟩ := h
 exact ⟨f, h1.mono hl, h2⟩
theorem ArR.cast {α : Type} {e : Enc α} {Te TB TI Tb : TypeId} {b : Nat} {G : GH} {st st' : List α × List Bool} {M M' : MH} (h : ArR e Te TB TI Tb b G st M) (e1 : st = st') (e2 : M = M') : ArR e Te TB TI Tb b G st' M' := by subst e1 e2; exact h
theorem Znl {u : List Bool} {i : Int} (h0 : 0 ≤ i) (h1 : i < u.length) : u[i.toNat]'om9 = YY u i := by
 unfold YY
 rw [decide_eq_true h0, decide_eq_true h1, Zcr om9]; rfl
theorem Znm {u : List Bool} {i : Int} (h0 : ¬ 0 ≤ i) : false = YY u i := by unfold YY; rw [decide_eq_false h0]; rfl
theorem Znn {u : List Bool} {i : Int} (h1 : ¬ i < u.length) : false = YY u i := by unfold YY; rw [decide_eq_false h1]; simp
theorem ZhS {u : List Bool} {i : Int} (h : YY u i = true) : 0 ≤ i ∧ i.toNat < u.length ∧ i = (i.toNat : Int) := by
 obtain ⟨k, hk, rfl, _⟩ := ZhN.1 h
 exact ⟨om9, by simpa using hk, by simp⟩
theorem ZeU {α : Type} {st : List α × List Bool} {i : Int} {x : α} (h : YY st.2 i = true) : XP st i x = (0, (st.1.set i.toNat x, st.2)) := if_pos h
theorem ZeV {α : Type} {st : List α × List Bool} {i : Int} {x : α} (h : YY st.2 i = false) : XP st i x = (8, st) := if_neg (by simp [h])
theorem ZhT {α : Type} {st : List α × List Bool} {x : α} (h : Yt st.2 < st.2.length) : Yk st x = (((Yt st.2 : Int), 0), (st.1.set (Yt st.2) x, st.2.set (Yt st.2) true)) := if_pos h
theorem ZhU {α : Type} {st : List α × List Bool} {x : α} (h : Yt st.2 = st.2.length) : Yk st x = ((0, 4), st) := if_neg om9
theorem Zno {α : Type} {st : List α × List Bool} {i : Int} {z : α} (h : YY st.2 i = true) (h2 : i.toNat < st.1.length) : Jw st i z = st.1[i.toNat] := by
 unfold Jw; rw [if_pos h, List.getD_eq_getElem?_getD, List.getElem?_eq_getElem h2]; rfl
theorem Znp {α : Type} {st : List α × List Bool} {i : Int} {z : α} (h : YY st.2 i = false) : Jw st i z = z := if_neg (by simp [h])
theorem NodeC.cast {G : GH} {cs : List Value} {n m : Nd} (h : NodeC G cs n) (e : n = m) : NodeC G cs m := e ▸ h
def JN (u : List Bool) (k : Nat) : List Int := ((List.range k).filter fun i => u.getD i true).map fun i : Nat => (i : Int)
theorem ZhV (u : List Bool) (k : Nat) : (JN u k).length ≤ k := by
 unfold JN; rw [List.length_map]
 have := List.length_filter_le (fun i => u.getD i true) (List.range k)
 rw [List.length_range] at this; exact this
theorem Znq {u : List Bool} {k : Nat} (hk : k < u.length) (h : u[k] = true) : JN u (k + 1) = JN u k ++ [(k : Int)] := by
 unfold JN; rw [List.range_succ, List.filter_append, List.map_append]; congr 1; simp [List.getElem?_eq_getElem hk, h]
theorem Znr {u : List Bool} {k : Nat} (hk : k < u.length) (h : u[k] = false) : JN u (k + 1) = JN u k := by
 unfold JN; rw [List.range_succ, List.filter_append, List.map_append]; simp [List.getElem?_eq_getElem hk, h]
theorem ZhW (u : List Bool) : Xc u = JN u u.length := rfl
def CfgR (c : Cfg) : Prop := (4 ≤ c.fan ∧ c.fan ≤ 64) ∧ (2 ≤ c.leaf ∧ c.leaf ≤ 64) ∧ (36 ≤ c.bud ∧ c.bud ≤ 4096) ∧ (1 ≤ c.slots ∧ c.slots ≤ 4096) ∧ (0 ≤ c.rest ∧ c.rest ≤ 100)
instance (c : Cfg) : Decidable (CfgR c) := by unfold CfgR; infer_instance
def Ym (n : Nat) (l : List Nd) : List Nd × List Bool := (l ++ List.replicate (n - l.length) Nd.zero, List.replicate l.length true ++ List.replicate (n - l.length) false)
theorem Zns (n : Nat) : Ym n [] = (List.replicate n Nd.zero, List.replicate n false) := by simp [Ym]
theorem Zbx {n : Nat} {l : List Nd} (h : l.length ≤ n) : (Ym n l).2.length = n := by simp [Ym]; omega
theorem Zby {n : Nat} {l : List Nd} {i : Nat} (h : i < (Ym n l).2.length) : (Ym n l).2[i] = decide (i < l.length) := by
 rw [List.getElem_of_eq (show (Ym n l).2 = List.replicate l.length true ++ List.replicate (n - l.length) false from rfl) h, List.getElem_append]
 split <;> rename_i h2 <;> simp only [List.length_replicate] at h2 <;> simp <;> omega
theorem Zdd {n : Nat} {l : List Nd} (h : l.length ≤ n) (i : Int) : YY (Ym n l).2 i = decide (0 ≤ i ∧ i < l.length) := by
 rw [Bool.eq_iff_iff, ZhN, decide_eq_true_iff]
 constructor
 ·rintro ⟨k, hk, rfl, h2⟩
  rw [Zby hk] at h2
  have := of_decide_eq_true h2
  omega
 ·rintro ⟨h1, h2⟩
  have hl := Zbx h
  exact ⟨i.toNat, om9, om9, by rw [Zby]; exact decide_eq_true om9⟩
theorem ZhX {n : Nat} {l : List Nd} (h : l.length ≤ n) : Yt (Ym n l).2 = l.length := by
 have hl := Zbx h
 by_cases e : l.length = n
 ·rw [ZeT fun j hj => by rw [Zby hj]; exact decide_eq_true om9]; omega
 ·exact ZeS om9 (by rw [Zby]; exact decide_eq_false om9) fun j hj hjl => by rw [Zby hj]; exact decide_eq_true hjl
theorem Znt {n : Nat} {l : List Nd} {k : Nat} {x : Nd} (hk : k < l.length) : (Ym n l).1.set k x = (Ym n (l.set k x)).1 := by
 unfold Ym
 rw [List.length_set, List.set_append_left _ _ hk]
theorem Znu {n : Nat} {l : List Nd} (h : l.length < n) : Yk (Ym n l) Nd.zero = (((l.length : Int), 0), Ym n (l ++ [Nd.zero])) := by
 have hf := ZhX (Nat.le_of_lt h)
 have hl := Zbx (Nat.le_of_lt h)
 rw [ZhT om9, hf]
 refine congrArg (Prod.mk _) ?_
 obtain ⟨m, hm⟩ : ∃ m, n - l.length = m + 1 := ⟨n - l.length - 1, om9⟩
 have hm2 : n - (l ++ [Nd.zero]).length = m := by simp; omega
 unfold Ym
 rw [hm, hm2]
 refine Prod.ext ?_ ?_
 ·show (l ++ List.replicate (m + 1) Nd.zero).set l.length Nd.zero = (l ++ [Nd.zero]) ++ List.replicate m Nd.zero
  rw [List.set_append_right _ _ (Nat.le_refl _), Nat.sub_self, List.replicate_succ, List.set_cons_zero, List.append_assoc]; rfl
 ·show (List.replicate l.length true ++ List.replicate (m + 1) false).set l.length true = List.replicate (l ++ [Nd.zero]).length true ++ List.replicate m false
  rw [List.set_append_right _ _ (by simp), List.length_replicate, Nat.sub_self, List.replicate_succ, List.set_cons_zero, List.length_append, List.length_singleton, List.replicate_succ', List.append_assoc]; rfl
theorem Znv {n : Nat} {l : List Nd} (h : l.length = n) : Yk (Ym n l) Nd.zero = ((0, 4), Ym n l) := ZhU (by rw [ZhX om9, Zbx om9]; exact h)
def Zad (l : List Nd) (x : Nd) : Int × List Nd := if 0 ≤ x.slot ∧ x.slot < l.length then (0, l.set x.slot.toNat x) else (8, l)
theorem ZeW {l : List Nd} {x : Nd} (h : 0 ≤ x.slot ∧ x.slot < l.length) : Zad l x = (0, l.set x.slot.toNat x) := if_pos h
theorem Znw {l : List Nd} {x : Nd} (h : ¬ (0 ≤ x.slot ∧ x.slot < l.length)) : Zad l x = (8, l) := if_neg h
theorem Znx (l : List Nd) (x : Nd) : (Zad l x).2.length = l.length := by unfold Zad; split <;> simp
theorem ZeX {n : Nat} {l : List Nd} (h : l.length ≤ n) (x : Nd) : XP (Ym n l) x.slot x = ((Zad l x).1, Ym n (Zad l x).2) := by
 by_cases hx : 0 ≤ x.slot ∧ x.slot < l.length
 ·rw [ZeU (by rw [Zdd h]; exact decide_eq_true hx), ZeW hx, Znt om9]
  refine congrArg (Prod.mk _) (Prod.ext rfl ?_)
  unfold Ym; simp
 ·rw [ZeV (by rw [Zdd h]; exact decide_eq_false hx), Znw hx]
def JO (n : Nat) (l : List Nd) (x : Nd) : (Int × Int) × List Nd := if l.length < n then ((l.length, 0), l ++ [{ x with slot := l.length }]) else ((0, 4), l)
theorem ZeY {n : Nat} {l : List Nd} {x : Nd} (h : l.length < n) : JO n l x = (((l.length : Int), 0), l ++ [{ x with slot := l.length }]) := if_pos h
theorem ZhY {n : Nat} {l : List Nd} {x : Nd} (h : ¬ l.length < n) : JO n l x = ((0, 4), l) := if_neg h
theorem Zny {l : List Nd} {x : Nd} : Zad (l ++ [Nd.zero]) { x with slot := l.length } = (0, l ++ [{ x with slot := l.length }]) := by
 rw [ZeW (by simp; omega)]
 refine congrArg (Prod.mk _) ?_
 show (l ++ [Nd.zero]).set ((l.length : Int)).toNat _ = _
 rw [Int.toNat_natCast, List.set_append_right _ _ (Nat.le_refl _), Nat.sub_self]; rfl
def Za (l : List Nd) (i : Int) : Nd := if 0 ≤ i then l.getD i.toNat Nd.zero else Nd.zero
theorem Zae {l : List Nd} {k : Nat} (h : k < l.length) : Za l k = l[k] := by
 unfold Za; rw [if_pos om9, Int.toNat_natCast, List.getD_eq_getElem?_getD, List.getElem?_eq_getElem h]; rfl
theorem ZhZ {n : Nat} {l : List Nd} (h : l.length ≤ n) (i : Int) : Jw (Ym n l) i Nd.zero = Za l i := by
 unfold Jw Za
 rw [Zdd h]
 by_cases h0 : 0 ≤ i
 ·rw [if_pos h0]
  by_cases h1 : i < l.length
  ·rw [if_pos (decide_eq_true ⟨h0, h1⟩), List.getD_eq_getElem?_getD, List.getD_eq_getElem?_getD]
   unfold Ym
   rw [List.getElem?_append_left om9]
  ·rw [if_neg (by simp; omega), List.getD_eq_getElem?_getD, List.getElem?_eq_none om9]; rfl
 ·rw [if_neg h0, if_neg (by simp; omega)]
theorem ZeZ {n : Nat} {l : List Nd} (h : l.length ≤ n) : Xc (Ym n l).2 = Yf l.length := by
 have hl := Zbx h
 unfold Xc Yf
 congr 1
 rw [hl]
 have e : n = l.length + (n - l.length) := om9
 have key : ∀ m, m ≤ n → (List.range m).filter (fun i => (Ym n l).2.getD i true) = List.range (min m l.length) := by
  intro m
  induction m with
  | zero => intro _; simp
  | succ m ih =>
   intro hm
   rw [List.range_succ, List.filter_append, ih om9, List.filter_cons, Zcr om9, Zby]
   by_cases hml : m < l.length
   ·rw [if_pos (decide_eq_true hml), List.filter_nil, Nat.min_eq_left om9, Nat.min_eq_left om9, List.range_succ]
   ·rw [if_neg (by simpa using hml), List.filter_nil, List.append_nil, Nat.min_eq_right om9, Nat.min_eq_right om9]
 rw [key n (Nat.le_refl _), Nat.min_eq_right h]
theorem Znz {α : Type} {st : List α × List Bool} {x : α} (h : st.2.length ≤ 4096) : i64 (Yk st x).1.1 := by
 unfold Yk
 split
 ·exact ⟨by show (-9223372036854775808 : Int) ≤ (Yt st.2 : Int); omega, by show (Yt st.2 : Int) ≤ 9223372036854775807; omega⟩
 ·exact ⟨by show (-9223372036854775808 : Int) ≤ 0; omega, by show (0 : Int) ≤ 9223372036854775807; omega⟩
def Zbz (a : List Nd × List Bool) (x : Nd) : (Int × Int) × (List Nd × List Bool) :=
 if (Yk a Nd.zero).1.2 = 0 then (((Yk a Nd.zero).1.1, (XP (Yk a Nd.zero).2 (Yk a Nd.zero).1.1 { x with slot := (Yk a Nd.zero).1.1 }).1), (XP (Yk a Nd.zero).2 (Yk a Nd.zero).1.1 { x with slot := (Yk a Nd.zero).1.1 }).2)
 else ((0, (Yk a Nd.zero).1.2), (Yk a Nd.zero).2)
theorem Zh0 {a : List Nd × List Bool} {x : Nd} (h : (Yk a Nd.zero).1.2 = 0) : Zbz a x = (((Yk a Nd.zero).1.1, (XP (Yk a Nd.zero).2 (Yk a Nd.zero).1.1 { x with slot := (Yk a Nd.zero).1.1 }).1), (XP (Yk a Nd.zero).2 (Yk a Nd.zero).1.1 { x with slot := (Yk a Nd.zero).1.1 }).2) := if_pos h
theorem Zh1 {a : List Nd × List Bool} {x : Nd} (h : ¬ (Yk a Nd.zero).1.2 = 0) : Zbz a x = ((0, (Yk a Nd.zero).1.2), (Yk a Nd.zero).2) := if_neg h
theorem Ze0 {n : Nat} {l : List Nd} (h : l.length ≤ n) (x : Nd) : Zbz (Ym n l) x = ((JO n l x).1, Ym n (JO n l x).2) := by
 by_cases e : l.length < n
 ·have h1 := Znu e
  rw [Zh0 (by rw [h1]), h1, ZeY e]
  have h2 := ZeX (n := n) (l := l ++ [Nd.zero]) (by simp; omega) { x with slot := (l.length : Int) }
  rw [Zny] at h2
  show (((l.length : Int), (XP (Ym n (l ++ [Nd.zero])) ({ x with slot := (l.length : Int) } : Nd).slot { x with slot := (l.length : Int) }).1), (XP (Ym n (l ++ [Nd.zero])) ({ x with slot := (l.length : Int) } : Nd).slot { x with slot := (l.length : Int) }).2) = _
  rw [h2]
 ·have h1 := Znv (n := n) (l := l) om9
  rw [Zh1 (by rw [h1]; show ¬ (4 : Int) = 0; omega), h1, ZhY e]
def StA (te tB ti tb TS b : Nat) (G : GH) (c : Cfg) (a : List Nd × List Bool) (M : MH) : Prop :=
 ∃ b2 Ma, M = (b, .cells (List.toArray [.int .i64 c.fan, .int .i64 c.leaf, .int .i64 c.bud, .int .i64 c.slots, .int .i64 c.rest, .pointer (some ⟨b2, 0, none⟩)]) TS (0, 0)) :: Ma ∧ ArR ZA te tB ti tb b2 G a Ma
theorem StA.mono {te tB ti tb TS b : Nat} {G G' : GH} {c : Cfg} {a : List Nd × List Bool} {M : MH} (hl : Le G G') (h : StA te tB ti tb TS b G c a M) : StA te tB ti tb TS b G' c a M := by
 obtain ⟨b2, Ma, h1, h2⟩ := h; exact ⟨b2, Ma, h1, h2.mono hl⟩
def StR (te tB ti tb TS b : Nat) (c : Cfg) (G : GH) (l : List Nd) (M : MH) : Prop := CfgR c ∧ l.length ≤ c.slots.toNat ∧ StA te tB ti tb TS b G c (Ym c.slots.toNat l) M
theorem StR.mono {te tB ti tb TS b : Nat} {G G' : GH} {c : Cfg} {l : List Nd} {M : MH} (hl : Le G G') (h : StR te tB ti tb TS b c G l M) : StR te tB ti tb TS b c G' l M := ⟨h.1, h.2.1, h.2.2.mono hl⟩
theorem StA.cast {te tB ti tb TS b : Nat} {G : GH} {c : Cfg} {a a' : List Nd × List Bool} {M : MH} (h : StA te tB ti tb TS b G c a M) (e : a = a') : StA te tB ti tb TS b G c a' M := e ▸ h
def XE (slot : Int) : Nd := ⟨slot, 0, [], [], Str.nil, true, -1, 0, [], []⟩
theorem ZnA {n : Nat} {l : List Nd} {x : Nd} (h : l.length ≤ n) : (JO n l x).2.length ≤ n := by unfold JO; split <;> simp <;> omega
theorem ZnB {n : Nat} {l : List Nd} (h : l.length ≤ n) : ((Xc (Ym n l).2).map fun i => Jw (Ym n l) i Nd.zero) = l := by
 rw [ZeZ h]
 refine List.ext_getElem (by simp [Yf]) fun i h1 h2 => ?_
 rw [List.getElem_map, ZhZ h]
 simp only [Yf, List.getElem_map, List.getElem_range]
 exact Zae h2
theorem NodeC.of {G : GH} {cs : List Value} {n m : Nd} (h : NodeC G cs n) (e : n = m) : NodeC G cs m := e ▸ h
end Go.Fw
namespace Go.Proofs.YtbbemibbmbmamaaGreat
open Go.Fw
theorem Zh2 : tyK Tryz.prog 23 = some (true, 5) := by kernel_rfl
theorem Zh3 : Yd Tryz.prog 23 = some [.int .i64 0, .int .i64 0, .int .i64 0, .int .i64 0, .int .i64 0] := by kernel_rfl
theorem Zde : Z0 Tryz.prog 24 = some 36 := by kernel_rfl
theorem Zh4 : tyK Tryz.prog 36 = some (true, 7) := by kernel_rfl
theorem ZnC : Yd Tryz.prog 36 = some [.int .i64 0, .string ⟨#[]⟩, .string ⟨#[]⟩, .bool false, .string ⟨#[]⟩, .int .i64 0, .int .i64 0] := by kernel_rfl
theorem ZnD : Xk Tryz.prog 36 = some 80 := by kernel_rfl
theorem ZnE : ZG Tryz.prog 23 3 = some 3 := by kernel_rfl
theorem ty3 : tyK Tryz.prog 3 = some (false, 1) := by kernel_rfl
theorem zr3 : Yd Tryz.prog 3 = some [.int .i64 0] := by kernel_rfl
theorem Zcs : tyK Tryz.prog 38 = some (true, 4) := by kernel_rfl
theorem Ze1 : Yd Tryz.prog 38 = some [.int .i64 0, .bool false, .string ⟨#[]⟩, .slice none 0 0] := by kernel_rfl
theorem ZnF : ZG Tryz.prog 36 0 = some 0 := by kernel_rfl
theorem ZnG : tyK Tryz.prog 34 = some (true, 6) := by kernel_rfl
theorem Zct : Yd Tryz.prog 34 = some [.int .i64 0, .string ⟨#[]⟩, .string ⟨#[]⟩, .bool false, .string ⟨#[]⟩, .int .i64 0] := by kernel_rfl
theorem ZI : Z0 Tryz.prog 32 = some 74 := by kernel_rfl
theorem ZJ : tyK Tryz.prog 74 = some (true, 2) := by kernel_rfl
theorem Xd : Yd Tryz.prog 74 = some [.string ⟨#[]⟩, .string ⟨#[]⟩] := by kernel_rfl
theorem ZaB : Xk Tryz.prog 74 = some 32 := by kernel_rfl
theorem ZnH : ZG Tryz.prog 36 1 = some 6 := by kernel_rfl
theorem Xm : Z0 Tryz.prog 49 = some 60 := by kernel_rfl
theorem Yn : tyK Tryz.prog 60 = some (true, 10) := by kernel_rfl
theorem Zo : Yd Tryz.prog 60 = some [.int .i64 0, .int .i64 0, .slice none 0 0, .slice none 0 0, .string ⟨#[]⟩, .bool false, .int .i64 0, .int .i64 0, .slice none 0 0, .slice none 0 0] := by kernel_rfl
theorem Zaf : Xk Tryz.prog 60 = some 152 := by kernel_rfl
theorem bo4 : Tryz.prog.underlying 4 = some .bool := by kernel_rfl
theorem Za0 : Z0 Tryz.prog 53 = some 64 := by kernel_rfl
theorem ZaC : tyK Tryz.prog 64 = some (true, 14) := by kernel_rfl
theorem Zag : Yd Tryz.prog 64 = some [.int .i64 0, .int .i64 0, .slice none 0 0, .slice none 0 0, .string ⟨#[]⟩, .bool false, .int .i64 0, .int .i64 0, .slice none 0 0, .slice none 0 0, .string ⟨#[]⟩, .string ⟨#[]⟩, .bool false, .slice none 0 0] := by kernel_rfl
theorem ZnI : Xk Tryz.prog 64 = some 216 := by kernel_rfl
theorem ZnJ : ZG Tryz.prog 64 0 = some 0 := by kernel_rfl
theorem ZnK : ZG Tryz.prog 60 9 = some 9 := by kernel_rfl
theorem ZnL : tyK Tryz.prog 32 = some (false, 1) := by kernel_rfl
theorem Za1 : Zbo Tryz.prog 27 = true := by kernel_rfl
theorem ZnM : ZG Tryz.prog 38 0 = some 0 := by kernel_rfl
theorem ZnN : tyK Tryz.prog 28 = some (false, 1) := by kernel_rfl
theorem ZnO : ZG Tryz.prog 34 0 = some 0 := by kernel_rfl
theorem ZnP : XZ Tryz.prog 38 = some [(0, 1), (1, 1), (2, 1), (3, 1)] := by kernel_rfl
theorem ZnQ : ZG Tryz.prog 60 1 = some 1 := by kernel_rfl
theorem ZnR : ZG Tryz.prog 23 0 = some 0 := by kernel_rfl
theorem ZnS : ZG Tryz.prog 23 1 = some 1 := by kernel_rfl
theorem ZnT : XZ Tryz.prog 23 = some [(0, 1), (1, 1), (2, 1), (3, 1), (4, 1)] := by kernel_rfl
theorem Zcu : XZ Tryz.prog 34 = some [(0, 1), (1, 1), (2, 1), (3, 1), (4, 1), (5, 1)] := by kernel_rfl
theorem ZnU : ZG Tryz.prog 38 1 = some 1 := by kernel_rfl
theorem ty4 : tyK Tryz.prog 4 = some (false, 1) := by kernel_rfl
theorem zr4 : Yd Tryz.prog 4 = some [.bool false] := by kernel_rfl
theorem ZnV : ZG Tryz.prog 38 2 = some 2 := by kernel_rfl
theorem ty9 : tyK Tryz.prog 9 = some (false, 1) := by kernel_rfl
theorem zr9 : Yd Tryz.prog 9 = some [.string ⟨#[]⟩] := by kernel_rfl
theorem st9 : Tryz.prog.underlying 9 = some .string := by kernel_rfl
theorem Zh5 : XZ Tryz.prog 74 = some [(0, 1), (1, 1)] := by kernel_rfl
theorem ZnW : Yd Tryz.prog 79 = some [.pointer none, .string ⟨#[]⟩] := by kernel_rfl
theorem ZnX : XZ Tryz.prog 79 = some [(0, 1), (1, 1)] := by kernel_rfl
theorem ZnY : ZG Tryz.prog 23 2 = some 2 := by kernel_rfl
theorem ZnZ : ZG Tryz.prog 23 4 = some 4 := by kernel_rfl
theorem Zn0 : ZG Tryz.prog 34 1 = some 1 := by kernel_rfl
theorem Zn1 : ZG Tryz.prog 34 5 = some 5 := by kernel_rfl
theorem Zn2 : ZG Tryz.prog 38 3 = some 3 := by kernel_rfl
theorem Zn3 : ZG Tryz.prog 34 2 = some 2 := by kernel_rfl
theorem Zn4 : ZG Tryz.prog 34 3 = some 3 := by kernel_rfl
theorem Zn5 : ZG Tryz.prog 34 4 = some 4 := by kernel_rfl
theorem ZR : tyK Tryz.prog 87 = some (true, 6) := by kernel_rfl
theorem ZL : Yd Tryz.prog 87 = some [.int .i64 0, .int .i64 0, .string ⟨#[]⟩, .string ⟨#[]⟩, .bool false, .string ⟨#[]⟩] := by kernel_rfl
theorem ZbA : XZ Tryz.prog 87 = some [(0, 1), (1, 1), (2, 1), (3, 1), (4, 1), (5, 1)] := by kernel_rfl
theorem Zn6 : ZG Tryz.prog 79 0 = some 0 := by kernel_rfl
theorem Zn7 : tyK Tryz.prog 75 = some (false, 1) := by kernel_rfl
theorem Zn8 : ZG Tryz.prog 79 1 = some 1 := by kernel_rfl
theorem Zn9 : Zc0 Tryz.prog 74 = some [.string, .string] := by kernel_rfl
theorem Zoa : ZG Tryz.prog 60 0 = some 0 := by kernel_rfl
theorem Zob : ZG Tryz.prog 64 2 = some 13 := by kernel_rfl
theorem Za2 : tyK Tryz.prog 58 = some (false, 1) := by kernel_rfl
theorem Zcv : Yd Tryz.prog 58 = some [.slice none 0 0] := by kernel_rfl
theorem ZQ : Z0 Tryz.prog 58 = some 87 := by kernel_rfl
theorem XQ : Xk Tryz.prog 87 = some 72 := by kernel_rfl
theorem Zoc : ZG Tryz.prog 87 0 = some 0 := by kernel_rfl
theorem Zod : ZG Tryz.prog 60 7 = some 7 := by kernel_rfl
theorem Yo : tyK Tryz.prog 62 = some (true, 3) := by kernel_rfl
theorem Zy : Yd Tryz.prog 62 = some [.string ⟨#[]⟩, .string ⟨#[]⟩, .bool false] := by kernel_rfl
theorem Xe : XZ Tryz.prog 62 = some [(0, 1), (1, 1), (2, 1)] := by kernel_rfl
theorem Zh6 : XZ Tryz.prog 64 = some [(0, 10), (10, 3), (13, 1)] := by kernel_rfl
theorem Zoe : ZG Tryz.prog 60 2 = some 2 := by kernel_rfl
theorem Zof : tyK Tryz.prog 56 = some (false, 1) := by kernel_rfl
theorem Zog : ZG Tryz.prog 60 3 = some 3 := by kernel_rfl
theorem Zoh : tyK Tryz.prog 57 = some (false, 1) := by kernel_rfl
theorem Z3 : Z0 Tryz.prog 56 = some 9 := by kernel_rfl
theorem by9 : Xk Tryz.prog 9 = some 16 := by kernel_rfl
theorem ZU : Z0 Tryz.prog 57 = some 3 := by kernel_rfl
theorem by3 : Xk Tryz.prog 3 = some 8 := by kernel_rfl
theorem Zoi : ZG Tryz.prog 64 1 = some 10 := by kernel_rfl
theorem Zoj : ZG Tryz.prog 60 8 = some 8 := by kernel_rfl
theorem Za3 : Z0 Tryz.prog 107 = some 58 := by kernel_rfl
theorem Zh7 : Xk Tryz.prog 58 = some 24 := by kernel_rfl
theorem Zok : ZG Tryz.prog 74 0 = some 0 := by kernel_rfl
theorem Zol : Yd Tryz.prog 139 = some [.int .i64 0, .int .i64 0, .int .i64 0, .int .i64 0, .int .i64 0, .pointer none] := by kernel_rfl
theorem Zom : XZ Tryz.prog 139 = some [(0, 5), (5, 1)] := by kernel_rfl
theorem Zon : ZG Tryz.prog 74 1 = some 1 := by kernel_rfl
theorem Zoo : ZG Tryz.prog 87 1 = some 1 := by kernel_rfl
theorem Zop : ZG Tryz.prog 87 2 = some 2 := by kernel_rfl
theorem Zh8 : ZG Tryz.prog 62 0 = some 0 := by kernel_rfl
theorem Ze2 : ZG Tryz.prog 62 2 = some 2 := by kernel_rfl
theorem Ze3 : ZG Tryz.prog 62 1 = some 1 := by kernel_rfl
theorem J2 : Zbo Tryz.prog 75 = true := by kernel_rfl
theorem Zoq : ZG Tryz.prog 139 1 = some 5 := by kernel_rfl
theorem Zor : tyK Tryz.prog 135 = some (false, 1) := by kernel_rfl
theorem Zos : ZG Tryz.prog 60 6 = some 6 := by kernel_rfl
theorem Zot : ZG Tryz.prog 60 5 = some 5 := by kernel_rfl
theorem Zou : ZG Tryz.prog 60 4 = some 4 := by kernel_rfl
theorem Zov : Zc0 Tryz.prog 62 = some [.string, .string, .bool] := by kernel_rfl
theorem J3 : XZ Tryz.prog 60 = some [(0, 1), (1, 1), (2, 1), (3, 1), (4, 1), (5, 1), (6, 1), (7, 1), (8, 1), (9, 1)] := by kernel_rfl
theorem Zow : tyK Tryz.prog 49 = some (false, 1) := by kernel_rfl
theorem ZbB : Z0 Tryz.prog 168 = some 4 := by kernel_rfl
theorem by4 : Xk Tryz.prog 4 = some 1 := by kernel_rfl
theorem Zox : tyK Tryz.prog 169 = some (false, 1) := by kernel_rfl
theorem Xn : Z0 Tryz.prog 169 = some 3 := by kernel_rfl
theorem Ze4 : ZaT Tryz.prog 173 = true := by kernel_rfl
theorem pi3 : ZaT Tryz.prog 3 = true := by kernel_rfl
theorem Zoy : tyK Tryz.prog 168 = some (false, 1) := by kernel_rfl
theorem Zoz : tyK Tryz.prog 132 = some (true, 2) := by kernel_rfl
theorem JP : Yd Tryz.prog 132 = some [.int .i64 0, .string ⟨#[]⟩] := by kernel_rfl
theorem ZaD : XZ Tryz.prog 132 = some [(0, 1), (1, 1)] := by kernel_rfl
theorem ZoA : ZG Tryz.prog 87 5 = some 5 := by kernel_rfl
theorem Zh9 : Yd Tryz.prog 189 = some [.slice none 0 0, .slice none 0 0, .slice none 0 0] := by kernel_rfl
theorem Zia : XZ Tryz.prog 189 = some [(0, 1), (1, 1), (2, 1)] := by kernel_rfl
theorem ZoB : ZG Tryz.prog 189 2 = some 2 := by kernel_rfl
theorem ZoC : ZG Tryz.prog 87 3 = some 3 := by kernel_rfl
theorem ZoD : ZG Tryz.prog 87 4 = some 4 := by kernel_rfl
theorem XR : Z0 Tryz.prog 193 = some 62 := by kernel_rfl
theorem ZbC : Xk Tryz.prog 62 = some 40 := by kernel_rfl
theorem ZbD : Zbo Tryz.prog 135 = true := by kernel_rfl
theorem ZoE : ZG Tryz.prog 189 1 = some 1 := by kernel_rfl
theorem ZoF : ZG Tryz.prog 189 0 = some 0 := by kernel_rfl
theorem ZoG : ZG Tryz.prog 132 0 = some 0 := by kernel_rfl
theorem ZoH : ZG Tryz.prog 132 1 = some 1 := by kernel_rfl
theorem Zib : Zep Tryz.prog 23 1 = some (false, 1, 1) := by kernel_rfl
theorem Zic : Zep Tryz.prog 23 2 = some (false, 2, 1) := by kernel_rfl
theorem ZoI : ZG Tryz.prog 139 0 = some 0 := by kernel_rfl
theorem un3 : Tryz.prog.underlying 3 = some (.int .i64) := by kernel_rfl
theorem ZbE : Tryz.prog.underlying 255 = some (.int .u64) := by kernel_rfl
theorem XK : Z0 Tryz.prog 269 = some 271 := by kernel_rfl
theorem YK : tyK Tryz.prog 271 = some (true, 2) := by kernel_rfl
theorem Jx : Yd Tryz.prog 271 = some [.slice none 0 0, .int .i64 0] := by kernel_rfl
theorem Zid : Xk Tryz.prog 271 = some 32 := by kernel_rfl
theorem ZoJ : tyK Tryz.prog 269 = some (false, 1) := by kernel_rfl
theorem Ze5 : ZaT Tryz.prog 267 = true := by kernel_rfl
theorem ZoK : XZ Tryz.prog 271 = some [(0, 1), (1, 1)] := by kernel_rfl
theorem Zcw : ZaT Tryz.prog 271 = true := by kernel_rfl
theorem ZoL : ZG Tryz.prog 271 0 = some 0 := by kernel_rfl
theorem ZoM : ZG Tryz.prog 271 1 = some 1 := by kernel_rfl
theorem cl4 : Callable Tryz.prog 4 := Ze Tryz.func4 rfl (by decide)
theorem cl8 : Callable Tryz.prog 8 := Ze Tryz.func8 rfl (by decide)
theorem cl9 : Callable Tryz.prog 9 := Ze Tryz.func9 rfl (by decide)
theorem Zu1 : Callable Tryz.prog 10 := Ze Tryz.func10 rfl (by decide)
theorem Zu2 : Callable Tryz.prog 14 := Ze Tryz.func14 rfl (by decide)
theorem Zu3 : Callable Tryz.prog 15 := Ze Tryz.func15 rfl (by decide)
theorem Zu4 : Callable Tryz.prog 16 := Ze Tryz.func16 rfl (by decide)
theorem Zu5 : Callable Tryz.prog 17 := Ze Tryz.func17 rfl (by decide)
theorem Zu6 : Callable Tryz.prog 18 := Ze Tryz.func18 rfl (by decide)
theorem Zu7 : Callable Tryz.prog 19 := Ze Tryz.func19 rfl (by decide)
theorem Zu8 : Callable Tryz.prog 20 := Ze Tryz.func20 rfl (by decide)
theorem Zu9 : Callable Tryz.prog 21 := Ze Tryz.func21 rfl (by decide)
theorem Zva : Callable Tryz.prog 22 := Ze Tryz.func22 rfl (by decide)
theorem Zvb : Callable Tryz.prog 23 := Ze Tryz.func23 rfl (by decide)
theorem Zvc : Callable Tryz.prog 28 := Ze Tryz.func28 rfl (by decide)
theorem Zvd : Callable Tryz.prog 38 := Ze Tryz.func38 rfl (by decide)
theorem Zve : Callable Tryz.prog 44 := Ze Tryz.func44 rfl (by decide)
theorem Zvf : Callable Tryz.prog 45 := Ze Tryz.func45 rfl (by decide)
theorem Zvg : Callable Tryz.prog 46 := Ze Tryz.func46 rfl (by decide)
theorem Zvh : Callable Tryz.prog 47 := Ze Tryz.func47 rfl (by decide)
theorem Zvi : Callable Tryz.prog 48 := Ze Tryz.func48 rfl (by decide)
theorem Zvj : Callable Tryz.prog 49 := Ze Tryz.func49 rfl (by decide)
theorem Zvk : Callable Tryz.prog 50 := Ze Tryz.func50 rfl (by decide)
theorem Zvl : Callable Tryz.prog 51 := Ze Tryz.func51 rfl (by decide)
theorem Zvm : Callable Tryz.prog 52 := Ze Tryz.func52 rfl (by decide)
theorem Zvn : Callable Tryz.prog 53 := Ze Tryz.func53 rfl (by decide)
theorem Zvo : Callable Tryz.prog 54 := Ze Tryz.func54 rfl (by decide)
theorem Zvp : Callable Tryz.prog 55 := Ze Tryz.func55 rfl (by decide)
theorem Zvq : Callable Tryz.prog 56 := Ze Tryz.func56 rfl (by decide)
theorem Zvr : Callable Tryz.prog 57 := Ze Tryz.func57 rfl (by decide)
theorem Zvs : Callable Tryz.prog 58 := Ze Tryz.func58 rfl (by decide)
theorem Zvt : Callable Tryz.prog 59 := Ze Tryz.func59 rfl (by decide)
theorem Zvu : Callable Tryz.prog 60 := Ze Tryz.func60 rfl (by decide)
theorem Zvv : Callable Tryz.prog 61 := Ze Tryz.func61 rfl (by decide)
theorem Zvw : Callable Tryz.prog 62 := Ze Tryz.func62 rfl (by decide)
theorem Zvx : Callable Tryz.prog 63 := Ze Tryz.func63 rfl (by decide)
theorem Zvy : Callable Tryz.prog 64 := Ze Tryz.func64 rfl (by decide)
theorem Zvz : Callable Tryz.prog 65 := Ze Tryz.func65 rfl (by decide)
theorem ZvA : Callable Tryz.prog 67 := Ze Tryz.func67 rfl (by decide)
theorem ZvB : Callable Tryz.prog 75 := Ze Tryz.func75 rfl (by decide)
theorem ZvC : Callable Tryz.prog 78 := Ze Tryz.func78 rfl (by decide)
theorem ZvD : Callable Tryz.prog 80 := Ze Tryz.func80 rfl (by decide)
theorem ZvE : Callable Tryz.prog 81 := Ze Tryz.func81 rfl (by decide)
theorem ZvF : Callable Tryz.prog 82 := Ze Tryz.func82 rfl (by decide)
theorem ZvG : Callable Tryz.prog 83 := Ze Tryz.func83 rfl (by decide)
theorem ZvH : Callable Tryz.prog 84 := Ze Tryz.func84 rfl (by decide)
theorem ZvI : Callable Tryz.prog 85 := Ze Tryz.func85 rfl (by decide)
theorem ZvJ : Callable Tryz.prog 86 := Ze Tryz.func86 rfl (by decide)
theorem ZvK : Callable Tryz.prog 87 := Ze Tryz.func87 rfl (by decide)
theorem ZvL : Callable Tryz.prog 90 := Ze Tryz.func90 rfl (by decide)
theorem ZvM : Callable Tryz.prog 91 := Ze Tryz.func91 rfl (by decide)
theorem ZvN : Callable Tryz.prog 92 := Ze Tryz.func92 rfl (by decide)
theorem ZvO : Callable Tryz.prog 93 := Ze Tryz.func93 rfl (by decide)
theorem ZvP : Callable Tryz.prog 94 := Ze Tryz.func94 rfl (by decide)
theorem ZvQ : Callable Tryz.prog 95 := Ze Tryz.func95 rfl (by decide)
theorem ZvR : Callable Tryz.prog 96 := Ze Tryz.func96 rfl (by decide)
theorem ZvS : Callable Tryz.prog 97 := Ze Tryz.func97 rfl (by decide)
theorem ZvT : Callable Tryz.prog 98 := Ze Tryz.func98 rfl (by decide)
theorem ZvU : Callable Tryz.prog 99 := Ze Tryz.func99 rfl (by decide)
theorem ZvV : Callable Tryz.prog 100 := Ze Tryz.func100 rfl (by decide)
theorem ZvW : Callable Tryz.prog 101 := Ze Tryz.func101 rfl (by decide)
theorem ZvX : Callable Tryz.prog 102 := Ze Tryz.func102 rfl (by decide)
theorem ZvY : Callable Tryz.prog 103 := Ze Tryz.func103 rfl (by decide)
theorem ZvZ : Callable Tryz.prog 104 := Ze Tryz.func104 rfl (by decide)
theorem Zv0 : Callable Tryz.prog 105 := Ze Tryz.func105 rfl (by decide)
theorem Zv1 : Callable Tryz.prog 106 := Ze Tryz.func106 rfl (by decide)
theorem Zv2 : Callable Tryz.prog 107 := Ze Tryz.func107 rfl (by decide)
theorem Zv3 : Callable Tryz.prog 108 := Ze Tryz.func108 rfl (by decide)
theorem Zv4 : Callable Tryz.prog 109 := Ze Tryz.func109 rfl (by decide)
theorem Zv5 : Callable Tryz.prog 110 := Ze Tryz.func110 rfl (by decide)
theorem Zv6 : Callable Tryz.prog 111 := Ze Tryz.func111 rfl (by decide)
theorem Zv7 : Callable Tryz.prog 112 := Ze Tryz.func112 rfl (by decide)
theorem Zv8 : Callable Tryz.prog 113 := Ze Tryz.func113 rfl (by decide)
theorem Zv9 : Callable Tryz.prog 114 := Ze Tryz.func114 rfl (by decide)
theorem Zwa : Callable Tryz.prog 115 := Ze Tryz.func115 rfl (by decide)
theorem Zwb : Callable Tryz.prog 117 := Ze Tryz.func117 rfl (by decide)
theorem Zwc : Callable Tryz.prog 118 := Ze Tryz.func118 rfl (by decide)
theorem Zwd : Callable Tryz.prog 121 := Ze Tryz.func121 rfl (by decide)
theorem Zwe : Callable Tryz.prog 122 := Ze Tryz.func122 rfl (by decide)
theorem Zwf : Callable Tryz.prog 124 := Ze Tryz.func124 rfl (by decide)
theorem Zwg : Callable Tryz.prog 125 := Ze Tryz.func125 rfl (by decide)
theorem Zwh : Callable Tryz.prog 126 := Ze Tryz.func126 rfl (by decide)
theorem Zwi : Callable Tryz.prog 127 := Ze Tryz.func127 rfl (by decide)
theorem Zwj : Callable Tryz.prog 128 := Ze Tryz.func128 rfl (by decide)
theorem Zwk : Callable Tryz.prog 131 := Ze Tryz.func131 rfl (by decide)
theorem Zwl : Callable Tryz.prog 132 := Ze Tryz.func132 rfl (by decide)
theorem Zwm : Callable Tryz.prog 136 := Ze Tryz.func136 rfl (by decide)
theorem Zwn : Callable Tryz.prog 137 := Ze Tryz.func137 rfl (by decide)
theorem Zwo : Callable Tryz.prog 138 := Ze Tryz.func138 rfl (by decide)
theorem Zwp : Callable Tryz.prog 139 := Ze Tryz.func139 rfl (by decide)
theorem Zwq : Callable Tryz.prog 140 := Ze Tryz.func140 rfl (by decide)
theorem Zwr : Callable Tryz.prog 142 := Ze Tryz.func142 rfl (by decide)
theorem Zws : Callable Tryz.prog 143 := Ze Tryz.func143 rfl (by decide)
theorem Zwt : Callable Tryz.prog 144 := Ze Tryz.func144 rfl (by decide)
theorem Zwu : Callable Tryz.prog 145 := Ze Tryz.func145 rfl (by decide)
theorem Zwv : Callable Tryz.prog 146 := Ze Tryz.func146 rfl (by decide)
theorem Zww : Callable Tryz.prog 147 := Ze Tryz.func147 rfl (by decide)
theorem Zwx : Callable Tryz.prog 148 := Ze Tryz.func148 rfl (by decide)
theorem Zwy : Callable Tryz.prog 149 := Ze Tryz.func149 rfl (by decide)
theorem Zwz : Callable Tryz.prog 150 := Ze Tryz.func150 rfl (by decide)
theorem ZwA : Callable Tryz.prog 151 := Ze Tryz.func151 rfl (by decide)
theorem ZwB : Callable Tryz.prog 152 := Ze Tryz.func152 rfl (by decide)
theorem ZwC : Callable Tryz.prog 153 := Ze Tryz.func153 rfl (by decide)
theorem ZwD : Callable Tryz.prog 154 := Ze Tryz.func154 rfl (by decide)
theorem ZwE : Callable Tryz.prog 155 := Ze Tryz.func155 rfl (by decide)
theorem ZwF : Callable Tryz.prog 156 := Ze Tryz.func156 rfl (by decide)
theorem ZwG : Callable Tryz.prog 157 := Ze Tryz.func157 rfl (by decide)
theorem ZwH : Callable Tryz.prog 158 := Ze Tryz.func158 rfl (by decide)
theorem ZwI : Callable Tryz.prog 159 := Ze Tryz.func159 rfl (by decide)
theorem ZwJ : Callable Tryz.prog 160 := Ze Tryz.func160 rfl (by decide)
theorem ZwK : Callable Tryz.prog 161 := Ze Tryz.func161 rfl (by decide)
theorem ZwL : Callable Tryz.prog 163 := Ze Tryz.func163 rfl (by decide)
theorem ZwM : Callable Tryz.prog 164 := Ze Tryz.func164 rfl (by decide)
theorem ZwN : Callable Tryz.prog 165 := Ze Tryz.func165 rfl (by decide)
theorem ZwO : Callable Tryz.prog 166 := Ze Tryz.func166 rfl (by decide)
theorem ZwP : Callable Tryz.prog 167 := Ze Tryz.func167 rfl (by decide)
theorem ZwQ : Callable Tryz.prog 171 := Ze Tryz.func171 rfl (by decide)
theorem ZwR : Callable Tryz.prog 172 := Ze Tryz.func172 rfl (by decide)
theorem ZwS : Callable Tryz.prog 173 := Ze Tryz.func173 rfl (by decide)
theorem ZwT : Callable Tryz.prog 175 := Ze Tryz.func175 rfl (by decide)
theorem ZwU : Callable Tryz.prog 176 := Ze Tryz.func176 rfl (by decide)
theorem ZwV : Callable Tryz.prog 177 := Ze Tryz.func177 rfl (by decide)
theorem ZwW : Callable Tryz.prog 178 := Ze Tryz.func178 rfl (by decide)
theorem ZwX : Callable Tryz.prog 180 := Ze Tryz.func180 rfl (by decide)
theorem ZwY : Callable Tryz.prog 181 := Ze Tryz.func181 rfl (by decide)
theorem ZwZ : Callable Tryz.prog 182 := Ze Tryz.func182 rfl (by decide)
theorem Zw0 : Callable Tryz.prog 183 := Ze Tryz.func183 rfl (by decide)
theorem Zw1 : Callable Tryz.prog 184 := Ze Tryz.func184 rfl (by decide)
theorem Zw2 : Callable Tryz.prog 185 := Ze Tryz.func185 rfl (by decide)
theorem Zw3 : Callable Tryz.prog 186 := Ze Tryz.func186 rfl (by decide)
theorem Zw4 : Callable Tryz.prog 187 := Ze Tryz.func187 rfl (by decide)
theorem Zw5 : Callable Tryz.prog 188 := Ze Tryz.func188 rfl (by decide)
theorem Zw6 : Callable Tryz.prog 189 := Ze Tryz.func189 rfl (by decide)
theorem Zw7 : Callable Tryz.prog 190 := Ze Tryz.func190 rfl (by decide)
theorem Zw8 : Callable Tryz.prog 191 := Ze Tryz.func191 rfl (by decide)
theorem Zw9 : Callable Tryz.prog 192 := Ze Tryz.func192 rfl (by decide)
theorem Zxa : Callable Tryz.prog 193 := Ze Tryz.func193 rfl (by decide)
theorem Zxb : Callable Tryz.prog 194 := Ze Tryz.func194 rfl (by decide)
theorem Zxc : Callable Tryz.prog 195 := Ze Tryz.func195 rfl (by decide)
theorem Zxd : Callable Tryz.prog 196 := Ze Tryz.func196 rfl (by decide)
theorem Zxe : Callable Tryz.prog 197 := Ze Tryz.func197 rfl (by decide)
theorem Zxf : Callable Tryz.prog 198 := Ze Tryz.func198 rfl (by decide)
theorem Zxg : Callable Tryz.prog 199 := Ze Tryz.func199 rfl (by decide)
theorem Zxh : Callable Tryz.prog 200 := Ze Tryz.func200 rfl (by decide)
theorem Zxi : Callable Tryz.prog 201 := Ze Tryz.func201 rfl (by decide)
theorem Zxj : Callable Tryz.prog 205 := Ze Tryz.func205 rfl (by decide)
theorem Zxk : Callable Tryz.prog 206 := Ze Tryz.func206 rfl (by decide)
theorem Zxl : Callable Tryz.prog 207 := Ze Tryz.func207 rfl (by decide)
theorem Zxm : Callable Tryz.prog 208 := Ze Tryz.func208 rfl (by decide)
theorem Zxn : Callable Tryz.prog 209 := Ze Tryz.func209 rfl (by decide)
theorem Zxo : Callable Tryz.prog 210 := Ze Tryz.func210 rfl (by decide)
theorem Zxp : Callable Tryz.prog 211 := Ze Tryz.func211 rfl (by decide)
theorem Zxq : Callable Tryz.prog 212 := Ze Tryz.func212 rfl (by decide)
theorem Zxr : Callable Tryz.prog 213 := Ze Tryz.func213 rfl (by decide)
theorem Zxs : Callable Tryz.prog 214 := Ze Tryz.func214 rfl (by decide)
theorem Zxt : Callable Tryz.prog 215 := Ze Tryz.func215 rfl (by decide)
theorem Zxu : Callable Tryz.prog 216 := Ze Tryz.func216 rfl (by decide)
theorem Zxv : Callable Tryz.prog 217 := Ze Tryz.func217 rfl (by decide)
theorem Zxw : Callable Tryz.prog 218 := Ze Tryz.func218 rfl (by decide)
theorem Zxx : Callable Tryz.prog 219 := Ze Tryz.func219 rfl (by decide)
theorem Zxy : Callable Tryz.prog 220 := Ze Tryz.func220 rfl (by decide)
theorem Zxz : Callable Tryz.prog 221 := Ze Tryz.func221 rfl (by decide)
theorem ZxA : Callable Tryz.prog 222 := Ze Tryz.func222 rfl (by decide)
theorem ZxB : Callable Tryz.prog 223 := Ze Tryz.func223 rfl (by decide)
theorem ZxC : Callable Tryz.prog 224 := Ze Tryz.func224 rfl (by decide)
theorem ZxD : Callable Tryz.prog 225 := Ze Tryz.func225 rfl (by decide)
theorem ZxE : Callable Tryz.prog 226 := Ze Tryz.func226 rfl (by decide)
theorem ZxF : Callable Tryz.prog 227 := Ze Tryz.func227 rfl (by decide)
theorem ZxG : Callable Tryz.prog 234 := Ze Tryz.func234 rfl (by decide)
theorem ZxH : Callable Tryz.prog 239 := Ze Tryz.func239 rfl (by decide)
theorem ZxI : Callable Tryz.prog 240 := Ze Tryz.func240 rfl (by decide)
theorem ZxJ : Callable Tryz.prog 241 := Ze Tryz.func241 rfl (by decide)
theorem ZxK : Callable Tryz.prog 242 := Ze Tryz.func242 rfl (by decide)
theorem ZxL : Callable Tryz.prog 243 := Ze Tryz.func243 rfl (by decide)
theorem ZxM : Callable Tryz.prog 244 := Ze Tryz.func244 rfl (by decide)
theorem ZxN : Callable Tryz.prog 245 := Ze Tryz.func245 rfl (by decide)
theorem ZxO : Callable Tryz.prog 246 := Ze Tryz.func246 rfl (by decide)
theorem ZxP : Callable Tryz.prog 247 := Ze Tryz.func247 rfl (by decide)
theorem ZxQ : Callable Tryz.prog 256 := Ze Tryz.func256 rfl (by decide)
theorem ZxR : Callable Tryz.prog 257 := Ze Tryz.func257 rfl (by decide)
theorem ZxS : Callable Tryz.prog 261 := Ze Tryz.func261 rfl (by decide)
theorem ZxT : Callable Tryz.prog 283 := Ze Tryz.func283 rfl (by decide)
theorem ZxU : Callable Tryz.prog 284 := Ze Tryz.func284 rfl (by decide)
theorem ZxV : Callable Tryz.prog 285 := Ze Tryz.func285 rfl (by decide)
theorem ZxW : Callable Tryz.prog 286 := Ze Tryz.func286 rfl (by decide)
theorem ZxX : Callable Tryz.prog 287 := Ze Tryz.func287 rfl (by decide)
theorem ZxY : Callable Tryz.prog 288 := Ze Tryz.func288 rfl (by decide)
theorem ZxZ : Callable Tryz.prog 289 := Ze Tryz.func289 rfl (by decide)
theorem Zx0 : Callable Tryz.prog 290 := Ze Tryz.func290 rfl (by decide)
theorem Zx1 : Callable Tryz.prog 291 := Ze Tryz.func291 rfl (by decide)
theorem mix : Tryz.prog.follows .mixedOrders = true := by kernel_rfl
end Go.Proofs.YtbbemibbmbmamaaGreat
theorem List.Sublist.k9 {α : Type} {a : α} {l l' : List α} (h : l.Sublist l') : (a :: l).Sublist (a :: l') := h.cons_cons a
namespace Go.Fw
open Go Go.RowKit
theorem sn9 {α : Type} {l : List α} : List.Sublist [] l := List.nil_sublist l
theorem sr9 {α : Type} {l : List α} : List.Sublist l l := List.Sublist.refl l
theorem pr9 {α : Type} {l : List α} : List.Perm l l := List.Perm.refl l
abbrev nd9 {a b : Int} {c : Option Addr} {d e : Nat} {f : Option Addr} {g h : Nat} {i : ByteArray} {j : Bool} {k l : Int} {m : Option Addr} {n o : Nat} {p : Option Addr} {q r : Nat} : List Value := [.int .i64 a, .int .i64 b, .slice c d e, .slice f g h, .string i, .bool j, .int .i64 k, .int .i64 l, .slice m n o, .slice p q r]
abbrev ndl (x : Nd) (a1 : Option Addr) (c1 : Nat) (a2 : Option Addr) (c2 : Nat) (a3 : Option Addr) (c3 : Nat) (a4 : Option Addr) (c4 : Nat) : List Value := [.int .i64 x.slot, .int .i64 x.level, .slice a1 x.pivots.length c1, .slice a2 x.kids.length c2, .string x.high.b, .bool x.top, .int .i64 x.right, .int .i64 x.seen, .slice a3 x.msgs.length c3, .slice a4 x.rows.length c4]
abbrev ms9 {a b : Int} {c d : ByteArray} {e : Bool} {f : ByteArray} : List Value := [.int .i64 a, .int .i64 b, .string c, .string d, .bool e, .string f]
abbrev sp9 {a b : ByteArray} {c : Bool} : List Value := [.string a, .string b, .bool c]
abbrev cf9 {a b c d e : Int} : List Value := [.int .i64 a, .int .i64 b, .int .i64 c, .int .i64 d, .int .i64 e]
abbrev ic9 {a : Int} : List Value := [.int .i64 a]
abbrev sc9 {a : ByteArray} : List Value := [.string a]
abbrev bc9 {a : Bool} : List Value := [.bool a]
abbrev lc9 {a : Option Addr} {b c : Nat} : List Value := [.slice a b c]
abbrev ef9 {a : Int} {b : ByteArray} : List Value := [.int .i64 a, .string b]
abbrev pr29 {a b : ByteArray} : List Value := [.string a, .string b]
theorem Zdf {E : Env} {f : Fr} {G : GH} {M : MH} {d : Nat} {t ty : TypeId} {pos : String} {aft : Array Edge} {x : Operand} (i : Nat) (vs : List Value) {b o : Nat} {L : List Value} {T : TypeId} {bb : Bool} {j : Nat} (ht : tyK E.P t = some (bb, j))
    (hq : (ev f x, XY M i, (L.drop o).take j, vs.length) = (.pointer (some ⟨b, o, none⟩), some (b, .cells L.toArray T (0, 0)), vs, j)) (hb : bb = false → j = 1 := by simp) : Ok E f G M ⟨some d, .load t x, ty, pos, aft, none⟩ (mkV bb vs) := by
  obtain ⟨h1, h⟩ := Prod.mk.inj hq
  obtain ⟨h2, h⟩ := Prod.mk.inj h
  obtain ⟨h3, h4⟩ := Prod.mk.inj h
  exact Zen ht h1 h2 h3 h4 hb
theorem W.fb {E : Env} {f : Fr} {G : GH} {M : MH} {ops rest : List Oper} {q : Bool} {K : Kt} {d : Nat} {t ty : TypeId} {pos : String} {aft : Array Edge} {x : Operand} {b o off j : Nat} (ht : ZG E.P t j = some off) (hx : ev f x = .pointer (some ⟨b, o, none⟩))
    (k : W E ops.toArray q rest (upd f d (.pointer (some ⟨b, o + off, none⟩))) G M K) (hd : Nat.blt d E.n = true := by rfl) : W E ops.toArray q (⟨some d, .fieldAddr t x j, ty, pos, aft, none⟩ :: rest) f G M K := W.ok (ZlK ht hx) k hd
theorem W.st {E : Env} {f : Fr} {G : GH} {M : MH} {ops rest : List Oper} {K : Kt} {t ty : TypeId} {pos : String} {aft : Array Edge} {x y : Operand} (i : Nat) (vs L' : List Value) {b o : Nat} {L : List Value} {T : TypeId} {bb : Bool} {j : Nat} {v : Value} (ht : tyK E.P t = some (bb, j))
    (hq : (ev f x, XY M i, ev f y, v.cells.toList, vs.length, vs.all Value.oneCell', Nat.ble (o + j) L.length, ZV L o vs) = (.pointer (some ⟨b, o, none⟩), some (b, .cells L.toArray T (0, 0)), v, vs, j, true, true, L'))
    (k : W E ops.toArray false rest f G (Xl M i (.cells L'.toArray T (0, 0))) K) : W E ops.toArray false (⟨none, .store t x y, ty, pos, aft, none⟩ :: rest) f G M K := by
  obtain ⟨h1, h⟩ := Prod.mk.inj hq
  obtain ⟨h2, h⟩ := Prod.mk.inj h
  obtain ⟨h3, h⟩ := Prod.mk.inj h
  obtain ⟨h4, h⟩ := Prod.mk.inj h
  obtain ⟨h5, h⟩ := Prod.mk.inj h
  obtain ⟨h6, h⟩ := Prod.mk.inj h
  obtain ⟨h7, h8⟩ := Prod.mk.inj h
  exact W.store ht h1 h2 h3 h4 h5 h6 h7 h8 k
theorem W.y9 {E : Env} {f : Fr} {G : GH} {M : MH} {ops rest : List Oper} {q : Bool} {K : Kt} {op : Op} {ty : TypeId} {pos : String} {aft : Array Edge} {dst : Option Nat} {j dj : Nat} {want b : Bool} (hn : b = want) (hq : ((ops.toArray[j]?).bind (·.dst), f dj) = (some dj, .bool b))
    (k : W E ops.toArray q (⟨dst, op, ty, pos, aft, none⟩ :: rest) f G M K) (hdj : Nat.blt dj E.n = true := by rfl) : W E ops.toArray q (⟨dst, op, ty, pos, aft, some (j, want)⟩ :: rest) f G M K := W.yes (Prod.mk.inj hq).1 (Prod.mk.inj hq).2 hn k hdj
theorem W.n8 {E : Env} {f : Fr} {G : GH} {M : MH} {ops rest : List Oper} {q : Bool} {K : Kt} {d : Nat} {op : Op} {ty : TypeId} {pos : String} {aft : Array Edge} {j dj : Nat} {want b : Bool} (hn : b = !want) (hq : ((ops.toArray[j]?).bind (·.dst), f dj) = (some dj, .bool b))
    (k : W E ops.toArray q rest (upd f d undef) G M K) (hd : Nat.blt d E.n = true := by rfl) : W E ops.toArray q (⟨some d, op, ty, pos, aft, some (j, want)⟩ :: rest) f G M K := W.no (Prod.mk.inj hq).1 (Prod.mk.inj hq).2 hn k hd
theorem W.nt {E : Env} {f : Fr} {G : GH} {M : MH} {ops : List Oper} {q : Bool} {K : Kt} {Q : Exit → Kt} (h : K f G M) : W E ops.toArray q [] f G M (thn K Q .normal) := W.nil (Xj h)
theorem WC.sr {E : Env} {f : Fr} {G : GH} {M : MH} {Q : Exit → Kt} {id : Nat} {l : List Oper} {y : Code} (h : W E l.toArray false l f G M (thn (WC E y Q) Q .normal)) : WC E (.seq (.region id l.toArray false) y) Q f G M := WC.seq (WC.region h)
theorem W.ns {E : Env} {f : Fr} {G : GH} {M : MH} {ops : List Oper} {q : Bool} {Q Q' : Exit → Kt} {id : Nat} {l : List Oper} {y : Code} (h : W E l.toArray false l f G M (thn (WC E y Q) Q .normal)) : W E ops.toArray q [] f G M (thn (WC E (.seq (.region id l.toArray false) y) Q) Q' .normal) := W.nt (WC.sr h)
theorem W.an {E : Env} {f : Fr} {G : GH} {M : MH} {ops : List Oper} {q : Bool} {K : Kt} {Q : Exit → Kt} {d : Nat} {ty : TypeId} {pos : String} {aft : Array Edge} {x : Operand} (k : K (upd f d (ev f x)) G M) (hd : Nat.blt d E.n = true := by rfl) : W E ops.toArray q [⟨some d, .assign x, ty, pos, aft, none⟩] f G M (thn K Q .normal) := W.as (W.nt k) hd
theorem WC.sk {E : Env} {f : Fr} {G : GH} {M : MH} {K : Kt} {Q : Exit → Kt} (h : K f G M) : WC E .skip (thn K Q) f G M := WC.skip (Xj h)
theorem WC.rt {E : Env} {f : Fr} {G : GH} {M : MH} {K : Kt} {Q : Exit → Kt} (h : Q .ret f G M) : WC E .ret (thn K Q) f G M := WC.ret (ZlB h)
theorem WD.dn {E : Env} {f : Fr} {G : GH} {M Mk : MH} {ops : Array Oper} {K : Kt} {Q : Exit → Kt} {fuel : Nat} {listed : Array Bool} (h : K f G M) (hr : Region.ready .any ops listed = [] := by kernel_rfl) : WD E ops fuel listed f G M Mk (thn K Q .normal) := WD.done hr (Xj h)
theorem odt {p : Prop} [Decidable p] (h : decide p = true) : p := of_decide_eq_true h
theorem odf {p : Prop} [Decidable p] (h : decide p = false) : ¬ p := of_decide_eq_false h
theorem nk9 {G : GH} {n : Nd} {a1 a2 a3 a4 : Option Addr} {c1 c2 c3 c4 : Nat} (h1 : SlR Z8 G (.slice a1 n.pivots.length c1) n.pivots) (h2 : SlR Zz G (.slice a2 n.kids.length c2) n.kids) (h3 : SlR Zp G (.slice a3 n.msgs.length c3) n.msgs) (h4 : SlR Zs G (.slice a4 n.rows.length c4) n.rows) (h : n.Ok) :
    NodeC G [.int .i64 n.slot, .int .i64 n.level, .slice a1 n.pivots.length c1, .slice a2 n.kids.length c2, .string n.high.b, .bool n.top, .int .i64 n.right, .int .i64 n.seen, .slice a3 n.msgs.length c3, .slice a4 n.rows.length c4] n := ⟨_, _, _, _, _, _, _, _, rfl, h1, h2, h3, h4, h⟩
theorem nm9 {G G' : GH} {n : Nd} {a1 a2 a3 a4 : Option Addr} {c1 c2 c3 c4 : Nat} (hl : Le G G') (h1 : SlR Z8 G (.slice a1 n.pivots.length c1) n.pivots) (h2 : SlR Zz G (.slice a2 n.kids.length c2) n.kids) (h3 : SlR Zp G (.slice a3 n.msgs.length c3) n.msgs) (h4 : SlR Zs G (.slice a4 n.rows.length c4) n.rows) (h : n.Ok) :
    NodeC G' [.int .i64 n.slot, .int .i64 n.level, .slice a1 n.pivots.length c1, .slice a2 n.kids.length c2, .string n.high.b, .bool n.top, .int .i64 n.right, .int .i64 n.seen, .slice a3 n.msgs.length c3, .slice a4 n.rows.length c4] n := (nk9 h1 h2 h3 h4 h).mono hl
end Go.Fw
namespace Go.Proofs.YtbbemibbmbmamaaGreat
open Go Go.Fw
instance : TyK Tryz.prog 23 true 5 := ⟨Zh2⟩
instance : SlK Tryz.prog 24 36 := ⟨Zde⟩
instance : TyK Tryz.prog 36 true 7 := ⟨Zh4⟩
instance : FdK Tryz.prog 23 3 3 := ⟨ZnE⟩
instance : TyK Tryz.prog 3 false 1 := ⟨ty3⟩
instance : TyK Tryz.prog 38 true 4 := ⟨Zcs⟩
instance : FdK Tryz.prog 36 0 0 := ⟨ZnF⟩
instance : TyK Tryz.prog 34 true 6 := ⟨ZnG⟩
instance : SlK Tryz.prog 32 74 := ⟨ZI⟩
instance : TyK Tryz.prog 74 true 2 := ⟨ZJ⟩
instance : FdK Tryz.prog 36 1 6 := ⟨ZnH⟩
instance : SlK Tryz.prog 49 60 := ⟨Xm⟩
instance : TyK Tryz.prog 60 true 10 := ⟨Yn⟩
instance : BoK Tryz.prog 4 := ⟨bo4⟩
instance : SlK Tryz.prog 53 64 := ⟨Za0⟩
instance : TyK Tryz.prog 64 true 14 := ⟨ZaC⟩
instance : FdK Tryz.prog 64 0 0 := ⟨ZnJ⟩
instance : FdK Tryz.prog 60 9 9 := ⟨ZnK⟩
instance : TyK Tryz.prog 32 false 1 := ⟨ZnL⟩
instance : FdK Tryz.prog 38 0 0 := ⟨ZnM⟩
instance : TyK Tryz.prog 28 false 1 := ⟨ZnN⟩
instance : FdK Tryz.prog 34 0 0 := ⟨ZnO⟩
instance : FdK Tryz.prog 60 1 1 := ⟨ZnQ⟩
instance : FdK Tryz.prog 23 0 0 := ⟨ZnR⟩
instance : FdK Tryz.prog 23 1 1 := ⟨ZnS⟩
instance : FdK Tryz.prog 38 1 1 := ⟨ZnU⟩
instance : TyK Tryz.prog 4 false 1 := ⟨ty4⟩
instance : FdK Tryz.prog 38 2 2 := ⟨ZnV⟩
instance : TyK Tryz.prog 9 false 1 := ⟨ty9⟩
instance : StK Tryz.prog 9 := ⟨st9⟩
instance : FdK Tryz.prog 23 2 2 := ⟨ZnY⟩
instance : FdK Tryz.prog 23 4 4 := ⟨ZnZ⟩
instance : FdK Tryz.prog 34 1 1 := ⟨Zn0⟩
instance : FdK Tryz.prog 34 5 5 := ⟨Zn1⟩
instance : FdK Tryz.prog 38 3 3 := ⟨Zn2⟩
instance : FdK Tryz.prog 34 2 2 := ⟨Zn3⟩
instance : FdK Tryz.prog 34 3 3 := ⟨Zn4⟩
instance : FdK Tryz.prog 34 4 4 := ⟨Zn5⟩
instance : TyK Tryz.prog 87 true 6 := ⟨ZR⟩
instance : FdK Tryz.prog 79 0 0 := ⟨Zn6⟩
instance : TyK Tryz.prog 75 false 1 := ⟨Zn7⟩
instance : FdK Tryz.prog 79 1 1 := ⟨Zn8⟩
instance : FdK Tryz.prog 60 0 0 := ⟨Zoa⟩
instance : FdK Tryz.prog 64 2 13 := ⟨Zob⟩
instance : TyK Tryz.prog 58 false 1 := ⟨Za2⟩
instance : SlK Tryz.prog 58 87 := ⟨ZQ⟩
instance : FdK Tryz.prog 87 0 0 := ⟨Zoc⟩
instance : FdK Tryz.prog 60 7 7 := ⟨Zod⟩
instance : TyK Tryz.prog 62 true 3 := ⟨Yo⟩
instance : FdK Tryz.prog 60 2 2 := ⟨Zoe⟩
instance : TyK Tryz.prog 56 false 1 := ⟨Zof⟩
instance : FdK Tryz.prog 60 3 3 := ⟨Zog⟩
instance : TyK Tryz.prog 57 false 1 := ⟨Zoh⟩
instance : SlK Tryz.prog 56 9 := ⟨Z3⟩
instance : SlK Tryz.prog 57 3 := ⟨ZU⟩
instance : FdK Tryz.prog 64 1 10 := ⟨Zoi⟩
instance : FdK Tryz.prog 60 8 8 := ⟨Zoj⟩
instance : SlK Tryz.prog 107 58 := ⟨Za3⟩
instance : FdK Tryz.prog 74 0 0 := ⟨Zok⟩
instance : FdK Tryz.prog 74 1 1 := ⟨Zon⟩
instance : FdK Tryz.prog 87 1 1 := ⟨Zoo⟩
instance : FdK Tryz.prog 87 2 2 := ⟨Zop⟩
instance : FdK Tryz.prog 62 0 0 := ⟨Zh8⟩
instance : FdK Tryz.prog 62 2 2 := ⟨Ze2⟩
instance : FdK Tryz.prog 62 1 1 := ⟨Ze3⟩
instance : FdK Tryz.prog 139 1 5 := ⟨Zoq⟩
instance : TyK Tryz.prog 135 false 1 := ⟨Zor⟩
instance : FdK Tryz.prog 60 6 6 := ⟨Zos⟩
instance : FdK Tryz.prog 60 5 5 := ⟨Zot⟩
instance : FdK Tryz.prog 60 4 4 := ⟨Zou⟩
instance : TyK Tryz.prog 49 false 1 := ⟨Zow⟩
instance : SlK Tryz.prog 168 4 := ⟨ZbB⟩
instance : TyK Tryz.prog 169 false 1 := ⟨Zox⟩
instance : SlK Tryz.prog 169 3 := ⟨Xn⟩
instance : TyK Tryz.prog 168 false 1 := ⟨Zoy⟩
instance : TyK Tryz.prog 132 true 2 := ⟨Zoz⟩
instance : FdK Tryz.prog 87 5 5 := ⟨ZoA⟩
instance : FdK Tryz.prog 189 2 2 := ⟨ZoB⟩
instance : FdK Tryz.prog 87 3 3 := ⟨ZoC⟩
instance : FdK Tryz.prog 87 4 4 := ⟨ZoD⟩
instance : SlK Tryz.prog 193 62 := ⟨XR⟩
instance : FdK Tryz.prog 189 1 1 := ⟨ZoE⟩
instance : FdK Tryz.prog 189 0 0 := ⟨ZoF⟩
instance : FdK Tryz.prog 132 0 0 := ⟨ZoG⟩
instance : FdK Tryz.prog 132 1 1 := ⟨ZoH⟩
instance : FdK Tryz.prog 139 0 0 := ⟨ZoI⟩
instance : SlK Tryz.prog 269 271 := ⟨XK⟩
instance : TyK Tryz.prog 271 true 2 := ⟨YK⟩
instance : TyK Tryz.prog 269 false 1 := ⟨ZoJ⟩
instance : FdK Tryz.prog 271 0 0 := ⟨ZoL⟩
instance : FdK Tryz.prog 271 1 1 := ⟨ZoM⟩
instance : MixK Tryz.prog := ⟨mix⟩
end Go.Proofs.YtbbemibbmbmamaaGreat
namespace Go.Proofs.YtbbemibbmbmamaaGreat
open Go Go.Fw Go.RowKit
attribute [local irreducible] Ok W WC
theorem Zah {G : GH} (a : Str) (b : Str) :
    Fc Tryz.prog 114 [sV a.b, sV b.b] G [] (fun v _ _ => v = .bool (Str.lt a b)) := by
 have ha := a.le
 have hb := b.le
 refine Fc.go [.tmp 4] Tryz.func114 Tryz.ntmps114 rfl (fun w0 => (g9 12 ?_))
 refine WC.loop (X := Nat) (fun k => [(5, nt9 k), (0, sV a.b), (1, sV b.b)]) (fun k _ Ml => Ml = [] ∧ k ≤ a.b.size ∧ k ≤ b.b.size ∧ ∀ i, i < k → a.b[i]? = b.b[i]?) (fun k => a.b.size - k) 0 hs9 ?_ ?_
 ·exact ⟨rfl, om9, om9, fun i hi => by omega⟩
 rintro k gG1 G1 _ hG1 ⟨rfl, hk1, hk2, hk3⟩
 refine g9 8 ?_
 refine W.sd 10 (fun h9 p9 => ?_) (fun h9 p9 => ?_)
 ·refine g9 11 ?_
  refine WC.cd (fun h14 p14 => ?_) (fun h14 p14 => ?_)
  ·refine g9 8 ?_
   refine W.ok (Zcb (i := k) st9 rfl rfl ⟨om9, om9⟩) (g9 2 ?_)
   refine W.ok (Zcb (i := k) st9 rfl rfl ⟨om9, om9⟩) (g9 3 ?_)
   refine WC.cn (fun h24 p24 => ?_) (fun h24 p24 => ?_)
   ·refine g9 4 ?_
    refine W.ok (Zcb (i := k) st9 rfl rfl ⟨om9, om9⟩) (g9 2 ?_)
    refine W.ok (Zcb (i := k) st9 rfl rfl ⟨om9, om9⟩) (g9 11 ?_)
    exact congrArg Value.bool (ZgU hk3 _ _ om9)
   refine g9 9 ?_
   exact ⟨Le.rfl, k + 1, hs9, ⟨rfl, om9, om9, ZlX hk3 om9 om9 p24⟩, om9⟩
  refine g9 17 ?_
  exact congrArg Value.bool (Zcg hk3 om9 om9 om9)
 refine g9 25 ?_
 exact congrArg Value.bool (Zcg hk3 om9 om9 om9)

theorem Ze6 {G : GH} (slo : Str) (shi : Str) (so : Bool) (k : Str) :
    Fc Tryz.prog 87 [.agg #[sV slo.b, sV shi.b, .bool so], sV k.b] G [] (fun v _ _ => v = .bool (Span.has ⟨slo, shi, so⟩ k)) := by
 refine Fc.go [.tmp 4] Tryz.func87 Tryz.ntmps87 rfl (fun w0 => (g9 2 ?_))
 refine W.box (L := [sV _, sV _, .bool _]) rfl rfl (fun b2 => (g9 8 ?_))
 refine W.qcall (Zah _ _) rfl (g9 2 ?_)
 refine W.sp 10 rfl (fun h9 => ?_) (fun h9 => ?_)
 ·refine g9 6 ?_
  refine W.sp 13 rfl (fun ha_so => ?_) (fun ha_so => ?_)
  ·refine g9 12 ?_
   refine congrArg Value.bool ?_
   simp_all [Span.has]
  refine g9 7 ?_
  refine W.qcall (Zah _ _) rfl (g9 8 ?_)
  refine congrArg Value.bool ?_
  simp_all [Span.has]
 refine g9 14 ?_
 refine congrArg Value.bool ?_
 simp_all [Span.has]

theorem ZbF {G : GH} (slo : Str) (shi : Str) (so : Bool) :
    Fc Tryz.prog 86 [.agg #[sV slo.b, sV shi.b, .bool so]] G [] (fun v _ _ => v = .bool (Span.empty ⟨slo, shi, so⟩)) := by
 refine Fc.go [.tmp 2] Tryz.func86 Tryz.ntmps86 rfl (fun w0 => (g9 2 ?_))
 refine W.box (L := [sV _, sV _, .bool _]) rfl rfl (fun b3 => (g9 8 ?_))
 refine W.qcall (Ze6 _ _ _ _) rfl (g9 6 ?_)
 refine congrArg Value.bool ?_
 exact Span.empty_eq ⟨slo, shi, so⟩

theorem Jh {G : GH} (slo : Str) (shi : Str) (so : Bool) :
    Fc Tryz.prog 110 [.agg #[sV slo.b, sV shi.b, .bool so]] G [] (fun v _ _ => v = .agg (List.toArray ((Span.norm ⟨slo, shi, so⟩ : Span).cells))) := by
 refine Fc.go [.cell 2 62] Tryz.func110 Tryz.ntmps110 rfl (fun w0 => (g9 2 ?_))
 refine W.box (L := [sV _, sV _, .bool _]) rfl rfl (fun b4 => (W.alloc Zy (fun b5 => (g9 6 ?_))))
 refine W.qcall (ZbF _ _ _) rfl (g9 2 ?_)
 refine WC.cond rfl (fun h4 => ?_) (fun h4 => ?_)
 ·refine g9 2 ?_
  refine W.ok (ZD (L := [sV _, sV _, .bool _]) Xe Zy rfl rfl rfl) (g9 6 ?_)
  refine congrArg (fun l => Value.agg (List.toArray l)) ?_
  show [Value.string _, Value.string _, Value.bool _] = _
  simp_all [Span.norm, Span.cells, Span.zero, Str.nil, ZV]
 refine g9 9 ?_
 refine WC.cond rfl (fun ha_so => ?_) (fun ha_so => ?_)
 ·refine g9 13 ?_
  refine congrArg (fun l => Value.agg (List.toArray l)) ?_
  show [Value.string _, Value.string _, Value.bool _] = _
  simp_all [Span.norm, Span.cells, Span.zero, Str.nil, ZV]
 refine g9 10 ?_
 refine congrArg (fun l => Value.agg (List.toArray l)) ?_
 show [Value.string _, Value.string _, Value.bool _] = _
 simp_all [Span.norm, Span.cells, Span.zero, Str.nil, ZV]

theorem Ze7 {G : GH}  :
    Fc Tryz.prog 81 [] G [] (fun v _ _ => v = .agg (List.toArray ((Span.all : Span).cells))) := by
 refine Fc.go [.cell 0 62] Tryz.func81 Tryz.ntmps81 rfl (fun w0 => (g9 2 ?_))
 refine W.alloc Zy (fun b6 => (g9 4 ?_))
 refine W.ok (ZD (L := [sV _, sV _, .bool _]) Xe Zy rfl rfl rfl) (g9 5 ?_)
 rfl

theorem Zcx {G : GH} (slo : Str) (shi : Str) (so : Bool) :
    Fc Tryz.prog 95 [.agg #[sV slo.b, sV shi.b, .bool so]] G [] (fun v _ _ => v = .bool (Span.empty ⟨slo, shi, so⟩)) := by
 refine Fc.go [.tmp 2] Tryz.func95 Tryz.ntmps95 rfl (fun w0 => (g9 2 ?_))
 refine W.box (L := [sV _, sV _, .bool _]) rfl rfl (fun b7 => (g9 9 ?_))
 refine W.sp 6 rfl (fun h5 => ?_) (fun h5 => ?_)
 ·refine g9 9 ?_
  refine W.ok (Zel rfl rfl) (g9 6 ?_)
  refine congrArg Value.bool ?_
  simp_all [Span.empty, Str.lt]
 refine g9 11 ?_
 refine congrArg Value.bool ?_
 simp_all [Span.empty, Str.lt]

theorem ZaE {G : GH} (slo : Str) (shi : Str) (so : Bool) :
    Fc Tryz.prog 99 [.agg #[sV slo.b, sV shi.b, .bool so]] G [] (fun v _ _ => v = .agg (List.toArray ((Span.norm ⟨slo, shi, so⟩ : Span).cells))) := by
 refine Fc.go [.cell 2 62] Tryz.func99 Tryz.ntmps99 rfl (fun w0 => (g9 2 ?_))
 refine W.box (L := [sV _, sV _, .bool _]) rfl rfl (fun b8 => (W.alloc Zy (fun b9 => (g9 7 ?_))))
 refine W.qcall (Zcx _ _ _) rfl (g9 3 ?_)
 refine WC.cond rfl (fun h5 => ?_) (fun h5 => ?_)
 ·refine g9 2 ?_
  refine W.ok (ZD (L := [sV _, sV _, .bool _]) Xe Zy rfl rfl rfl) (g9 7 ?_)
  refine congrArg (fun l => Value.agg (List.toArray l)) ?_
  show [Value.string _, Value.string _, Value.bool _] = _
  simp_all [Span.norm, Span.cells, Span.zero, Str.nil, ZV]
 refine g9 7 ?_
 refine WC.cond rfl (fun ha_so => ?_) (fun ha_so => ?_)
 ·refine g9 14 ?_
  refine congrArg (fun l => Value.agg (List.toArray l)) ?_
  show [Value.string _, Value.string _, Value.bool _] = _
  simp_all [Span.norm, Span.cells, Span.zero, Str.nil, ZV]
 refine g9 11 ?_
 refine congrArg (fun l => Value.agg (List.toArray l)) ?_
 show [Value.string _, Value.string _, Value.bool _] = _
 simp_all [Span.norm, Span.cells, Span.zero, Str.nil, ZV]

theorem Zdg {G : GH} (slo : Str) (shi : Str) (so : Bool) (k : Str) :
    Fc Tryz.prog 136 [.agg #[sV slo.b, sV shi.b, .bool so], sV k.b] G [] (fun v _ _ => v = .bool (Span.has ⟨slo, shi, so⟩ k)) := by
 refine Fc.go [.tmp 4] Tryz.func136 Tryz.ntmps136 rfl (fun w0 => (g9 2 ?_))
 refine W.box (L := [sV _, sV _, .bool _]) rfl rfl (fun b10 => (g9 8 ?_))
 refine W.ok (Zel rfl rfl) (W.mv ?_)
 refine W.sp 9 rfl (fun h8 => ?_) (fun h8 => ?_)
 ·refine g9 6 ?_
  refine W.sp 12 rfl (fun ha_so => ?_) (fun ha_so => ?_)
  ·refine g9 12 ?_
   refine congrArg Value.bool ?_
   simp_all [Span.has, Str.lt]
  refine g9 16 ?_
  refine congrArg Value.bool ?_
  simp_all [Span.has, Str.lt]
 refine g9 14 ?_
 refine congrArg Value.bool ?_
 simp_all [Span.has, Str.lt]

theorem ZoN {G : GH} {v_l : Value} {l : List Str} (h_l : SlR Z8 G v_l l) :
    Fc Tryz.prog 113 [v_l] G [] (fun v _ _ => v = .bool (Z2 l)) := by
 obtain ⟨sa_l, sc_l, rfl⟩ := h_l.form
 have hl := h_l.len47
 refine Fc.go [.tmp 2] Tryz.func113 Tryz.ntmps113 rfl (fun w0 => (g9 12 ?_))
 refine WC.loop (X := Nat) (fun k => [(3, nt9 (k + 1)), (0, lV sa_l l.length sc_l)]) (fun k _ Ml => Ml = [] ∧ ∀ i (h : i + 1 < l.length), i < k → l[i].lt l[i + 1] = true) (fun k => l.length - k) 0 hs9 ?_ ?_
 ·exact ⟨rfl, fun i _ h => by omega⟩
 rintro k gG11 G11 _ hG11 ⟨rfl, hk⟩
 refine g9 9 ?_
 refine WC.cd (fun h7 p7 => ?_) (fun h7 p7 => ?_)
 ·refine g9 9 ?_
  refine (h_l.mono hG11).a1 (i := k) om9 (fun he12 => (W.ok (Z1 (i := k) Z3 ty9 (h_l.mono hG11) rfl rfl ⟨om9, om9⟩) (g9 3 ?_)))
  refine (h_l.mono hG11).a1 (i := k + 1) om9 (fun he15 => (W.ok (Z1 (i := k + 1) Z3 ty9 (h_l.mono hG11) rfl rfl ⟨om9, om9⟩) (g9 1 ?_)))
  refine W.qcall (Zah _ _) rfl (g9 3 ?_)
  refine WC.cond rfl (fun h20 => ?_) (fun h20 => ?_)
  ·refine g9 12 ?_
   refine congrArg Value.bool ?_
   exact (ZlY (i := k) om9 (by simpa using h20)).symm
  refine g9 9 ?_
  exact ⟨Le.rfl, k + 1, hs9, ⟨rfl, fun i h hi => by
      by_cases e : i = k
      · subst e; simpa using h20
      · exact hk i h om9⟩, om9⟩
 refine g9 12 ?_
 refine congrArg Value.bool ?_
 exact (JJ.2 (fun i h => hk i h om9)).symm

theorem Ze8 {G : GH} {v_p : Value} {p : List Str} (h_p : SlR Z8 G v_p p) {v_c : Value} {c : List Int} (h_c : SlR Zz G v_c c) :
    Fc Tryz.prog 180 [v_p, v_c] G [] (fun v _ _ => v = .bool (Ys p c.length)) := by
 obtain ⟨sa_p, sc_p, rfl⟩ := h_p.form
 obtain ⟨sa_c, sc_c, rfl⟩ := h_c.form
 have hc := h_c.len47
 have hp := h_p.len47
 refine Fc.go [.tmp 4] Tryz.func180 Tryz.ntmps180 rfl (fun w0 => (g9 12 ?_))
 refine WC.loop (X := Nat) (fun k => [(5, nt9 (k + 1)), (0, lV sa_p p.length sc_p), (1, lV sa_c c.length sc_c)]) (fun k _ Ml => Ml = [] ∧ ∀ i (h : i + 1 < p.length), i < k → p[i].lt p[i + 1] = true) (fun k => p.length - k) 0 hs9 ?_ ?_
 ·exact ⟨rfl, fun i _ h => by omega⟩
 rintro k gG18 G18 _ hG18 ⟨rfl, hk⟩
 refine g9 9 ?_
 refine WC.cd (fun h9 p9 => ?_) (fun h9 p9 => ?_)
 ·refine g9 9 ?_
  refine (h_p.mono hG18).a1 (i := k) om9 (fun he19 => (W.ok (Z1 (i := k) Z3 ty9 (h_p.mono hG18) rfl rfl ⟨om9, om9⟩) (g9 3 ?_)))
  refine (h_p.mono hG18).a1 (i := k + 1) om9 (fun he22 => (W.ok (Z1 (i := k + 1) Z3 ty9 (h_p.mono hG18) rfl rfl ⟨om9, om9⟩) (g9 1 ?_)))
  refine W.ok (Zel rfl rfl) (g9 2 ?_)
  refine WC.cond rfl (fun h21 => ?_) (fun h21 => ?_)
  ·refine g9 12 ?_
   refine congrArg Value.bool ?_
   simp [Ys, ZlY (l := p) (i := k) om9 (by simpa [Str.lt] using h21)]
  refine g9 9 ?_
  exact ⟨Le.rfl, k + 1, hs9, ⟨rfl, fun i h hi => by
      by_cases e : i = k
      · subst e; simpa [Str.lt] using h21
      · exact hk i h om9⟩, om9⟩
 refine g9 11 ?_
 refine W.sd 25 (fun h24 p24 => ?_) (fun h24 p24 => ?_)
 ·refine g9 18 ?_
  refine congrArg Value.bool ?_
  simp only [Ys, JJ.2 (fun i h => hk i h om9), Bool.true_and]
  first | (rw [decide_eq_decide]; omega) | (symm; rw [decide_eq_false_iff_not]; omega)
 refine g9 12 ?_
 refine congrArg Value.bool ?_
 simp only [Ys, JJ.2 (fun i h => hk i h om9), Bool.true_and]
 first | (rw [decide_eq_decide]; omega) | (symm; rw [decide_eq_false_iff_not]; omega)

theorem Zie {G : GH} {v_p : Value} {p : List Str} (h_p : SlR Z8 G v_p p) {v_c : Value} {c : List Int} (h_c : SlR Zz G v_c c) :
    Fc Tryz.prog 61 [v_p, v_c] G [] (fun v _ _ => v = .bool (Ys p c.length)) := by
 obtain ⟨sa_p, sc_p, rfl⟩ := h_p.form
 obtain ⟨sa_c, sc_c, rfl⟩ := h_c.form
 have hc := h_c.len47
 have hp := h_p.len47
 refine Fc.go [.tmp 4] Tryz.func61 Tryz.ntmps61 rfl (fun w0 => (g9 8 ?_))
 refine W.qcall (ZoN h_p) rfl (W.mv ?_)
 refine W.sp 7 rfl (fun h6 => ?_) (fun h6 => ?_)
 ·refine g9 18 ?_
  refine congrArg Value.bool ?_
  simp only [Ys, h6, Bool.true_and, Bool.false_and]
  rw [decide_eq_decide]; omega
 refine g9 12 ?_
 refine congrArg Value.bool ?_
 simp only [Ys, h6, Bool.true_and, Bool.false_and]

theorem Ze9 {G : GH} (a : Str) :
    Fc Tryz.prog 227 [sV a.b] G [] (fun v _ _ => v = .bool (false)) := by
 refine Fc.go [.tmp 2] Tryz.func227 Tryz.ntmps227 rfl (fun w0 => (g9 15 ?_))
 refine congrArg Value.bool ?_
 simp

theorem ZoO {G : GH} (a : Str) :
    Fc Tryz.prog 198 [sV a.b] G [] (fun v _ _ => v = .bool (false)) := by
 refine Fc.go [.tmp 2] Tryz.func198 Tryz.ntmps198 rfl (fun w0 => (g9 15 ?_))
 refine congrArg Value.bool ?_
 simp

theorem ZoP {G : GH} (a : Str) (b : Str) :
    Fc Tryz.prog 197 [sV a.b, sV b.b] G [] (fun v _ _ => v = .bool (Str.lt a b)) := by
 refine Fc.go [.tmp 4] Tryz.func197 Tryz.ntmps197 rfl (fun w0 => (g9 8 ?_))
 refine W.qcall (Ze9 _) rfl (W.mv ?_)
 refine W.sp 7 rfl (fun h6 => ?_) (fun h6 => ?_)
 ·cases h6
 refine g9 17 ?_
 refine congrArg Value.bool ?_
 rfl

theorem ZoQ {G : GH} {v_l : Value} {l : List Str} (h_l : SlR Z8 G v_l l) (k : Str) (hr : Z2 l = true) :
    Fc Tryz.prog 163 [v_l, sV k.b] G [] (fun v _ _ => v = .tuple #[iV (((YJ l k : Nat) : Int)), .bool (decide (l[YJ l k]? = some k))]) := by
 obtain ⟨sa_l, sc_l, rfl⟩ := h_l.form
 have hlen := h_l.len47
 refine Fc.go [.tmp 4, .tmp 5] Tryz.func163 Tryz.ntmps163 rfl (fun w0 => (g9 22 ?_))
 refine WC.loop (X := Nat × Nat) (fun x => [(6, nt9 l.length), (7, nt9 x.1), (8, nt9 x.2), (0, lV sa_l l.length sc_l), (1, sV k.b)]) (fun x _ Ml => Ml = [] ∧ x.1 ≤ x.2 ∧ x.2 ≤ l.length ∧ (∀ q (h : q < l.length), q < x.1 → l[q].lt k = true) ∧ (∀ q (h : q < l.length), x.2 ≤ q → l[q].lt k = false)) (fun x => x.2 - x.1) (0, l.length) hs9 ?_ ?_
 ·exact ⟨rfl, by simp, by simp, (fun q _ h => by simp at h), (fun q h h' => by simp at h'; omega)⟩
 rintro ⟨i, j⟩ gG25 G25 _ hG25 ⟨rfl, hi, hj, h1, h2⟩
 dsimp only at hi hj h1 h2
 refine g9 8 ?_
 refine WC.cd (fun h15 p15 => ?_) (fun h15 p15 => ?_)
 ·refine g9 8 ?_
  refine W.ok (ZgQ un3 ZbE rfl om9) (W.ok (ZgS rfl rfl om9) (W.ok (ZgR ZbE un3 rfl om9) (g9 7 ?_)))
  refine (h_l.mono hG25).a1 (i := (i + j) / 2) om9 (fun he26 => (W.ok (Z1 (i := (i + j) / 2) Z3 ty9 (h_l.mono hG25) rfl rfl ⟨by dsimp only; omega, om9⟩) (g9 2 ?_)))
  refine W.qcall (ZoP _ _) rfl (g9 2 ?_)
  refine WC.cond rfl (fun h27 => ?_) (fun h27 => ?_)
  ·refine g9 7 ?_
   exact ⟨Le.rfl, ((i + j) / 2 + 1, j), hs9, ⟨rfl, by dsimp only; omega, by dsimp only; omega, (fun q h hq => Zuz hr om9 h27 q h (by dsimp only at hq; omega)), h2⟩, by dsimp only; omega⟩
  refine g9 6 ?_
  exact ⟨Le.rfl, (i, (i + j) / 2), hs9, ⟨rfl, by dsimp only; omega, by dsimp only; omega, h1, (fun q h hq => Zl2 hr om9 h27 q h (by dsimp only at hq; omega))⟩, by dsimp only; omega⟩
 refine g9 12 ?_
 refine W.sd 35 (fun h34 p34 => ?_) (fun h34 p34 => ?_)
 ·refine g9 5 ?_
  refine (h_l.mono hG25).a1 (i := i) om9 (fun he29 => (g9 9 ?_))
  refine W.sd 42 (fun h41 p41 => ?_) (fun h41 p41 => ?_)
  ·refine g9 18 ?_
   have hlow : YJ l k = i := Zeu om9 h1 (fun q h hq => h2 q h om9)
   refine Zbl (by rw [hlow]) ?_
   rw [hlow]
   simp only [Str.b_inj] at p41
   rw [List.getElem?_eq_getElem om9]
   simp [p41]
  refine g9 5 ?_
  refine (h_l.mono hG25).a1 (i := i) om9 (fun he32 => (g9 4 ?_))
  refine W.qcall (ZoO _) rfl (g9 2 ?_)
  refine W.sp 48 rfl (fun h47 => ?_) (fun h47 => ?_)
  ·cases h47
  refine g9 13 ?_
  have hlow : YJ l k = i := Zeu om9 h1 (fun q h hq => h2 q h om9)
  refine Zbl (by rw [hlow]) ?_
  rw [hlow]
  simp only [Str.b_inj] at p41
  rw [List.getElem?_eq_getElem om9]
  simp [p41]
 refine g9 24 ?_
 have hlow : YJ l k = i := Zeu om9 h1 (fun q h hq => h2 q h om9)
 refine Zbl (by rw [hlow]) ?_
 rw [hlow]
 rw [List.getElem?_eq_none om9] <;> simp

theorem ZbG {G : GH} {v_l : Value} {l : List Str} (h_l : SlR Z8 G v_l l) (k : Str) (hr : Z2 l = true) :
    Fc Tryz.prog 124 [v_l, sV k.b] G [] (fun v _ _ => v = iV (((Zg l k : Nat) : Int))) := by
 obtain ⟨sa_l, sc_l, rfl⟩ := h_l.form
 have hlo := Zl3 l k
 have hlen := h_l.len47
 refine Fc.go [.tmp 4] Tryz.func124 Tryz.ntmps124 rfl (fun w0 => (g9 9 ?_))
 refine W.qcall (ZoQ h_l _ (by assumption)) rfl (g9 13 ?_)
 refine WC.cond rfl (fun h10_1 => ?_) (fun h10_1 => ?_)
 ·refine g9 14 ?_
  exact iv (Zl4 hr (odt h10_1))
 refine g9 10 ?_
 exact iv (Zl5 hr (odf h10_1))

theorem Zif {G : GH} {v_l : Value} {l : List Str} (h_l : SlR Z8 G v_l l) (i : Int) (hi : i64 i) :
    Fc Tryz.prog 63 [v_l, iV i] G [] (fun v _ _ => v = .agg (List.toArray ((Zf l i : Span).cells))) := by
 obtain ⟨sa_l, sc_l, rfl⟩ := h_l.form
 have hl := h_l.len47
 obtain ⟨hi1, hi2⟩ := hi
 refine Fc.go [.cell 4 62] Tryz.func63 Tryz.ntmps63 rfl (fun w0 => (g9 2 ?_))
 refine W.alloc Zy (fun b35 => (g9 4 ?_))
 refine W.ok (ZD (L := [sV _, sV _, .bool _]) Xe Zy rfl rfl rfl) (W.alloc Zy (fun b36 => (g9 9 ?_)))
 refine W.sd 9 (fun h8 p8 => ?_) (fun h8 p8 => ?_)
 ·refine g9 10 ?_
  refine W.ok (ZD (L := [sV _, sV _, .bool _]) Xe Zy rfl rfl rfl) (g9 6 ?_)
  refine congrArg (fun l => Value.agg (List.toArray l)) ?_
  show [Value.string _, Value.string _, Value.bool _] = _
  rw [Zc2 om9]; rfl
 refine g9 11 ?_
 refine WC.cd (fun h13 p13 => ?_) (fun h13 p13 => ?_)
 ·refine g9 2 ?_
  refine W.ok (ZD (L := [sV _, sV _, .bool _]) Xe Zy rfl rfl rfl) (g9 6 ?_)
  refine congrArg (fun l => Value.agg (List.toArray l)) ?_
  show [Value.string _, Value.string _, Value.bool _] = _
  rw [Zc2 om9]; rfl
 refine g9 9 ?_
 refine WC.cd (fun h17 p17 => ?_) (fun h17 p17 => ?_)
 ·refine g9 4 ?_
  refine h_l.a1 (i := (i - 1).toNat) om9 (fun he37 => (W.ok (Z1 (i := (i - 1).toNat) Z3 ty9 h_l rfl rfl ⟨om9, om9⟩) (g9 14 ?_)))
  refine WC.cd (fun h27 p27 => ?_) (fun h27 p27 => ?_)
  ·refine g9 9 ?_
   refine h_l.a1 (i := i.toNat) om9 (fun he40 => (W.ok (Z1 (i := i.toNat) Z3 ty9 h_l rfl rfl ⟨om9, om9⟩) (g9 8 ?_)))
   refine W.qcall (Jh _ _ _) rfl (g9 5 ?_)
   exact congrArg (fun s : Span => Value.agg (List.toArray s.cells)) (Zl6 p17 p27 om9 om9)
  refine g9 5 ?_
  refine W.qcall (Jh _ Str.nil _) rfl (g9 5 ?_)
  exact congrArg (fun s : Span => Value.agg (List.toArray s.cells)) (Zl7 p17 p27 om9 om9)
 refine g9 11 ?_
 refine WC.cd (fun h27 p27 => ?_) (fun h27 p27 => ?_)
 ·refine g9 9 ?_
  refine h_l.a1 (i := i.toNat) om9 (fun he43 => (W.ok (Z1 (i := i.toNat) Z3 ty9 h_l rfl rfl ⟨om9, om9⟩) (g9 8 ?_)))
  refine W.qcall (Jh Str.nil _ _) rfl (g9 5 ?_)
  exact congrArg (fun s : Span => Value.agg (List.toArray s.cells)) (Zl8 om9 p17 p27 om9)
 refine g9 5 ?_
 refine W.qcall (Jh Str.nil Str.nil _) rfl (g9 5 ?_)
 exact congrArg (fun s : Span => Value.agg (List.toArray s.cells)) (Zl9 om9 p17 p27 om9)

theorem ZaF {G : GH} {v_l : Value} {l : List Str} (h_l : SlR Z8 G v_l l) (i : Int) (hi : i64 i) :
    Fc Tryz.prog 128 [v_l, iV i] G [] (fun v _ _ => v = .agg (List.toArray ((Zf l i : Span).cells))) := by
 obtain ⟨sa_l, sc_l, rfl⟩ := h_l.form
 have hl := h_l.len47
 obtain ⟨hi1, hi2⟩ := hi
 refine Fc.go [.cell 4 62] Tryz.func128 Tryz.ntmps128 rfl (fun w0 => (WC.sr (W.alloc Zy (fun b46 => (W.nt (WC.seq (WC.sr (W.mv (W.ok (Zej rfl rfl) (W.mv ?_))))))))))
 refine W.sd 8 (fun h7 p7 => ?_) (fun h7 p7 => ?_)
 ·refine W.n8 h7 rfl (W.n8 h7 rfl (W.n8 h7 rfl (W.n8 h7 rfl (W.ok (ZlE rfl h7) (W.nt (WC.cond_t rfl rfl (WC.sr (W.ok (ZD (L := [sV _, sV _, .bool _]) Xe Zy rfl rfl rfl) (W.st 0 sp9 sp9 Yo rfl (W.nt (WC.rt ?_)))))))))))
  refine ⟨.inr rfl, [_], ⟨⟨_, _, _, _, _, rfl, YE (i := 0) rfl, Yo, (by simp), rfl, rfl⟩, trivial⟩, [], sn9, ?_⟩
  refine congrArg (fun l => Value.agg (List.toArray l)) ?_
  show [Value.string _, Value.string _, Value.bool _] = _
  rw [Zc2 om9]; rfl
 refine W.y9 h7 rfl (W.mv (W.y9 h7 rfl (W.mv (W.y9 h7 rfl (W.ok (Zem Z3 h_l rfl) (W.y9 h7 rfl (W.ok (ZgL rfl rfl) (W.ok (ZlF rfl h7) (W.nt ?_)))))))))
 refine WC.cd (fun h12 p12 => ?_) (fun h12 p12 => ?_)
 ·refine WC.sr (W.ok (ZD (L := [sV _, sV _, .bool _]) Xe Zy rfl rfl rfl) (W.st 0 sp9 sp9 Yo rfl (W.nt (WC.rt ?_))))
  refine ⟨.inr rfl, [_], ⟨⟨_, _, _, _, _, rfl, YE (i := 0) rfl, Yo, (by simp), rfl, rfl⟩, trivial⟩, [], sn9, ?_⟩
  refine congrArg (fun l => Value.agg (List.toArray l)) ?_
  show [Value.string _, Value.string _, Value.bool _] = _
  rw [Zc2 om9]; rfl
 refine WC.sk (WC.sr (W.qcall (Ze7) rfl (W.alloc Zy (fun b47 => (W.st 0 sp9 sp9 Yo rfl (W.nt (WC.seq (WC.sr (W.mv (W.ok (ZgL rfl rfl) (W.nt ?_)))))))))))
 refine WC.cd (fun h17 p17 => ?_) (fun h17 p17 => ?_)
 ·refine WC.region (W.mv (W.mv (W.ok (Zay rfl rfl om9) (h_l.a1 (i := (i - 1).toNat) om9 (fun he48 => (W.ok (Z1 (i := (i - 1).toNat) Z3 ty9 h_l rfl rfl ⟨om9, om9⟩) (W.ok (Zcc (vs := sc9) ty9 he48 rfl rfl rfl (by simp)) (W.fb Zh8 rfl (W.st 0 sc9 sp9 ty9 rfl (W.nt (WC.seq (WC.sr (W.mv (W.mv ?_))))))))))))))
  refine W.ok (Zem Z3 h_l rfl) (W.ok (Zej rfl rfl) (W.nt ?_))
  refine WC.cd (fun h27 p27 => ?_) (fun h27 p27 => ?_)
  ·refine WC.region (W.mv (W.mv (h_l.a1 (i := i.toNat) om9 (fun he51 => (W.ok (Z1 (i := i.toNat) Z3 ty9 h_l rfl rfl ⟨om9, om9⟩) (W.ok (Zcc (vs := sc9) ty9 he51 rfl rfl rfl (by simp)) (W.fb Ze3 rfl (W.st 0 sc9 sp9 ty9 rfl (W.fb Ze2 rfl (W.st 0 bc9 sp9 ty4 rfl (W.ns (W.ok (Zdf 0 sp9 Yo rfl) (W.qcall (ZaE _ _ _) rfl (W.st 1 sp9 sp9 Yo rfl ?_))))))))))))))
   refine W.nt (WC.ret ?_)
   refine ⟨.inr rfl, [_], ⟨⟨_, _, _, _, _, rfl, YE (i := 1) rfl, Yo, (by simp), rfl, rfl⟩, trivial⟩, [], sn9, ?_⟩
   exact congrArg (fun s : Span => Value.agg (List.toArray s.cells)) (Zl6 p17 p27 om9 om9)
  refine WC.sk (WC.sr (W.ok (Zdf 0 sp9 Yo rfl) (W.qcall (ZaE _ _ _) rfl (W.st 1 sp9 sp9 Yo rfl (W.nt (WC.ret ?_))))))
  refine ⟨.inr rfl, [_], ⟨⟨_, _, _, _, _, rfl, YE (i := 1) rfl, Yo, (by simp), rfl, rfl⟩, trivial⟩, [], sn9, ?_⟩
  exact congrArg (fun s : Span => Value.agg (List.toArray s.cells)) (Zl7 p17 p27 om9 om9)
 refine WC.sk (WC.seq (WC.sr (W.mv (W.mv (W.ok (Zem Z3 h_l rfl) (W.ok (Zej rfl rfl) (W.nt ?_)))))))
 refine WC.cd (fun h27 p27 => ?_) (fun h27 p27 => ?_)
 ·refine WC.region (W.mv (W.mv (h_l.a1 (i := i.toNat) om9 (fun he54 => (W.ok (Z1 (i := i.toNat) Z3 ty9 h_l rfl rfl ⟨om9, om9⟩) (W.ok (Zcc (vs := sc9) ty9 he54 rfl rfl rfl (by simp)) (W.fb Ze3 rfl (W.st 0 sc9 sp9 ty9 rfl (W.fb Ze2 rfl (W.st 0 bc9 sp9 ty4 rfl (W.ns (W.ok (Zdf 0 sp9 Yo rfl) (W.qcall (ZaE _ _ _) rfl (W.st 1 sp9 sp9 Yo rfl ?_))))))))))))))
  refine W.nt (WC.ret ?_)
  refine ⟨.inr rfl, [_], ⟨⟨_, _, _, _, _, rfl, YE (i := 1) rfl, Yo, (by simp), rfl, rfl⟩, trivial⟩, [], sn9, ?_⟩
  exact congrArg (fun s : Span => Value.agg (List.toArray s.cells)) (Zl8 om9 p17 p27 om9)
 refine WC.sk (WC.sr (W.ok (Zdf 0 sp9 Yo rfl) (W.qcall (ZaE _ _ _) rfl (W.st 1 sp9 sp9 Yo rfl (W.nt (WC.ret ?_))))))
 refine ⟨.inr rfl, [_], ⟨⟨_, _, _, _, _, rfl, YE (i := 1) rfl, Yo, (by simp), rfl, rfl⟩, trivial⟩, [], sn9, ?_⟩
 exact congrArg (fun s : Span => Value.agg (List.toArray s.cells)) (Zl9 om9 p17 p27 om9)

theorem Za4 {G : GH} (alo : Str) (ahi : Str) (ao : Bool) (blo : Str) (bhi : Str) (bo : Bool) :
    Fc Tryz.prog 62 [.agg #[sV alo.b, sV ahi.b, .bool ao], .agg #[sV blo.b, sV bhi.b, .bool bo]] G [] (fun v _ _ => v = .agg (List.toArray ((Span.meet ⟨alo, ahi, ao⟩ ⟨blo, bhi, bo⟩ : Span).cells))) := by
 refine Fc.go [.cell 4 62] Tryz.func62 Tryz.ntmps62 rfl (fun w0 => (g9 2 ?_))
 refine W.box (L := [sV _, sV _, .bool _]) rfl rfl (fun b1 => (W.box (L := [sV _, sV _, .bool _]) rfl rfl (fun b2 => (W.alloc Zy (fun b3 => (g9 5 ?_))))))
 refine W.alloc Zy (fun b4 => (g9 10 ?_))
 refine W.qcall (Zah _ _) rfl (g9 2 ?_)
 refine WC.cond rfl (fun h11 => ?_) (fun h11 => ?_)
 ·refine g9 14 ?_
  refine W.sp 18 rfl (fun h17 => ?_) (fun h17 => ?_)
  ·refine g9 6 ?_
   refine W.sp 21 rfl (fun ha_ao => ?_) (fun ha_ao => ?_)
   ·refine g9 27 ?_
    refine W.qcall (Jh _ _ _) rfl (g9 5 ?_)
    refine congrArg (fun l => Value.agg (List.toArray l)) ?_
    show [Value.string _, Value.string _, Value.bool _] = _
    simp_all [Span.meet, ZV] <;> rfl
   refine g9 9 ?_
   refine W.qcall (Zah _ _) rfl (g9 5 ?_)
   refine WC.cond rfl (fun h26 => ?_) (fun h26 => ?_)
   ·refine g9 16 ?_
    refine W.qcall (Jh _ _ _) rfl (g9 5 ?_)
    refine congrArg (fun l => Value.agg (List.toArray l)) ?_
    show [Value.string _, Value.string _, Value.bool _] = _
    simp_all [Span.meet, ZV] <;> rfl
   refine g9 5 ?_
   refine W.qcall (Jh _ _ _) rfl (g9 5 ?_)
   refine congrArg (fun l => Value.agg (List.toArray l)) ?_
   show [Value.string _, Value.string _, Value.bool _] = _
   simp_all [Span.meet, ZV] <;> rfl
  refine g9 18 ?_
  refine W.qcall (Jh _ _ _) rfl (g9 5 ?_)
  refine congrArg (fun l => Value.agg (List.toArray l)) ?_
  show [Value.string _, Value.string _, Value.bool _] = _
  simp_all [Span.meet, ZV] <;> rfl
 refine g9 9 ?_
 refine W.sp 18 rfl (fun h17 => ?_) (fun h17 => ?_)
 ·refine g9 6 ?_
  refine W.sp 21 rfl (fun ha_ao => ?_) (fun ha_ao => ?_)
  ·refine g9 27 ?_
   refine W.qcall (Jh _ _ _) rfl (g9 5 ?_)
   refine congrArg (fun l => Value.agg (List.toArray l)) ?_
   show [Value.string _, Value.string _, Value.bool _] = _
   simp_all [Span.meet, ZV] <;> rfl
  refine g9 9 ?_
  refine W.qcall (Zah _ _) rfl (g9 5 ?_)
  refine WC.cond rfl (fun h26 => ?_) (fun h26 => ?_)
  ·refine g9 16 ?_
   refine W.qcall (Jh _ _ _) rfl (g9 5 ?_)
   refine congrArg (fun l => Value.agg (List.toArray l)) ?_
   show [Value.string _, Value.string _, Value.bool _] = _
   simp_all [Span.meet, ZV] <;> rfl
  refine g9 5 ?_
  refine W.qcall (Jh _ _ _) rfl (g9 5 ?_)
  refine congrArg (fun l => Value.agg (List.toArray l)) ?_
  show [Value.string _, Value.string _, Value.bool _] = _
  simp_all [Span.meet, ZV] <;> rfl
 refine g9 18 ?_
 refine W.qcall (Jh _ _ _) rfl (g9 5 ?_)
 refine congrArg (fun l => Value.agg (List.toArray l)) ?_
 show [Value.string _, Value.string _, Value.bool _] = _
 simp_all [Span.meet, ZV] <;> rfl

theorem J4 {G : GH} (alo : Str) (ahi : Str) (ao : Bool) (blo : Str) (bhi : Str) (bo : Bool) :
    Fc Tryz.prog 101 [.agg #[sV alo.b, sV ahi.b, .bool ao], .agg #[sV blo.b, sV bhi.b, .bool bo]] G [] (fun v _ _ => v = .agg (List.toArray ((Span.meet ⟨alo, ahi, ao⟩ ⟨blo, bhi, bo⟩ : Span).cells))) := by
 refine Fc.go [.cell 4 62] Tryz.func101 Tryz.ntmps101 rfl (fun w0 => (g9 2 ?_))
 refine W.box (L := [sV _, sV _, .bool _]) rfl rfl (fun b5 => (W.box (L := [sV _, sV _, .bool _]) rfl rfl (fun b6 => (W.alloc Zy (fun b7 => (g9 8 ?_))))))
 refine W.ok (ZuN rfl rfl) (g9 3 ?_)
 refine W.sp 13 rfl (fun ha_ao => ?_) (fun ha_ao => ?_)
 ·refine g9 5 ?_
  refine W.ok (ZD (L := [sV _, sV _, .bool _]) Xe Zy rfl rfl rfl) (W.alloc Zy (fun b8 => (g9 24 ?_)))
  refine W.qcall (ZaE _ _ _) rfl (g9 5 ?_)
  refine congrArg (fun l => Value.agg (List.toArray l)) ?_
  show [Value.string _, Value.string _, Value.bool _] = _
  rw [← ZeA]
  simp_all [ZV] <;> rfl
 refine g9 3 ?_
 refine W.ok (ZD (L := [sV _, sV _, .bool _]) Xe Zy rfl rfl rfl) (W.alloc Zy (fun b9 => (g9 20 ?_)))
 refine WC.cond rfl (fun ha_bo => ?_) (fun ha_bo => ?_)
 ·refine g9 11 ?_
  refine W.qcall (ZaE _ _ _) rfl (g9 5 ?_)
  refine congrArg (fun l => Value.agg (List.toArray l)) ?_
  show [Value.string _, Value.string _, Value.bool _] = _
  rw [← ZeA]
  simp_all [ZV] <;> rfl
 refine g9 5 ?_
 refine W.ok (ZuO rfl rfl) (g9 8 ?_)
 refine W.qcall (ZaE _ _ _) rfl (g9 5 ?_)
 refine congrArg (fun l => Value.agg (List.toArray l)) ?_
 show [Value.string _, Value.string _, Value.bool _] = _
 rw [← ZeA]
 simp_all [ZV] <;> rfl

theorem ZoR {G : GH} (k : Str) (hk : k.b.size < 140737488355328) :
    Fc Tryz.prog 147 [sV k.b] G [] (fun v _ _ => v = sV (Str.b (k.next))) := by
 refine Fc.go [.tmp 2] Tryz.func147 Tryz.ntmps147 rfl (fun w0 => (g9 8 ?_))
 refine W.ok (Zg5 rfl rfl (by show _ + 1 ≤ _; omega)) (g9 5 ?_)
 refine congrArg Value.string ?_
 exact (Str.next_b hk).symm

theorem Zig {G : GH} (k : Str) (hk : k.b.size < 140737488355328) :
    Fc Tryz.prog 103 [sV k.b] G [] (fun v _ _ => v = .agg (List.toArray ((⟨k, k.next, false⟩ : Span).cells))) := by
 refine Fc.go [.cell 2 62] Tryz.func103 Tryz.ntmps103 rfl (fun w0 => (g9 2 ?_))
 refine W.alloc Zy (fun b10 => (g9 6 ?_))
 refine W.qcall (ZoR _ (by first | assumption | omega | (dsimp only; omega))) rfl (W.ok (ZD (L := [sV _, sV _, .bool _]) Xe Zy rfl rfl rfl) (g9 5 ?_))
 rfl

theorem Zcy {G : GH} (ms : Int) (mk : Int) (mkey : Str) (mhi : Str) (mo : Bool) (mv : Str) (hk : mkey.b.size < 140737488355328) :
    Fc Tryz.prog 137 [.agg #[iV ms, iV mk, sV mkey.b, sV mhi.b, .bool mo, sV mv.b]] G [] (fun v _ _ => v = .agg (List.toArray ((Msg.span (⟨ms, mk, mkey, mhi, mo, mv⟩ : Msg) : Span).cells))) := by
 refine Fc.go [.cell 2 62] Tryz.func137 Tryz.ntmps137 rfl (fun w0 => (g9 2 ?_))
 refine W.box (L := [iV _, iV _, sV _, sV _, .bool _, sV _]) rfl rfl (fun b11 => (W.alloc Zy (fun b12 => (g9 10 ?_))))
 refine WC.cd (fun h5 p5 => ?_) (fun h5 p5 => ?_)
 ·refine g9 8 ?_
  refine W.ok (ZD (L := [sV _, sV _, .bool _]) Xe Zy rfl rfl rfl) (g9 6 ?_)
  refine congrArg (fun l => Value.agg (List.toArray l)) ?_
  rw [Msg.span, if_pos p5]; rfl
 refine g9 6 ?_
 refine W.qcall (Zig _ (by first | assumption | omega | (dsimp only; omega))) rfl (g9 5 ?_)
 refine congrArg (fun l => Value.agg (List.toArray l)) ?_
 rw [Msg.span, if_neg p5] <;> simp [Span.cells, Str.next_b hk, ZV]

theorem ZbH {G : GH} (ms : Int) (mk : Int) (mkey : Str) (mhi : Str) (mo : Bool) (mv : Str) (hk : mkey.b.size < 140737488355328) :
    Fc Tryz.prog 90 [.agg #[iV ms, iV mk, sV mkey.b, sV mhi.b, .bool mo, sV mv.b]] G [] (fun v _ _ => v = .agg (List.toArray ((Msg.span (⟨ms, mk, mkey, mhi, mo, mv⟩ : Msg) : Span).cells))) := by
 refine Fc.go [.cell 2 62] Tryz.func90 Tryz.ntmps90 rfl (fun w0 => (g9 2 ?_))
 refine W.box (L := [iV _, iV _, sV _, sV _, .bool _, sV _]) rfl rfl (fun b13 => (W.alloc Zy (fun b14 => (g9 10 ?_))))
 refine WC.cd (fun h5 p5 => ?_) (fun h5 p5 => ?_)
 ·refine g9 8 ?_
  refine W.ok (ZD (L := [sV _, sV _, .bool _]) Xe Zy rfl rfl rfl) (g9 6 ?_)
  refine congrArg (fun l => Value.agg (List.toArray l)) ?_
  rw [Msg.span, if_pos p5]; rfl
 refine g9 8 ?_
 refine W.ok (Zg5 rfl rfl (by show _ + 1 ≤ _; omega)) (W.ok (ZD (L := [sV _, sV _, .bool _]) Xe Zy rfl rfl rfl) (g9 5 ?_))
 refine congrArg (fun l => Value.agg (List.toArray l)) ?_
 rw [Msg.span, if_neg p5] <;> simp [Span.cells, Str.next_b hk, ZV]

theorem ZoS {G : GH} (alo : Str) (ahi : Str) (ao : Bool) (blo : Str) (bhi : Str) (bo : Bool) :
    Fc Tryz.prog 127 [.agg #[sV alo.b, sV ahi.b, .bool ao], .agg #[sV blo.b, sV bhi.b, .bool bo]] G [] (fun v _ _ => v = .bool (!(Span.meet ⟨alo, ahi, ao⟩ ⟨blo, bhi, bo⟩).empty)) := by
 refine Fc.go [.tmp 4] Tryz.func127 Tryz.ntmps127 rfl (fun w0 => (g9 2 ?_))
 refine W.box (L := [sV _, sV _, .bool _]) rfl rfl (fun b15 => (W.box (L := [sV _, sV _, .bool _]) rfl rfl (fun b16 => (g9 7 ?_))))
 refine W.qcall (J4 _ _ _ _ _ _) rfl (W.qcall (Zcx _ _ _) rfl (g9 6 ?_))
 rfl

theorem ZoT {G : GH} (ms : Int) (mk : Int) (mkey : Str) (mhi : Str) (mo : Bool) (mv : Str) (alo : Str) (ahi : Str) (ao : Bool) (hk : mkey.b.size < 140737488355328) :
    Fc Tryz.prog 240 [.agg #[iV ms, iV mk, sV mkey.b, sV mhi.b, .bool mo, sV mv.b], .agg #[sV alo.b, sV ahi.b, .bool ao]] G [] (fun v _ _ => v = .bool (!((Msg.span (⟨ms, mk, mkey, mhi, mo, mv⟩ : Msg)).meet ⟨alo, ahi, ao⟩).empty)) := by
 refine Fc.go [.tmp 4] Tryz.func240 Tryz.ntmps240 rfl (fun w0 => (g9 2 ?_))
 refine W.box (L := [iV _, iV _, sV _, sV _, .bool _, sV _]) rfl rfl (fun b17 => (W.box (L := [sV _, sV _, .bool _]) rfl rfl (fun b18 => (g9 6 ?_))))
 refine W.qcall (Zcy _ _ _ _ _ _ (by first | assumption | omega | (dsimp only; omega))) rfl (g9 1 ?_)
 refine W.qcall (ZoS _ _ _ _ _ _) rfl (g9 5 ?_)
 rfl

theorem ZoU {G : GH} (ms : Int) (mk : Int) (mkey : Str) (mhi : Str) (mo : Bool) (mv : Str) :
    Fc Tryz.prog 196 [.agg #[iV ms, iV mk, sV mkey.b, sV mhi.b, .bool mo, sV mv.b]] G [] (fun v _ _ => v = iV (Msg.size (⟨ms, mk, mkey, mhi, mo, mv⟩ : Msg))) := by
 have h1 := mkey.le
 have h2 := mv.le
 refine Fc.go [.tmp 2] Tryz.func196 Tryz.ntmps196 rfl (fun w0 => (g9 2 ?_))
 refine W.box (L := [iV _, iV _, sV _, sV _, .bool _, sV _]) rfl rfl (fun b19 => (g9 11 ?_))
 refine WC.cd (fun h5 p5 => ?_) (fun h5 p5 => ?_)
 ·refine g9 8 ?_
  refine congrArg (Value.int .i64) ?_
  rw [Msg.size, if_pos p5]
 refine g9 17 ?_
 refine congrArg (Value.int .i64) ?_
 rw [Msg.size, if_neg p5]

theorem Zih {G : GH} (ms : Int) (mk : Int) (mkey : Str) (mhi : Str) (mo : Bool) (mv : Str) (alo : Str) (ahi : Str) (ao : Bool) (hk : mkey.b.size < 140737488355328) :
    Fc Tryz.prog 115 [.agg #[iV ms, iV mk, sV mkey.b, sV mhi.b, .bool mo, sV mv.b], .agg #[sV alo.b, sV ahi.b, .bool ao]] G [] (fun v _ _ => v = .tuple #[.agg (List.toArray ((Msg.clip (⟨ms, mk, mkey, mhi, mo, mv⟩ : Msg) ⟨alo, ahi, ao⟩).1.cells)), .bool ((Msg.clip (⟨ms, mk, mkey, mhi, mo, mv⟩ : Msg) ⟨alo, ahi, ao⟩).2)]) := by
 refine Fc.go [.cell 4 87, .tmp 5] Tryz.func115 Tryz.ntmps115 rfl (fun w0 => (g9 2 ?_))
 refine W.box (L := [iV _, iV _, sV _, sV _, .bool _, sV _]) rfl rfl (fun b20 => (W.box (L := [sV _, sV _, .bool _]) rfl rfl (fun b21 => (W.alloc ZL (fun b22 => (g9 4 ?_))))))
 refine WC.dw ((sr9.k9.k9).k9) (d9 [0, 2] ?_)
 refine WD.any [1, 4] (by kernel_rfl) rfl ⟨WD.ap ?_, WD.ap ?_, trivial⟩
 ·refine W.qcall (ZbH _ _ _ _ _ _ (by first | assumption | omega | (dsimp only; omega))) rfl (W.nn ?_)
  refine WD.any [3, 4] (by kernel_rfl) rfl ⟨WD.ap ?_, WD.ap ?_, trivial⟩
  ·refine W.qcall (Za4 _ _ _ _ _ _) rfl (W.nn (WD.a1 4 rfl (W.alloc Zy (fun b23 => (W.nn (d9 [5] ?_))))))
   refine g9 6 ?_
   refine W.qcall (ZbF _ _ _) rfl (g9 2 ?_)
   refine WC.cond rfl (fun h12 => ?_) (fun h12 => ?_)
   ·refine g9 2 ?_
    refine W.ok (ZD (L := [iV _, iV _, sV _, sV _, .bool _, sV _]) ZbA ZL rfl rfl rfl) (g9 7 ?_)
    show Value.tuple #[Value.agg (List.toArray [_, _, _, _, _, _]), Value.bool _] = _
    rw [Jb h12]; rfl
   refine g9 10 ?_
   refine WC.cd (fun h16 p16 => ?_) (fun h16 p16 => ?_)
   ·refine g9 32 ?_
    show Value.tuple #[Value.agg (List.toArray [_, _, _, _, _, _]), Value.bool _] = _
    rw [Jc h12 p16]; rfl
   refine g9 11 ?_
   show Value.tuple #[Value.agg (List.toArray [_, _, _, _, _, _]), Value.bool _] = _
   rw [ZaU h12 p16]; rfl
  refine W.alloc Zy (fun b24 => (W.nn (WD.a1 3 rfl (W.qcall (Za4 _ _ _ _ _ _) rfl (W.nn (d9 [5] ?_))))))
  refine g9 6 ?_
  refine W.qcall (ZbF _ _ _) rfl (g9 2 ?_)
  refine WC.cond rfl (fun h12 => ?_) (fun h12 => ?_)
  ·refine g9 2 ?_
   refine W.ok (ZD (L := [iV _, iV _, sV _, sV _, .bool _, sV _]) ZbA ZL rfl rfl rfl) (g9 7 ?_)
   show Value.tuple #[Value.agg (List.toArray [_, _, _, _, _, _]), Value.bool _] = _
   rw [Jb h12]; rfl
  refine g9 10 ?_
  refine WC.cd (fun h16 p16 => ?_) (fun h16 p16 => ?_)
  ·refine g9 32 ?_
   show Value.tuple #[Value.agg (List.toArray [_, _, _, _, _, _]), Value.bool _] = _
   rw [Jc h12 p16]; rfl
  refine g9 11 ?_
  show Value.tuple #[Value.agg (List.toArray [_, _, _, _, _, _]), Value.bool _] = _
  rw [ZaU h12 p16]; rfl
 refine W.alloc Zy (fun b25 => (W.nn (WD.a1 1 rfl (W.qcall (ZbH _ _ _ _ _ _ (by first | assumption | omega | (dsimp only; omega))) rfl (W.nn (WD.a1 3 rfl (W.qcall (Za4 _ _ _ _ _ _) rfl (W.nn (d9 [5] ?_)))))))))
 refine g9 6 ?_
 refine W.qcall (ZbF _ _ _) rfl (g9 2 ?_)
 refine WC.cond rfl (fun h12 => ?_) (fun h12 => ?_)
 ·refine g9 2 ?_
  refine W.ok (ZD (L := [iV _, iV _, sV _, sV _, .bool _, sV _]) ZbA ZL rfl rfl rfl) (g9 7 ?_)
  show Value.tuple #[Value.agg (List.toArray [_, _, _, _, _, _]), Value.bool _] = _
  rw [Jb h12]; rfl
 refine g9 10 ?_
 refine WC.cd (fun h16 p16 => ?_) (fun h16 p16 => ?_)
 ·refine g9 32 ?_
  show Value.tuple #[Value.agg (List.toArray [_, _, _, _, _, _]), Value.bool _] = _
  rw [Jc h12 p16]; rfl
 refine g9 11 ?_
 show Value.tuple #[Value.agg (List.toArray [_, _, _, _, _, _]), Value.bool _] = _
 rw [ZaU h12 p16]; rfl

theorem Zfa {G : GH} (ms : Int) (mk : Int) (mkey : Str) (mhi : Str) (mo : Bool) (mv : Str) (alo : Str) (ahi : Str) (ao : Bool) (hk : mkey.b.size < 140737488355328) :
    Fc Tryz.prog 212 [.agg #[iV ms, iV mk, sV mkey.b, sV mhi.b, .bool mo, sV mv.b], .agg #[sV alo.b, sV ahi.b, .bool ao]] G [] (fun v _ _ => v = .tuple #[.agg (List.toArray ((Msg.clip (⟨ms, mk, mkey, mhi, mo, mv⟩ : Msg) ⟨alo, ahi, ao⟩).1.cells)), .bool ((Msg.clip (⟨ms, mk, mkey, mhi, mo, mv⟩ : Msg) ⟨alo, ahi, ao⟩).2)]) := by
 refine Fc.go [.cell 4 87, .tmp 5] Tryz.func212 Tryz.ntmps212 rfl (fun w0 => (g9 2 ?_))
 refine W.box (L := [iV _, iV _, sV _, sV _, .bool _, sV _]) rfl rfl (fun b26 => (W.box (L := [sV _, sV _, .bool _]) rfl rfl (fun b27 => (W.alloc ZL (fun b28 => (g9 8 ?_))))))
 refine W.qcall (ZoT _ _ _ _ _ _ _ _ _ (by first | assumption | omega | (dsimp only; omega))) rfl (g9 3 ?_)
 refine WC.cond rfl (fun h10 => ?_) (fun h10 => ?_)
 ·refine g9 2 ?_
  refine W.ok (ZD (L := [iV _, iV _, sV _, sV _, .bool _, sV _]) ZbA ZL rfl rfl rfl) (g9 7 ?_)
  show Value.tuple #[Value.agg (List.toArray [_, _, _, _, _, _]), Value.bool _] = _
  rw [Jb (by simpa using h10)]; rfl
 refine g9 10 ?_
 refine WC.cd (fun h14 p14 => ?_) (fun h14 p14 => ?_)
 ·refine WC.seq (WC.dw ((sr9.k9.k9).k9) (d9 [0, 2] ?_))
  refine WD.any [1, 4] (by kernel_rfl) rfl ⟨WD.ap ?_, WD.ap ?_, trivial⟩
  ·refine W.qcall (Zcy _ _ _ _ _ _ (by first | assumption | omega | (dsimp only; omega))) rfl (W.nn ?_)
   refine WD.any [3, 4] (by kernel_rfl) rfl ⟨WD.ap ?_, WD.ap ?_, trivial⟩
   ·refine W.qcall (J4 _ _ _ _ _ _) rfl (W.nn (WD.a1 4 rfl (W.alloc Zy (fun b29 => (W.nn (d9 [5] ?_))))))
    refine g9 2 ?_
    refine WC.dw ((((sr9.cons _).k9).k9).k9) (d9 [0, 1, 2, 3, 4, 5, 6, 7, 8, 9, 10, 11] ?_)
    refine g9 11 ?_
    show Value.tuple #[Value.agg (List.toArray [_, _, _, _, _, _]), Value.bool _] = _
    rw [Jc (by simpa using h10) p14]; rfl
   refine W.alloc Zy (fun b30 => (W.nn (WD.a1 3 rfl (W.qcall (J4 _ _ _ _ _ _) rfl (W.nn (d9 [5] ?_))))))
   refine g9 2 ?_
   refine WC.dw ((((sr9.cons _).k9).k9).k9) (d9 [0, 1, 2, 3, 4, 5, 6, 7, 8, 9, 10, 11] ?_)
   refine g9 11 ?_
   show Value.tuple #[Value.agg (List.toArray [_, _, _, _, _, _]), Value.bool _] = _
   rw [Jc (by simpa using h10) p14]; rfl
  refine W.alloc Zy (fun b31 => (W.nn (WD.a1 1 rfl (W.qcall (Zcy _ _ _ _ _ _ (by first | assumption | omega | (dsimp only; omega))) rfl (W.nn (WD.a1 3 rfl (W.qcall (J4 _ _ _ _ _ _) rfl (W.nn (d9 [5] ?_)))))))))
  refine g9 2 ?_
  refine WC.dw ((((sr9.cons _).k9).k9).k9) (d9 [0, 1, 2, 3, 4, 5, 6, 7, 8, 9, 10, 11] ?_)
  refine g9 11 ?_
  show Value.tuple #[Value.agg (List.toArray [_, _, _, _, _, _]), Value.bool _] = _
  rw [Jc (by simpa using h10) p14]; rfl
 refine g9 11 ?_
 show Value.tuple #[Value.agg (List.toArray [_, _, _, _, _, _]), Value.bool _] = _
 rw [ZaU (by simpa using h10) p14]; rfl

theorem ZoV {G : GH} (s : Str) :
    Fc Tryz.prog 239 [sV s.b] G [] (fun v _ _ => v = sV (Str.b (s.tail))) := by
 have hs := s.le
 refine Fc.go [.tmp 2] Tryz.func239 Tryz.ntmps239 rfl (fun w0 => (g9 11 ?_))
 refine W.ok (Zek rfl rfl) (W.ok (Zmd (s.b.size - 16) (s.b.size) st9 rfl ⟨_, _, rfl, om9⟩ rfl ⟨om9, om9⟩) (g9 5 ?_))
 rfl

theorem Zii {G : GH} (a : Str) (b : Str) (ha : a.b.size ≤ 1048576) (hb : b.b.size ≤ 1048576) :
    Fc Tryz.prog 210 [sV a.b, sV b.b] G [] (fun v _ _ => v = sV (Str.b (a.add b))) := by
 refine Fc.go [.tmp 4] Tryz.func210 Tryz.ntmps210 rfl (fun w0 => (g9 9 ?_))
 refine W.ok (Ok.str (b := (a.cat b).b) (Zg5 rfl rfl om9) ((Str.cat_b om9).symm)) (W.qcall (ZoV _) rfl (g9 5 ?_))
 exact congrArg (fun s => Value.string (Str.b s)) (Str.cat_tail om9)

theorem Zij {G : GH} (s : Str) :
    Fc Tryz.prog 91 [sV s.b] G [] (fun v _ _ => v = .bool (decide (s.b.size ≤ 16))) := by
 have hs := s.le
 refine Fc.go [.tmp 2] Tryz.func91 Tryz.ntmps91 rfl (fun w0 => (g9 15 ?_))
 refine congrArg Value.bool ?_
 rw [decide_eq_decide]; omega

theorem ZoW {G : GH} (s : Str) :
    Fc Tryz.prog 92 [sV s.b] G [] (fun v _ _ => v = .bool (decide (s.b.size ≤ 16))) := by
 have hs := s.le
 refine Fc.go [.tmp 2] Tryz.func92 Tryz.ntmps92 rfl (fun w0 => (g9 15 ?_))
 refine congrArg Value.bool ?_
 rw [decide_eq_decide]; omega

theorem Zdh {G : GH} (ek : Int) (ev : Str) (has : Bool) (x : Str) (he : ev.b.size ≤ 1048576) (hv : x.b.size ≤ 1048576) :
    Fc Tryz.prog 181 [.agg #[iV ek, sV ev.b], .bool has, sV x.b] G [] (fun v _ _ => v = .tuple #[.bool (((Eff.apply (⟨ek, ev⟩ : Eff) (Yx has x))).isSome), sV (Str.b (((Eff.apply (⟨ek, ev⟩ : Eff) (Yx has x))).getD Str.nil))]) := by
 refine Fc.go [.tmp 6, .tmp 7] Tryz.func181 Tryz.ntmps181 rfl (fun w0 => (g9 2 ?_))
 refine W.box (L := [iV _, sV _]) rfl rfl (fun b3 => (g9 11 ?_))
 refine WC.cond rfl (fun h9 => ?_) (fun h9 => ?_)
 ·refine g9 18 ?_
  refine WC.cd (fun h13 p13 => ?_) (fun h13 p13 => ?_)
  ·refine g9 12 ?_
   show Value.tuple #[Value.bool _, Value.string _] = _
   simp_all [Eff.apply, Yx, Str.nil]
  refine g9 6 ?_
  refine WC.cd (fun h17 p17 => ?_) (fun h17 p17 => ?_)
  ·refine g9 5 ?_
   refine W.qcall (Zii Str.nil ev (by show 0 ≤ 1048576; omega) (by assumption)) rfl (g9 8 ?_)
   show Value.tuple #[Value.bool _, Value.string _] = _
   simp_all [Eff.apply, Yx, Str.nil]
  refine g9 6 ?_
  refine WC.cd (fun h23 p23 => ?_) (fun h23 p23 => ?_)
  ·refine g9 10 ?_
   show Value.tuple #[Value.bool _, Value.string _] = _
   simp_all [Eff.apply, Yx, Str.nil]
  refine g9 13 ?_
  show Value.tuple #[Value.bool _, Value.string _] = _
  simp_all [Eff.apply, Yx, Str.nil]
 refine g9 16 ?_
 refine WC.cd (fun h13 p13 => ?_) (fun h13 p13 => ?_)
 ·refine g9 12 ?_
  show Value.tuple #[Value.bool _, Value.string _] = _
  simp_all [Eff.apply, Yx, Str.nil]
 refine g9 6 ?_
 refine WC.cd (fun h17 p17 => ?_) (fun h17 p17 => ?_)
 ·refine g9 5 ?_
  refine W.qcall (Zii x ev (by assumption) (by assumption)) rfl (g9 8 ?_)
  show Value.tuple #[Value.bool _, Value.string _] = _
  simp_all [Eff.apply, Yx, Str.nil]
 refine g9 6 ?_
 refine WC.cd (fun h23 p23 => ?_) (fun h23 p23 => ?_)
 ·refine g9 10 ?_
  show Value.tuple #[Value.bool _, Value.string _] = _
  simp_all [Eff.apply, Yx, Str.nil]
 refine g9 13 ?_
 show Value.tuple #[Value.bool _, Value.string _] = _
 simp_all [Eff.apply, Yx, Str.nil]

theorem Zdi {G : GH} (ms : Int) (mk : Int) (mkey : Str) (mhi : Str) (mo : Bool) (mv : Str) (k : Str) (hk : mkey.b.size < 140737488355328) :
    Fc Tryz.prog 80 [.agg #[iV ms, iV mk, sV mkey.b, sV mhi.b, .bool mo, sV mv.b], sV k.b] G [] (fun v _ _ => v = .agg (List.toArray ((Msg.on (⟨ms, mk, mkey, mhi, mo, mv⟩ : Msg) k).cells))) := by
 refine Fc.go [.cell 4 132] Tryz.func80 Tryz.ntmps80 rfl (fun w0 => (g9 2 ?_))
 refine W.box (L := [iV _, iV _, sV _, sV _, .bool _, sV _]) rfl rfl (fun b4 => (W.alloc JP (fun b5 => (g9 6 ?_))))
 refine W.qcall (Zcy _ _ _ _ _ _ (by first | assumption | omega | (dsimp only; omega))) rfl (W.mv (W.qcall (Zdg _ _ _ _) rfl (g9 3 ?_)))
 refine WC.cond rfl (fun h9 => ?_) (fun h9 => ?_)
 ·refine g9 2 ?_
  refine W.ok (ZD (L := [iV _, sV _]) ZaD JP rfl rfl rfl) (g9 6 ?_)
  refine congrArg (fun l => Value.agg (List.toArray l)) ?_
  show [Value.int _ _, Value.string _] = _
  first | (simp_all [Msg.on, Eff.cells, Eff.zero, Str.nil]; done) | (simp_all [Msg.on, Eff.cells, Eff.zero, Str.nil]; split <;> first | (exfalso; omega) | (simp; done) | (split <;> first | (exfalso; omega) | (simp; done)))
 refine g9 17 ?_
 refine WC.cd (fun h14 p14 => ?_) (fun h14 p14 => ?_)
 ·refine g9 9 ?_
  refine W.ok (ZD (L := [iV _, sV _]) ZaD JP rfl rfl rfl) (g9 7 ?_)
  refine congrArg (fun l => Value.agg (List.toArray l)) ?_
  show [Value.int _ _, Value.string _] = _
  first | (simp_all [Msg.on, Eff.cells, Eff.zero, Str.nil]; done) | (simp_all [Msg.on, Eff.cells, Eff.zero, Str.nil]; split <;> first | (exfalso; omega) | (simp; done) | (split <;> first | (exfalso; omega) | (simp; done)))
 refine g9 5 ?_
 refine WC.cd (fun h15 p15 => ?_) (fun h15 p15 => ?_)
 ·refine g9 6 ?_
  refine W.ok (ZD (L := [iV _, sV _]) ZaD JP rfl rfl rfl) (g9 7 ?_)
  refine congrArg (fun l => Value.agg (List.toArray l)) ?_
  show [Value.int _ _, Value.string _] = _
  first | (simp_all [Msg.on, Eff.cells, Eff.zero, Str.nil]; done) | (simp_all [Msg.on, Eff.cells, Eff.zero, Str.nil]; split <;> first | (exfalso; omega) | (simp; done) | (split <;> first | (exfalso; omega) | (simp; done)))
 refine g9 7 ?_
 refine WC.cd (fun h22 p22 => ?_) (fun h22 p22 => ?_)
 ·refine g9 5 ?_
  refine W.ok (ZD (L := [iV _, sV _]) ZaD JP rfl rfl rfl) (g9 7 ?_)
  refine congrArg (fun l => Value.agg (List.toArray l)) ?_
  show [Value.int _ _, Value.string _] = _
  first | (simp_all [Msg.on, Eff.cells, Eff.zero, Str.nil]; done) | (simp_all [Msg.on, Eff.cells, Eff.zero, Str.nil]; split <;> first | (exfalso; omega) | (simp; done) | (split <;> first | (exfalso; omega) | (simp; done)))
 refine g9 5 ?_
 refine WC.cd (fun h23 p23 => ?_) (fun h23 p23 => ?_)
 ·refine g9 2 ?_
  refine W.ok (ZD (L := [iV _, sV _]) ZaD JP rfl rfl rfl) (g9 7 ?_)
  refine congrArg (fun l => Value.agg (List.toArray l)) ?_
  show [Value.int _ _, Value.string _] = _
  first | (simp_all [Msg.on, Eff.cells, Eff.zero, Str.nil]; done) | (simp_all [Msg.on, Eff.cells, Eff.zero, Str.nil]; split <;> first | (exfalso; omega) | (simp; done) | (split <;> first | (exfalso; omega) | (simp; done)))
 refine g9 5 ?_
 refine W.ok (ZD (L := [iV _, sV _]) ZaD JP rfl rfl rfl) (g9 5 ?_)
 refine congrArg (fun l => Value.agg (List.toArray l)) ?_
 show [Value.int _ _, Value.string _] = _
 first | (simp_all [Msg.on, Eff.cells, Eff.zero, Str.nil]; done) | (simp_all [Msg.on, Eff.cells, Eff.zero, Str.nil]; split <;> first | (exfalso; omega) | (simp; done) | (split <;> first | (exfalso; omega) | (simp; done)))

theorem Zdj {G : GH} {v_a : Value} {a : List Pair} (h_a : SlR Zs G v_a a) {v_b : Value} {b : List Pair} (h_b : SlR Zs G v_b b) :
    Fc Tryz.prog 17 [v_a, v_b] G [] (fun v _ _ => v = .bool (decide (a = b))) := by
 obtain ⟨sa_a, sc_a, rfl⟩ := h_a.form
 obtain ⟨sa_b, sc_b, rfl⟩ := h_b.form
 have ha := h_a.len47
 have hb := h_b.len47
 refine Fc.go [.tmp 4] Tryz.func17 Tryz.ntmps17 rfl (fun w0 => (g9 15 ?_))
 refine WC.cn (fun h10 p10 => ?_) (fun h10 p10 => ?_)
 ·refine g9 8 ?_
  refine congrArg Value.bool ?_
  exact (decide_eq_false fun e => by subst e; omega).symm
 have hab : a.length = b.length := by omega
 refine g9 9 ?_
 refine WC.loop (X := Nat) (fun k => [(5, nt9 k), (0, lV sa_a a.length sc_a), (1, lV sa_b b.length sc_b)]) (fun k _ Ml => Ml = [] ∧ k ≤ a.length ∧ ∀ i (h : i < a.length) (h2 : i < b.length), i < k → a[i] = b[i]) (fun k => a.length - k) 0 hs9 ?_ ?_
 ·exact ⟨rfl, om9, fun i _ _ h => by omega⟩
 rintro k gG1 G1 _ hG1 ⟨rfl, hk0, hk⟩
 refine g9 9 ?_
 refine WC.cd (fun h14 p14 => ?_) (fun h14 p14 => ?_)
 ·refine g9 8 ?_
  refine (h_a.mono hG1).a1 (i := k) om9 (fun he2 => (g9 4 ?_))
  refine (h_b.mono hG1).a1 (i := k) om9 (fun he5 => (g9 2 ?_))
  refine W.ok (ZlQ (L1 := [sV _, sV _]) (L2 := [sV _, sV _]) Zn9 rfl rfl rfl rfl) (g9 2 ?_)
  refine WC.cond rfl (fun h25 => ?_) (fun h25 => ?_)
  ·refine g9 12 ?_
   refine congrArg Value.bool ?_
   exact (decide_eq_false fun e => by subst e; exact Pair.ne_of h25 rfl).symm
  refine g9 9 ?_
  exact ⟨Le.rfl, k + 1, hs9, ⟨rfl, om9, fun i h h2 hi => by
      by_cases e : i = k
      · subst e; exact Pair.eq_of h25
      · exact hk i h h2 om9⟩, om9⟩
 refine g9 12 ?_
 refine congrArg Value.bool ?_
 exact (decide_eq_true (List.ext_getElem om9 fun i h h2 => hk i h h2 om9)).symm

theorem ZoX {G : GH} {v_l : Value} {l : List Pair} (h_l : SlR Zs G v_l l) :
    Fc Tryz.prog 153 [v_l] G [] (fun v _ _ => v = .bool (decide (PairsR l))) := by
 obtain ⟨sa_l, sc_l, rfl⟩ := h_l.form
 have hl := h_l.len47
 refine Fc.go [.tmp 2] Tryz.func153 Tryz.ntmps153 rfl (fun w0 => (g9 12 ?_))
 refine WC.loop (X := Nat) (fun k => [(3, nt9 k), (0, lV sa_l l.length sc_l)]) (fun k _ Ml => Ml = [] ∧ ∀ i (h : i < l.length), i < k → (l[i].key.b.size ≤ 16 ∧ l[i].val.b.size ≤ 16) ∧ (0 < i → (l[i - 1]'om9).key.lt l[i].key = true)) (fun k => l.length - k) 0 hs9 ?_ ?_
 ·exact ⟨rfl, fun i _ h => by omega⟩
 rintro k gG8 G8 _ hG8 ⟨rfl, hk⟩
 refine g9 9 ?_
 refine WC.cd (fun h7 p7 => ?_) (fun h7 p7 => ?_)
 ·refine g9 8 ?_
  refine (h_l.mono hG8).a1 (i := k) om9 (fun he9 => (g9 6 ?_))
  refine W.sd 17 (fun h16 p16 => ?_) (fun h16 p16 => ?_)
  ·refine g9 42 ?_
   refine congrArg Value.bool ?_
   exact (decide_eq_false fun h => by have := h k om9; omega).symm
  refine g9 5 ?_
  refine (h_l.mono hG8).a1 (i := k) om9 (fun he12 => (g9 11 ?_))
  refine W.sd 26 (fun h24 p24 => ?_) (fun h24 p24 => ?_)
  ·refine g9 33 ?_
   refine congrArg Value.bool ?_
   exact (decide_eq_false fun h => by have := h k om9; omega).symm
  refine g9 6 ?_
  refine W.sd 29 (fun h28 p28 => ?_) (fun h28 p28 => ?_)
  ·refine g9 7 ?_
   refine (h_l.mono hG8).a1 (i := k - 1) om9 (fun he15 => (W.ok (Z1 (i := k - 1) ZI ZJ (h_l.mono hG8) rfl rfl ⟨om9, om9⟩) (g9 9 ?_)))
   refine (h_l.mono hG8).a1 (i := k) om9 (fun he18 => (g9 6 ?_))
   refine W.qcall (Zah _ _) rfl (g9 7 ?_)
   refine WC.cond rfl (fun h42 => ?_) (fun h42 => ?_)
   ·refine g9 12 ?_
    refine congrArg Value.bool ?_
    exact (decide_eq_false fun h => by have := h k om9; have h1 := this.2 om9; simp [h1] at h42).symm
   refine g9 9 ?_
   exact ⟨Le.rfl, k + 1, hs9, ⟨rfl, fun i h hi => by
      by_cases e : i = k
      · subst e; exact ⟨⟨om9, om9⟩, fun h0 => by simpa using h42⟩
      · exact hk i h om9⟩, om9⟩
  refine g9 28 ?_
  exact ⟨Le.rfl, k + 1, hs9, ⟨rfl, fun i h hi => by
      by_cases e : i = k
      · subst e; exact ⟨⟨om9, om9⟩, fun h0 => by omega⟩
      · exact hk i h om9⟩, om9⟩
 refine g9 12 ?_
 refine congrArg Value.bool ?_
 exact (decide_eq_true fun i h => hk i h om9).symm

theorem XS {G : GH} {v_a : Value} {a : List Pair} (h_a : SlR Zs G v_a a) :
    Fc Tryz.prog 146 [v_a] G [] (fun v G' M' => M' = [] ∧ ∃ u0, v = u0 ∧ SlR Zs G' u0 (a)) := by
 obtain ⟨sa_a, sc_a, rfl⟩ := h_a.form
 have ha := h_a.bytes
 refine Fc.go [.tmp 2] Tryz.func146 Tryz.ntmps146 rfl (fun w0 => (g9 9 ?_))
 refine W.ok (ZaR ZI rfl rfl) (g9 2 ?_)
 refine WC.cond rfl (fun h4 => ?_) (fun h4 => ?_)
 ·have hn := SlR.isNone h_a h4
  subst hn
  refine g9 8 ?_
  refine ⟨rfl, _, rfl, ?_⟩
  · exact SlR.nil
 refine g9 4 ?_
 refine W.lit0 (e := Zs) ZI ZJ Xd rfl (fun v21 Ms22 ho23 => (W.mv (W.app (e := Zs) ZI ZJ Xd rfl ZaB rfl rfl (ho23) (h_a) pr9 (by simpa using ha) (fun v24 Ms25 ho26 => (g9 3 ?_)))))
 refine WC.giveO ho26 pr9 (fun G27 hG27 hv27 => (g9 2 ?_))
 refine ⟨rfl, _, rfl, ?_⟩
 · exact hv27

theorem Jy {G : GH} {v_a : Value} {a : List Msg} (h_a : SlR Zp G v_a a) :
    Fc Tryz.prog 160 [v_a] G [] (fun v G' M' => M' = [] ∧ ∃ u0, v = u0 ∧ SlR Zp G' u0 (a)) := by
 obtain ⟨sa_a, sc_a, rfl⟩ := h_a.form
 have ha := h_a.bytes
 refine Fc.go [.tmp 2] Tryz.func160 Tryz.ntmps160 rfl (fun w0 => (g9 9 ?_))
 refine W.ok (ZaR ZQ rfl rfl) (g9 2 ?_)
 refine WC.cond rfl (fun h4 => ?_) (fun h4 => ?_)
 ·have hn := SlR.isNone h_a h4
  subst hn
  refine g9 8 ?_
  refine ⟨rfl, _, rfl, ?_⟩
  · exact SlR.nil
 refine g9 4 ?_
 refine W.lit0 (e := Zp) ZQ ZR ZL rfl (fun v28 Ms29 ho30 => (W.mv (W.app (e := Zp) ZQ ZR ZL rfl XQ rfl rfl (ho30) (h_a) pr9 (by simpa using ha) (fun v31 Ms32 ho33 => (g9 3 ?_)))))
 refine WC.giveO ho33 pr9 (fun G34 hG34 hv34 => (g9 2 ?_))
 refine ⟨rfl, _, rfl, ?_⟩
 · exact hv34

theorem Zik {G : GH} (ak : Int) (av : Str) (bk : Int) (bv : Str) (ha : av.b.size ≤ 1048576) (hb : bv.b.size ≤ 1048576) :
    Fc Tryz.prog 211 [.agg #[iV ak, sV av.b], .agg #[iV bk, sV bv.b]] G [] (fun v _ _ => v = .agg (List.toArray ((Eff.then (⟨ak, av⟩ : Eff) (⟨bk, bv⟩ : Eff)).cells))) := by
 refine Fc.go [.cell 4 132] Tryz.func211 Tryz.ntmps211 rfl (fun w0 => (g9 2 ?_))
 refine W.box (L := [iV _, sV _]) rfl rfl (fun b1 => (W.box (L := [iV _, sV _]) rfl rfl (fun b2 => (W.alloc JP (fun b3 => (g9 12 ?_))))))
 refine WC.cd (fun h10 p10 => ?_) (fun h10 p10 => ?_)
 ·refine g9 10 ?_
  refine congrArg (fun l => Value.agg (List.toArray l)) ?_
  show [Value.int _ _, Value.string _] = _
  first | (simp_all [Eff.then, Eff.cells, Eff.apply, Yx, Str.nil]; done) | (simp_all [Eff.then, Eff.cells, Eff.apply, Yx, Str.nil]; split <;> simp)
 refine g9 6 ?_
 refine W.sm 16 (fun h15 p15 => ?_) (fun h15 p15 => ?_)
 ·refine g9 18 ?_
  refine congrArg (fun l => Value.agg (List.toArray l)) ?_
  show [Value.int _ _, Value.string _] = _
  first | (simp_all [Eff.then, Eff.cells, Eff.apply, Yx, Str.nil]; done) | (simp_all [Eff.then, Eff.cells, Eff.apply, Yx, Str.nil]; split <;> simp)
 refine g9 10 ?_
 refine WC.cd (fun h19 p19 => ?_) (fun h19 p19 => ?_)
 ·refine g9 10 ?_
  refine congrArg (fun l => Value.agg (List.toArray l)) ?_
  show [Value.int _ _, Value.string _] = _
  first | (simp_all [Eff.then, Eff.cells, Eff.apply, Yx, Str.nil]; done) | (simp_all [Eff.then, Eff.cells, Eff.apply, Yx, Str.nil]; split <;> simp)
 refine g9 11 ?_
 refine W.qcall (Zdh _ _ _ _ (by first | assumption | omega | (dsimp only; omega) | (simp; omega)) (by first | assumption | omega | (dsimp only; omega) | (simp; omega))) rfl (g9 20 ?_)
 refine WC.cd (fun h37 p37 => ?_) (fun h37 p37 => ?_)
 ·refine g9 3 ?_
  refine W.ok (ZD (L := [iV _, sV _]) ZaD JP rfl rfl rfl) (g9 6 ?_)
  refine congrArg (fun l => Value.agg (List.toArray l)) ?_
  show [Value.int _ _, Value.string _] = _
  first | (simp_all [Eff.then, Eff.cells, Eff.apply, Yx, Str.nil]; done) | (simp_all [Eff.then, Eff.cells, Eff.apply, Yx, Str.nil]; split <;> simp)
 refine g9 3 ?_
 refine W.ok (ZD (L := [iV _, sV _]) ZaD JP rfl rfl rfl) (g9 6 ?_)
 refine congrArg (fun l => Value.agg (List.toArray l)) ?_
 show [Value.int _ _, Value.string _] = _
 first | (simp_all [Eff.then, Eff.cells, Eff.apply, Yx, Str.nil]; done) | (simp_all [Eff.then, Eff.cells, Eff.apply, Yx, Str.nil]; split <;> simp)

theorem ZoY {G : GH} {v_l : Value} {l : List Msg} (h_l : SlR Zp G v_l l) (key : Str) (hm : ∀ m ∈ l, m.key.b.size < 140737488355328 ∧ m.val.b.size ≤ 16) :
    Fc Tryz.prog 182 [v_l, sV key.b] G [] (fun v _ _ => v = .agg (List.toArray ((YB l key).cells))) := by
 obtain ⟨sa_l, sc_l, rfl⟩ := h_l.form
 have hl := h_l.len47
 refine Fc.go [.cell 4 132] Tryz.func182 Tryz.ntmps182 rfl (fun w0 => (g9 2 ?_))
 refine W.alloc JP (fun b4 => (g9 11 ?_))
 refine WC.loop (X := Nat) (fun k => [(9, nt9 k), (4, pt9 b4), (1, sV key.b), (7, lV sa_l l.length sc_l), (8, nt9 ((l).length))]) (fun k _ Ml => Ml = [(b4, ce9 132 [iV (YB (l.take k) key).kind, sV (YB (l.take k) key).val.b])] ∧ k ≤ l.length) (fun k => l.length - k) 0 hs9 ?_ ?_
 ·exact ⟨rfl, om9⟩
 rintro k gG5 G5 _ hG5 ⟨rfl, hk⟩
 have hon := ZeO (l.take k) key (fun m hm2 => (hm m (List.mem_of_mem_take hm2)).2)
 refine g9 6 ?_
 refine WC.cd (fun h10 p10 => ?_) (fun h10 p10 => ?_)
 ·refine g9 6 ?_
  refine (h_l.mono hG5).a2 (i := k) om9 (fun he6 hm7 => (g9 2 ?_))
  refine W.alloc ZL (fun b11 => (g9 3 ?_))
  refine WC.dw ((sr9.cons _).k9) (d9 [1, 2] ?_)
  refine WD.any [0, 3] (by kernel_rfl) rfl ⟨WD.ap ?_, WD.ap ?_, trivial⟩
  ·refine g9 1 ?_
   refine W.nn (WD.a1 3 rfl (W.qcall (Zdi _ _ _ _ _ _ _ (hm _ (List.getElem_mem _)).1) rfl (W.nn (WD.a1 4 rfl (W.qcall (Zik (YB (l.take k) key).kind (YB (l.take k) key).val (Msg.on l[k] key).kind (Msg.on l[k] key).val om9 (by have := Zbv key (hm _ (List.getElem_mem (by omega : k < l.length))).2; omega)) rfl (W.nn (d9 [5] ?_)))))))
   refine WD.done (by kernel_rfl) (JX (Xj (g9 3 ?_)))
   refine W.sub (sr9.cons _) (g9 2 ?_)
   exact ⟨Le.rfl, k + 1, hs9, ⟨(by rw [Zhs _ om9]; rfl), om9⟩, om9⟩
  refine W.qcall (Zdi _ _ _ _ _ _ _ (hm _ (List.getElem_mem _)).1) rfl (W.nn (WD.a1 0 rfl (g9 1 ?_)))
  refine W.nn (WD.a1 4 rfl (W.qcall (Zik (YB (l.take k) key).kind (YB (l.take k) key).val (Msg.on l[k] key).kind (Msg.on l[k] key).val om9 (by have := Zbv key (hm _ (List.getElem_mem (by omega : k < l.length))).2; omega)) rfl (W.nn (d9 [5] ?_))))
  refine WD.done (by kernel_rfl) (JX (Xj (g9 3 ?_)))
  refine W.sub (sr9.cons _) (g9 2 ?_)
  exact ⟨Le.rfl, k + 1, hs9, ⟨(by rw [Zhs _ om9]; rfl), om9⟩, om9⟩
 refine g9 13 ?_
 refine congrArg (fun l => Value.agg (List.toArray l)) ?_
 show [Value.int _ _, Value.string _] = _
 rw [List.take_of_length_le om9]; rfl

theorem ZoZ {G : GH} (a : Str) (b : Str) :
    Fc Tryz.prog 199 [sV a.b, sV b.b] G [] (fun v _ _ => v = iV (Jf a b)) := by
 refine Fc.go [.tmp 4] Tryz.func199 Tryz.ntmps199 rfl (fun w0 => (g9 8 ?_))
 refine W.qcall (Ze9 _) rfl (g9 6 ?_)
 refine W.qcall (Ze9 _) rfl (g9 9 ?_)
 refine WC.cond rfl (fun h8 => ?_) (fun h8 => ?_)
 ·cases h8
 refine g9 8 ?_
 refine WC.cond rfl (fun h10 => ?_) (fun h10 => ?_)
 ·cases h10
 refine g9 10 ?_
 refine WC.cond rfl (fun h16 => ?_) (fun h16 => ?_)
 ·refine g9 8 ?_
  refine congrArg (Value.int .i64) ?_
  simp_all [Jf, Str.lt]
 refine g9 7 ?_
 refine W.ok (ZuQ rfl rfl) (g9 2 ?_)
 refine WC.cond rfl (fun h19 => ?_) (fun h19 => ?_)
 ·refine g9 8 ?_
  refine congrArg (Value.int .i64) ?_
  simp_all [Jf, Str.lt]
 refine g9 9 ?_
 refine congrArg (Value.int .i64) ?_
 simp_all [Jf, Str.lt]

theorem Zil {G : GH} (a : Str) (b : Str) :
    Fc Tryz.prog 166 [sV a.b, sV b.b] G [] (fun v _ _ => v = iV (Jf a b)) := by
 refine Fc.go [.tmp 4] Tryz.func166 Tryz.ntmps166 rfl (fun w0 => (g9 9 ?_))
 refine W.qcall (ZoZ _ _) rfl (g9 5 ?_)
 rfl

theorem Zim {G : GH} (pk : Str) (pv : Str) (k : Str) :
    Fc Tryz.prog 165 [.agg #[sV pk.b, sV pv.b], sV k.b] G [] (fun v _ _ => v = iV (Jf pk k)) := by
 refine Fc.go [.tmp 4] Tryz.func165 Tryz.ntmps165 rfl (fun w0 => (g9 2 ?_))
 refine W.box (L := [sV _, sV _]) rfl rfl (fun b19 => (g9 8 ?_))
 refine W.qcall (Zil _ _) rfl (g9 5 ?_)
 rfl

theorem Zin {G : GH} (pk : Str) (pv : Str) (k : Str) :
    Fc Tryz.prog 206 [.agg #[sV pk.b, sV pv.b], sV k.b] G [] (fun v _ _ => v = iV (Jf pk k)) := by
 refine Fc.go [.tmp 4] Tryz.func206 Tryz.ntmps206 rfl (fun w0 => (g9 2 ?_))
 refine W.box (L := [sV _, sV _]) rfl rfl (fun b20 => (g9 8 ?_))
 refine W.qcall (Zil _ _) rfl (g9 5 ?_)
 rfl

theorem Zo0 {G : GH} {v_l : Value} {l : List Pair} (h_l : SlR Zs G v_l l) (k : Str) (hr : Srt l) :
    Fc Tryz.prog 164 [v_l, sV k.b, .func (.func 165) #[] #[]] G [] (fun v _ _ => v = .tuple #[nt9 (ZH l k), .bool ((Zi l k).isSome)]) := by
 obtain ⟨sa_l, sc_l, rfl⟩ := h_l.form
 have hlen := h_l.len47
 refine Fc.go [.tmp 6, .tmp 7] Tryz.func164 Tryz.ntmps164 rfl (fun w0 => (g9 22 ?_))
 refine WC.loop (X := Nat × Nat) (fun x => [(9, nt9 x.1), (10, nt9 x.2), (0, lV sa_l l.length sc_l), (1, sV k.b), (2, .func (.func 165) #[] #[]), (8, nt9 ((l).length))]) (fun x _ Ml => Ml = [] ∧ x.1 ≤ x.2 ∧ x.2 ≤ l.length ∧ (∀ q (h : q < l.length), q < x.1 → l[q].key.lt k = true) ∧ (∀ q (h : q < l.length), x.2 ≤ q → l[q].key.lt k = false)) (fun x => x.2 - x.1) (0, l.length) hs9 ?_ ?_
 ·exact ⟨rfl, by simp, by simp, (fun q _ h => by simp at h), (fun q h h' => by simp at h'; omega)⟩
 rintro ⟨i, j⟩ gG21 G21 _ hG21 ⟨rfl, hi, hj, h1, h2⟩
 dsimp only at hi hj h1 h2
 refine g9 8 ?_
 refine WC.cd (fun h17 p17 => ?_) (fun h17 p17 => ?_)
 ·refine g9 8 ?_
  refine W.ok (ZgQ un3 ZbE rfl om9) (W.ok (ZgS rfl rfl om9) (W.ok (ZgR ZbE un3 rfl om9) (g9 8 ?_)))
  refine (h_l.mono hG21).a1 (i := (i + j) / 2) om9 (fun he22 => (W.ok (Z1 (i := (i + j) / 2) ZI ZJ (h_l.mono hG21) rfl rfl ⟨by dsimp only; omega, om9⟩) (g9 2 ?_)))
  refine W.qcallV (fst := []) (caps := []) rfl (Zim _ _ _) rfl (g9 3 ?_)
  refine WC.cd (fun h31 p31 => ?_) (fun h31 p31 => ?_)
  ·refine g9 7 ?_
   exact ⟨Le.rfl, ((i + j) / 2 + 1, j), hs9, ⟨rfl, by dsimp only; omega, by dsimp only; omega, (fun q h hq => hr.below om9 (ZeN.1 p31) q h (by dsimp only at hq; omega)), h2⟩, by dsimp only; omega⟩
  refine g9 6 ?_
  exact ⟨Le.rfl, (i, (i + j) / 2), hs9, ⟨rfl, by dsimp only; omega, by dsimp only; omega, h1, (fun q h hq => hr.above om9 (Zhy p31) q h (by dsimp only at hq; omega))⟩, by dsimp only; omega⟩
 refine g9 12 ?_
 refine W.sd 39 (fun h38 p38 => ?_) (fun h38 p38 => ?_)
 ·refine g9 7 ?_
  refine (h_l.mono hG21).a1 (i := i) om9 (fun he25 => (g9 6 ?_))
  refine W.qcallV (fst := []) (caps := []) rfl (Zim _ _ _) rfl (g9 9 ?_)
  have hlow : ZH l k = i := Zcn om9 h1 (fun q h hq => h2 q h om9)
  refine Zbl (by rw [hlow]) ?_
  rw [hr.has]
  rw [Zhx]
  exact decide_eq_decide.2 ⟨fun e => ⟨om9, by simp only [hlow]; exact e⟩, fun ⟨_, e⟩ => by simp only [hlow] at e; exact e⟩
 refine g9 15 ?_
 have hlow : ZH l k = i := Zcn om9 h1 (fun q h hq => h2 q h om9)
 refine Zbl (by rw [hlow]) ?_
 rw [hr.has]
 exact (decide_eq_false (by rintro ⟨h, _⟩; omega)).symm

theorem Zo1 {G : GH} {v_l : Value} {l : List Pair} (h_l : SlR Zs G v_l l) (k : Str) (hr : Srt l) :
    Fc Tryz.prog 164 [v_l, sV k.b, .func (.func 206) #[] #[]] G [] (fun v _ _ => v = .tuple #[nt9 (ZH l k), .bool ((Zi l k).isSome)]) := by
 obtain ⟨sa_l, sc_l, rfl⟩ := h_l.form
 have hlen := h_l.len47
 refine Fc.go [.tmp 6, .tmp 7] Tryz.func164 Tryz.ntmps164 rfl (fun w0 => (g9 22 ?_))
 refine WC.loop (X := Nat × Nat) (fun x => [(9, nt9 x.1), (10, nt9 x.2), (0, lV sa_l l.length sc_l), (1, sV k.b), (2, .func (.func 206) #[] #[]), (8, nt9 ((l).length))]) (fun x _ Ml => Ml = [] ∧ x.1 ≤ x.2 ∧ x.2 ≤ l.length ∧ (∀ q (h : q < l.length), q < x.1 → l[q].key.lt k = true) ∧ (∀ q (h : q < l.length), x.2 ≤ q → l[q].key.lt k = false)) (fun x => x.2 - x.1) (0, l.length) hs9 ?_ ?_
 ·exact ⟨rfl, by simp, by simp, (fun q _ h => by simp at h), (fun q h h' => by simp at h'; omega)⟩
 rintro ⟨i, j⟩ gG28 G28 _ hG28 ⟨rfl, hi, hj, h1, h2⟩
 dsimp only at hi hj h1 h2
 refine g9 8 ?_
 refine WC.cd (fun h17 p17 => ?_) (fun h17 p17 => ?_)
 ·refine g9 8 ?_
  refine W.ok (ZgQ un3 ZbE rfl om9) (W.ok (ZgS rfl rfl om9) (W.ok (ZgR ZbE un3 rfl om9) (g9 8 ?_)))
  refine (h_l.mono hG28).a1 (i := (i + j) / 2) om9 (fun he29 => (W.ok (Z1 (i := (i + j) / 2) ZI ZJ (h_l.mono hG28) rfl rfl ⟨by dsimp only; omega, om9⟩) (g9 2 ?_)))
  refine W.qcallV (fst := []) (caps := []) rfl (Zin _ _ _) rfl (g9 3 ?_)
  refine WC.cd (fun h31 p31 => ?_) (fun h31 p31 => ?_)
  ·refine g9 7 ?_
   exact ⟨Le.rfl, ((i + j) / 2 + 1, j), hs9, ⟨rfl, by dsimp only; omega, by dsimp only; omega, (fun q h hq => hr.below om9 (ZeN.1 p31) q h (by dsimp only at hq; omega)), h2⟩, by dsimp only; omega⟩
  refine g9 6 ?_
  exact ⟨Le.rfl, (i, (i + j) / 2), hs9, ⟨rfl, by dsimp only; omega, by dsimp only; omega, h1, (fun q h hq => hr.above om9 (Zhy p31) q h (by dsimp only at hq; omega))⟩, by dsimp only; omega⟩
 refine g9 12 ?_
 refine W.sd 39 (fun h38 p38 => ?_) (fun h38 p38 => ?_)
 ·refine g9 7 ?_
  refine (h_l.mono hG28).a1 (i := i) om9 (fun he32 => (g9 6 ?_))
  refine W.qcallV (fst := []) (caps := []) rfl (Zin _ _ _) rfl (g9 9 ?_)
  have hlow : ZH l k = i := Zcn om9 h1 (fun q h hq => h2 q h om9)
  refine Zbl (by rw [hlow]) ?_
  rw [hr.has]
  rw [Zhx]
  exact decide_eq_decide.2 ⟨fun e => ⟨om9, by simp only [hlow]; exact e⟩, fun ⟨_, e⟩ => by simp only [hlow] at e; exact e⟩
 refine g9 15 ?_
 have hlow : ZH l k = i := Zcn om9 h1 (fun q h hq => h2 q h om9)
 refine Zbl (by rw [hlow]) ?_
 rw [hr.has]
 exact (decide_eq_false (by rintro ⟨h, _⟩; omega)).symm

theorem Zio {G : GH} {v_l : Value} {l : List Pair} (h_l : SlR Zs G v_l l) (k : Str) (hr : Srt l) :
    Fc Tryz.prog 125 [v_l, sV k.b] G [] (fun v _ _ => v = .tuple #[nt9 (ZH l k), .bool ((Zi l k).isSome)]) := by
 obtain ⟨sa_l, sc_l, rfl⟩ := h_l.form
 refine Fc.go [.tmp 4, .tmp 5] Tryz.func125 Tryz.ntmps125 rfl (fun w0 => (g9 10 ?_))
 refine W.qcall (Zo0 h_l k hr) rfl (g9 8 ?_)
 rfl

theorem Zo2 {G : GH} {v_l : Value} {l : List Pair} (h_l : SlR Zs G v_l l) (k : Str) (hr : Srt l) :
    Fc Tryz.prog 172 [v_l, sV k.b] G [] (fun v _ _ => v = .tuple #[nt9 (ZH l k), .bool ((Zi l k).isSome)]) := by
 obtain ⟨sa_l, sc_l, rfl⟩ := h_l.form
 refine Fc.go [.tmp 4, .tmp 5] Tryz.func172 Tryz.ntmps172 rfl (fun w0 => (g9 10 ?_))
 refine W.qcall (Zo1 h_l k hr) rfl (g9 8 ?_)
 rfl

theorem Zo3 {G : GH} {v_l : Value} {l : List Pair} (h_l : SlR Zs G v_l l) (k : Str) (hr : Srt l) :
    Fc Tryz.prog 75 [v_l, sV k.b] G [] (fun v _ _ => v = .tuple #[sV (Str.b ((Zi l k).getD Str.nil)), .bool ((Zi l k).isSome)]) := by
 obtain ⟨sa_l, sc_l, rfl⟩ := h_l.form
 have hlen := h_l.len47
 have hh := hr.has k
 refine Fc.go [.tmp 4, .tmp 5] Tryz.func75 Tryz.ntmps75 rfl (fun w0 => (g9 10 ?_))
 refine W.qcall (Zio h_l _ (by assumption)) rfl (g9 14 ?_)
 refine WC.cond rfl (fun h15 => ?_) (fun h15 => ?_)
 ·refine g9 9 ?_
  show Value.tuple #[Value.string _, Value.bool _] = _
  have e : Zi l k = none := by simpa using h15
  rw [e]; rfl
 have hs : (Zi l k).isSome = true := by simpa using h15
 obtain ⟨q1, q2⟩ := odt (hh.symm.trans hs)
 have hv := hr.val q1 q2
 refine g9 6 ?_
 refine h_l.a1 (i := ZH l k) (q1) (fun he35 => (W.ok (Z1 (i := ZH l k) ZI ZJ h_l rfl rfl ⟨om9, q1⟩) (g9 8 ?_)))
 show Value.tuple #[Value.string _, Value.bool _] = _
 rw [hv]; rfl

end Go.Proofs.YtbbemibbmbmamaaGreat
