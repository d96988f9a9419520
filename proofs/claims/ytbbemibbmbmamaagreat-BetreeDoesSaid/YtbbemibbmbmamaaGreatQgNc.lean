/- What container/heap asks of a heap, and what it does with it. Nothing of the program is named here. No condition. -/
import Derived.Test.YtbbemibbmbmamaaGreatProg
import Derived.Test.YtbbemibbmbmamaaGreatQgGa
set_option linter.unusedVariables false
set_option linter.unusedSimpArgs false
set_option linter.unnecessarySimpa false
set_option maxRecDepth 100000
set_option maxHeartbeats 1600000

namespace Go.Fw
open Go Go.RowKit
structure HeapK (P : Program) {α : Type} [Inhabited α] (lt : α → α → Bool) (x : Value) (Rep : GH → List α → MH → Prop) (EV : GH → Value → α → Prop) (pu : Prop := True) : Prop where
 mono : ∀ {G G' l M}, Le G G' → Rep G l M → Rep G' l M
 bound : ∀ {G l M}, Rep G l M → l.length ≤ 140737488355328
 len : ∀ {G l M}, Rep G l M → Inv P x "Len" [] G M (fun v G' M' => v = .int .i64 (l.length : Int) ∧ M' = M)
 less : ∀ {G l M} {i j : Nat}, Rep G l M → i < l.length → j < l.length → Inv P x "Less" [.int .i64 (i : Int), .int .i64 (j : Int)] G M (fun v G' M' => v = .bool (lt (nth l i) (nth l j)) ∧ M' = M)
 swap : ∀ {G l M} {i j : Nat}, Rep G l M → i < l.length → j < l.length → Inv P x "Swap" [.int .i64 (i : Int), .int .i64 (j : Int)] G M (fun v G' M' => v = .tuple #[] ∧ Rep G' (YG l i j) M')
 push : pu → ∀ {G l M u a}, Rep G l M → l.length < 1000000 → EV G u a → Inv P x "Push" [u] G M (fun v G' M' => v = .tuple #[] ∧ Rep G' (l ++ [a]) M')
 pop : ∀ {G l M}, Rep G l M → 0 < l.length → Inv P x "Pop" [] G M (fun v G' M' => EV G' v (nth l (l.length - 1)) ∧ Rep G' (l.take (l.length - 1)) M')
section
variable {α : Type} [Inhabited α] {lt : α → α → Bool}
theorem Zhu {f : Nat} {l : List α} {i n : Nat} (h : n ≤ 2 * i + 1) : YD lt f l i n = l := by
 cases f with
 | zero => rfl
 | succ f => rw [YD, if_pos h]
theorem Zhv {f : Nat} {l : List α} {i n : Nat} (h1 : ¬ n ≤ 2 * i + 1) (h2 : lt (nth l (YM lt l i n)) (nth l i) = false) : YD lt f l i n = l := by
 cases f with
 | zero => rfl
 | succ f => rw [YD, if_neg h1, if_pos h2]
theorem Zm5 {f : Nat} {l : List α} {i n : Nat} (hf : n ≤ i + f) (h1 : ¬ n ≤ 2 * i + 1) (h2 : lt (nth l (YM lt l i n)) (nth l i) = true) : YD lt f l i n = YD lt (f - 1) (YG l i (YM lt l i n)) (YM lt l i n) n := by
 cases f with
 | zero => omega
 | succ f => rw [YD, if_neg h1, if_neg (by simp [h2])]; rfl
theorem Zm6 {l : List α} {i n : Nat} (h : 2 * i + 2 < n) (h2 : lt (nth l (2 * i + 2)) (nth l (2 * i + 1)) = true) : YM lt l i n = 2 * i + 2 := if_pos ⟨h, h2⟩
theorem Zhw {l : List α} {i n : Nat} (h : ¬ 2 * i + 2 < n ∨ lt (nth l (2 * i + 2)) (nth l (2 * i + 1)) = false) : YM lt l i n = 2 * i + 1 := if_neg (fun ⟨h1, h2⟩ => h.elim (fun h => h h1) (fun h => by rw [h2] at h; cases h))
theorem Zhx {f : Nat} {l : List α} {j : Nat} (h : (j - 1) / 2 = j ∨ lt (nth l j) (nth l ((j - 1) / 2)) = false) : upL lt f l j = l := by
 cases f with
 | zero => rfl
 | succ f => rw [upL, if_pos h]
theorem Zm7 {f : Nat} {l : List α} {j : Nat} (hf : j ≤ f) (h1 : ¬ (j - 1) / 2 = j) (h2 : lt (nth l j) (nth l ((j - 1) / 2)) = true) : upL lt f l j = upL lt (f - 1) (YG l ((j - 1) / 2) j) ((j - 1) / 2) := by
 cases f with
 | zero => omega
 | succ f => rw [upL, if_neg (fun h => h.elim h1 (fun h => by rw [h2] at h; cases h))]; rfl
theorem Zm8 {l : List α} (h : Heap lt l) (f i : Nat) : YD lt f l i l.length = l := by
 by_cases h1 : l.length ≤ 2 * i + 1
 ·exact Zhu h1
 ·have hk := Zcr (lt := lt) (l := l) h1
  have := h (YM lt l i l.length) om9 hk.1 om9
  rw [hk.2.2.1] at this
  exact Zhv h1 this
theorem Zhy {l : List α} (h : 0 < l.length) : (YD lt l.length (YG l 0 (l.length - 1)) 0 (l.length - 1)).take ((YD lt l.length (YG l 0 (l.length - 1)) 0 (l.length - 1)).length - 1) = Y5 lt l ∧
  nth (YD lt l.length (YG l 0 (l.length - 1)) 0 (l.length - 1)) ((YD lt l.length (YG l 0 (l.length - 1)) 0 (l.length - 1)).length - 1) = nth l 0 := by
 rw [Zdb, Xy]
 refine ⟨rfl, ?_⟩
 rw [ZeO _ _ _ _ _ (by rw [Xy]; omega) (Nat.le_refl _), Jc om9 om9, if_pos rfl]
theorem Zhz (j : Nat) : (((j : Int) - 1).tdiv 2) = (((j - 1) / 2 : Nat) : Int) := by
 cases j with
 | zero => rfl
 | succ j =>
  have : (((j + 1 : Nat) : Int) - 1) = (j : Int) := om9
  rw [this, Int.tdiv_eq_ediv_of_nonneg om9]
  simp
end
abbrev Hd := List Msg × Int
def Hd.st (a : Hd) : Int := match a.1 with | [] => 0 | m :: _ => m.stamp
def Hd.lt (a b : Hd) : Bool := decide (a.st < b.st) || (decide (a.st = b.st) && decide (a.2 < b.2))
theorem Hd.st_at {a : Hd} (h : 0 < a.1.length) : a.st = a.1[0].stamp := by
 obtain ⟨l, n⟩ := a
 cases l with
 | nil => simp at h
 | cons m l => rfl
theorem Hd.lo : LO Hd.lt where
 asymm := fun {a b} h => by
  simp only [Hd.lt, Bool.or_eq_true, Bool.and_eq_true, decide_eq_true_eq] at h
  simp only [Hd.lt, Bool.or_eq_false_iff, Bool.and_eq_false_iff, decide_eq_false_iff_not]
  omega
 trans := fun {a b c} h1 h2 => by
  simp only [Hd.lt, Bool.or_eq_false_iff, Bool.and_eq_false_iff, decide_eq_false_iff_not] at h1 h2 ⊢
  omega
def HdC (G : GH) (cs : List Value) (a : Hd) : Prop := ∃ p c, cs = [.slice p a.1.length c, .int .i64 a.2] ∧ SlR Zo G (.slice p a.1.length c) a.1 ∧ i64 a.2
theorem HdC.mono {G G' : GH} {cs a} (hl : Le G G') (h : HdC G cs a) : HdC G' cs a := by
 obtain ⟨p, c, h1, h2, h3⟩ := h; exact ⟨p, c, h1, h2.mono hl, h3⟩
def X0 : Enc Hd where
 k := 2
 w := 32
 R := HdC
 mono := fun hl h => h.mono hl
 len := fun h => by obtain ⟨p, c, h0, _⟩ := h; rw [h0]; rfl
 one := fun h u hu => by
  obtain ⟨p, c, h0, _⟩ := h
  rw [h0] at hu
  simp at hu
  rcases hu with rfl | rfl <;> rfl
theorem ZhA : LO (fun a b : Int => decide (a < b)) where
 asymm := fun {a b} h => by simp at h ⊢; omega
 trans := fun {a b c} h1 h2 => by simp at h1 h2 ⊢; omega
def JM : Enc Bool where
 k := 1
 w := 1
 R := fun _ cs b => cs = [.bool b]
 mono := fun _ h => h
 len := fun h => by rw [h]; rfl
 one := fun h u hu => by rw [h] at hu; simp at hu; subst hu; rfl
instance : EqE JM (fun b => [.bool b]) := ⟨fun _ _ _ h => h⟩
instance : EqE Xz (fun s => [.string s.lo.b, .string s.hi.b, .bool s.opn]) := ⟨fun _ _ _ h => h⟩
instance : EqP Zm4 (fun e => [.int .i64 e.kind, .string e.val.b]) (fun e => i64 e.kind) := ⟨fun _ _ _ h => h⟩
abbrev ltI : Int → Int → Bool := fun a b => decide (a < b)
def YZ (u : List Bool) (i : Int) : Bool := decide (0 ≤ i) && (decide (i < u.length) && u.getD i.toNat false)
theorem ZhB {u : List Bool} {i : Int} : YZ u i = true ↔ ∃ k : Nat, ∃ h : k < u.length, i = k ∧ u[k] = true := by
 unfold YZ
 simp only [Bool.and_eq_true, decide_eq_true_eq]
 constructor
 ·rintro ⟨h1, h2, h3⟩
  have h4 : i.toNat < u.length := om9
  rw [List.getD_eq_getElem?_getD, List.getElem?_eq_getElem h4] at h3
  exact ⟨i.toNat, h4, om9, h3⟩
 ·rintro ⟨k, h, rfl, h2⟩
  refine ⟨om9, om9, ?_⟩
  rw [List.getD_eq_getElem?_getD, Int.toNat_natCast, List.getElem?_eq_getElem h]
  exact h2
def Y6 (u : List Bool) : List Int := ((List.range u.length).filter fun i => !u.getD i true).map fun i : Nat => (i : Int)
def Xf (u : List Bool) : List Int := ((List.range u.length).filter fun i => u.getD i true).map fun i : Nat => (i : Int)
theorem Zcs {u : List Bool} {i : Nat} (h : i < u.length) (d : Bool) : u.getD i d = u[i] := by rw [List.getD_eq_getElem?_getD, List.getElem?_eq_getElem h]; rfl
theorem Za2 {u : List Bool} {a : Int} : a ∈ Y6 u ↔ ∃ i : Nat, ∃ h : i < u.length, a = i ∧ u[i] = false := by
 unfold Y6
 rw [List.mem_map]
 constructor
 ·rintro ⟨i, hi, rfl⟩
  rw [List.mem_filter, List.mem_range] at hi
  obtain ⟨h1, h2⟩ := hi
  rw [Zcs h1] at h2
  exact ⟨i, h1, rfl, by simpa using h2⟩
 ·rintro ⟨i, h, rfl, h2⟩
  exact ⟨i, List.mem_filter.2 ⟨List.mem_range.2 h, by rw [Zcs h, h2]; rfl⟩, rfl⟩
theorem ZhC (u : List Bool) : (Y6 u).Nodup := by
 unfold Y6
 have h : List.Pairwise (fun a b : Nat => a ≠ b) ((List.range u.length).filter fun i => !u.getD i true) := List.Pairwise.sublist List.filter_sublist List.nodup_range
 exact List.Pairwise.map _ (fun a b h e => h (by have e : (a : Int) = (b : Int) := e; omega)) h
theorem ZhD {α : Type} (p : α → Bool) : ∀ (l : List α), (l.filter fun i => !p i).length + (l.filter p).length = l.length
 | [] => rfl
 | x :: l => by
  have := ZhD p l
  cases h : p x <;> simp [h] <;> omega
theorem Zdd (u : List Bool) : (Y6 u).length + (Xf u).length = u.length := by
 unfold Y6 Xf
 rw [List.length_map, List.length_map]
 have := ZhD (fun i => u.getD i true) (List.range u.length)
 rw [List.length_range] at this
 exact this
def Yu : List Bool → Nat
 | [] => 0
 | true :: l => Yu l + 1
 | false :: _ => 0
theorem ZeR : ∀ {u : List Bool} {i : Nat} (h : i < u.length), u[i] = false → (∀ j (hj : j < u.length), j < i → u[j] = true) → Yu u = i
 | [], i, h, _, _ => by simp at h
 | true :: l, 0, h, h1, _ => by simp at h1
 | true :: l, i + 1, h, h1, h2 => by
  rw [Yu, ZeR (u := l) (i := i) (by simp at h; omega) (by simpa using h1) fun j hj hji => by have := h2 (j + 1) (by simp; omega) om9; simpa using this]
 | false :: l, 0, _, _, _ => rfl
 | false :: l, i + 1, h, h1, h2 => by have := h2 0 (by simp) om9; simp at this
theorem ZeS : ∀ {u : List Bool}, (∀ j (hj : j < u.length), u[j] = true) → Yu u = u.length
 | [], _ => rfl
 | true :: l, h => by rw [Yu, ZeS (u := l) fun j hj => by have := h (j + 1) (by simp; omega); simpa using this]; rfl
 | false :: l, h => by have := h 0 (by simp); simp at this
theorem Zm9 {u : List Bool} (h : (Y6 u).length = 0) : Yu u = u.length := ZeS fun j hj => by
 cases hu : u[j] with
 | true => rfl
 | false =>
  have := Za2.2 ⟨j, hj, rfl, hu⟩
  rw [List.eq_nil_of_length_eq_zero h] at this; cases this
theorem Zna {a b : List Int} (ha : a.Nodup) (hb : b.Nodup) (h : ∀ x, x ∈ a ↔ x ∈ b) : a.Perm b := (List.perm_ext_iff_of_nodup ha hb).2 h
theorem Znb {f : List Int} {u : List Bool} (hH : Heap ltI f) (hp : f.Perm (Y6 u)) (hl : 0 < f.length) : ∃ h : Yu u < u.length, nth f 0 = (Yu u : Int) ∧ Heap ltI (Y5 ltI f) ∧ (Y5 ltI f).Perm (Y6 (u.set (Yu u) true)) := by
 obtain ⟨h1, h2, h3⟩ := Zdc ZhA hH hl
 have hm : nth f 0 ∈ Y6 u := hp.mem_iff.1 (by rw [Yk hl]; exact List.getElem_mem _)
 obtain ⟨i, hi, e, hu⟩ := Za2.1 hm
 have hfi : Yu u = i := ZeR hi hu fun j hj hji => by
  cases huj : u[j] with
  | true => rfl
  | false =>
   have hmj : ((j : Nat) : Int) ∈ f := hp.mem_iff.2 (Za2.2 ⟨j, hj, rfl, huj⟩)
   obtain ⟨c, hc, e2⟩ := List.getElem_of_mem hmj
   have := ZeP ZhA hH c hc
   rw [Yk hc, e, e2] at this
   simp at this; omega
 subst hfi
 refine ⟨hi, e, h1, ?_⟩
 have hnd : (nth f 0 :: Y5 ltI f).Nodup := h2.nodup_iff.2 (hp.nodup_iff.2 (ZhC u))
 obtain ⟨hn1, hn2⟩ := List.nodup_cons.1 hnd
 refine Zna hn2 (ZhC _) fun x => ?_
 have hmx : x ∈ nth f 0 :: Y5 ltI f ↔ x ∈ Y6 u := (h2.trans hp).mem_iff
 constructor
 ·intro hx
  obtain ⟨k, hk, rfl, hku⟩ := Za2.1 (hmx.1 (List.mem_cons_of_mem _ hx))
  have hne : Yu u ≠ k := fun h => hn1 (by rw [e, h]; exact hx)
  exact Za2.2 ⟨k, by rw [List.length_set]; exact hk, rfl, by rw [List.getElem_set_ne hne]; exact hku⟩
 ·intro hx
  obtain ⟨k, hk, rfl, hku⟩ := Za2.1 hx
  rw [List.length_set] at hk
  have hne : Yu u ≠ k := fun h => by subst h; simp at hku
  rw [List.getElem_set_ne hne] at hku
  rcases List.mem_cons.1 (hmx.2 (Za2.2 ⟨k, hk, rfl, hku⟩)) with h | h
  ·rw [e] at h; omega
  ·exact h
def Yf (n : Nat) : List Int := (List.range n).map fun i : Nat => (i : Int)
theorem ZhE (n : Nat) : Yf (n + 1) = Yf n ++ [(n : Int)] := by simp [Yf, List.range_succ]
theorem Zae (n : Nat) : (Yf n).length = n := by simp [Yf]
theorem Zde (n : Nat) : Heap ltI (Yf n) := fun c h0 hc _ => by
 rw [Zae] at hc
 have h1 : nth (Yf n) c = (c : Int) := by rw [Yk (by rw [Zae]; exact hc)]; simp [Yf]
 have h2 : nth (Yf n) ((c - 1) / 2) = (((c - 1) / 2 : Nat) : Int) := by rw [Yk (by rw [Zae]; omega)]; simp [Yf]
 rw [h1, h2]
 simp only [decide_eq_false_iff_not]
 omega
theorem ZhF (n : Nat) : Yf n = Y6 (List.replicate n false) := by
 unfold Yf Y6
 rw [List.length_replicate]
 congr 1
 symm
 rw [List.filter_eq_self]
 intro i hi
 rw [List.mem_range] at hi
 rw [Zcs (by simpa using hi)]
 simp
def Yl {α : Type} (st : List α × List Bool) (x : α) : (Int × Int) × (List α × List Bool) :=
 if Yu st.2 < st.2.length then ((Yu st.2, 0), (st.1.set (Yu st.2) x, st.2.set (Yu st.2) true)) else ((0, 4), st)
def XP {α : Type} (st : List α × List Bool) (i : Int) (x : α) : Int × (List α × List Bool) := if YZ st.2 i = true then (0, (st.1.set i.toNat x, st.2)) else (8, st)
def Jp {α : Type} (st : List α × List Bool) (i : Int) (z : α) : α := if YZ st.2 i = true then st.1.getD i.toNat z else z
def ArP {α : Type} (e : Enc α) (Te TB TI Tb : TypeId) (b : Nat) (G : GH) (st : List α × List Bool × List Int) (M : MH) : Prop :=
 ∃ vc vu vf Mc Mu Mf, M = (b, .cells (List.toArray [vc, vu, vf]) Tb (0, 0)) :: (Mc ++ (Mu ++ Mf)) ∧ OwnR e Te G vc st.1 Mc ∧ OwnR JM TB G vu st.2.1 Mu ∧ OwnR ZB TI G vf st.2.2 Mf
theorem ArP.mono {α : Type} {e : Enc α} {Te TB TI Tb : TypeId} {b : Nat} {G G' : GH} {st : List α × List Bool × List Int} {M : MH} (hl : Le G G') (h : ArP e Te TB TI Tb b G st M) : ArP e Te TB TI Tb b G' st M := by
 obtain ⟨vc, vu, vf, Mc, Mu, Mf, h1, h2, h3, h4⟩ := h
 exact ⟨vc, vu, vf, Mc, Mu, Mf, h1, h2.mono hl, h3.mono hl, h4.mono hl⟩
def ArR {α : Type} (e : Enc α) (Te TB TI Tb : TypeId) (b : Nat) (G : GH) (st : List α × List Bool) (M : MH) : Prop :=
 ∃ f, ArP e Te TB TI Tb b G (st.1, st.2, f) M ∧ st.1.length = st.2.length ∧ st.2.length ≤ 4096 ∧ Heap ltI f ∧ f.Perm (Y6 st.2)
theorem ArR.mono {α : Type} {e : Enc α} {Te TB TI Tb : TypeId} {b : Nat} {G G' : GH} {st : List α × List Bool} {M : MH} (hl : Le G G') (h : ArR e Te TB TI Tb b G st M) : ArR e Te TB TI Tb b G' st M := by
 obtain ⟨f, h1, h2⟩ := h
 exact ⟨f, h1.mono hl, h2⟩
theorem ArR.cast {α : Type} {e : Enc α} {Te TB TI Tb : TypeId} {b : Nat} {G : GH} {st st' : List α × List Bool} {M M' : MH} (h : ArR e Te TB TI Tb b G st M) (e1 : st = st') (e2 : M = M') : ArR e Te TB TI Tb b G st' M' := by subst e1 e2; exact h
theorem Znc {u : List Bool} {i : Int} (h0 : 0 ≤ i) (h1 : i < u.length) : u[i.toNat]'om9 = YZ u i := by
 unfold YZ
 rw [decide_eq_true h0, decide_eq_true h1, Zcs om9]; rfl
theorem Znd {u : List Bool} {i : Int} (h0 : ¬ 0 ≤ i) : false = YZ u i := by unfold YZ; rw [decide_eq_false h0]; rfl
theorem Zne {u : List Bool} {i : Int} (h1 : ¬ i < u.length) : false = YZ u i := by unfold YZ; rw [decide_eq_false h1]; simp
theorem ZhG {u : List Bool} {i : Int} (h : YZ u i = true) : 0 ≤ i ∧ i.toNat < u.length ∧ i = (i.toNat : Int) := by
 obtain ⟨k, hk, rfl, _⟩ := ZhB.1 h
 exact ⟨om9, by simpa using hk, by simp⟩
theorem ZeT {α : Type} {st : List α × List Bool} {i : Int} {x : α} (h : YZ st.2 i = true) : XP st i x = (0, (st.1.set i.toNat x, st.2)) := if_pos h
theorem ZeU {α : Type} {st : List α × List Bool} {i : Int} {x : α} (h : YZ st.2 i = false) : XP st i x = (8, st) := if_neg (by simp [h])
theorem ZhH {α : Type} {st : List α × List Bool} {x : α} (h : Yu st.2 < st.2.length) : Yl st x = (((Yu st.2 : Int), 0), (st.1.set (Yu st.2) x, st.2.set (Yu st.2) true)) := if_pos h
theorem ZhI {α : Type} {st : List α × List Bool} {x : α} (h : Yu st.2 = st.2.length) : Yl st x = ((0, 4), st) := if_neg om9
theorem Znf {α : Type} {st : List α × List Bool} {i : Int} {z : α} (h : YZ st.2 i = true) (h2 : i.toNat < st.1.length) : Jp st i z = st.1[i.toNat] := by
 unfold Jp; rw [if_pos h, List.getD_eq_getElem?_getD, List.getElem?_eq_getElem h2]; rfl
theorem Zng {α : Type} {st : List α × List Bool} {i : Int} {z : α} (h : YZ st.2 i = false) : Jp st i z = z := if_neg (by simp [h])
theorem NodeC.cast {G : GH} {cs : List Value} {n m : Nd} (h : NodeC G cs n) (e : n = m) : NodeC G cs m := e ▸ h
def JN (u : List Bool) (k : Nat) : List Int := ((List.range k).filter fun i => u.getD i true).map fun i : Nat => (i : Int)
theorem ZhJ (u : List Bool) (k : Nat) : (JN u k).length ≤ k := by
 unfold JN; rw [List.length_map]
 have := List.length_filter_le (fun i => u.getD i true) (List.range k)
 rw [List.length_range] at this; exact this
theorem Znh {u : List Bool} {k : Nat} (hk : k < u.length) (h : u[k] = true) : JN u (k + 1) = JN u k ++ [(k : Int)] := by
 unfold JN; rw [List.range_succ, List.filter_append, List.map_append]; congr 1; simp [List.getElem?_eq_getElem hk, h]
theorem Zni {u : List Bool} {k : Nat} (hk : k < u.length) (h : u[k] = false) : JN u (k + 1) = JN u k := by
 unfold JN; rw [List.range_succ, List.filter_append, List.map_append]; simp [List.getElem?_eq_getElem hk, h]
theorem ZhK (u : List Bool) : Xf u = JN u u.length := rfl
def CfgR (c : Cfg) : Prop := (4 ≤ c.fan ∧ c.fan ≤ 64) ∧ (2 ≤ c.leaf ∧ c.leaf ≤ 64) ∧ (36 ≤ c.bud ∧ c.bud ≤ 4096) ∧ (1 ≤ c.slots ∧ c.slots ≤ 4096) ∧ (0 ≤ c.rest ∧ c.rest ≤ 100)
instance (c : Cfg) : Decidable (CfgR c) := by unfold CfgR; infer_instance
def Yo (n : Nat) (l : List Nd) : List Nd × List Bool := (l ++ List.replicate (n - l.length) Nd.zero, List.replicate l.length true ++ List.replicate (n - l.length) false)
theorem Znj (n : Nat) : Yo n [] = (List.replicate n Nd.zero, List.replicate n false) := by simp [Yo]
theorem ZbB {n : Nat} {l : List Nd} (h : l.length ≤ n) : (Yo n l).2.length = n := by simp [Yo]; omega
theorem ZbC {n : Nat} {l : List Nd} {i : Nat} (h : i < (Yo n l).2.length) : (Yo n l).2[i] = decide (i < l.length) := by
 rw [List.getElem_of_eq (show (Yo n l).2 = List.replicate l.length true ++ List.replicate (n - l.length) false from rfl) h, List.getElem_append]
 split <;> rename_i h2 <;> simp only [List.length_replicate] at h2 <;> simp <;> omega
theorem Zdf {n : Nat} {l : List Nd} (h : l.length ≤ n) (i : Int) : YZ (Yo n l).2 i = decide (0 ≤ i ∧ i < l.length) := by
 rw [Bool.eq_iff_iff, ZhB, decide_eq_true_iff]
 constructor
 ·rintro ⟨k, hk, rfl, h2⟩
  rw [ZbC hk] at h2
  have := of_decide_eq_true h2
  omega
 ·rintro ⟨h1, h2⟩
  have hl := ZbB h
  exact ⟨i.toNat, om9, om9, by rw [ZbC]; exact decide_eq_true om9⟩
theorem ZhL {n : Nat} {l : List Nd} (h : l.length ≤ n) : Yu (Yo n l).2 = l.length := by
 have hl := ZbB h
 by_cases e : l.length = n
 ·rw [ZeS fun j hj => by rw [ZbC hj]; exact decide_eq_true om9]; omega
 ·exact ZeR om9 (by rw [ZbC]; exact decide_eq_false om9) fun j hj hjl => by rw [ZbC hj]; exact decide_eq_true hjl
theorem Znk {n : Nat} {l : List Nd} {k : Nat} {x : Nd} (hk : k < l.length) : (Yo n l).1.set k x = (Yo n (l.set k x)).1 := by
 unfold Yo
 rw [List.length_set, List.set_append_left _ _ hk]
theorem Znl {n : Nat} {l : List Nd} (h : l.length < n) : Yl (Yo n l) Nd.zero = (((l.length : Int), 0), Yo n (l ++ [Nd.zero])) := by
 have hf := ZhL (Nat.le_of_lt h)
 have hl := ZbB (Nat.le_of_lt h)
 rw [ZhH om9, hf]
 refine congrArg (Prod.mk _) ?_
 obtain ⟨m, hm⟩ : ∃ m, n - l.length = m + 1 := ⟨n - l.length - 1, om9⟩
 have hm2 : n - (l ++ [Nd.zero]).length = m := by simp; omega
 unfold Yo
 rw [hm, hm2]
 refine Prod.ext ?_ ?_
 ·show (l ++ List.replicate (m + 1) Nd.zero).set l.length Nd.zero = (l ++ [Nd.zero]) ++ List.replicate m Nd.zero
  rw [List.set_append_right _ _ (Nat.le_refl _), Nat.sub_self, List.replicate_succ, List.set_cons_zero, List.append_assoc]; rfl
 ·show (List.replicate l.length true ++ List.replicate (m + 1) false).set l.length true = List.replicate (l ++ [Nd.zero]).length true ++ List.replicate m false
  rw [List.set_append_right _ _ (by simp), List.length_replicate, Nat.sub_self, List.replicate_succ, List.set_cons_zero, List.length_append, List.length_singleton, List.replicate_succ', List.append_assoc]; rfl
theorem Znm {n : Nat} {l : List Nd} (h : l.length = n) : Yl (Yo n l) Nd.zero = ((0, 4), Yo n l) := ZhI (by rw [ZhL om9, ZbB om9]; exact h)
def Zaf (l : List Nd) (x : Nd) : Int × List Nd := if 0 ≤ x.slot ∧ x.slot < l.length then (0, l.set x.slot.toNat x) else (8, l)
theorem ZeV {l : List Nd} {x : Nd} (h : 0 ≤ x.slot ∧ x.slot < l.length) : Zaf l x = (0, l.set x.slot.toNat x) := if_pos h
theorem Znn {l : List Nd} {x : Nd} (h : ¬ (0 ≤ x.slot ∧ x.slot < l.length)) : Zaf l x = (8, l) := if_neg h
theorem Zno (l : List Nd) (x : Nd) : (Zaf l x).2.length = l.length := by unfold Zaf; split <;> simp
theorem ZeW {n : Nat} {l : List Nd} (h : l.length ≤ n) (x : Nd) : XP (Yo n l) x.slot x = ((Zaf l x).1, Yo n (Zaf l x).2) := by
 by_cases hx : 0 ≤ x.slot ∧ x.slot < l.length
 ·rw [ZeT (by rw [Zdf h]; exact decide_eq_true hx), ZeV hx, Znk om9]
  refine congrArg (Prod.mk _) (Prod.ext rfl ?_)
  unfold Yo; simp
 ·rw [ZeU (by rw [Zdf h]; exact decide_eq_false hx), Znn hx]
def JO (n : Nat) (l : List Nd) (x : Nd) : (Int × Int) × List Nd := if l.length < n then ((l.length, 0), l ++ [{ x with slot := l.length }]) else ((0, 4), l)
theorem ZeX {n : Nat} {l : List Nd} {x : Nd} (h : l.length < n) : JO n l x = (((l.length : Int), 0), l ++ [{ x with slot := l.length }]) := if_pos h
theorem ZhM {n : Nat} {l : List Nd} {x : Nd} (h : ¬ l.length < n) : JO n l x = ((0, 4), l) := if_neg h
theorem Znp {l : List Nd} {x : Nd} : Zaf (l ++ [Nd.zero]) { x with slot := l.length } = (0, l ++ [{ x with slot := l.length }]) := by
 rw [ZeV (by simp; omega)]
 refine congrArg (Prod.mk _) ?_
 show (l ++ [Nd.zero]).set ((l.length : Int)).toNat _ = _
 rw [Int.toNat_natCast, List.set_append_right _ _ (Nat.le_refl _), Nat.sub_self]; rfl
def Za (l : List Nd) (i : Int) : Nd := if 0 ≤ i then l.getD i.toNat Nd.zero else Nd.zero
theorem Zag {l : List Nd} {k : Nat} (h : k < l.length) : Za l k = l[k] := by
 unfold Za; rw [if_pos om9, Int.toNat_natCast, List.getD_eq_getElem?_getD, List.getElem?_eq_getElem h]; rfl
theorem ZhN {n : Nat} {l : List Nd} (h : l.length ≤ n) (i : Int) : Jp (Yo n l) i Nd.zero = Za l i := by
 unfold Jp Za
 rw [Zdf h]
 by_cases h0 : 0 ≤ i
 ·rw [if_pos h0]
  by_cases h1 : i < l.length
  ·rw [if_pos (decide_eq_true ⟨h0, h1⟩), List.getD_eq_getElem?_getD, List.getD_eq_getElem?_getD]
   unfold Yo
   rw [List.getElem?_append_left om9]
  ·rw [if_neg (by simp; omega), List.getD_eq_getElem?_getD, List.getElem?_eq_none om9]; rfl
 ·rw [if_neg h0, if_neg (by simp; omega)]
theorem ZeY {n : Nat} {l : List Nd} (h : l.length ≤ n) : Xf (Yo n l).2 = Yf l.length := by
 have hl := ZbB h
 unfold Xf Yf
 congr 1
 rw [hl]
 have e : n = l.length + (n - l.length) := om9
 have key : ∀ m, m ≤ n → (List.range m).filter (fun i => (Yo n l).2.getD i true) = List.range (min m l.length) := by
  intro m
  induction m with
  | zero => intro _; simp
  | succ m ih =>
   intro hm
   rw [List.range_succ, List.filter_append, ih om9, List.filter_cons, Zcs om9, ZbC]
   by_cases hml : m < l.length
   ·rw [if_pos (decide_eq_true hml), List.filter_nil, Nat.min_eq_left om9, Nat.min_eq_left om9, List.range_succ]
   ·rw [if_neg (by simpa using hml), List.filter_nil, List.append_nil, Nat.min_eq_right om9, Nat.min_eq_right om9]
 rw [key n (Nat.le_refl _), Nat.min_eq_right h]
theorem Znq {α : Type} {st : List α × List Bool} {x : α} (h : st.2.length ≤ 4096) : i64 (Yl st x).1.1 := by
 unfold Yl
 split
 ·exact ⟨by show (-9223372036854775808 : Int) ≤ (Yu st.2 : Int); omega, by show (Yu st.2 : Int) ≤ 9223372036854775807; omega⟩
 ·exact ⟨by show (-9223372036854775808 : Int) ≤ 0; omega, by show (0 : Int) ≤ 9223372036854775807; omega⟩
def ZbD (a : List Nd × List Bool) (x : Nd) : (Int × Int) × (List Nd × List Bool) :=
 if (Yl a Nd.zero).1.2 = 0 then (((Yl a Nd.zero).1.1, (XP (Yl a Nd.zero).2 (Yl a Nd.zero).1.1 { x with slot := (Yl a Nd.zero).1.1 }).1), (XP (Yl a Nd.zero).2 (Yl a Nd.zero).1.1 { x with slot := (Yl a Nd.zero).1.1 }).2)
 else ((0, (Yl a Nd.zero).1.2), (Yl a Nd.zero).2)
theorem ZhO {a : List Nd × List Bool} {x : Nd} (h : (Yl a Nd.zero).1.2 = 0) : ZbD a x = (((Yl a Nd.zero).1.1, (XP (Yl a Nd.zero).2 (Yl a Nd.zero).1.1 { x with slot := (Yl a Nd.zero).1.1 }).1), (XP (Yl a Nd.zero).2 (Yl a Nd.zero).1.1 { x with slot := (Yl a Nd.zero).1.1 }).2) := if_pos h
theorem ZhP {a : List Nd × List Bool} {x : Nd} (h : ¬ (Yl a Nd.zero).1.2 = 0) : ZbD a x = ((0, (Yl a Nd.zero).1.2), (Yl a Nd.zero).2) := if_neg h
theorem ZeZ {n : Nat} {l : List Nd} (h : l.length ≤ n) (x : Nd) : ZbD (Yo n l) x = ((JO n l x).1, Yo n (JO n l x).2) := by
 by_cases e : l.length < n
 ·have h1 := Znl e
  rw [ZhO (by rw [h1]), h1, ZeX e]
  have h2 := ZeW (n := n) (l := l ++ [Nd.zero]) (by simp; omega) { x with slot := (l.length : Int) }
  rw [Znp] at h2
  show (((l.length : Int), (XP (Yo n (l ++ [Nd.zero])) ({ x with slot := (l.length : Int) } : Nd).slot { x with slot := (l.length : Int) }).1), (XP (Yo n (l ++ [Nd.zero])) ({ x with slot := (l.length : Int) } : Nd).slot { x with slot := (l.length : Int) }).2) = _
  rw [h2]
 ·have h1 := Znm (n := n) (l := l) om9
  rw [ZhP (by rw [h1]; show ¬ (4 : Int) = 0; omega), h1, ZhM e]
def StA (te tB ti tb TS b : Nat) (G : GH) (c : Cfg) (a : List Nd × List Bool) (M : MH) : Prop :=
 ∃ b2 Ma, M = (b, .cells (List.toArray [.int .i64 c.fan, .int .i64 c.leaf, .int .i64 c.bud, .int .i64 c.slots, .int .i64 c.rest, .pointer (some ⟨b2, 0, none⟩)]) TS (0, 0)) :: Ma ∧ ArR ZA te tB ti tb b2 G a Ma
theorem StA.mono {te tB ti tb TS b : Nat} {G G' : GH} {c : Cfg} {a : List Nd × List Bool} {M : MH} (hl : Le G G') (h : StA te tB ti tb TS b G c a M) : StA te tB ti tb TS b G' c a M := by
 obtain ⟨b2, Ma, h1, h2⟩ := h; exact ⟨b2, Ma, h1, h2.mono hl⟩
def StR (te tB ti tb TS b : Nat) (c : Cfg) (G : GH) (l : List Nd) (M : MH) : Prop := CfgR c ∧ l.length ≤ c.slots.toNat ∧ StA te tB ti tb TS b G c (Yo c.slots.toNat l) M
theorem StR.mono {te tB ti tb TS b : Nat} {G G' : GH} {c : Cfg} {l : List Nd} {M : MH} (hl : Le G G') (h : StR te tB ti tb TS b c G l M) : StR te tB ti tb TS b c G' l M := ⟨h.1, h.2.1, h.2.2.mono hl⟩
theorem StA.cast {te tB ti tb TS b : Nat} {G : GH} {c : Cfg} {a a' : List Nd × List Bool} {M : MH} (h : StA te tB ti tb TS b G c a M) (e : a = a') : StA te tB ti tb TS b G c a' M := e ▸ h
def XA (slot : Int) : Nd := ⟨slot, 0, [], [], Str.nil, true, -1, 0, [], []⟩
theorem Znr {n : Nat} {l : List Nd} {x : Nd} (h : l.length ≤ n) : (JO n l x).2.length ≤ n := by unfold JO; split <;> simp <;> omega
theorem Zns {n : Nat} {l : List Nd} (h : l.length ≤ n) : ((Xf (Yo n l).2).map fun i => Jp (Yo n l) i Nd.zero) = l := by
 rw [ZeY h]
 refine List.ext_getElem (by simp [Yf]) fun i h1 h2 => ?_
 rw [List.getElem_map, ZhN h]
 simp only [Yf, List.getElem_map, List.getElem_range]
 exact Zag h2
theorem NodeC.of {G : GH} {cs : List Value} {n m : Nd} (h : NodeC G cs n) (e : n = m) : NodeC G cs m := e ▸ h
end Go.Fw
namespace Go.Proofs.YtbbemibbmbmamaaGreat
open Go.Fw
theorem ZhQ : tyK Tryz.prog 23 = some (true, 5) := by kernel_rfl
theorem ZhR : Yc Tryz.prog 23 = some [.int .i64 0, .int .i64 0, .int .i64 0, .int .i64 0, .int .i64 0] := by kernel_rfl
theorem Zdg : Z0 Tryz.prog 24 = some 36 := by kernel_rfl
theorem ZhS : tyK Tryz.prog 36 = some (true, 7) := by kernel_rfl
theorem Znt : Yc Tryz.prog 36 = some [.int .i64 0, .string ⟨#[]⟩, .string ⟨#[]⟩, .bool false, .string ⟨#[]⟩, .int .i64 0, .int .i64 0] := by kernel_rfl
theorem Znu : Xj Tryz.prog 36 = some 80 := by kernel_rfl
theorem Znv : ZH Tryz.prog 23 3 = some 3 := by kernel_rfl
theorem ty3 : tyK Tryz.prog 3 = some (false, 1) := by kernel_rfl
theorem zr3 : Yc Tryz.prog 3 = some [.int .i64 0] := by kernel_rfl
theorem Zct : tyK Tryz.prog 38 = some (true, 4) := by kernel_rfl
theorem Zah : Yc Tryz.prog 38 = some [.int .i64 0, .bool false, .string ⟨#[]⟩, .slice none 0 0] := by kernel_rfl
theorem Znw : ZH Tryz.prog 36 0 = some 0 := by kernel_rfl
theorem Znx : tyK Tryz.prog 34 = some (true, 6) := by kernel_rfl
theorem Zcu : Yc Tryz.prog 34 = some [.int .i64 0, .string ⟨#[]⟩, .string ⟨#[]⟩, .bool false, .string ⟨#[]⟩, .int .i64 0] := by kernel_rfl
theorem Zy : Z0 Tryz.prog 32 = some 74 := by kernel_rfl
theorem Zz : tyK Tryz.prog 74 = some (true, 2) := by kernel_rfl
theorem Yp : Yc Tryz.prog 74 = some [.string ⟨#[]⟩, .string ⟨#[]⟩] := by kernel_rfl
theorem X1 : Xj Tryz.prog 74 = some 32 := by kernel_rfl
theorem Zny : ZH Tryz.prog 36 1 = some 6 := by kernel_rfl
theorem Xg : Z0 Tryz.prog 49 = some 60 := by kernel_rfl
theorem Ym : tyK Tryz.prog 60 = some (true, 10) := by kernel_rfl
theorem Zn : Yc Tryz.prog 60 = some [.int .i64 0, .int .i64 0, .slice none 0 0, .slice none 0 0, .string ⟨#[]⟩, .bool false, .int .i64 0, .int .i64 0, .slice none 0 0, .slice none 0 0] := by kernel_rfl
theorem Zai : Xj Tryz.prog 60 = some 152 := by kernel_rfl
theorem bo4 : Tryz.prog.underlying 4 = some .bool := by kernel_rfl
theorem Za3 : Z0 Tryz.prog 53 = some 64 := by kernel_rfl
theorem ZaD : tyK Tryz.prog 64 = some (true, 14) := by kernel_rfl
theorem Za4 : Yc Tryz.prog 64 = some [.int .i64 0, .int .i64 0, .slice none 0 0, .slice none 0 0, .string ⟨#[]⟩, .bool false, .int .i64 0, .int .i64 0, .slice none 0 0, .slice none 0 0, .string ⟨#[]⟩, .string ⟨#[]⟩, .bool false, .slice none 0 0] := by kernel_rfl
theorem Znz : Xj Tryz.prog 64 = some 216 := by kernel_rfl
theorem ZnA : ZH Tryz.prog 64 0 = some 0 := by kernel_rfl
theorem ZnB : ZH Tryz.prog 60 9 = some 9 := by kernel_rfl
theorem ZnC : tyK Tryz.prog 32 = some (false, 1) := by kernel_rfl
theorem Zaj : Zbv Tryz.prog 27 = true := by kernel_rfl
theorem ZnD : ZH Tryz.prog 38 0 = some 0 := by kernel_rfl
theorem ZnE : tyK Tryz.prog 28 = some (false, 1) := by kernel_rfl
theorem ZnF : ZH Tryz.prog 34 0 = some 0 := by kernel_rfl
theorem Ze0 : XY Tryz.prog 38 = some [(0, 1), (1, 1), (2, 1), (3, 1)] := by kernel_rfl
theorem ZnG : ZH Tryz.prog 60 1 = some 1 := by kernel_rfl
theorem ZnH : ZH Tryz.prog 23 0 = some 0 := by kernel_rfl
theorem ZnI : ZH Tryz.prog 23 1 = some 1 := by kernel_rfl
theorem ZnJ : XY Tryz.prog 23 = some [(0, 1), (1, 1), (2, 1), (3, 1), (4, 1)] := by kernel_rfl
theorem Zcv : XY Tryz.prog 34 = some [(0, 1), (1, 1), (2, 1), (3, 1), (4, 1), (5, 1)] := by kernel_rfl
theorem ZnK : ZH Tryz.prog 38 1 = some 1 := by kernel_rfl
theorem ty4 : tyK Tryz.prog 4 = some (false, 1) := by kernel_rfl
theorem zr4 : Yc Tryz.prog 4 = some [.bool false] := by kernel_rfl
theorem ZnL : ZH Tryz.prog 38 2 = some 2 := by kernel_rfl
theorem ty9 : tyK Tryz.prog 9 = some (false, 1) := by kernel_rfl
theorem zr9 : Yc Tryz.prog 9 = some [.string ⟨#[]⟩] := by kernel_rfl
theorem st9 : Tryz.prog.underlying 9 = some .string := by kernel_rfl
theorem Ze1 : XY Tryz.prog 74 = some [(0, 1), (1, 1)] := by kernel_rfl
theorem ZnM : Yc Tryz.prog 79 = some [.pointer none, .string ⟨#[]⟩] := by kernel_rfl
theorem ZnN : XY Tryz.prog 79 = some [(0, 1), (1, 1)] := by kernel_rfl
theorem ZnO : ZH Tryz.prog 23 2 = some 2 := by kernel_rfl
theorem ZnP : ZH Tryz.prog 23 4 = some 4 := by kernel_rfl
theorem ZnQ : ZH Tryz.prog 34 1 = some 1 := by kernel_rfl
theorem ZnR : ZH Tryz.prog 34 5 = some 5 := by kernel_rfl
theorem ZnS : ZH Tryz.prog 38 3 = some 3 := by kernel_rfl
theorem ZnT : ZH Tryz.prog 34 2 = some 2 := by kernel_rfl
theorem ZnU : ZH Tryz.prog 34 3 = some 3 := by kernel_rfl
theorem ZnV : ZH Tryz.prog 34 4 = some 4 := by kernel_rfl
theorem ZP : tyK Tryz.prog 87 = some (true, 6) := by kernel_rfl
theorem ZJ : Yc Tryz.prog 87 = some [.int .i64 0, .int .i64 0, .string ⟨#[]⟩, .string ⟨#[]⟩, .bool false, .string ⟨#[]⟩] := by kernel_rfl
theorem Za5 : XY Tryz.prog 87 = some [(0, 1), (1, 1), (2, 1), (3, 1), (4, 1), (5, 1)] := by kernel_rfl
theorem ZnW : ZH Tryz.prog 79 0 = some 0 := by kernel_rfl
theorem ZnX : tyK Tryz.prog 75 = some (false, 1) := by kernel_rfl
theorem ZnY : ZH Tryz.prog 79 1 = some 1 := by kernel_rfl
theorem ZnZ : Zc1 Tryz.prog 74 = some [.string, .string] := by kernel_rfl
theorem Zn0 : ZH Tryz.prog 60 0 = some 0 := by kernel_rfl
theorem Zn1 : ZH Tryz.prog 64 2 = some 13 := by kernel_rfl
theorem Za6 : tyK Tryz.prog 58 = some (false, 1) := by kernel_rfl
theorem Zcw : Yc Tryz.prog 58 = some [.slice none 0 0] := by kernel_rfl
theorem ZM : Z0 Tryz.prog 58 = some 87 := by kernel_rfl
theorem XQ : Xj Tryz.prog 87 = some 72 := by kernel_rfl
theorem Zn2 : ZH Tryz.prog 87 0 = some 0 := by kernel_rfl
theorem Zn3 : ZH Tryz.prog 60 7 = some 7 := by kernel_rfl
theorem Yq : tyK Tryz.prog 62 = some (true, 3) := by kernel_rfl
theorem Zv : Yc Tryz.prog 62 = some [.string ⟨#[]⟩, .string ⟨#[]⟩, .bool false] := by kernel_rfl
theorem Y0 : XY Tryz.prog 62 = some [(0, 1), (1, 1), (2, 1)] := by kernel_rfl
theorem ZhT : XY Tryz.prog 64 = some [(0, 10), (10, 3), (13, 1)] := by kernel_rfl
theorem Zn4 : ZH Tryz.prog 60 2 = some 2 := by kernel_rfl
theorem Zn5 : tyK Tryz.prog 56 = some (false, 1) := by kernel_rfl
theorem Zn6 : ZH Tryz.prog 60 3 = some 3 := by kernel_rfl
theorem Zn7 : tyK Tryz.prog 57 = some (false, 1) := by kernel_rfl
theorem Z2 : Z0 Tryz.prog 56 = some 9 := by kernel_rfl
theorem by9 : Xj Tryz.prog 9 = some 16 := by kernel_rfl
theorem ZV : Z0 Tryz.prog 57 = some 3 := by kernel_rfl
theorem by3 : Xj Tryz.prog 3 = some 8 := by kernel_rfl
theorem Zn8 : ZH Tryz.prog 64 1 = some 10 := by kernel_rfl
theorem Zn9 : ZH Tryz.prog 60 8 = some 8 := by kernel_rfl
theorem Za7 : Z0 Tryz.prog 107 = some 58 := by kernel_rfl
theorem ZhU : Xj Tryz.prog 58 = some 24 := by kernel_rfl
theorem Zoa : ZH Tryz.prog 74 0 = some 0 := by kernel_rfl
theorem Zob : Yc Tryz.prog 139 = some [.int .i64 0, .int .i64 0, .int .i64 0, .int .i64 0, .int .i64 0, .pointer none] := by kernel_rfl
theorem Zoc : XY Tryz.prog 139 = some [(0, 5), (5, 1)] := by kernel_rfl
theorem Zod : ZH Tryz.prog 74 1 = some 1 := by kernel_rfl
theorem Zoe : ZH Tryz.prog 87 1 = some 1 := by kernel_rfl
theorem Zof : ZH Tryz.prog 87 2 = some 2 := by kernel_rfl
theorem ZhV : ZH Tryz.prog 62 0 = some 0 := by kernel_rfl
theorem Ze2 : ZH Tryz.prog 62 2 = some 2 := by kernel_rfl
theorem Ze3 : ZH Tryz.prog 62 1 = some 1 := by kernel_rfl
theorem J3 : Zbv Tryz.prog 75 = true := by kernel_rfl
theorem Zog : ZH Tryz.prog 139 1 = some 5 := by kernel_rfl
theorem Zoh : tyK Tryz.prog 135 = some (false, 1) := by kernel_rfl
theorem Zoi : ZH Tryz.prog 60 6 = some 6 := by kernel_rfl
theorem Zoj : ZH Tryz.prog 60 5 = some 5 := by kernel_rfl
theorem Zok : ZH Tryz.prog 60 4 = some 4 := by kernel_rfl
theorem Zol : Zc1 Tryz.prog 62 = some [.string, .string, .bool] := by kernel_rfl
theorem J4 : XY Tryz.prog 60 = some [(0, 1), (1, 1), (2, 1), (3, 1), (4, 1), (5, 1), (6, 1), (7, 1), (8, 1), (9, 1)] := by kernel_rfl
theorem Zom : tyK Tryz.prog 49 = some (false, 1) := by kernel_rfl
theorem ZbE : Z0 Tryz.prog 168 = some 4 := by kernel_rfl
theorem by4 : Xj Tryz.prog 4 = some 1 := by kernel_rfl
theorem Zon : tyK Tryz.prog 169 = some (false, 1) := by kernel_rfl
theorem Xl : Z0 Tryz.prog 169 = some 3 := by kernel_rfl
theorem Ze4 : ZaS Tryz.prog 173 = true := by kernel_rfl
theorem pi3 : ZaS Tryz.prog 3 = true := by kernel_rfl
theorem Zoo : tyK Tryz.prog 168 = some (false, 1) := by kernel_rfl
theorem Zop : tyK Tryz.prog 132 = some (true, 2) := by kernel_rfl
theorem XB : Yc Tryz.prog 132 = some [.int .i64 0, .string ⟨#[]⟩] := by kernel_rfl
theorem Jd : XY Tryz.prog 132 = some [(0, 1), (1, 1)] := by kernel_rfl
theorem Zoq : ZH Tryz.prog 87 5 = some 5 := by kernel_rfl
theorem ZhW : Yc Tryz.prog 189 = some [.slice none 0 0, .slice none 0 0, .slice none 0 0] := by kernel_rfl
theorem ZhX : XY Tryz.prog 189 = some [(0, 1), (1, 1), (2, 1)] := by kernel_rfl
theorem Zor : ZH Tryz.prog 189 2 = some 2 := by kernel_rfl
theorem Zos : ZH Tryz.prog 87 3 = some 3 := by kernel_rfl
theorem Zot : ZH Tryz.prog 87 4 = some 4 := by kernel_rfl
theorem XR : Z0 Tryz.prog 193 = some 62 := by kernel_rfl
theorem ZbF : Xj Tryz.prog 62 = some 40 := by kernel_rfl
theorem ZbG : Zbv Tryz.prog 135 = true := by kernel_rfl
theorem Zou : ZH Tryz.prog 189 1 = some 1 := by kernel_rfl
theorem Zov : ZH Tryz.prog 189 0 = some 0 := by kernel_rfl
theorem Zow : ZH Tryz.prog 132 0 = some 0 := by kernel_rfl
theorem Zox : ZH Tryz.prog 132 1 = some 1 := by kernel_rfl
theorem ZhY : Zes Tryz.prog 23 1 = some (false, 1, 1) := by kernel_rfl
theorem ZhZ : Zes Tryz.prog 23 2 = some (false, 2, 1) := by kernel_rfl
theorem Zoy : ZH Tryz.prog 139 0 = some 0 := by kernel_rfl
theorem un3 : Tryz.prog.underlying 3 = some (.int .i64) := by kernel_rfl
theorem ZbH : Tryz.prog.underlying 255 = some (.int .u64) := by kernel_rfl
theorem XJ : Z0 Tryz.prog 269 = some 271 := by kernel_rfl
theorem YK : tyK Tryz.prog 271 = some (true, 2) := by kernel_rfl
theorem Jq : Yc Tryz.prog 271 = some [.slice none 0 0, .int .i64 0] := by kernel_rfl
theorem Zh0 : Xj Tryz.prog 271 = some 32 := by kernel_rfl
theorem Zoz : tyK Tryz.prog 269 = some (false, 1) := by kernel_rfl
theorem Ze5 : ZaS Tryz.prog 267 = true := by kernel_rfl
theorem ZoA : XY Tryz.prog 271 = some [(0, 1), (1, 1)] := by kernel_rfl
theorem Zcx : ZaS Tryz.prog 271 = true := by kernel_rfl
theorem ZoB : ZH Tryz.prog 271 0 = some 0 := by kernel_rfl
theorem ZoC : ZH Tryz.prog 271 1 = some 1 := by kernel_rfl
theorem mix : Tryz.prog.follows .mixedOrders = true := by kernel_rfl
end Go.Proofs.YtbbemibbmbmamaaGreat
theorem List.Sublist.k9 {α : Type} {a : α} {l l' : List α} (h : l.Sublist l') : (a :: l).Sublist (a :: l') := h.cons_cons a
namespace Go.Fw
open Go Go.RowKit
theorem sn9 {α : Type} {l : List α} : List.Sublist [] l := List.nil_sublist l
theorem sr9 {α : Type} {l : List α} : List.Sublist l l := List.Sublist.refl l
theorem pr9 {α : Type} {l : List α} : List.Perm l l := List.Perm.refl l
abbrev nd9 {a b : Int} {c : Option Addr} {d e : Nat} {f : Option Addr} {g h : Nat} {i : ByteArray} {j : Bool} {k l : Int} {m : Option Addr} {n o : Nat} {p : Option Addr} {q r : Nat} : List Value := [.int .i64 a, .int .i64 b, .slice c d e, .slice f g h, .string i, .bool j, .int .i64 k, .int .i64 l, .slice m n o, .slice p q r]
abbrev ndl (x : Nd) (a1 : Option Addr) (c1 : Nat) (a2 : Option Addr) (c2 : Nat) (a3 : Option Addr) (c3 : Nat) (a4 : Option Addr) (c4 : Nat) : List Value := [.int .i64 x.slot, .int .i64 x.level, .slice a1 x.pivots.length c1, .slice a2 x.kids.length c2, .string x.high.b, .bool x.top, .int .i64 x.right, .int .i64 x.seen, .slice a3 x.msgs.length c3, .slice a4 x.rows.length c4]
abbrev ms9 {a b : Int} {c d : ByteArray} {e : Bool} {f : ByteArray} : List Value := [.int .i64 a, .int .i64 b, .string c, .string d, .bool e, .string f]
abbrev sp9 {a b : ByteArray} {c : Bool} : List Value := [.string a, .string b, .bool c]
abbrev cf9 {a b c d e : Int} : List Value := [.int .i64 a, .int .i64 b, .int .i64 c, .int .i64 d, .int .i64 e]
abbrev ic9 {a : Int} : List Value := [.int .i64 a]
abbrev sc9 {a : ByteArray} : List Value := [.string a]
abbrev bc9 {a : Bool} : List Value := [.bool a]
abbrev lc9 {a : Option Addr} {b c : Nat} : List Value := [.slice a b c]
abbrev ef9 {a : Int} {b : ByteArray} : List Value := [.int .i64 a, .string b]
abbrev pr29 {a b : ByteArray} : List Value := [.string a, .string b]
theorem Zdh {E : Env} {f : Fr} {G : GH} {M : MH} {d : Nat} {t ty : TypeId} {pos : String} {aft : Array Edge} {x : Operand} (i : Nat) (vs : List Value) {b o : Nat} {L : List Value} {T : TypeId} {bb : Bool} {j : Nat} (ht : tyK E.P t = some (bb, j))
    (hq : (ev f x, XX M i, (L.drop o).take j, vs.length) = (.pointer (some ⟨b, o, none⟩), some (b, .cells L.toArray T (0, 0)), vs, j)) (hb : bb = false → j = 1 := by simp) : Ok E f G M ⟨some d, .load t x, ty, pos, aft, none⟩ (mkV bb vs) := by
  obtain ⟨h1, h⟩ := Prod.mk.inj hq
  obtain ⟨h2, h⟩ := Prod.mk.inj h
  obtain ⟨h3, h4⟩ := Prod.mk.inj h
  exact Zeq ht h1 h2 h3 h4 hb
theorem W.fb {E : Env} {f : Fr} {G : GH} {M : MH} {ops rest : List Oper} {q : Bool} {K : Kt} {d : Nat} {t ty : TypeId} {pos : String} {aft : Array Edge} {x : Operand} {b o off j : Nat} (ht : ZH E.P t j = some off) (hx : ev f x = .pointer (some ⟨b, o, none⟩))
    (k : W E ops.toArray q rest (upd f d (.pointer (some ⟨b, o + off, none⟩))) G M K) (hd : Nat.blt d E.n = true := by rfl) : W E ops.toArray q (⟨some d, .fieldAddr t x j, ty, pos, aft, none⟩ :: rest) f G M K := W.ok (Zly ht hx) k hd
theorem W.st {E : Env} {f : Fr} {G : GH} {M : MH} {ops rest : List Oper} {K : Kt} {t ty : TypeId} {pos : String} {aft : Array Edge} {x y : Operand} (i : Nat) (vs L' : List Value) {b o : Nat} {L : List Value} {T : TypeId} {bb : Bool} {j : Nat} {v : Value} (ht : tyK E.P t = some (bb, j))
    (hq : (ev f x, XX M i, ev f y, v.cells.toList, vs.length, vs.all Value.oneCell', Nat.ble (o + j) L.length, ZU L o vs) = (.pointer (some ⟨b, o, none⟩), some (b, .cells L.toArray T (0, 0)), v, vs, j, true, true, L'))
    (k : W E ops.toArray false rest f G (Xk M i (.cells L'.toArray T (0, 0))) K) : W E ops.toArray false (⟨none, .store t x y, ty, pos, aft, none⟩ :: rest) f G M K := by
  obtain ⟨h1, h⟩ := Prod.mk.inj hq
  obtain ⟨h2, h⟩ := Prod.mk.inj h
  obtain ⟨h3, h⟩ := Prod.mk.inj h
  obtain ⟨h4, h⟩ := Prod.mk.inj h
  obtain ⟨h5, h⟩ := Prod.mk.inj h
  obtain ⟨h6, h⟩ := Prod.mk.inj h
  obtain ⟨h7, h8⟩ := Prod.mk.inj h
  exact W.store ht h1 h2 h3 h4 h5 h6 h7 h8 k
theorem W.y9 {E : Env} {f : Fr} {G : GH} {M : MH} {ops rest : List Oper} {q : Bool} {K : Kt} {op : Op} {ty : TypeId} {pos : String} {aft : Array Edge} {dst : Option Nat} {j dj : Nat} {want b : Bool} (hn : b = want) (hq : ((ops.toArray[j]?).bind (·.dst), f dj) = (some dj, .bool b))
    (k : W E ops.toArray q (⟨dst, op, ty, pos, aft, none⟩ :: rest) f G M K) (hdj : Nat.blt dj E.n = true := by rfl) : W E ops.toArray q (⟨dst, op, ty, pos, aft, some (j, want)⟩ :: rest) f G M K := W.yes (Prod.mk.inj hq).1 (Prod.mk.inj hq).2 hn k hdj
theorem W.n8 {E : Env} {f : Fr} {G : GH} {M : MH} {ops rest : List Oper} {q : Bool} {K : Kt} {d : Nat} {op : Op} {ty : TypeId} {pos : String} {aft : Array Edge} {j dj : Nat} {want b : Bool} (hn : b = !want) (hq : ((ops.toArray[j]?).bind (·.dst), f dj) = (some dj, .bool b))
    (k : W E ops.toArray q rest (upd f d undef) G M K) (hd : Nat.blt d E.n = true := by rfl) : W E ops.toArray q (⟨some d, op, ty, pos, aft, some (j, want)⟩ :: rest) f G M K := W.no (Prod.mk.inj hq).1 (Prod.mk.inj hq).2 hn k hd
theorem W.nt {E : Env} {f : Fr} {G : GH} {M : MH} {ops : List Oper} {q : Bool} {K : Kt} {Q : Exit → Kt} (h : K f G M) : W E ops.toArray q [] f G M (thn K Q .normal) := W.nil (Xc h)
theorem WC.sr {E : Env} {f : Fr} {G : GH} {M : MH} {Q : Exit → Kt} {id : Nat} {l : List Oper} {y : Code} (h : W E l.toArray false l f G M (thn (WC E y Q) Q .normal)) : WC E (.seq (.region id l.toArray false) y) Q f G M := WC.seq (WC.region h)
theorem W.ns {E : Env} {f : Fr} {G : GH} {M : MH} {ops : List Oper} {q : Bool} {Q Q' : Exit → Kt} {id : Nat} {l : List Oper} {y : Code} (h : W E l.toArray false l f G M (thn (WC E y Q) Q .normal)) : W E ops.toArray q [] f G M (thn (WC E (.seq (.region id l.toArray false) y) Q) Q' .normal) := W.nt (WC.sr h)
theorem W.an {E : Env} {f : Fr} {G : GH} {M : MH} {ops : List Oper} {q : Bool} {K : Kt} {Q : Exit → Kt} {d : Nat} {ty : TypeId} {pos : String} {aft : Array Edge} {x : Operand} (k : K (upd f d (ev f x)) G M) (hd : Nat.blt d E.n = true := by rfl) : W E ops.toArray q [⟨some d, .assign x, ty, pos, aft, none⟩] f G M (thn K Q .normal) := W.as (W.nt k) hd
theorem WC.sk {E : Env} {f : Fr} {G : GH} {M : MH} {K : Kt} {Q : Exit → Kt} (h : K f G M) : WC E .skip (thn K Q) f G M := WC.skip (Xc h)
theorem WC.rt {E : Env} {f : Fr} {G : GH} {M : MH} {K : Kt} {Q : Exit → Kt} (h : Q .ret f G M) : WC E .ret (thn K Q) f G M := WC.ret (Zlo h)
theorem WD.dn {E : Env} {f : Fr} {G : GH} {M Mk : MH} {ops : Array Oper} {K : Kt} {Q : Exit → Kt} {fuel : Nat} {listed : Array Bool} (h : K f G M) (hr : Region.ready .any ops listed = [] := by kernel_rfl) : WD E ops fuel listed f G M Mk (thn K Q .normal) := WD.done hr (Xc h)
theorem odt {p : Prop} [Decidable p] (h : decide p = true) : p := of_decide_eq_true h
theorem odf {p : Prop} [Decidable p] (h : decide p = false) : ¬ p := of_decide_eq_false h
theorem nk9 {G : GH} {n : Nd} {a1 a2 a3 a4 : Option Addr} {c1 c2 c3 c4 : Nat} (h1 : SlR Z6 G (.slice a1 n.pivots.length c1) n.pivots) (h2 : SlR ZB G (.slice a2 n.kids.length c2) n.kids) (h3 : SlR Zo G (.slice a3 n.msgs.length c3) n.msgs) (h4 : SlR Zi G (.slice a4 n.rows.length c4) n.rows) (h : n.Ok) :
    NodeC G [.int .i64 n.slot, .int .i64 n.level, .slice a1 n.pivots.length c1, .slice a2 n.kids.length c2, .string n.high.b, .bool n.top, .int .i64 n.right, .int .i64 n.seen, .slice a3 n.msgs.length c3, .slice a4 n.rows.length c4] n := ⟨_, _, _, _, _, _, _, _, rfl, h1, h2, h3, h4, h⟩
theorem nm9 {G G' : GH} {n : Nd} {a1 a2 a3 a4 : Option Addr} {c1 c2 c3 c4 : Nat} (hl : Le G G') (h1 : SlR Z6 G (.slice a1 n.pivots.length c1) n.pivots) (h2 : SlR ZB G (.slice a2 n.kids.length c2) n.kids) (h3 : SlR Zo G (.slice a3 n.msgs.length c3) n.msgs) (h4 : SlR Zi G (.slice a4 n.rows.length c4) n.rows) (h : n.Ok) :
    NodeC G' [.int .i64 n.slot, .int .i64 n.level, .slice a1 n.pivots.length c1, .slice a2 n.kids.length c2, .string n.high.b, .bool n.top, .int .i64 n.right, .int .i64 n.seen, .slice a3 n.msgs.length c3, .slice a4 n.rows.length c4] n := (nk9 h1 h2 h3 h4 h).mono hl
end Go.Fw
namespace Go.Proofs.YtbbemibbmbmamaaGreat
open Go Go.Fw
instance : TyK Tryz.prog 23 true 5 := ⟨ZhQ⟩
instance : SlK Tryz.prog 24 36 := ⟨Zdg⟩
instance : TyK Tryz.prog 36 true 7 := ⟨ZhS⟩
instance : FdK Tryz.prog 23 3 3 := ⟨Znv⟩
instance : TyK Tryz.prog 3 false 1 := ⟨ty3⟩
instance : TyK Tryz.prog 38 true 4 := ⟨Zct⟩
instance : FdK Tryz.prog 36 0 0 := ⟨Znw⟩
instance : TyK Tryz.prog 34 true 6 := ⟨Znx⟩
instance : SlK Tryz.prog 32 74 := ⟨Zy⟩
instance : TyK Tryz.prog 74 true 2 := ⟨Zz⟩
instance : FdK Tryz.prog 36 1 6 := ⟨Zny⟩
instance : SlK Tryz.prog 49 60 := ⟨Xg⟩
instance : TyK Tryz.prog 60 true 10 := ⟨Ym⟩
instance : BoK Tryz.prog 4 := ⟨bo4⟩
instance : SlK Tryz.prog 53 64 := ⟨Za3⟩
instance : TyK Tryz.prog 64 true 14 := ⟨ZaD⟩
instance : FdK Tryz.prog 64 0 0 := ⟨ZnA⟩
instance : FdK Tryz.prog 60 9 9 := ⟨ZnB⟩
instance : TyK Tryz.prog 32 false 1 := ⟨ZnC⟩
instance : FdK Tryz.prog 38 0 0 := ⟨ZnD⟩
instance : TyK Tryz.prog 28 false 1 := ⟨ZnE⟩
instance : FdK Tryz.prog 34 0 0 := ⟨ZnF⟩
instance : FdK Tryz.prog 60 1 1 := ⟨ZnG⟩
instance : FdK Tryz.prog 23 0 0 := ⟨ZnH⟩
instance : FdK Tryz.prog 23 1 1 := ⟨ZnI⟩
instance : FdK Tryz.prog 38 1 1 := ⟨ZnK⟩
instance : TyK Tryz.prog 4 false 1 := ⟨ty4⟩
instance : FdK Tryz.prog 38 2 2 := ⟨ZnL⟩
instance : TyK Tryz.prog 9 false 1 := ⟨ty9⟩
instance : StK Tryz.prog 9 := ⟨st9⟩
instance : FdK Tryz.prog 23 2 2 := ⟨ZnO⟩
instance : FdK Tryz.prog 23 4 4 := ⟨ZnP⟩
instance : FdK Tryz.prog 34 1 1 := ⟨ZnQ⟩
instance : FdK Tryz.prog 34 5 5 := ⟨ZnR⟩
instance : FdK Tryz.prog 38 3 3 := ⟨ZnS⟩
instance : FdK Tryz.prog 34 2 2 := ⟨ZnT⟩
instance : FdK Tryz.prog 34 3 3 := ⟨ZnU⟩
instance : FdK Tryz.prog 34 4 4 := ⟨ZnV⟩
instance : TyK Tryz.prog 87 true 6 := ⟨ZP⟩
instance : FdK Tryz.prog 79 0 0 := ⟨ZnW⟩
instance : TyK Tryz.prog 75 false 1 := ⟨ZnX⟩
instance : FdK Tryz.prog 79 1 1 := ⟨ZnY⟩
instance : FdK Tryz.prog 60 0 0 := ⟨Zn0⟩
instance : FdK Tryz.prog 64 2 13 := ⟨Zn1⟩
instance : TyK Tryz.prog 58 false 1 := ⟨Za6⟩
instance : SlK Tryz.prog 58 87 := ⟨ZM⟩
instance : FdK Tryz.prog 87 0 0 := ⟨Zn2⟩
instance : FdK Tryz.prog 60 7 7 := ⟨Zn3⟩
instance : TyK Tryz.prog 62 true 3 := ⟨Yq⟩
instance : FdK Tryz.prog 60 2 2 := ⟨Zn4⟩
instance : TyK Tryz.prog 56 false 1 := ⟨Zn5⟩
instance : FdK Tryz.prog 60 3 3 := ⟨Zn6⟩
instance : TyK Tryz.prog 57 false 1 := ⟨Zn7⟩
instance : SlK Tryz.prog 56 9 := ⟨Z2⟩
instance : SlK Tryz.prog 57 3 := ⟨ZV⟩
instance : FdK Tryz.prog 64 1 10 := ⟨Zn8⟩
instance : FdK Tryz.prog 60 8 8 := ⟨Zn9⟩
instance : SlK Tryz.prog 107 58 := ⟨Za7⟩
instance : FdK Tryz.prog 74 0 0 := ⟨Zoa⟩
instance : FdK Tryz.prog 74 1 1 := ⟨Zod⟩
instance : FdK Tryz.prog 87 1 1 := ⟨Zoe⟩
instance : FdK Tryz.prog 87 2 2 := ⟨Zof⟩
instance : FdK Tryz.prog 62 0 0 := ⟨ZhV⟩
instance : FdK Tryz.prog 62 2 2 := ⟨Ze2⟩
instance : FdK Tryz.prog 62 1 1 := ⟨Ze3⟩
instance : FdK Tryz.prog 139 1 5 := ⟨Zog⟩
instance : TyK Tryz.prog 135 false 1 := ⟨Zoh⟩
instance : FdK Tryz.prog 60 6 6 := ⟨Zoi⟩
instance : FdK Tryz.prog 60 5 5 := ⟨Zoj⟩
instance : FdK Tryz.prog 60 4 4 := ⟨Zok⟩
instance : TyK Tryz.prog 49 false 1 := ⟨Zom⟩
instance : SlK Tryz.prog 168 4 := ⟨ZbE⟩
instance : TyK Tryz.prog 169 false 1 := ⟨Zon⟩
instance : SlK Tryz.prog 169 3 := ⟨Xl⟩
instance : TyK Tryz.prog 168 false 1 := ⟨Zoo⟩
instance : TyK Tryz.prog 132 true 2 := ⟨Zop⟩
instance : FdK Tryz.prog 87 5 5 := ⟨Zoq⟩
instance : FdK Tryz.prog 189 2 2 := ⟨Zor⟩
instance : FdK Tryz.prog 87 3 3 := ⟨Zos⟩
instance : FdK Tryz.prog 87 4 4 := ⟨Zot⟩
instance : SlK Tryz.prog 193 62 := ⟨XR⟩
instance : FdK Tryz.prog 189 1 1 := ⟨Zou⟩
instance : FdK Tryz.prog 189 0 0 := ⟨Zov⟩
instance : FdK Tryz.prog 132 0 0 := ⟨Zow⟩
instance : FdK Tryz.prog 132 1 1 := ⟨Zox⟩
instance : FdK Tryz.prog 139 0 0 := ⟨Zoy⟩
instance : SlK Tryz.prog 269 271 := ⟨XJ⟩
instance : TyK Tryz.prog 271 true 2 := ⟨YK⟩
instance : TyK Tryz.prog 269 false 1 := ⟨Zoz⟩
instance : FdK Tryz.prog 271 0 0 := ⟨ZoB⟩
instance : FdK Tryz.prog 271 1 1 := ⟨ZoC⟩
instance : MixK Tryz.prog := ⟨mix⟩
end Go.Proofs.YtbbemibbmbmamaaGreat
namespace Go.Proofs.YtbbemibbmbmamaaGreat
open Go Go.Fw Go.RowKit
attribute [local irreducible] Ok W WC
theorem Jr {G : GH} (a : Str) (b : Str) :
    Fc Tryz.prog 114 [sV a.b, sV b.b] G [] (fun v _ _ => v = .bool (Str.lt a b)) := by
 have ha := a.le
 have hb := b.le
 refine Fc.go [.tmp 4] Tryz.func114 Tryz.ntmps114 rfl (fun w0 => (g9 12 ?_))
 refine WC.loop (X := Nat) (fun k => [(5, nt9 k), (0, sV a.b), (1, sV b.b)]) (fun k _ Ml => Ml = [] ∧ k ≤ a.b.size ∧ k ≤ b.b.size ∧ ∀ i, i < k → a.b[i]? = b.b[i]?) (fun k => a.b.size - k) 0 hs9 ?_ ?_
 ·exact ⟨rfl, om9, om9, fun i hi => by omega⟩
 rintro k gG1 G1 _ hG1 ⟨rfl, hk1, hk2, hk3⟩
 refine g9 8 ?_
 refine W.sd 10 (fun h9 p9 => ?_) (fun h9 p9 => ?_)
 ·refine g9 11 ?_
  refine WC.cd (fun h14 p14 => ?_) (fun h14 p14 => ?_)
  ·refine g9 8 ?_
   refine W.ok (Zcc (i := k) st9 rfl rfl ⟨om9, om9⟩) (g9 2 ?_)
   refine W.ok (Zcc (i := k) st9 rfl rfl ⟨om9, om9⟩) (g9 3 ?_)
   refine WC.cn (fun h24 p24 => ?_) (fun h24 p24 => ?_)
   ·refine g9 4 ?_
    refine W.ok (Zcc (i := k) st9 rfl rfl ⟨om9, om9⟩) (g9 2 ?_)
    refine W.ok (Zcc (i := k) st9 rfl rfl ⟨om9, om9⟩) (g9 11 ?_)
    exact congrArg Value.bool (ZgH hk3 _ _ om9)
   refine g9 9 ?_
   exact ⟨Le.rfl, k + 1, hs9, ⟨rfl, om9, om9, ZlL hk3 om9 om9 p24⟩, om9⟩
  refine g9 17 ?_
  exact congrArg Value.bool (Zch hk3 om9 om9 om9)
 refine g9 25 ?_
 exact congrArg Value.bool (Zch hk3 om9 om9 om9)

theorem ZbI {G : GH} (slo : Str) (shi : Str) (so : Bool) (k : Str) :
    Fc Tryz.prog 87 [.agg #[sV slo.b, sV shi.b, .bool so], sV k.b] G [] (fun v _ _ => v = .bool (Span.has ⟨slo, shi, so⟩ k)) := by
 refine Fc.go [.tmp 4] Tryz.func87 Tryz.ntmps87 rfl (fun w0 => (g9 2 ?_))
 refine W.box (L := [sV _, sV _, .bool _]) rfl rfl (fun b2 => (g9 8 ?_))
 refine W.qcall (Jr _ _) rfl (g9 2 ?_)
 refine W.sp 10 rfl (fun h9 => ?_) (fun h9 => ?_)
 ·refine g9 6 ?_
  refine W.sp 13 rfl (fun ha_so => ?_) (fun ha_so => ?_)
  ·refine g9 12 ?_
   refine congrArg Value.bool ?_
   simp_all [Span.has]
  refine g9 7 ?_
  refine W.qcall (Jr _ _) rfl (g9 8 ?_)
  refine congrArg Value.bool ?_
  simp_all [Span.has]
 refine g9 14 ?_
 refine congrArg Value.bool ?_
 simp_all [Span.has]

theorem ZaE {G : GH} (slo : Str) (shi : Str) (so : Bool) :
    Fc Tryz.prog 86 [.agg #[sV slo.b, sV shi.b, .bool so]] G [] (fun v _ _ => v = .bool (Span.empty ⟨slo, shi, so⟩)) := by
 refine Fc.go [.tmp 2] Tryz.func86 Tryz.ntmps86 rfl (fun w0 => (g9 2 ?_))
 refine W.box (L := [sV _, sV _, .bool _]) rfl rfl (fun b3 => (g9 8 ?_))
 refine W.qcall (ZbI _ _ _ _) rfl (g9 6 ?_)
 refine congrArg Value.bool ?_
 exact Span.empty_eq ⟨slo, shi, so⟩

theorem Je {G : GH} (slo : Str) (shi : Str) (so : Bool) :
    Fc Tryz.prog 110 [.agg #[sV slo.b, sV shi.b, .bool so]] G [] (fun v _ _ => v = .agg (List.toArray ((Span.norm ⟨slo, shi, so⟩ : Span).cells))) := by
 refine Fc.go [.cell 2 62] Tryz.func110 Tryz.ntmps110 rfl (fun w0 => (g9 2 ?_))
 refine W.box (L := [sV _, sV _, .bool _]) rfl rfl (fun b4 => (W.alloc Zv (fun b5 => (g9 6 ?_))))
 refine W.qcall (ZaE _ _ _) rfl (g9 2 ?_)
 refine WC.cond rfl (fun h4 => ?_) (fun h4 => ?_)
 ·refine g9 2 ?_
  refine W.ok (Zw (L := [sV _, sV _, .bool _]) Y0 Zv rfl rfl rfl) (g9 6 ?_)
  refine congrArg (fun l => Value.agg (List.toArray l)) ?_
  show [Value.string _, Value.string _, Value.bool _] = _
  simp_all [Span.norm, Span.cells, Span.zero, Str.nil, ZU]
 refine g9 9 ?_
 refine WC.cond rfl (fun ha_so => ?_) (fun ha_so => ?_)
 ·refine g9 13 ?_
  refine congrArg (fun l => Value.agg (List.toArray l)) ?_
  show [Value.string _, Value.string _, Value.bool _] = _
  simp_all [Span.norm, Span.cells, Span.zero, Str.nil, ZU]
 refine g9 10 ?_
 refine congrArg (fun l => Value.agg (List.toArray l)) ?_
 show [Value.string _, Value.string _, Value.bool _] = _
 simp_all [Span.norm, Span.cells, Span.zero, Str.nil, ZU]

theorem Ze6 {G : GH}  :
    Fc Tryz.prog 81 [] G [] (fun v _ _ => v = .agg (List.toArray ((Span.all : Span).cells))) := by
 refine Fc.go [.cell 0 62] Tryz.func81 Tryz.ntmps81 rfl (fun w0 => (g9 2 ?_))
 refine W.alloc Zv (fun b6 => (g9 4 ?_))
 refine W.ok (Zw (L := [sV _, sV _, .bool _]) Y0 Zv rfl rfl rfl) (g9 5 ?_)
 rfl

theorem Zcy {G : GH} (slo : Str) (shi : Str) (so : Bool) :
    Fc Tryz.prog 95 [.agg #[sV slo.b, sV shi.b, .bool so]] G [] (fun v _ _ => v = .bool (Span.empty ⟨slo, shi, so⟩)) := by
 refine Fc.go [.tmp 2] Tryz.func95 Tryz.ntmps95 rfl (fun w0 => (g9 2 ?_))
 refine W.box (L := [sV _, sV _, .bool _]) rfl rfl (fun b7 => (g9 9 ?_))
 refine W.sp 6 rfl (fun h5 => ?_) (fun h5 => ?_)
 ·refine g9 9 ?_
  refine W.ok (Zeo rfl rfl) (g9 6 ?_)
  refine congrArg Value.bool ?_
  simp_all [Span.empty, Str.lt]
 refine g9 11 ?_
 refine congrArg Value.bool ?_
 simp_all [Span.empty, Str.lt]

theorem ZaF {G : GH} (slo : Str) (shi : Str) (so : Bool) :
    Fc Tryz.prog 99 [.agg #[sV slo.b, sV shi.b, .bool so]] G [] (fun v _ _ => v = .agg (List.toArray ((Span.norm ⟨slo, shi, so⟩ : Span).cells))) := by
 refine Fc.go [.cell 2 62] Tryz.func99 Tryz.ntmps99 rfl (fun w0 => (g9 2 ?_))
 refine W.box (L := [sV _, sV _, .bool _]) rfl rfl (fun b8 => (W.alloc Zv (fun b9 => (g9 7 ?_))))
 refine W.qcall (Zcy _ _ _) rfl (g9 3 ?_)
 refine WC.cond rfl (fun h5 => ?_) (fun h5 => ?_)
 ·refine g9 2 ?_
  refine W.ok (Zw (L := [sV _, sV _, .bool _]) Y0 Zv rfl rfl rfl) (g9 7 ?_)
  refine congrArg (fun l => Value.agg (List.toArray l)) ?_
  show [Value.string _, Value.string _, Value.bool _] = _
  simp_all [Span.norm, Span.cells, Span.zero, Str.nil, ZU]
 refine g9 7 ?_
 refine WC.cond rfl (fun ha_so => ?_) (fun ha_so => ?_)
 ·refine g9 14 ?_
  refine congrArg (fun l => Value.agg (List.toArray l)) ?_
  show [Value.string _, Value.string _, Value.bool _] = _
  simp_all [Span.norm, Span.cells, Span.zero, Str.nil, ZU]
 refine g9 11 ?_
 refine congrArg (fun l => Value.agg (List.toArray l)) ?_
 show [Value.string _, Value.string _, Value.bool _] = _
 simp_all [Span.norm, Span.cells, Span.zero, Str.nil, ZU]

theorem Zdi {G : GH} (slo : Str) (shi : Str) (so : Bool) (k : Str) :
    Fc Tryz.prog 136 [.agg #[sV slo.b, sV shi.b, .bool so], sV k.b] G [] (fun v _ _ => v = .bool (Span.has ⟨slo, shi, so⟩ k)) := by
 refine Fc.go [.tmp 4] Tryz.func136 Tryz.ntmps136 rfl (fun w0 => (g9 2 ?_))
 refine W.box (L := [sV _, sV _, .bool _]) rfl rfl (fun b10 => (g9 8 ?_))
 refine W.ok (Zeo rfl rfl) (W.mv ?_)
 refine W.sp 9 rfl (fun h8 => ?_) (fun h8 => ?_)
 ·refine g9 6 ?_
  refine W.sp 12 rfl (fun ha_so => ?_) (fun ha_so => ?_)
  ·refine g9 12 ?_
   refine congrArg Value.bool ?_
   simp_all [Span.has, Str.lt]
  refine g9 16 ?_
  refine congrArg Value.bool ?_
  simp_all [Span.has, Str.lt]
 refine g9 14 ?_
 refine congrArg Value.bool ?_
 simp_all [Span.has, Str.lt]

theorem ZoD {G : GH} {v_l : Value} {l : List Str} (h_l : SlR Z6 G v_l l) :
    Fc Tryz.prog 113 [v_l] G [] (fun v _ _ => v = .bool (Z1 l)) := by
 obtain ⟨sa_l, sc_l, rfl⟩ := h_l.form
 have hl := h_l.len47
 refine Fc.go [.tmp 2] Tryz.func113 Tryz.ntmps113 rfl (fun w0 => (g9 12 ?_))
 refine WC.loop (X := Nat) (fun k => [(3, nt9 (k + 1)), (0, lV sa_l l.length sc_l)]) (fun k _ Ml => Ml = [] ∧ ∀ i (h : i + 1 < l.length), i < k → l[i].lt l[i + 1] = true) (fun k => l.length - k) 0 hs9 ?_ ?_
 ·exact ⟨rfl, fun i _ h => by omega⟩
 rintro k gG11 G11 _ hG11 ⟨rfl, hk⟩
 refine g9 9 ?_
 refine WC.cd (fun h7 p7 => ?_) (fun h7 p7 => ?_)
 ·refine g9 9 ?_
  refine (h_l.mono hG11).a1 (i := k) om9 (fun he12 => (W.ok (ZX (i := k) Z2 ty9 (h_l.mono hG11) rfl rfl ⟨om9, om9⟩) (g9 3 ?_)))
  refine (h_l.mono hG11).a1 (i := k + 1) om9 (fun he15 => (W.ok (ZX (i := k + 1) Z2 ty9 (h_l.mono hG11) rfl rfl ⟨om9, om9⟩) (g9 1 ?_)))
  refine W.qcall (Jr _ _) rfl (g9 3 ?_)
  refine WC.cond rfl (fun h20 => ?_) (fun h20 => ?_)
  ·refine g9 12 ?_
   refine congrArg Value.bool ?_
   exact (ZlM (i := k) om9 (by simpa using h20)).symm
  refine g9 9 ?_
  exact ⟨Le.rfl, k + 1, hs9, ⟨rfl, fun i h hi => by
      by_cases e : i = k
      · subst e; simpa using h20
      · exact hk i h om9⟩, om9⟩
 refine g9 12 ?_
 refine congrArg Value.bool ?_
 exact (JI.2 (fun i h => hk i h om9)).symm

theorem Ze7 {G : GH} {v_p : Value} {p : List Str} (h_p : SlR Z6 G v_p p) {v_c : Value} {c : List Int} (h_c : SlR ZB G v_c c) :
    Fc Tryz.prog 180 [v_p, v_c] G [] (fun v _ _ => v = .bool (Yt p c.length)) := by
 obtain ⟨sa_p, sc_p, rfl⟩ := h_p.form
 obtain ⟨sa_c, sc_c, rfl⟩ := h_c.form
 have hc := h_c.len47
 have hp := h_p.len47
 refine Fc.go [.tmp 4] Tryz.func180 Tryz.ntmps180 rfl (fun w0 => (g9 12 ?_))
 refine WC.loop (X := Nat) (fun k => [(5, nt9 (k + 1)), (0, lV sa_p p.length sc_p), (1, lV sa_c c.length sc_c)]) (fun k _ Ml => Ml = [] ∧ ∀ i (h : i + 1 < p.length), i < k → p[i].lt p[i + 1] = true) (fun k => p.length - k) 0 hs9 ?_ ?_
 ·exact ⟨rfl, fun i _ h => by omega⟩
 rintro k gG18 G18 _ hG18 ⟨rfl, hk⟩
 refine g9 9 ?_
 refine WC.cd (fun h9 p9 => ?_) (fun h9 p9 => ?_)
 ·refine g9 9 ?_
  refine (h_p.mono hG18).a1 (i := k) om9 (fun he19 => (W.ok (ZX (i := k) Z2 ty9 (h_p.mono hG18) rfl rfl ⟨om9, om9⟩) (g9 3 ?_)))
  refine (h_p.mono hG18).a1 (i := k + 1) om9 (fun he22 => (W.ok (ZX (i := k + 1) Z2 ty9 (h_p.mono hG18) rfl rfl ⟨om9, om9⟩) (g9 1 ?_)))
  refine W.ok (Zeo rfl rfl) (g9 2 ?_)
  refine WC.cond rfl (fun h21 => ?_) (fun h21 => ?_)
  ·refine g9 12 ?_
   refine congrArg Value.bool ?_
   simp [Yt, ZlM (l := p) (i := k) om9 (by simpa [Str.lt] using h21)]
  refine g9 9 ?_
  exact ⟨Le.rfl, k + 1, hs9, ⟨rfl, fun i h hi => by
      by_cases e : i = k
      · subst e; simpa [Str.lt] using h21
      · exact hk i h om9⟩, om9⟩
 refine g9 11 ?_
 refine W.sd 25 (fun h24 p24 => ?_) (fun h24 p24 => ?_)
 ·refine g9 18 ?_
  refine congrArg Value.bool ?_
  simp only [Yt, JI.2 (fun i h => hk i h om9), Bool.true_and]
  first | (rw [decide_eq_decide]; omega) | (symm; rw [decide_eq_false_iff_not]; omega)
 refine g9 12 ?_
 refine congrArg Value.bool ?_
 simp only [Yt, JI.2 (fun i h => hk i h om9), Bool.true_and]
 first | (rw [decide_eq_decide]; omega) | (symm; rw [decide_eq_false_iff_not]; omega)

theorem Zh1 {G : GH} {v_p : Value} {p : List Str} (h_p : SlR Z6 G v_p p) {v_c : Value} {c : List Int} (h_c : SlR ZB G v_c c) :
    Fc Tryz.prog 61 [v_p, v_c] G [] (fun v _ _ => v = .bool (Yt p c.length)) := by
 obtain ⟨sa_p, sc_p, rfl⟩ := h_p.form
 obtain ⟨sa_c, sc_c, rfl⟩ := h_c.form
 have hc := h_c.len47
 have hp := h_p.len47
 refine Fc.go [.tmp 4] Tryz.func61 Tryz.ntmps61 rfl (fun w0 => (g9 8 ?_))
 refine W.qcall (ZoD h_p) rfl (W.mv ?_)
 refine W.sp 7 rfl (fun h6 => ?_) (fun h6 => ?_)
 ·refine g9 18 ?_
  refine congrArg Value.bool ?_
  simp only [Yt, h6, Bool.true_and, Bool.false_and]
  rw [decide_eq_decide]; omega
 refine g9 12 ?_
 refine congrArg Value.bool ?_
 simp only [Yt, h6, Bool.true_and, Bool.false_and]

theorem Ze8 {G : GH} (a : Str) :
    Fc Tryz.prog 227 [sV a.b] G [] (fun v _ _ => v = .bool (false)) := by
 refine Fc.go [.tmp 2] Tryz.func227 Tryz.ntmps227 rfl (fun w0 => (g9 15 ?_))
 refine congrArg Value.bool ?_
 simp

theorem ZoE {G : GH} (a : Str) :
    Fc Tryz.prog 198 [sV a.b] G [] (fun v _ _ => v = .bool (false)) := by
 refine Fc.go [.tmp 2] Tryz.func198 Tryz.ntmps198 rfl (fun w0 => (g9 15 ?_))
 refine congrArg Value.bool ?_
 simp

theorem ZoF {G : GH} (a : Str) (b : Str) :
    Fc Tryz.prog 197 [sV a.b, sV b.b] G [] (fun v _ _ => v = .bool (Str.lt a b)) := by
 refine Fc.go [.tmp 4] Tryz.func197 Tryz.ntmps197 rfl (fun w0 => (g9 8 ?_))
 refine W.qcall (Ze8 _) rfl (W.mv ?_)
 refine W.sp 7 rfl (fun h6 => ?_) (fun h6 => ?_)
 ·cases h6
 refine g9 17 ?_
 refine congrArg Value.bool ?_
 rfl

theorem ZoG {G : GH} {v_l : Value} {l : List Str} (h_l : SlR Z6 G v_l l) (k : Str) (hr : Z1 l = true) :
    Fc Tryz.prog 163 [v_l, sV k.b] G [] (fun v _ _ => v = .tuple #[iV (((YJ l k : Nat) : Int)), .bool (decide (l[YJ l k]? = some k))]) := by
 obtain ⟨sa_l, sc_l, rfl⟩ := h_l.form
 have hlen := h_l.len47
 refine Fc.go [.tmp 4, .tmp 5] Tryz.func163 Tryz.ntmps163 rfl (fun w0 => (g9 22 ?_))
 refine WC.loop (X := Nat × Nat) (fun x => [(6, nt9 l.length), (7, nt9 x.1), (8, nt9 x.2), (0, lV sa_l l.length sc_l), (1, sV k.b)]) (fun x _ Ml => Ml = [] ∧ x.1 ≤ x.2 ∧ x.2 ≤ l.length ∧ (∀ q (h : q < l.length), q < x.1 → l[q].lt k = true) ∧ (∀ q (h : q < l.length), x.2 ≤ q → l[q].lt k = false)) (fun x => x.2 - x.1) (0, l.length) hs9 ?_ ?_
 ·exact ⟨rfl, by simp, by simp, (fun q _ h => by simp at h), (fun q h h' => by simp at h'; omega)⟩
 rintro ⟨i, j⟩ gG25 G25 _ hG25 ⟨rfl, hi, hj, h1, h2⟩
 dsimp only at hi hj h1 h2
 refine g9 8 ?_
 refine WC.cd (fun h15 p15 => ?_) (fun h15 p15 => ?_)
 ·refine g9 8 ?_
  refine W.ok (ZgD un3 ZbH rfl om9) (W.ok (ZgF rfl rfl om9) (W.ok (ZgE ZbH un3 rfl om9) (g9 7 ?_)))
  refine (h_l.mono hG25).a1 (i := (i + j) / 2) om9 (fun he26 => (W.ok (ZX (i := (i + j) / 2) Z2 ty9 (h_l.mono hG25) rfl rfl ⟨by dsimp only; omega, om9⟩) (g9 2 ?_)))
  refine W.qcall (ZoF _ _) rfl (g9 2 ?_)
  refine WC.cond rfl (fun h27 => ?_) (fun h27 => ?_)
  ·refine g9 7 ?_
   exact ⟨Le.rfl, ((i + j) / 2 + 1, j), hs9, ⟨rfl, by dsimp only; omega, by dsimp only; omega, (fun q h hq => Zur hr om9 h27 q h (by dsimp only at hq; omega)), h2⟩, by dsimp only; omega⟩
  refine g9 6 ?_
  exact ⟨Le.rfl, (i, (i + j) / 2), hs9, ⟨rfl, by dsimp only; omega, by dsimp only; omega, h1, (fun q h hq => ZlQ hr om9 h27 q h (by dsimp only at hq; omega))⟩, by dsimp only; omega⟩
 refine g9 12 ?_
 refine W.sd 35 (fun h34 p34 => ?_) (fun h34 p34 => ?_)
 ·refine g9 5 ?_
  refine (h_l.mono hG25).a1 (i := i) om9 (fun he29 => (g9 9 ?_))
  refine W.sd 42 (fun h41 p41 => ?_) (fun h41 p41 => ?_)
  ·refine g9 18 ?_
   have hlow : YJ l k = i := Zev om9 h1 (fun q h hq => h2 q h om9)
   refine Zbr (by rw [hlow]) ?_
   rw [hlow]
   simp only [Str.b_inj] at p41
   rw [List.getElem?_eq_getElem om9]
   simp [p41]
  refine g9 5 ?_
  refine (h_l.mono hG25).a1 (i := i) om9 (fun he32 => (g9 4 ?_))
  refine W.qcall (ZoE _) rfl (g9 2 ?_)
  refine W.sp 48 rfl (fun h47 => ?_) (fun h47 => ?_)
  ·cases h47
  refine g9 13 ?_
  have hlow : YJ l k = i := Zev om9 h1 (fun q h hq => h2 q h om9)
  refine Zbr (by rw [hlow]) ?_
  rw [hlow]
  simp only [Str.b_inj] at p41
  rw [List.getElem?_eq_getElem om9]
  simp [p41]
 refine g9 24 ?_
 have hlow : YJ l k = i := Zev om9 h1 (fun q h hq => h2 q h om9)
 refine Zbr (by rw [hlow]) ?_
 rw [hlow]
 rw [List.getElem?_eq_none om9] <;> simp

theorem ZbJ {G : GH} {v_l : Value} {l : List Str} (h_l : SlR Z6 G v_l l) (k : Str) (hr : Z1 l = true) :
    Fc Tryz.prog 124 [v_l, sV k.b] G [] (fun v _ _ => v = iV (((Zf l k : Nat) : Int))) := by
 obtain ⟨sa_l, sc_l, rfl⟩ := h_l.form
 have hlo := ZlR l k
 have hlen := h_l.len47
 refine Fc.go [.tmp 4] Tryz.func124 Tryz.ntmps124 rfl (fun w0 => (g9 9 ?_))
 refine W.qcall (ZoG h_l _ (by assumption)) rfl (g9 13 ?_)
 refine WC.cond rfl (fun h10_1 => ?_) (fun h10_1 => ?_)
 ·refine g9 14 ?_
  exact iv (ZlS hr (odt h10_1))
 refine g9 10 ?_
 exact iv (ZlT hr (odf h10_1))

theorem Zh2 {G : GH} {v_l : Value} {l : List Str} (h_l : SlR Z6 G v_l l) (i : Int) (hi : i64 i) :
    Fc Tryz.prog 63 [v_l, iV i] G [] (fun v _ _ => v = .agg (List.toArray ((Ze l i : Span).cells))) := by
 obtain ⟨sa_l, sc_l, rfl⟩ := h_l.form
 have hl := h_l.len47
 obtain ⟨hi1, hi2⟩ := hi
 refine Fc.go [.cell 4 62] Tryz.func63 Tryz.ntmps63 rfl (fun w0 => (g9 2 ?_))
 refine W.alloc Zv (fun b35 => (g9 4 ?_))
 refine W.ok (Zw (L := [sV _, sV _, .bool _]) Y0 Zv rfl rfl rfl) (W.alloc Zv (fun b36 => (g9 9 ?_)))
 refine W.sd 9 (fun h8 p8 => ?_) (fun h8 p8 => ?_)
 ·refine g9 10 ?_
  refine W.ok (Zw (L := [sV _, sV _, .bool _]) Y0 Zv rfl rfl rfl) (g9 6 ?_)
  refine congrArg (fun l => Value.agg (List.toArray l)) ?_
  show [Value.string _, Value.string _, Value.bool _] = _
  rw [Zc3 om9]; rfl
 refine g9 11 ?_
 refine WC.cd (fun h13 p13 => ?_) (fun h13 p13 => ?_)
 ·refine g9 2 ?_
  refine W.ok (Zw (L := [sV _, sV _, .bool _]) Y0 Zv rfl rfl rfl) (g9 6 ?_)
  refine congrArg (fun l => Value.agg (List.toArray l)) ?_
  show [Value.string _, Value.string _, Value.bool _] = _
  rw [Zc3 om9]; rfl
 refine g9 9 ?_
 refine WC.cd (fun h17 p17 => ?_) (fun h17 p17 => ?_)
 ·refine g9 4 ?_
  refine h_l.a1 (i := (i - 1).toNat) om9 (fun he37 => (W.ok (ZX (i := (i - 1).toNat) Z2 ty9 h_l rfl rfl ⟨om9, om9⟩) (g9 14 ?_)))
  refine WC.cd (fun h27 p27 => ?_) (fun h27 p27 => ?_)
  ·refine g9 9 ?_
   refine h_l.a1 (i := i.toNat) om9 (fun he40 => (W.ok (ZX (i := i.toNat) Z2 ty9 h_l rfl rfl ⟨om9, om9⟩) (g9 8 ?_)))
   refine W.qcall (Je _ _ _) rfl (g9 5 ?_)
   exact congrArg (fun s : Span => Value.agg (List.toArray s.cells)) (ZlU p17 p27 om9 om9)
  refine g9 5 ?_
  refine W.qcall (Je _ Str.nil _) rfl (g9 5 ?_)
  exact congrArg (fun s : Span => Value.agg (List.toArray s.cells)) (ZlV p17 p27 om9 om9)
 refine g9 11 ?_
 refine WC.cd (fun h27 p27 => ?_) (fun h27 p27 => ?_)
 ·refine g9 9 ?_
  refine h_l.a1 (i := i.toNat) om9 (fun he43 => (W.ok (ZX (i := i.toNat) Z2 ty9 h_l rfl rfl ⟨om9, om9⟩) (g9 8 ?_)))
  refine W.qcall (Je Str.nil _ _) rfl (g9 5 ?_)
  exact congrArg (fun s : Span => Value.agg (List.toArray s.cells)) (ZlW om9 p17 p27 om9)
 refine g9 5 ?_
 refine W.qcall (Je Str.nil Str.nil _) rfl (g9 5 ?_)
 exact congrArg (fun s : Span => Value.agg (List.toArray s.cells)) (ZlX om9 p17 p27 om9)

theorem ZaG {G : GH} {v_l : Value} {l : List Str} (h_l : SlR Z6 G v_l l) (i : Int) (hi : i64 i) :
    Fc Tryz.prog 128 [v_l, iV i] G [] (fun v _ _ => v = .agg (List.toArray ((Ze l i : Span).cells))) := by
 obtain ⟨sa_l, sc_l, rfl⟩ := h_l.form
 have hl := h_l.len47
 obtain ⟨hi1, hi2⟩ := hi
 refine Fc.go [.cell 4 62] Tryz.func128 Tryz.ntmps128 rfl (fun w0 => (WC.sr (W.alloc Zv (fun b46 => (W.nt (WC.seq (WC.sr (W.mv (W.ok (Zem rfl rfl) (W.mv ?_))))))))))
 refine W.sd 8 (fun h7 p7 => ?_) (fun h7 p7 => ?_)
 ·refine W.n8 h7 rfl (W.n8 h7 rfl (W.n8 h7 rfl (W.n8 h7 rfl (W.ok (Zlr rfl h7) (W.nt (WC.cond_t rfl rfl (WC.sr (W.ok (Zw (L := [sV _, sV _, .bool _]) Y0 Zv rfl rfl rfl) (W.st 0 sp9 sp9 Yq rfl (W.nt (WC.rt ?_)))))))))))
  refine ⟨.inr rfl, [_], ⟨⟨_, _, _, _, _, rfl, YE (i := 0) rfl, Yq, (by simp), rfl, rfl⟩, trivial⟩, [], sn9, ?_⟩
  refine congrArg (fun l => Value.agg (List.toArray l)) ?_
  show [Value.string _, Value.string _, Value.bool _] = _
  rw [Zc3 om9]; rfl
 refine W.y9 h7 rfl (W.mv (W.y9 h7 rfl (W.mv (W.y9 h7 rfl (W.ok (Zep Z2 h_l rfl) (W.y9 h7 rfl (W.ok (Zgy rfl rfl) (W.ok (Zls rfl h7) (W.nt ?_)))))))))
 refine WC.cd (fun h12 p12 => ?_) (fun h12 p12 => ?_)
 ·refine WC.sr (W.ok (Zw (L := [sV _, sV _, .bool _]) Y0 Zv rfl rfl rfl) (W.st 0 sp9 sp9 Yq rfl (W.nt (WC.rt ?_))))
  refine ⟨.inr rfl, [_], ⟨⟨_, _, _, _, _, rfl, YE (i := 0) rfl, Yq, (by simp), rfl, rfl⟩, trivial⟩, [], sn9, ?_⟩
  refine congrArg (fun l => Value.agg (List.toArray l)) ?_
  show [Value.string _, Value.string _, Value.bool _] = _
  rw [Zc3 om9]; rfl
 refine WC.sk (WC.sr (W.qcall (Ze6) rfl (W.alloc Zv (fun b47 => (W.st 0 sp9 sp9 Yq rfl (W.nt (WC.seq (WC.sr (W.mv (W.ok (Zgy rfl rfl) (W.nt ?_)))))))))))
 refine WC.cd (fun h17 p17 => ?_) (fun h17 p17 => ?_)
 ·refine WC.region (W.mv (W.mv (W.ok (ZaB rfl rfl om9) (h_l.a1 (i := (i - 1).toNat) om9 (fun he48 => (W.ok (ZX (i := (i - 1).toNat) Z2 ty9 h_l rfl rfl ⟨om9, om9⟩) (W.ok (Zcd (vs := sc9) ty9 he48 rfl rfl rfl (by simp)) (W.fb ZhV rfl (W.st 0 sc9 sp9 ty9 rfl (W.nt (WC.seq (WC.sr (W.mv (W.mv ?_))))))))))))))
  refine W.ok (Zep Z2 h_l rfl) (W.ok (Zem rfl rfl) (W.nt ?_))
  refine WC.cd (fun h27 p27 => ?_) (fun h27 p27 => ?_)
  ·refine WC.region (W.mv (W.mv (h_l.a1 (i := i.toNat) om9 (fun he51 => (W.ok (ZX (i := i.toNat) Z2 ty9 h_l rfl rfl ⟨om9, om9⟩) (W.ok (Zcd (vs := sc9) ty9 he51 rfl rfl rfl (by simp)) (W.fb Ze3 rfl (W.st 0 sc9 sp9 ty9 rfl (W.fb Ze2 rfl (W.st 0 bc9 sp9 ty4 rfl (W.ns (W.ok (Zdh 0 sp9 Yq rfl) (W.qcall (ZaF _ _ _) rfl (W.st 1 sp9 sp9 Yq rfl ?_))))))))))))))
   refine W.nt (WC.ret ?_)
   refine ⟨.inr rfl, [_], ⟨⟨_, _, _, _, _, rfl, YE (i := 1) rfl, Yq, (by simp), rfl, rfl⟩, trivial⟩, [], sn9, ?_⟩
   exact congrArg (fun s : Span => Value.agg (List.toArray s.cells)) (ZlU p17 p27 om9 om9)
  refine WC.sk (WC.sr (W.ok (Zdh 0 sp9 Yq rfl) (W.qcall (ZaF _ _ _) rfl (W.st 1 sp9 sp9 Yq rfl (W.nt (WC.ret ?_))))))
  refine ⟨.inr rfl, [_], ⟨⟨_, _, _, _, _, rfl, YE (i := 1) rfl, Yq, (by simp), rfl, rfl⟩, trivial⟩, [], sn9, ?_⟩
  exact congrArg (fun s : Span => Value.agg (List.toArray s.cells)) (ZlV p17 p27 om9 om9)
 refine WC.sk (WC.seq (WC.sr (W.mv (W.mv (W.ok (Zep Z2 h_l rfl) (W.ok (Zem rfl rfl) (W.nt ?_)))))))
 refine WC.cd (fun h27 p27 => ?_) (fun h27 p27 => ?_)
 ·refine WC.region (W.mv (W.mv (h_l.a1 (i := i.toNat) om9 (fun he54 => (W.ok (ZX (i := i.toNat) Z2 ty9 h_l rfl rfl ⟨om9, om9⟩) (W.ok (Zcd (vs := sc9) ty9 he54 rfl rfl rfl (by simp)) (W.fb Ze3 rfl (W.st 0 sc9 sp9 ty9 rfl (W.fb Ze2 rfl (W.st 0 bc9 sp9 ty4 rfl (W.ns (W.ok (Zdh 0 sp9 Yq rfl) (W.qcall (ZaF _ _ _) rfl (W.st 1 sp9 sp9 Yq rfl ?_))))))))))))))
  refine W.nt (WC.ret ?_)
  refine ⟨.inr rfl, [_], ⟨⟨_, _, _, _, _, rfl, YE (i := 1) rfl, Yq, (by simp), rfl, rfl⟩, trivial⟩, [], sn9, ?_⟩
  exact congrArg (fun s : Span => Value.agg (List.toArray s.cells)) (ZlW om9 p17 p27 om9)
 refine WC.sk (WC.sr (W.ok (Zdh 0 sp9 Yq rfl) (W.qcall (ZaF _ _ _) rfl (W.st 1 sp9 sp9 Yq rfl (W.nt (WC.ret ?_))))))
 refine ⟨.inr rfl, [_], ⟨⟨_, _, _, _, _, rfl, YE (i := 1) rfl, Yq, (by simp), rfl, rfl⟩, trivial⟩, [], sn9, ?_⟩
 exact congrArg (fun s : Span => Value.agg (List.toArray s.cells)) (ZlX om9 p17 p27 om9)

theorem Za8 {G : GH} (alo : Str) (ahi : Str) (ao : Bool) (blo : Str) (bhi : Str) (bo : Bool) :
    Fc Tryz.prog 62 [.agg #[sV alo.b, sV ahi.b, .bool ao], .agg #[sV blo.b, sV bhi.b, .bool bo]] G [] (fun v _ _ => v = .agg (List.toArray ((Span.meet ⟨alo, ahi, ao⟩ ⟨blo, bhi, bo⟩ : Span).cells))) := by
 refine Fc.go [.cell 4 62] Tryz.func62 Tryz.ntmps62 rfl (fun w0 => (g9 2 ?_))
 refine W.box (L := [sV _, sV _, .bool _]) rfl rfl (fun b1 => (W.box (L := [sV _, sV _, .bool _]) rfl rfl (fun b2 => (W.alloc Zv (fun b3 => (g9 5 ?_))))))
 refine W.alloc Zv (fun b4 => (g9 10 ?_))
 refine W.qcall (Jr _ _) rfl (g9 2 ?_)
 refine WC.cond rfl (fun h11 => ?_) (fun h11 => ?_)
 ·refine g9 14 ?_
  refine W.sp 18 rfl (fun h17 => ?_) (fun h17 => ?_)
  ·refine g9 6 ?_
   refine W.sp 21 rfl (fun ha_ao => ?_) (fun ha_ao => ?_)
   ·refine g9 27 ?_
    refine W.qcall (Je _ _ _) rfl (g9 5 ?_)
    refine congrArg (fun l => Value.agg (List.toArray l)) ?_
    show [Value.string _, Value.string _, Value.bool _] = _
    simp_all [Span.meet, ZU] <;> rfl
   refine g9 9 ?_
   refine W.qcall (Jr _ _) rfl (g9 5 ?_)
   refine WC.cond rfl (fun h26 => ?_) (fun h26 => ?_)
   ·refine g9 16 ?_
    refine W.qcall (Je _ _ _) rfl (g9 5 ?_)
    refine congrArg (fun l => Value.agg (List.toArray l)) ?_
    show [Value.string _, Value.string _, Value.bool _] = _
    simp_all [Span.meet, ZU] <;> rfl
   refine g9 5 ?_
   refine W.qcall (Je _ _ _) rfl (g9 5 ?_)
   refine congrArg (fun l => Value.agg (List.toArray l)) ?_
   show [Value.string _, Value.string _, Value.bool _] = _
   simp_all [Span.meet, ZU] <;> rfl
  refine g9 18 ?_
  refine W.qcall (Je _ _ _) rfl (g9 5 ?_)
  refine congrArg (fun l => Value.agg (List.toArray l)) ?_
  show [Value.string _, Value.string _, Value.bool _] = _
  simp_all [Span.meet, ZU] <;> rfl
 refine g9 9 ?_
 refine W.sp 18 rfl (fun h17 => ?_) (fun h17 => ?_)
 ·refine g9 6 ?_
  refine W.sp 21 rfl (fun ha_ao => ?_) (fun ha_ao => ?_)
  ·refine g9 27 ?_
   refine W.qcall (Je _ _ _) rfl (g9 5 ?_)
   refine congrArg (fun l => Value.agg (List.toArray l)) ?_
   show [Value.string _, Value.string _, Value.bool _] = _
   simp_all [Span.meet, ZU] <;> rfl
  refine g9 9 ?_
  refine W.qcall (Jr _ _) rfl (g9 5 ?_)
  refine WC.cond rfl (fun h26 => ?_) (fun h26 => ?_)
  ·refine g9 16 ?_
   refine W.qcall (Je _ _ _) rfl (g9 5 ?_)
   refine congrArg (fun l => Value.agg (List.toArray l)) ?_
   show [Value.string _, Value.string _, Value.bool _] = _
   simp_all [Span.meet, ZU] <;> rfl
  refine g9 5 ?_
  refine W.qcall (Je _ _ _) rfl (g9 5 ?_)
  refine congrArg (fun l => Value.agg (List.toArray l)) ?_
  show [Value.string _, Value.string _, Value.bool _] = _
  simp_all [Span.meet, ZU] <;> rfl
 refine g9 18 ?_
 refine W.qcall (Je _ _ _) rfl (g9 5 ?_)
 refine congrArg (fun l => Value.agg (List.toArray l)) ?_
 show [Value.string _, Value.string _, Value.bool _] = _
 simp_all [Span.meet, ZU] <;> rfl

theorem J5 {G : GH} (alo : Str) (ahi : Str) (ao : Bool) (blo : Str) (bhi : Str) (bo : Bool) :
    Fc Tryz.prog 101 [.agg #[sV alo.b, sV ahi.b, .bool ao], .agg #[sV blo.b, sV bhi.b, .bool bo]] G [] (fun v _ _ => v = .agg (List.toArray ((Span.meet ⟨alo, ahi, ao⟩ ⟨blo, bhi, bo⟩ : Span).cells))) := by
 refine Fc.go [.cell 4 62] Tryz.func101 Tryz.ntmps101 rfl (fun w0 => (g9 2 ?_))
 refine W.box (L := [sV _, sV _, .bool _]) rfl rfl (fun b5 => (W.box (L := [sV _, sV _, .bool _]) rfl rfl (fun b6 => (W.alloc Zv (fun b7 => (g9 8 ?_))))))
 refine W.ok (ZuF rfl rfl) (g9 3 ?_)
 refine W.sp 13 rfl (fun ha_ao => ?_) (fun ha_ao => ?_)
 ·refine g9 5 ?_
  refine W.ok (Zw (L := [sV _, sV _, .bool _]) Y0 Zv rfl rfl rfl) (W.alloc Zv (fun b8 => (g9 24 ?_)))
  refine W.qcall (ZaF _ _ _) rfl (g9 5 ?_)
  refine congrArg (fun l => Value.agg (List.toArray l)) ?_
  show [Value.string _, Value.string _, Value.bool _] = _
  rw [← ZeB]
  simp_all [ZU] <;> rfl
 refine g9 3 ?_
 refine W.ok (Zw (L := [sV _, sV _, .bool _]) Y0 Zv rfl rfl rfl) (W.alloc Zv (fun b9 => (g9 20 ?_)))
 refine WC.cond rfl (fun ha_bo => ?_) (fun ha_bo => ?_)
 ·refine g9 11 ?_
  refine W.qcall (ZaF _ _ _) rfl (g9 5 ?_)
  refine congrArg (fun l => Value.agg (List.toArray l)) ?_
  show [Value.string _, Value.string _, Value.bool _] = _
  rw [← ZeB]
  simp_all [ZU] <;> rfl
 refine g9 5 ?_
 refine W.ok (ZuG rfl rfl) (g9 8 ?_)
 refine W.qcall (ZaF _ _ _) rfl (g9 5 ?_)
 refine congrArg (fun l => Value.agg (List.toArray l)) ?_
 show [Value.string _, Value.string _, Value.bool _] = _
 rw [← ZeB]
 simp_all [ZU] <;> rfl

theorem ZoH {G : GH} (k : Str) (hk : k.b.size < 140737488355328) :
    Fc Tryz.prog 147 [sV k.b] G [] (fun v _ _ => v = sV (Str.b (k.next))) := by
 refine Fc.go [.tmp 2] Tryz.func147 Tryz.ntmps147 rfl (fun w0 => (g9 8 ?_))
 refine W.ok (Zbt rfl rfl (by show _ + 1 ≤ _; omega)) (g9 5 ?_)
 refine congrArg Value.string ?_
 exact (Str.next_b hk).symm

theorem Zh3 {G : GH} (k : Str) (hk : k.b.size < 140737488355328) :
    Fc Tryz.prog 103 [sV k.b] G [] (fun v _ _ => v = .agg (List.toArray ((⟨k, k.next, false⟩ : Span).cells))) := by
 refine Fc.go [.cell 2 62] Tryz.func103 Tryz.ntmps103 rfl (fun w0 => (g9 2 ?_))
 refine W.alloc Zv (fun b10 => (g9 6 ?_))
 refine W.qcall (ZoH _ (by first | assumption | omega | (dsimp only; omega))) rfl (W.ok (Zw (L := [sV _, sV _, .bool _]) Y0 Zv rfl rfl rfl) (g9 5 ?_))
 rfl

theorem Zcz {G : GH} (ms : Int) (mk : Int) (mkey : Str) (mhi : Str) (mo : Bool) (mv : Str) (hk : mkey.b.size < 140737488355328) :
    Fc Tryz.prog 137 [.agg #[iV ms, iV mk, sV mkey.b, sV mhi.b, .bool mo, sV mv.b]] G [] (fun v _ _ => v = .agg (List.toArray ((Msg.span (⟨ms, mk, mkey, mhi, mo, mv⟩ : Msg) : Span).cells))) := by
 refine Fc.go [.cell 2 62] Tryz.func137 Tryz.ntmps137 rfl (fun w0 => (g9 2 ?_))
 refine W.box (L := [iV _, iV _, sV _, sV _, .bool _, sV _]) rfl rfl (fun b11 => (W.alloc Zv (fun b12 => (g9 10 ?_))))
 refine WC.cd (fun h5 p5 => ?_) (fun h5 p5 => ?_)
 ·refine g9 8 ?_
  refine W.ok (Zw (L := [sV _, sV _, .bool _]) Y0 Zv rfl rfl rfl) (g9 6 ?_)
  refine congrArg (fun l => Value.agg (List.toArray l)) ?_
  rw [Msg.span, if_pos p5]; rfl
 refine g9 6 ?_
 refine W.qcall (Zh3 _ (by first | assumption | omega | (dsimp only; omega))) rfl (g9 5 ?_)
 refine congrArg (fun l => Value.agg (List.toArray l)) ?_
 rw [Msg.span, if_neg p5] <;> simp [Span.cells, Str.next_b hk, ZU]

theorem ZaH {G : GH} (ms : Int) (mk : Int) (mkey : Str) (mhi : Str) (mo : Bool) (mv : Str) (hk : mkey.b.size < 140737488355328) :
    Fc Tryz.prog 90 [.agg #[iV ms, iV mk, sV mkey.b, sV mhi.b, .bool mo, sV mv.b]] G [] (fun v _ _ => v = .agg (List.toArray ((Msg.span (⟨ms, mk, mkey, mhi, mo, mv⟩ : Msg) : Span).cells))) := by
 refine Fc.go [.cell 2 62] Tryz.func90 Tryz.ntmps90 rfl (fun w0 => (g9 2 ?_))
 refine W.box (L := [iV _, iV _, sV _, sV _, .bool _, sV _]) rfl rfl (fun b13 => (W.alloc Zv (fun b14 => (g9 10 ?_))))
 refine WC.cd (fun h5 p5 => ?_) (fun h5 p5 => ?_)
 ·refine g9 8 ?_
  refine W.ok (Zw (L := [sV _, sV _, .bool _]) Y0 Zv rfl rfl rfl) (g9 6 ?_)
  refine congrArg (fun l => Value.agg (List.toArray l)) ?_
  rw [Msg.span, if_pos p5]; rfl
 refine g9 8 ?_
 refine W.ok (Zbt rfl rfl (by show _ + 1 ≤ _; omega)) (W.ok (Zw (L := [sV _, sV _, .bool _]) Y0 Zv rfl rfl rfl) (g9 5 ?_))
 refine congrArg (fun l => Value.agg (List.toArray l)) ?_
 rw [Msg.span, if_neg p5] <;> simp [Span.cells, Str.next_b hk, ZU]

theorem ZoI {G : GH} (alo : Str) (ahi : Str) (ao : Bool) (blo : Str) (bhi : Str) (bo : Bool) :
    Fc Tryz.prog 127 [.agg #[sV alo.b, sV ahi.b, .bool ao], .agg #[sV blo.b, sV bhi.b, .bool bo]] G [] (fun v _ _ => v = .bool (!(Span.meet ⟨alo, ahi, ao⟩ ⟨blo, bhi, bo⟩).empty)) := by
 refine Fc.go [.tmp 4] Tryz.func127 Tryz.ntmps127 rfl (fun w0 => (g9 2 ?_))
 refine W.box (L := [sV _, sV _, .bool _]) rfl rfl (fun b15 => (W.box (L := [sV _, sV _, .bool _]) rfl rfl (fun b16 => (g9 7 ?_))))
 refine W.qcall (J5 _ _ _ _ _ _) rfl (W.qcall (Zcy _ _ _) rfl (g9 6 ?_))
 rfl

theorem ZoJ {G : GH} (ms : Int) (mk : Int) (mkey : Str) (mhi : Str) (mo : Bool) (mv : Str) (alo : Str) (ahi : Str) (ao : Bool) (hk : mkey.b.size < 140737488355328) :
    Fc Tryz.prog 240 [.agg #[iV ms, iV mk, sV mkey.b, sV mhi.b, .bool mo, sV mv.b], .agg #[sV alo.b, sV ahi.b, .bool ao]] G [] (fun v _ _ => v = .bool (!((Msg.span (⟨ms, mk, mkey, mhi, mo, mv⟩ : Msg)).meet ⟨alo, ahi, ao⟩).empty)) := by
 refine Fc.go [.tmp 4] Tryz.func240 Tryz.ntmps240 rfl (fun w0 => (g9 2 ?_))
 refine W.box (L := [iV _, iV _, sV _, sV _, .bool _, sV _]) rfl rfl (fun b17 => (W.box (L := [sV _, sV _, .bool _]) rfl rfl (fun b18 => (g9 6 ?_))))
 refine W.qcall (Zcz _ _ _ _ _ _ (by first | assumption | omega | (dsimp only; omega))) rfl (g9 1 ?_)
 refine W.qcall (ZoI _ _ _ _ _ _) rfl (g9 5 ?_)
 rfl

theorem ZoK {G : GH} (ms : Int) (mk : Int) (mkey : Str) (mhi : Str) (mo : Bool) (mv : Str) :
    Fc Tryz.prog 196 [.agg #[iV ms, iV mk, sV mkey.b, sV mhi.b, .bool mo, sV mv.b]] G [] (fun v _ _ => v = iV (Msg.size (⟨ms, mk, mkey, mhi, mo, mv⟩ : Msg))) := by
 have h1 := mkey.le
 have h2 := mv.le
 refine Fc.go [.tmp 2] Tryz.func196 Tryz.ntmps196 rfl (fun w0 => (g9 2 ?_))
 refine W.box (L := [iV _, iV _, sV _, sV _, .bool _, sV _]) rfl rfl (fun b19 => (g9 11 ?_))
 refine WC.cd (fun h5 p5 => ?_) (fun h5 p5 => ?_)
 ·refine g9 8 ?_
  refine congrArg (Value.int .i64) ?_
  rw [Msg.size, if_pos p5]
 refine g9 17 ?_
 refine congrArg (Value.int .i64) ?_
 rw [Msg.size, if_neg p5]

theorem Zh4 {G : GH} (ms : Int) (mk : Int) (mkey : Str) (mhi : Str) (mo : Bool) (mv : Str) (alo : Str) (ahi : Str) (ao : Bool) (hk : mkey.b.size < 140737488355328) :
    Fc Tryz.prog 115 [.agg #[iV ms, iV mk, sV mkey.b, sV mhi.b, .bool mo, sV mv.b], .agg #[sV alo.b, sV ahi.b, .bool ao]] G [] (fun v _ _ => v = .tuple #[.agg (List.toArray ((Msg.clip (⟨ms, mk, mkey, mhi, mo, mv⟩ : Msg) ⟨alo, ahi, ao⟩).1.cells)), .bool ((Msg.clip (⟨ms, mk, mkey, mhi, mo, mv⟩ : Msg) ⟨alo, ahi, ao⟩).2)]) := by
 refine Fc.go [.cell 4 87, .tmp 5] Tryz.func115 Tryz.ntmps115 rfl (fun w0 => (g9 2 ?_))
 refine W.box (L := [iV _, iV _, sV _, sV _, .bool _, sV _]) rfl rfl (fun b20 => (W.box (L := [sV _, sV _, .bool _]) rfl rfl (fun b21 => (W.alloc ZJ (fun b22 => (g9 4 ?_))))))
 refine WC.dw ((sr9.k9.k9).k9) (d9 [0, 2] ?_)
 refine WD.any [1, 4] (by kernel_rfl) rfl ⟨WD.ap ?_, WD.ap ?_, trivial⟩
 ·refine W.qcall (ZaH _ _ _ _ _ _ (by first | assumption | omega | (dsimp only; omega))) rfl (W.nn ?_)
  refine WD.any [3, 4] (by kernel_rfl) rfl ⟨WD.ap ?_, WD.ap ?_, trivial⟩
  ·refine W.qcall (Za8 _ _ _ _ _ _) rfl (W.nn (WD.a1 4 rfl (W.alloc Zv (fun b23 => (W.nn (d9 [5] ?_))))))
   refine g9 6 ?_
   refine W.qcall (ZaE _ _ _) rfl (g9 2 ?_)
   refine WC.cond rfl (fun h12 => ?_) (fun h12 => ?_)
   ·refine g9 2 ?_
    refine W.ok (Zw (L := [iV _, iV _, sV _, sV _, .bool _, sV _]) Za5 ZJ rfl rfl rfl) (g9 7 ?_)
    show Value.tuple #[Value.agg (List.toArray [_, _, _, _, _, _]), Value.bool _] = _
    rw [X7 h12]; rfl
   refine g9 10 ?_
   refine WC.cd (fun h16 p16 => ?_) (fun h16 p16 => ?_)
   ·refine g9 32 ?_
    show Value.tuple #[Value.agg (List.toArray [_, _, _, _, _, _]), Value.bool _] = _
    rw [X8 h12 p16]; rfl
   refine g9 11 ?_
   show Value.tuple #[Value.agg (List.toArray [_, _, _, _, _, _]), Value.bool _] = _
   rw [ZaT h12 p16]; rfl
  refine W.alloc Zv (fun b24 => (W.nn (WD.a1 3 rfl (W.qcall (Za8 _ _ _ _ _ _) rfl (W.nn (d9 [5] ?_))))))
  refine g9 6 ?_
  refine W.qcall (ZaE _ _ _) rfl (g9 2 ?_)
  refine WC.cond rfl (fun h12 => ?_) (fun h12 => ?_)
  ·refine g9 2 ?_
   refine W.ok (Zw (L := [iV _, iV _, sV _, sV _, .bool _, sV _]) Za5 ZJ rfl rfl rfl) (g9 7 ?_)
   show Value.tuple #[Value.agg (List.toArray [_, _, _, _, _, _]), Value.bool _] = _
   rw [X7 h12]; rfl
  refine g9 10 ?_
  refine WC.cd (fun h16 p16 => ?_) (fun h16 p16 => ?_)
  ·refine g9 32 ?_
   show Value.tuple #[Value.agg (List.toArray [_, _, _, _, _, _]), Value.bool _] = _
   rw [X8 h12 p16]; rfl
  refine g9 11 ?_
  show Value.tuple #[Value.agg (List.toArray [_, _, _, _, _, _]), Value.bool _] = _
  rw [ZaT h12 p16]; rfl
 refine W.alloc Zv (fun b25 => (W.nn (WD.a1 1 rfl (W.qcall (ZaH _ _ _ _ _ _ (by first | assumption | omega | (dsimp only; omega))) rfl (W.nn (WD.a1 3 rfl (W.qcall (Za8 _ _ _ _ _ _) rfl (W.nn (d9 [5] ?_)))))))))
 refine g9 6 ?_
 refine W.qcall (ZaE _ _ _) rfl (g9 2 ?_)
 refine WC.cond rfl (fun h12 => ?_) (fun h12 => ?_)
 ·refine g9 2 ?_
  refine W.ok (Zw (L := [iV _, iV _, sV _, sV _, .bool _, sV _]) Za5 ZJ rfl rfl rfl) (g9 7 ?_)
  show Value.tuple #[Value.agg (List.toArray [_, _, _, _, _, _]), Value.bool _] = _
  rw [X7 h12]; rfl
 refine g9 10 ?_
 refine WC.cd (fun h16 p16 => ?_) (fun h16 p16 => ?_)
 ·refine g9 32 ?_
  show Value.tuple #[Value.agg (List.toArray [_, _, _, _, _, _]), Value.bool _] = _
  rw [X8 h12 p16]; rfl
 refine g9 11 ?_
 show Value.tuple #[Value.agg (List.toArray [_, _, _, _, _, _]), Value.bool _] = _
 rw [ZaT h12 p16]; rfl

theorem Ze9 {G : GH} (ms : Int) (mk : Int) (mkey : Str) (mhi : Str) (mo : Bool) (mv : Str) (alo : Str) (ahi : Str) (ao : Bool) (hk : mkey.b.size < 140737488355328) :
    Fc Tryz.prog 212 [.agg #[iV ms, iV mk, sV mkey.b, sV mhi.b, .bool mo, sV mv.b], .agg #[sV alo.b, sV ahi.b, .bool ao]] G [] (fun v _ _ => v = .tuple #[.agg (List.toArray ((Msg.clip (⟨ms, mk, mkey, mhi, mo, mv⟩ : Msg) ⟨alo, ahi, ao⟩).1.cells)), .bool ((Msg.clip (⟨ms, mk, mkey, mhi, mo, mv⟩ : Msg) ⟨alo, ahi, ao⟩).2)]) := by
 refine Fc.go [.cell 4 87, .tmp 5] Tryz.func212 Tryz.ntmps212 rfl (fun w0 => (g9 2 ?_))
 refine W.box (L := [iV _, iV _, sV _, sV _, .bool _, sV _]) rfl rfl (fun b26 => (W.box (L := [sV _, sV _, .bool _]) rfl rfl (fun b27 => (W.alloc ZJ (fun b28 => (g9 8 ?_))))))
 refine W.qcall (ZoJ _ _ _ _ _ _ _ _ _ (by first | assumption | omega | (dsimp only; omega))) rfl (g9 3 ?_)
 refine WC.cond rfl (fun h10 => ?_) (fun h10 => ?_)
 ·refine g9 2 ?_
  refine W.ok (Zw (L := [iV _, iV _, sV _, sV _, .bool _, sV _]) Za5 ZJ rfl rfl rfl) (g9 7 ?_)
  show Value.tuple #[Value.agg (List.toArray [_, _, _, _, _, _]), Value.bool _] = _
  rw [X7 (by simpa using h10)]; rfl
 refine g9 10 ?_
 refine WC.cd (fun h14 p14 => ?_) (fun h14 p14 => ?_)
 ·refine WC.seq (WC.dw ((sr9.k9.k9).k9) (d9 [0, 2] ?_))
  refine WD.any [1, 4] (by kernel_rfl) rfl ⟨WD.ap ?_, WD.ap ?_, trivial⟩
  ·refine W.qcall (Zcz _ _ _ _ _ _ (by first | assumption | omega | (dsimp only; omega))) rfl (W.nn ?_)
   refine WD.any [3, 4] (by kernel_rfl) rfl ⟨WD.ap ?_, WD.ap ?_, trivial⟩
   ·refine W.qcall (J5 _ _ _ _ _ _) rfl (W.nn (WD.a1 4 rfl (W.alloc Zv (fun b29 => (W.nn (d9 [5] ?_))))))
    refine g9 2 ?_
    refine WC.dw ((((sr9.cons _).k9).k9).k9) (d9 [0, 1, 2, 3, 4, 5, 6, 7, 8, 9, 10, 11] ?_)
    refine g9 11 ?_
    show Value.tuple #[Value.agg (List.toArray [_, _, _, _, _, _]), Value.bool _] = _
    rw [X8 (by simpa using h10) p14]; rfl
   refine W.alloc Zv (fun b30 => (W.nn (WD.a1 3 rfl (W.qcall (J5 _ _ _ _ _ _) rfl (W.nn (d9 [5] ?_))))))
   refine g9 2 ?_
   refine WC.dw ((((sr9.cons _).k9).k9).k9) (d9 [0, 1, 2, 3, 4, 5, 6, 7, 8, 9, 10, 11] ?_)
   refine g9 11 ?_
   show Value.tuple #[Value.agg (List.toArray [_, _, _, _, _, _]), Value.bool _] = _
   rw [X8 (by simpa using h10) p14]; rfl
  refine W.alloc Zv (fun b31 => (W.nn (WD.a1 1 rfl (W.qcall (Zcz _ _ _ _ _ _ (by first | assumption | omega | (dsimp only; omega))) rfl (W.nn (WD.a1 3 rfl (W.qcall (J5 _ _ _ _ _ _) rfl (W.nn (d9 [5] ?_)))))))))
  refine g9 2 ?_
  refine WC.dw ((((sr9.cons _).k9).k9).k9) (d9 [0, 1, 2, 3, 4, 5, 6, 7, 8, 9, 10, 11] ?_)
  refine g9 11 ?_
  show Value.tuple #[Value.agg (List.toArray [_, _, _, _, _, _]), Value.bool _] = _
  rw [X8 (by simpa using h10) p14]; rfl
 refine g9 11 ?_
 show Value.tuple #[Value.agg (List.toArray [_, _, _, _, _, _]), Value.bool _] = _
 rw [ZaT (by simpa using h10) p14]; rfl

theorem ZoL {G : GH} (s : Str) :
    Fc Tryz.prog 239 [sV s.b] G [] (fun v _ _ => v = sV (Str.b (s.tail))) := by
 have hs := s.le
 refine Fc.go [.tmp 2] Tryz.func239 Tryz.ntmps239 rfl (fun w0 => (g9 11 ?_))
 refine W.ok (Zen rfl rfl) (W.ok (ZgS (s.b.size - 16) (s.b.size) st9 rfl ⟨_, _, rfl, om9⟩ rfl ⟨om9, om9⟩) (g9 5 ?_))
 rfl

theorem Zh5 {G : GH} (a : Str) (b : Str) (ha : a.b.size ≤ 1048576) (hb : b.b.size ≤ 1048576) :
    Fc Tryz.prog 210 [sV a.b, sV b.b] G [] (fun v _ _ => v = sV (Str.b (a.add b))) := by
 refine Fc.go [.tmp 4] Tryz.func210 Tryz.ntmps210 rfl (fun w0 => (g9 9 ?_))
 refine W.ok (Ok.str (b := (a.cat b).b) (Zbt rfl rfl om9) ((Str.cat_b om9).symm)) (W.qcall (ZoL _) rfl (g9 5 ?_))
 exact congrArg (fun s => Value.string (Str.b s)) (Str.cat_tail om9)

theorem Zh6 {G : GH} (s : Str) :
    Fc Tryz.prog 179 [sV s.b] G [] (fun v _ _ => v = sV (Str.b (s.tail))) := by
 have hs := s.le
 refine Fc.go [.tmp 2] Tryz.func179 Tryz.ntmps179 rfl (fun w0 => (g9 20 ?_))
 refine WC.loop (X := Nat) (fun k => [(3, sV (s.cut (s.b.size - k) s.b.size).b), (4, iV ((s.b.size : Int) - 1 - ((k : Nat) : Int))), (0, sV s.b)]) (fun k _ Ml => Ml = [] ∧ k ≤ s.b.size ∧ k ≤ 16) (fun k => 17 - k) 0 ⟨(congrArg Value.string (Str.cut_nil om9).symm), (iv om9), eqv, trivial⟩ ?_ ?_
 ·exact ⟨rfl, om9, om9⟩
 rintro k gG1 G1 _ hG1 ⟨rfl, hk, hk16⟩
 have hz := s.cut_size (s.b.size - k) s.b.size
 refine g9 6 ?_
 refine W.sd 10 (fun h9 p9 => ?_) (fun h9 p9 => ?_)
 ·refine g9 9 ?_
  refine WC.cd (fun h13 p13 => ?_) (fun h13 p13 => ?_)
  ·refine g9 9 ?_
   refine W.ok (ZgS (s.b.size - 1 - k) (s.b.size - k) st9 rfl ⟨_, _, rfl, om9⟩ ⟨_, _, rfl, om9⟩ ⟨om9, om9⟩) (W.mv (W.ok (Zbt rfl rfl (by simp only [Str.cut_size]; omega)) (g9 10 ?_)))
   exact ⟨Le.rfl, k + 1, ⟨(congrArg Value.string (Str.cut_cat om9)), (iv om9), eqv, trivial⟩, ⟨rfl, om9, om9⟩, om9⟩
  refine g9 13 ?_
  have hk2 : s.b.size - k = s.b.size - 16 := by simp only [Str.cut_size] at *; omega
  rw [hk2]; rfl
 refine g9 20 ?_
 have hk2 : s.b.size - k = s.b.size - 16 := by simp only [Str.cut_size] at *; omega
 rw [hk2]; rfl

theorem Zh7 {G : GH} (s : Str) :
    Fc Tryz.prog 91 [sV s.b] G [] (fun v _ _ => v = .bool (decide (s.b.size ≤ 16))) := by
 have hs := s.le
 refine Fc.go [.tmp 2] Tryz.func91 Tryz.ntmps91 rfl (fun w0 => (g9 15 ?_))
 refine congrArg Value.bool ?_
 rw [decide_eq_decide]; omega

theorem ZoM {G : GH} (s : Str) :
    Fc Tryz.prog 92 [sV s.b] G [] (fun v _ _ => v = .bool (decide (s.b.size ≤ 16))) := by
 have hs := s.le
 refine Fc.go [.tmp 2] Tryz.func92 Tryz.ntmps92 rfl (fun w0 => (g9 15 ?_))
 refine congrArg Value.bool ?_
 rw [decide_eq_decide]; omega

theorem ZoN {G : GH} (ek : Int) (ev : Str) (has : Bool) (x : Str) (he : ev.b.size ≤ 1048576) (hv : x.b.size ≤ 1048576) :
    Fc Tryz.prog 141 [.agg #[iV ek, sV ev.b], .bool has, sV x.b] G [] (fun v _ _ => v = .tuple #[.bool (((Eff.apply (⟨ek, ev⟩ : Eff) (Z7 has x))).isSome), sV (Str.b (((Eff.apply (⟨ek, ev⟩ : Eff) (Z7 has x))).getD Str.nil))]) := by
 refine Fc.go [.tmp 6, .tmp 7] Tryz.func141 Tryz.ntmps141 rfl (fun w0 => (g9 2 ?_))
 refine W.box (L := [iV _, sV _]) rfl rfl (fun b2 => (g9 12 ?_))
 refine WC.cd (fun h10 p10 => ?_) (fun h10 p10 => ?_)
 ·refine g9 11 ?_
  show Value.tuple #[Value.bool _, Value.string _] = _
  simp_all [Eff.apply, Z7, Str.nil]
 refine g9 10 ?_
 refine WC.cd (fun h15 p15 => ?_) (fun h15 p15 => ?_)
 ·refine g9 9 ?_
  show Value.tuple #[Value.bool _, Value.string _] = _
  simp_all [Eff.apply, Z7, Str.nil]
 refine g9 9 ?_
 refine WC.cond rfl (fun h17 => ?_) (fun h17 => ?_)
 ·refine g9 12 ?_
  refine WC.cd (fun h20 p20 => ?_) (fun h20 p20 => ?_)
  ·refine g9 5 ?_
   refine W.ok (Ok.str (b := (Str.nil.cat ev).b) (Zbt rfl rfl ((by first | omega | (show 0 + ev.b.size ≤ _; omega)))) ((Str.cat_b (a := Str.nil) (by first | omega | (show 0 + ev.b.size ≤ _; omega))).symm)) (W.qcall (Zh6 _) rfl (g9 7 ?_))
   show Value.tuple #[Value.bool _, Value.string _] = _
   rw [Str.cat_tail (by first | omega | (show 0 + ev.b.size ≤ _; omega))]
   simp_all [Eff.apply, Z7, Str.nil]
  refine g9 12 ?_
  show Value.tuple #[Value.bool _, Value.string _] = _
  simp_all [Eff.apply, Z7, Str.nil]
 refine g9 10 ?_
 refine WC.cd (fun h20 p20 => ?_) (fun h20 p20 => ?_)
 ·refine g9 5 ?_
  refine W.ok (Ok.str (b := (x.cat ev).b) (Zbt rfl rfl ((by first | omega | (show 0 + ev.b.size ≤ _; omega)))) ((Str.cat_b om9).symm)) (W.qcall (Zh6 _) rfl (g9 7 ?_))
  show Value.tuple #[Value.bool _, Value.string _] = _
  rw [Str.cat_tail (by first | omega | (show 0 + ev.b.size ≤ _; omega))]
  simp_all [Eff.apply, Z7, Str.nil]
 refine g9 12 ?_
 show Value.tuple #[Value.bool _, Value.string _] = _
 simp_all [Eff.apply, Z7, Str.nil]

theorem Zdj {G : GH} (ek : Int) (ev : Str) (has : Bool) (x : Str) (he : ev.b.size ≤ 1048576) (hv : x.b.size ≤ 1048576) :
    Fc Tryz.prog 181 [.agg #[iV ek, sV ev.b], .bool has, sV x.b] G [] (fun v _ _ => v = .tuple #[.bool (((Eff.apply (⟨ek, ev⟩ : Eff) (Z7 has x))).isSome), sV (Str.b (((Eff.apply (⟨ek, ev⟩ : Eff) (Z7 has x))).getD Str.nil))]) := by
 refine Fc.go [.tmp 6, .tmp 7] Tryz.func181 Tryz.ntmps181 rfl (fun w0 => (g9 2 ?_))
 refine W.box (L := [iV _, sV _]) rfl rfl (fun b3 => (g9 11 ?_))
 refine WC.cond rfl (fun h9 => ?_) (fun h9 => ?_)
 ·refine g9 18 ?_
  refine WC.cd (fun h13 p13 => ?_) (fun h13 p13 => ?_)
  ·refine g9 12 ?_
   show Value.tuple #[Value.bool _, Value.string _] = _
   simp_all [Eff.apply, Z7, Str.nil]
  refine g9 6 ?_
  refine WC.cd (fun h17 p17 => ?_) (fun h17 p17 => ?_)
  ·refine g9 5 ?_
   refine W.qcall (Zh5 Str.nil ev (by show 0 ≤ 1048576; omega) (by assumption)) rfl (g9 8 ?_)
   show Value.tuple #[Value.bool _, Value.string _] = _
   simp_all [Eff.apply, Z7, Str.nil]
  refine g9 6 ?_
  refine WC.cd (fun h23 p23 => ?_) (fun h23 p23 => ?_)
  ·refine g9 10 ?_
   show Value.tuple #[Value.bool _, Value.string _] = _
   simp_all [Eff.apply, Z7, Str.nil]
  refine g9 13 ?_
  show Value.tuple #[Value.bool _, Value.string _] = _
  simp_all [Eff.apply, Z7, Str.nil]
 refine g9 16 ?_
 refine WC.cd (fun h13 p13 => ?_) (fun h13 p13 => ?_)
 ·refine g9 12 ?_
  show Value.tuple #[Value.bool _, Value.string _] = _
  simp_all [Eff.apply, Z7, Str.nil]
 refine g9 6 ?_
 refine WC.cd (fun h17 p17 => ?_) (fun h17 p17 => ?_)
 ·refine g9 5 ?_
  refine W.qcall (Zh5 x ev (by assumption) (by assumption)) rfl (g9 8 ?_)
  show Value.tuple #[Value.bool _, Value.string _] = _
  simp_all [Eff.apply, Z7, Str.nil]
 refine g9 6 ?_
 refine WC.cd (fun h23 p23 => ?_) (fun h23 p23 => ?_)
 ·refine g9 10 ?_
  show Value.tuple #[Value.bool _, Value.string _] = _
  simp_all [Eff.apply, Z7, Str.nil]
 refine g9 13 ?_
 show Value.tuple #[Value.bool _, Value.string _] = _
 simp_all [Eff.apply, Z7, Str.nil]

theorem Zdk {G : GH} (ms : Int) (mk : Int) (mkey : Str) (mhi : Str) (mo : Bool) (mv : Str) (k : Str) (hk : mkey.b.size < 140737488355328) :
    Fc Tryz.prog 80 [.agg #[iV ms, iV mk, sV mkey.b, sV mhi.b, .bool mo, sV mv.b], sV k.b] G [] (fun v _ _ => v = .agg (List.toArray ((Msg.on (⟨ms, mk, mkey, mhi, mo, mv⟩ : Msg) k).cells))) := by
 refine Fc.go [.cell 4 132] Tryz.func80 Tryz.ntmps80 rfl (fun w0 => (g9 2 ?_))
 refine W.box (L := [iV _, iV _, sV _, sV _, .bool _, sV _]) rfl rfl (fun b4 => (W.alloc XB (fun b5 => (g9 6 ?_))))
 refine W.qcall (Zcz _ _ _ _ _ _ (by first | assumption | omega | (dsimp only; omega))) rfl (W.mv (W.qcall (Zdi _ _ _ _) rfl (g9 3 ?_)))
 refine WC.cond rfl (fun h9 => ?_) (fun h9 => ?_)
 ·refine g9 2 ?_
  refine W.ok (Zw (L := [iV _, sV _]) Jd XB rfl rfl rfl) (g9 6 ?_)
  refine congrArg (fun l => Value.agg (List.toArray l)) ?_
  show [Value.int _ _, Value.string _] = _
  first | (simp_all [Msg.on, Eff.cells, Eff.zero, Str.nil]; done) | (simp_all [Msg.on, Eff.cells, Eff.zero, Str.nil]; split <;> first | (exfalso; omega) | (simp; done) | (split <;> first | (exfalso; omega) | (simp; done)))
 refine g9 17 ?_
 refine WC.cd (fun h14 p14 => ?_) (fun h14 p14 => ?_)
 ·refine g9 9 ?_
  refine W.ok (Zw (L := [iV _, sV _]) Jd XB rfl rfl rfl) (g9 7 ?_)
  refine congrArg (fun l => Value.agg (List.toArray l)) ?_
  show [Value.int _ _, Value.string _] = _
  first | (simp_all [Msg.on, Eff.cells, Eff.zero, Str.nil]; done) | (simp_all [Msg.on, Eff.cells, Eff.zero, Str.nil]; split <;> first | (exfalso; omega) | (simp; done) | (split <;> first | (exfalso; omega) | (simp; done)))
 refine g9 5 ?_
 refine WC.cd (fun h15 p15 => ?_) (fun h15 p15 => ?_)
 ·refine g9 6 ?_
  refine W.ok (Zw (L := [iV _, sV _]) Jd XB rfl rfl rfl) (g9 7 ?_)
  refine congrArg (fun l => Value.agg (List.toArray l)) ?_
  show [Value.int _ _, Value.string _] = _
  first | (simp_all [Msg.on, Eff.cells, Eff.zero, Str.nil]; done) | (simp_all [Msg.on, Eff.cells, Eff.zero, Str.nil]; split <;> first | (exfalso; omega) | (simp; done) | (split <;> first | (exfalso; omega) | (simp; done)))
 refine g9 7 ?_
 refine WC.cd (fun h22 p22 => ?_) (fun h22 p22 => ?_)
 ·refine g9 5 ?_
  refine W.ok (Zw (L := [iV _, sV _]) Jd XB rfl rfl rfl) (g9 7 ?_)
  refine congrArg (fun l => Value.agg (List.toArray l)) ?_
  show [Value.int _ _, Value.string _] = _
  first | (simp_all [Msg.on, Eff.cells, Eff.zero, Str.nil]; done) | (simp_all [Msg.on, Eff.cells, Eff.zero, Str.nil]; split <;> first | (exfalso; omega) | (simp; done) | (split <;> first | (exfalso; omega) | (simp; done)))
 refine g9 5 ?_
 refine WC.cd (fun h23 p23 => ?_) (fun h23 p23 => ?_)
 ·refine g9 2 ?_
  refine W.ok (Zw (L := [iV _, sV _]) Jd XB rfl rfl rfl) (g9 7 ?_)
  refine congrArg (fun l => Value.agg (List.toArray l)) ?_
  show [Value.int _ _, Value.string _] = _
  first | (simp_all [Msg.on, Eff.cells, Eff.zero, Str.nil]; done) | (simp_all [Msg.on, Eff.cells, Eff.zero, Str.nil]; split <;> first | (exfalso; omega) | (simp; done) | (split <;> first | (exfalso; omega) | (simp; done)))
 refine g9 5 ?_
 refine W.ok (Zw (L := [iV _, sV _]) Jd XB rfl rfl rfl) (g9 5 ?_)
 refine congrArg (fun l => Value.agg (List.toArray l)) ?_
 show [Value.int _ _, Value.string _] = _
 first | (simp_all [Msg.on, Eff.cells, Eff.zero, Str.nil]; done) | (simp_all [Msg.on, Eff.cells, Eff.zero, Str.nil]; split <;> first | (exfalso; omega) | (simp; done) | (split <;> first | (exfalso; omega) | (simp; done)))

theorem ZoO {G : GH} (ms : Int) (mk : Int) (mkey : Str) (mhi : Str) (mo : Bool) (mv : Str) (k : Str) (hk : mkey.b.size < 140737488355328) :
    Fc Tryz.prog 89 [.agg #[iV ms, iV mk, sV mkey.b, sV mhi.b, .bool mo, sV mv.b], sV k.b] G [] (fun v _ _ => v = .agg (List.toArray ((Msg.on (⟨ms, mk, mkey, mhi, mo, mv⟩ : Msg) k).cells))) := by
 refine Fc.go [.cell 4 132] Tryz.func89 Tryz.ntmps89 rfl (fun w0 => (g9 2 ?_))
 refine W.box (L := [iV _, iV _, sV _, sV _, .bool _, sV _]) rfl rfl (fun b6 => (W.alloc XB (fun b7 => (g9 6 ?_))))
 refine W.qcall (ZaH _ _ _ _ _ _ (by first | assumption | omega | (dsimp only; omega))) rfl (W.mv (W.qcall (ZbI _ _ _ _) rfl (g9 2 ?_)))
 refine W.sp 10 rfl (fun h9 => ?_) (fun h9 => ?_)
 ·refine g9 14 ?_
  refine W.ok (Zw (L := [iV _, sV _]) Jd XB rfl rfl rfl) (g9 6 ?_)
  refine congrArg (fun l => Value.agg (List.toArray l)) ?_
  show [Value.int _ _, Value.string _] = _
  first | (simp_all [Msg.on, Eff.cells, Eff.zero, Str.nil]; done) | (simp_all [Msg.on, Eff.cells, Eff.zero, Str.nil]; split <;> first | (exfalso; omega) | (simp; done) | (split <;> first | (exfalso; omega) | (simp; done)))
 refine g9 8 ?_
 refine W.sd 15 (fun h13 p13 => ?_) (fun h13 p13 => ?_)
 ·refine g9 9 ?_
  refine W.ok (Zw (L := [iV _, sV _]) Jd XB rfl rfl rfl) (g9 6 ?_)
  refine congrArg (fun l => Value.agg (List.toArray l)) ?_
  show [Value.int _ _, Value.string _] = _
  first | (simp_all [Msg.on, Eff.cells, Eff.zero, Str.nil]; done) | (simp_all [Msg.on, Eff.cells, Eff.zero, Str.nil]; split <;> first | (exfalso; omega) | (simp; done) | (split <;> first | (exfalso; omega) | (simp; done)))
 refine g9 9 ?_
 refine WC.cd (fun h18 p18 => ?_) (fun h18 p18 => ?_)
 ·refine g9 2 ?_
  refine W.ok (Zw (L := [iV _, sV _]) Jd XB rfl rfl rfl) (g9 6 ?_)
  refine congrArg (fun l => Value.agg (List.toArray l)) ?_
  show [Value.int _ _, Value.string _] = _
  first | (simp_all [Msg.on, Eff.cells, Eff.zero, Str.nil]; done) | (simp_all [Msg.on, Eff.cells, Eff.zero, Str.nil]; split <;> first | (exfalso; omega) | (simp; done) | (split <;> first | (exfalso; omega) | (simp; done)))
 refine g9 10 ?_
 refine WC.cd (fun h23 p23 => ?_) (fun h23 p23 => ?_)
 ·refine g9 2 ?_
  refine W.ok (Zw (L := [iV _, sV _]) Jd XB rfl rfl rfl) (g9 6 ?_)
  refine congrArg (fun l => Value.agg (List.toArray l)) ?_
  show [Value.int _ _, Value.string _] = _
  first | (simp_all [Msg.on, Eff.cells, Eff.zero, Str.nil]; done) | (simp_all [Msg.on, Eff.cells, Eff.zero, Str.nil]; split <;> first | (exfalso; omega) | (simp; done) | (split <;> first | (exfalso; omega) | (simp; done)))
 refine g9 8 ?_
 refine W.ok (Zw (L := [iV _, sV _]) Jd XB rfl rfl rfl) (g9 5 ?_)
 refine congrArg (fun l => Value.agg (List.toArray l)) ?_
 show [Value.int _ _, Value.string _] = _
 first | (simp_all [Msg.on, Eff.cells, Eff.zero, Str.nil]; done) | (simp_all [Msg.on, Eff.cells, Eff.zero, Str.nil]; split <;> first | (exfalso; omega) | (simp; done) | (split <;> first | (exfalso; omega) | (simp; done)))

theorem Zdl {G : GH} {v_a : Value} {a : List Pair} (h_a : SlR Zi G v_a a) {v_b : Value} {b : List Pair} (h_b : SlR Zi G v_b b) :
    Fc Tryz.prog 17 [v_a, v_b] G [] (fun v _ _ => v = .bool (decide (a = b))) := by
 obtain ⟨sa_a, sc_a, rfl⟩ := h_a.form
 obtain ⟨sa_b, sc_b, rfl⟩ := h_b.form
 have ha := h_a.len47
 have hb := h_b.len47
 refine Fc.go [.tmp 4] Tryz.func17 Tryz.ntmps17 rfl (fun w0 => (g9 15 ?_))
 refine WC.cn (fun h10 p10 => ?_) (fun h10 p10 => ?_)
 ·refine g9 8 ?_
  refine congrArg Value.bool ?_
  exact (decide_eq_false fun e => by subst e; omega).symm
 have hab : a.length = b.length := by omega
 refine g9 9 ?_
 refine WC.loop (X := Nat) (fun k => [(5, nt9 k), (0, lV sa_a a.length sc_a), (1, lV sa_b b.length sc_b)]) (fun k _ Ml => Ml = [] ∧ k ≤ a.length ∧ ∀ i (h : i < a.length) (h2 : i < b.length), i < k → a[i] = b[i]) (fun k => a.length - k) 0 hs9 ?_ ?_
 ·exact ⟨rfl, om9, fun i _ _ h => by omega⟩
 rintro k gG1 G1 _ hG1 ⟨rfl, hk0, hk⟩
 refine g9 9 ?_
 refine WC.cd (fun h14 p14 => ?_) (fun h14 p14 => ?_)
 ·refine g9 8 ?_
  refine (h_a.mono hG1).a1 (i := k) om9 (fun he2 => (g9 4 ?_))
  refine (h_b.mono hG1).a1 (i := k) om9 (fun he5 => (g9 2 ?_))
  refine W.ok (ZlE (L1 := [sV _, sV _]) (L2 := [sV _, sV _]) ZnZ rfl rfl rfl rfl) (g9 2 ?_)
  refine WC.cond rfl (fun h25 => ?_) (fun h25 => ?_)
  ·refine g9 12 ?_
   refine congrArg Value.bool ?_
   exact (decide_eq_false fun e => by subst e; exact Pair.ne_of h25 rfl).symm
  refine g9 9 ?_
  exact ⟨Le.rfl, k + 1, hs9, ⟨rfl, om9, fun i h h2 hi => by
      by_cases e : i = k
      · subst e; exact Pair.eq_of h25
      · exact hk i h h2 om9⟩, om9⟩
 refine g9 12 ?_
 refine congrArg Value.bool ?_
 exact (decide_eq_true (List.ext_getElem om9 fun i h h2 => hk i h h2 om9)).symm

theorem ZoP {G : GH} {v_l : Value} {l : List Pair} (h_l : SlR Zi G v_l l) :
    Fc Tryz.prog 153 [v_l] G [] (fun v _ _ => v = .bool (decide (PairsR l))) := by
 obtain ⟨sa_l, sc_l, rfl⟩ := h_l.form
 have hl := h_l.len47
 refine Fc.go [.tmp 2] Tryz.func153 Tryz.ntmps153 rfl (fun w0 => (g9 12 ?_))
 refine WC.loop (X := Nat) (fun k => [(3, nt9 k), (0, lV sa_l l.length sc_l)]) (fun k _ Ml => Ml = [] ∧ ∀ i (h : i < l.length), i < k → (l[i].key.b.size ≤ 16 ∧ l[i].val.b.size ≤ 16) ∧ (0 < i → (l[i - 1]'om9).key.lt l[i].key = true)) (fun k => l.length - k) 0 hs9 ?_ ?_
 ·exact ⟨rfl, fun i _ h => by omega⟩
 rintro k gG8 G8 _ hG8 ⟨rfl, hk⟩
 refine g9 9 ?_
 refine WC.cd (fun h7 p7 => ?_) (fun h7 p7 => ?_)
 ·refine g9 8 ?_
  refine (h_l.mono hG8).a1 (i := k) om9 (fun he9 => (g9 6 ?_))
  refine W.sd 17 (fun h16 p16 => ?_) (fun h16 p16 => ?_)
  ·refine g9 42 ?_
   refine congrArg Value.bool ?_
   exact (decide_eq_false fun h => by have := h k om9; omega).symm
  refine g9 5 ?_
  refine (h_l.mono hG8).a1 (i := k) om9 (fun he12 => (g9 11 ?_))
  refine W.sd 26 (fun h24 p24 => ?_) (fun h24 p24 => ?_)
  ·refine g9 33 ?_
   refine congrArg Value.bool ?_
   exact (decide_eq_false fun h => by have := h k om9; omega).symm
  refine g9 6 ?_
  refine W.sd 29 (fun h28 p28 => ?_) (fun h28 p28 => ?_)
  ·refine g9 7 ?_
   refine (h_l.mono hG8).a1 (i := k - 1) om9 (fun he15 => (W.ok (ZX (i := k - 1) Zy Zz (h_l.mono hG8) rfl rfl ⟨om9, om9⟩) (g9 9 ?_)))
   refine (h_l.mono hG8).a1 (i := k) om9 (fun he18 => (g9 6 ?_))
   refine W.qcall (Jr _ _) rfl (g9 7 ?_)
   refine WC.cond rfl (fun h42 => ?_) (fun h42 => ?_)
   ·refine g9 12 ?_
    refine congrArg Value.bool ?_
    exact (decide_eq_false fun h => by have := h k om9; have h1 := this.2 om9; simp [h1] at h42).symm
   refine g9 9 ?_
   exact ⟨Le.rfl, k + 1, hs9, ⟨rfl, fun i h hi => by
      by_cases e : i = k
      · subst e; exact ⟨⟨om9, om9⟩, fun h0 => by simpa using h42⟩
      · exact hk i h om9⟩, om9⟩
  refine g9 28 ?_
  exact ⟨Le.rfl, k + 1, hs9, ⟨rfl, fun i h hi => by
      by_cases e : i = k
      · subst e; exact ⟨⟨om9, om9⟩, fun h0 => by omega⟩
      · exact hk i h om9⟩, om9⟩
 refine g9 12 ?_
 refine congrArg Value.bool ?_
 exact (decide_eq_true fun i h => hk i h om9).symm

theorem XS {G : GH} {v_a : Value} {a : List Pair} (h_a : SlR Zi G v_a a) :
    Fc Tryz.prog 146 [v_a] G [] (fun v G' M' => M' = [] ∧ ∃ u0, v = u0 ∧ SlR Zi G' u0 (a)) := by
 obtain ⟨sa_a, sc_a, rfl⟩ := h_a.form
 have ha := h_a.bytes
 refine Fc.go [.tmp 2] Tryz.func146 Tryz.ntmps146 rfl (fun w0 => (g9 9 ?_))
 refine W.ok (ZaQ Zy rfl rfl) (g9 2 ?_)
 refine WC.cond rfl (fun h4 => ?_) (fun h4 => ?_)
 ·have hn := SlR.isNone h_a h4
  subst hn
  refine g9 8 ?_
  refine ⟨rfl, _, rfl, ?_⟩
  · exact SlR.nil
 refine g9 4 ?_
 refine W.lit0 (e := Zi) Zy Zz Yp rfl (fun v21 Ms22 ho23 => (W.mv (W.app (e := Zi) Zy Zz Yp rfl X1 rfl rfl (ho23) (h_a) pr9 (by simpa using ha) (fun v24 Ms25 ho26 => (g9 3 ?_)))))
 refine WC.giveO ho26 pr9 (fun G27 hG27 hv27 => (g9 2 ?_))
 refine ⟨rfl, _, rfl, ?_⟩
 · exact hv27

theorem Js {G : GH} {v_a : Value} {a : List Msg} (h_a : SlR Zo G v_a a) :
    Fc Tryz.prog 160 [v_a] G [] (fun v G' M' => M' = [] ∧ ∃ u0, v = u0 ∧ SlR Zo G' u0 (a)) := by
 obtain ⟨sa_a, sc_a, rfl⟩ := h_a.form
 have ha := h_a.bytes
 refine Fc.go [.tmp 2] Tryz.func160 Tryz.ntmps160 rfl (fun w0 => (g9 9 ?_))
 refine W.ok (ZaQ ZM rfl rfl) (g9 2 ?_)
 refine WC.cond rfl (fun h4 => ?_) (fun h4 => ?_)
 ·have hn := SlR.isNone h_a h4
  subst hn
  refine g9 8 ?_
  refine ⟨rfl, _, rfl, ?_⟩
  · exact SlR.nil
 refine g9 4 ?_
 refine W.lit0 (e := Zo) ZM ZP ZJ rfl (fun v28 Ms29 ho30 => (W.mv (W.app (e := Zo) ZM ZP ZJ rfl XQ rfl rfl (ho30) (h_a) pr9 (by simpa using ha) (fun v31 Ms32 ho33 => (g9 3 ?_)))))
 refine WC.giveO ho33 pr9 (fun G34 hG34 hv34 => (g9 2 ?_))
 refine ⟨rfl, _, rfl, ?_⟩
 · exact hv34

theorem Zh8 {G : GH} (ak : Int) (av : Str) (bk : Int) (bv : Str) (ha : av.b.size ≤ 1048576) (hb : bv.b.size ≤ 1048576) :
    Fc Tryz.prog 211 [.agg #[iV ak, sV av.b], .agg #[iV bk, sV bv.b]] G [] (fun v _ _ => v = .agg (List.toArray ((Eff.then (⟨ak, av⟩ : Eff) (⟨bk, bv⟩ : Eff)).cells))) := by
 refine Fc.go [.cell 4 132] Tryz.func211 Tryz.ntmps211 rfl (fun w0 => (g9 2 ?_))
 refine W.box (L := [iV _, sV _]) rfl rfl (fun b1 => (W.box (L := [iV _, sV _]) rfl rfl (fun b2 => (W.alloc XB (fun b3 => (g9 12 ?_))))))
 refine WC.cd (fun h10 p10 => ?_) (fun h10 p10 => ?_)
 ·refine g9 10 ?_
  refine congrArg (fun l => Value.agg (List.toArray l)) ?_
  show [Value.int _ _, Value.string _] = _
  first | (simp_all [Eff.then, Eff.cells, Eff.apply, Z7, Str.nil]; done) | (simp_all [Eff.then, Eff.cells, Eff.apply, Z7, Str.nil]; split <;> simp)
 refine g9 6 ?_
 refine W.sm 16 (fun h15 p15 => ?_) (fun h15 p15 => ?_)
 ·refine g9 18 ?_
  refine congrArg (fun l => Value.agg (List.toArray l)) ?_
  show [Value.int _ _, Value.string _] = _
  first | (simp_all [Eff.then, Eff.cells, Eff.apply, Z7, Str.nil]; done) | (simp_all [Eff.then, Eff.cells, Eff.apply, Z7, Str.nil]; split <;> simp)
 refine g9 10 ?_
 refine WC.cd (fun h19 p19 => ?_) (fun h19 p19 => ?_)
 ·refine g9 10 ?_
  refine congrArg (fun l => Value.agg (List.toArray l)) ?_
  show [Value.int _ _, Value.string _] = _
  first | (simp_all [Eff.then, Eff.cells, Eff.apply, Z7, Str.nil]; done) | (simp_all [Eff.then, Eff.cells, Eff.apply, Z7, Str.nil]; split <;> simp)
 refine g9 11 ?_
 refine W.qcall (Zdj _ _ _ _ (by first | assumption | omega | (dsimp only; omega) | (simp; omega)) (by first | assumption | omega | (dsimp only; omega) | (simp; omega))) rfl (g9 20 ?_)
 refine WC.cd (fun h37 p37 => ?_) (fun h37 p37 => ?_)
 ·refine g9 3 ?_
  refine W.ok (Zw (L := [iV _, sV _]) Jd XB rfl rfl rfl) (g9 6 ?_)
  refine congrArg (fun l => Value.agg (List.toArray l)) ?_
  show [Value.int _ _, Value.string _] = _
  first | (simp_all [Eff.then, Eff.cells, Eff.apply, Z7, Str.nil]; done) | (simp_all [Eff.then, Eff.cells, Eff.apply, Z7, Str.nil]; split <;> simp)
 refine g9 3 ?_
 refine W.ok (Zw (L := [iV _, sV _]) Jd XB rfl rfl rfl) (g9 6 ?_)
 refine congrArg (fun l => Value.agg (List.toArray l)) ?_
 show [Value.int _ _, Value.string _] = _
 first | (simp_all [Eff.then, Eff.cells, Eff.apply, Z7, Str.nil]; done) | (simp_all [Eff.then, Eff.cells, Eff.apply, Z7, Str.nil]; split <;> simp)

theorem ZoQ {G : GH} {v_l : Value} {l : List Msg} (h_l : SlR Zo G v_l l) (key : Str) (hm : ∀ m ∈ l, m.key.b.size < 140737488355328 ∧ m.val.b.size ≤ 16) :
    Fc Tryz.prog 182 [v_l, sV key.b] G [] (fun v _ _ => v = .agg (List.toArray ((YC l key).cells))) := by
 obtain ⟨sa_l, sc_l, rfl⟩ := h_l.form
 have hl := h_l.len47
 refine Fc.go [.cell 4 132] Tryz.func182 Tryz.ntmps182 rfl (fun w0 => (g9 2 ?_))
 refine W.alloc XB (fun b4 => (g9 11 ?_))
 refine WC.loop (X := Nat) (fun k => [(9, nt9 k), (4, pt9 b4), (1, sV key.b), (7, lV sa_l l.length sc_l), (8, nt9 ((l).length))]) (fun k _ Ml => Ml = [(b4, ce9 132 [iV (YC (l.take k) key).kind, sV (YC (l.take k) key).val.b])] ∧ k ≤ l.length) (fun k => l.length - k) 0 hs9 ?_ ?_
 ·exact ⟨rfl, om9⟩
 rintro k gG5 G5 _ hG5 ⟨rfl, hk⟩
 have hon := ZeN (l.take k) key (fun m hm2 => (hm m (List.mem_of_mem_take hm2)).2)
 refine g9 6 ?_
 refine WC.cd (fun h10 p10 => ?_) (fun h10 p10 => ?_)
 ·refine g9 6 ?_
  refine (h_l.mono hG5).a2 (i := k) om9 (fun he6 hm7 => (g9 2 ?_))
  refine W.alloc ZJ (fun b11 => (g9 3 ?_))
  refine WC.dw ((sr9.cons _).k9) (d9 [1, 2] ?_)
  refine WD.any [0, 3] (by kernel_rfl) rfl ⟨WD.ap ?_, WD.ap ?_, trivial⟩
  ·refine g9 1 ?_
   refine W.nn (WD.a1 3 rfl (W.qcall (Zdk _ _ _ _ _ _ _ (hm _ (List.getElem_mem _)).1) rfl (W.nn (WD.a1 4 rfl (W.qcall (Zh8 (YC (l.take k) key).kind (YC (l.take k) key).val (Msg.on l[k] key).kind (Msg.on l[k] key).val om9 (by have := ZaZ key (hm _ (List.getElem_mem (by omega : k < l.length))).2; omega)) rfl (W.nn (d9 [5] ?_)))))))
   refine WD.done (by kernel_rfl) (JF (Xc (g9 3 ?_)))
   refine W.sub (sr9.cons _) (g9 2 ?_)
   exact ⟨Le.rfl, k + 1, hs9, ⟨(by rw [Zhf _ om9]; rfl), om9⟩, om9⟩
  refine W.qcall (Zdk _ _ _ _ _ _ _ (hm _ (List.getElem_mem _)).1) rfl (W.nn (WD.a1 0 rfl (g9 1 ?_)))
  refine W.nn (WD.a1 4 rfl (W.qcall (Zh8 (YC (l.take k) key).kind (YC (l.take k) key).val (Msg.on l[k] key).kind (Msg.on l[k] key).val om9 (by have := ZaZ key (hm _ (List.getElem_mem (by omega : k < l.length))).2; omega)) rfl (W.nn (d9 [5] ?_))))
  refine WD.done (by kernel_rfl) (JF (Xc (g9 3 ?_)))
  refine W.sub (sr9.cons _) (g9 2 ?_)
  exact ⟨Le.rfl, k + 1, hs9, ⟨(by rw [Zhf _ om9]; rfl), om9⟩, om9⟩
 refine g9 13 ?_
 refine congrArg (fun l => Value.agg (List.toArray l)) ?_
 show [Value.int _ _, Value.string _] = _
 rw [List.take_of_length_le om9]; rfl

theorem Zh9 {G : GH} {v_l : Value} {l : List Pair} (h_l : SlR Zi G v_l l) (k : Str) :
    Fc Tryz.prog 40 [v_l, sV k.b] G [] (fun v _ _ => v = .tuple #[sV (Str.b ((Zg l k).getD Str.nil)), .bool ((Zg l k).isSome)]) := by
 obtain ⟨sa_l, sc_l, rfl⟩ := h_l.form
 have hl := h_l.len47
 refine Fc.go [.tmp 4, .tmp 5] Tryz.func40 Tryz.ntmps40 rfl (fun w0 => (g9 13 ?_))
 refine WC.loop (X := Nat) (fun i => [(6, nt9 i), (0, lV sa_l l.length sc_l), (1, sV k.b)]) (fun i _ Ml => Ml = [] ∧ i ≤ l.length ∧ ∀ j (h : j < l.length), j < i → l[j].key ≠ k) (fun i => l.length - i) 0 hs9 ?_ ?_
 ·exact ⟨rfl, om9, fun j _ h => by omega⟩
 rintro i gG12 G12 _ hG12 ⟨rfl, hi, hj⟩
 refine g9 9 ?_
 refine WC.cd (fun h10 p10 => ?_) (fun h10 p10 => ?_)
 ·refine g9 8 ?_
  refine (h_l.mono hG12).a1 (i := i) om9 (fun he13 => (g9 7 ?_))
  refine WC.cd (fun h19 p19 => ?_) (fun h19 p19 => ?_)
  ·refine g9 4 ?_
   refine (h_l.mono hG12).a1 (i := i) om9 (fun he16 => (g9 14 ?_))
   show Value.tuple #[Value.string _, Value.bool _] = _
   have e1 : l[i].key = k := Str.ext' p19
   have e := Zhg (by omega : i < l.length) (fun j h hji => by rw [e1]; exact hj j h hji)
   rw [e1] at e
   rw [e]; rfl
  refine g9 9 ?_
  exact ⟨Le.rfl, i + 1, hs9, ⟨rfl, om9, fun j h hji e => by
      by_cases e2 : j = i
      · subst e2; exact p19 (congrArg Str.b e)
      · exact hj j h om9 e⟩, om9⟩
 refine g9 13 ?_
 show Value.tuple #[Value.string _, Value.bool _] = _
 rw [Zhh (fun j h => hj j h om9)]; rfl

theorem ZoR {G : GH} (a : Str) (b : Str) :
    Fc Tryz.prog 199 [sV a.b, sV b.b] G [] (fun v _ _ => v = iV (Jb a b)) := by
 refine Fc.go [.tmp 4] Tryz.func199 Tryz.ntmps199 rfl (fun w0 => (g9 8 ?_))
 refine W.qcall (Ze8 _) rfl (g9 6 ?_)
 refine W.qcall (Ze8 _) rfl (g9 9 ?_)
 refine WC.cond rfl (fun h8 => ?_) (fun h8 => ?_)
 ·cases h8
 refine g9 8 ?_
 refine WC.cond rfl (fun h10 => ?_) (fun h10 => ?_)
 ·cases h10
 refine g9 10 ?_
 refine WC.cond rfl (fun h16 => ?_) (fun h16 => ?_)
 ·refine g9 8 ?_
  refine congrArg (Value.int .i64) ?_
  simp_all [Jb, Str.lt]
 refine g9 7 ?_
 refine W.ok (ZuI rfl rfl) (g9 2 ?_)
 refine WC.cond rfl (fun h19 => ?_) (fun h19 => ?_)
 ·refine g9 8 ?_
  refine congrArg (Value.int .i64) ?_
  simp_all [Jb, Str.lt]
 refine g9 9 ?_
 refine congrArg (Value.int .i64) ?_
 simp_all [Jb, Str.lt]

theorem Zia {G : GH} (a : Str) (b : Str) :
    Fc Tryz.prog 166 [sV a.b, sV b.b] G [] (fun v _ _ => v = iV (Jb a b)) := by
 refine Fc.go [.tmp 4] Tryz.func166 Tryz.ntmps166 rfl (fun w0 => (g9 9 ?_))
 refine W.qcall (ZoR _ _) rfl (g9 5 ?_)
 rfl

theorem Zib {G : GH} (pk : Str) (pv : Str) (k : Str) :
    Fc Tryz.prog 165 [.agg #[sV pk.b, sV pv.b], sV k.b] G [] (fun v _ _ => v = iV (Jb pk k)) := by
 refine Fc.go [.tmp 4] Tryz.func165 Tryz.ntmps165 rfl (fun w0 => (g9 2 ?_))
 refine W.box (L := [sV _, sV _]) rfl rfl (fun b19 => (g9 8 ?_))
 refine W.qcall (Zia _ _) rfl (g9 5 ?_)
 rfl

theorem Zic {G : GH} (pk : Str) (pv : Str) (k : Str) :
    Fc Tryz.prog 206 [.agg #[sV pk.b, sV pv.b], sV k.b] G [] (fun v _ _ => v = iV (Jb pk k)) := by
 refine Fc.go [.tmp 4] Tryz.func206 Tryz.ntmps206 rfl (fun w0 => (g9 2 ?_))
 refine W.box (L := [sV _, sV _]) rfl rfl (fun b20 => (g9 8 ?_))
 refine W.qcall (Zia _ _) rfl (g9 5 ?_)
 rfl

theorem ZoS {G : GH} {v_l : Value} {l : List Pair} (h_l : SlR Zi G v_l l) (k : Str) (hr : Srt l) :
    Fc Tryz.prog 164 [v_l, sV k.b, .func (.func 165) #[] #[]] G [] (fun v _ _ => v = .tuple #[nt9 (ZI l k), .bool ((Zg l k).isSome)]) := by
 obtain ⟨sa_l, sc_l, rfl⟩ := h_l.form
 have hlen := h_l.len47
 refine Fc.go [.tmp 6, .tmp 7] Tryz.func164 Tryz.ntmps164 rfl (fun w0 => (g9 22 ?_))
 refine WC.loop (X := Nat × Nat) (fun x => [(9, nt9 x.1), (10, nt9 x.2), (0, lV sa_l l.length sc_l), (1, sV k.b), (2, .func (.func 165) #[] #[]), (8, nt9 ((l).length))]) (fun x _ Ml => Ml = [] ∧ x.1 ≤ x.2 ∧ x.2 ≤ l.length ∧ (∀ q (h : q < l.length), q < x.1 → l[q].key.lt k = true) ∧ (∀ q (h : q < l.length), x.2 ≤ q → l[q].key.lt k = false)) (fun x => x.2 - x.1) (0, l.length) hs9 ?_ ?_
 ·exact ⟨rfl, by simp, by simp, (fun q _ h => by simp at h), (fun q h h' => by simp at h'; omega)⟩
 rintro ⟨i, j⟩ gG21 G21 _ hG21 ⟨rfl, hi, hj, h1, h2⟩
 dsimp only at hi hj h1 h2
 refine g9 8 ?_
 refine WC.cd (fun h17 p17 => ?_) (fun h17 p17 => ?_)
 ·refine g9 8 ?_
  refine W.ok (ZgD un3 ZbH rfl om9) (W.ok (ZgF rfl rfl om9) (W.ok (ZgE ZbH un3 rfl om9) (g9 8 ?_)))
  refine (h_l.mono hG21).a1 (i := (i + j) / 2) om9 (fun he22 => (W.ok (ZX (i := (i + j) / 2) Zy Zz (h_l.mono hG21) rfl rfl ⟨by dsimp only; omega, om9⟩) (g9 2 ?_)))
  refine W.qcallV (fst := []) (caps := []) rfl (Zib _ _ _) rfl (g9 3 ?_)
  refine WC.cd (fun h31 p31 => ?_) (fun h31 p31 => ?_)
  ·refine g9 7 ?_
   exact ⟨Le.rfl, ((i + j) / 2 + 1, j), hs9, ⟨rfl, by dsimp only; omega, by dsimp only; omega, (fun q h hq => hr.below om9 (ZeM.1 p31) q h (by dsimp only at hq; omega)), h2⟩, by dsimp only; omega⟩
  refine g9 6 ?_
  exact ⟨Le.rfl, (i, (i + j) / 2), hs9, ⟨rfl, by dsimp only; omega, by dsimp only; omega, h1, (fun q h hq => hr.above om9 (Zhm p31) q h (by dsimp only at hq; omega))⟩, by dsimp only; omega⟩
 refine g9 12 ?_
 refine W.sd 39 (fun h38 p38 => ?_) (fun h38 p38 => ?_)
 ·refine g9 7 ?_
  refine (h_l.mono hG21).a1 (i := i) om9 (fun he25 => (g9 6 ?_))
  refine W.qcallV (fst := []) (caps := []) rfl (Zib _ _ _) rfl (g9 9 ?_)
  have hlow : ZI l k = i := Zcp om9 h1 (fun q h hq => h2 q h om9)
  refine Zbr (by rw [hlow]) ?_
  rw [hr.has]
  rw [Zhl]
  exact decide_eq_decide.2 ⟨fun e => ⟨om9, by simp only [hlow]; exact e⟩, fun ⟨_, e⟩ => by simp only [hlow] at e; exact e⟩
 refine g9 15 ?_
 have hlow : ZI l k = i := Zcp om9 h1 (fun q h hq => h2 q h om9)
 refine Zbr (by rw [hlow]) ?_
 rw [hr.has]
 exact (decide_eq_false (by rintro ⟨h, _⟩; omega)).symm

theorem ZoT {G : GH} {v_l : Value} {l : List Pair} (h_l : SlR Zi G v_l l) (k : Str) (hr : Srt l) :
    Fc Tryz.prog 164 [v_l, sV k.b, .func (.func 206) #[] #[]] G [] (fun v _ _ => v = .tuple #[nt9 (ZI l k), .bool ((Zg l k).isSome)]) := by
 obtain ⟨sa_l, sc_l, rfl⟩ := h_l.form
 have hlen := h_l.len47
 refine Fc.go [.tmp 6, .tmp 7] Tryz.func164 Tryz.ntmps164 rfl (fun w0 => (g9 22 ?_))
 refine WC.loop (X := Nat × Nat) (fun x => [(9, nt9 x.1), (10, nt9 x.2), (0, lV sa_l l.length sc_l), (1, sV k.b), (2, .func (.func 206) #[] #[]), (8, nt9 ((l).length))]) (fun x _ Ml => Ml = [] ∧ x.1 ≤ x.2 ∧ x.2 ≤ l.length ∧ (∀ q (h : q < l.length), q < x.1 → l[q].key.lt k = true) ∧ (∀ q (h : q < l.length), x.2 ≤ q → l[q].key.lt k = false)) (fun x => x.2 - x.1) (0, l.length) hs9 ?_ ?_
 ·exact ⟨rfl, by simp, by simp, (fun q _ h => by simp at h), (fun q h h' => by simp at h'; omega)⟩
 rintro ⟨i, j⟩ gG28 G28 _ hG28 ⟨rfl, hi, hj, h1, h2⟩
 dsimp only at hi hj h1 h2
 refine g9 8 ?_
 refine WC.cd (fun h17 p17 => ?_) (fun h17 p17 => ?_)
 ·refine g9 8 ?_
  refine W.ok (ZgD un3 ZbH rfl om9) (W.ok (ZgF rfl rfl om9) (W.ok (ZgE ZbH un3 rfl om9) (g9 8 ?_)))
  refine (h_l.mono hG28).a1 (i := (i + j) / 2) om9 (fun he29 => (W.ok (ZX (i := (i + j) / 2) Zy Zz (h_l.mono hG28) rfl rfl ⟨by dsimp only; omega, om9⟩) (g9 2 ?_)))
  refine W.qcallV (fst := []) (caps := []) rfl (Zic _ _ _) rfl (g9 3 ?_)
  refine WC.cd (fun h31 p31 => ?_) (fun h31 p31 => ?_)
  ·refine g9 7 ?_
   exact ⟨Le.rfl, ((i + j) / 2 + 1, j), hs9, ⟨rfl, by dsimp only; omega, by dsimp only; omega, (fun q h hq => hr.below om9 (ZeM.1 p31) q h (by dsimp only at hq; omega)), h2⟩, by dsimp only; omega⟩
  refine g9 6 ?_
  exact ⟨Le.rfl, (i, (i + j) / 2), hs9, ⟨rfl, by dsimp only; omega, by dsimp only; omega, h1, (fun q h hq => hr.above om9 (Zhm p31) q h (by dsimp only at hq; omega))⟩, by dsimp only; omega⟩
 refine g9 12 ?_
 refine W.sd 39 (fun h38 p38 => ?_) (fun h38 p38 => ?_)
 ·refine g9 7 ?_
  refine (h_l.mono hG28).a1 (i := i) om9 (fun he32 => (g9 6 ?_))
  refine W.qcallV (fst := []) (caps := []) rfl (Zic _ _ _) rfl (g9 9 ?_)
  have hlow : ZI l k = i := Zcp om9 h1 (fun q h hq => h2 q h om9)
  refine Zbr (by rw [hlow]) ?_
  rw [hr.has]
  rw [Zhl]
  exact decide_eq_decide.2 ⟨fun e => ⟨om9, by simp only [hlow]; exact e⟩, fun ⟨_, e⟩ => by simp only [hlow] at e; exact e⟩
 refine g9 15 ?_
 have hlow : ZI l k = i := Zcp om9 h1 (fun q h hq => h2 q h om9)
 refine Zbr (by rw [hlow]) ?_
 rw [hr.has]
 exact (decide_eq_false (by rintro ⟨h, _⟩; omega)).symm

theorem Zid {G : GH} {v_l : Value} {l : List Pair} (h_l : SlR Zi G v_l l) (k : Str) (hr : Srt l) :
    Fc Tryz.prog 125 [v_l, sV k.b] G [] (fun v _ _ => v = .tuple #[nt9 (ZI l k), .bool ((Zg l k).isSome)]) := by
 obtain ⟨sa_l, sc_l, rfl⟩ := h_l.form
 refine Fc.go [.tmp 4, .tmp 5] Tryz.func125 Tryz.ntmps125 rfl (fun w0 => (g9 10 ?_))
 refine W.qcall (ZoS h_l k hr) rfl (g9 8 ?_)
 rfl

theorem ZoU {G : GH} {v_l : Value} {l : List Pair} (h_l : SlR Zi G v_l l) (k : Str) (hr : Srt l) :
    Fc Tryz.prog 172 [v_l, sV k.b] G [] (fun v _ _ => v = .tuple #[nt9 (ZI l k), .bool ((Zg l k).isSome)]) := by
 obtain ⟨sa_l, sc_l, rfl⟩ := h_l.form
 refine Fc.go [.tmp 4, .tmp 5] Tryz.func172 Tryz.ntmps172 rfl (fun w0 => (g9 10 ?_))
 refine W.qcall (ZoT h_l k hr) rfl (g9 8 ?_)
 rfl

theorem ZoV {G : GH} {v_l : Value} {l : List Pair} (h_l : SlR Zi G v_l l) (k : Str) (hr : Srt l) :
    Fc Tryz.prog 75 [v_l, sV k.b] G [] (fun v _ _ => v = .tuple #[sV (Str.b ((Zg l k).getD Str.nil)), .bool ((Zg l k).isSome)]) := by
 obtain ⟨sa_l, sc_l, rfl⟩ := h_l.form
 have hlen := h_l.len47
 have hh := hr.has k
 refine Fc.go [.tmp 4, .tmp 5] Tryz.func75 Tryz.ntmps75 rfl (fun w0 => (g9 10 ?_))
 refine W.qcall (Zid h_l _ (by assumption)) rfl (g9 14 ?_)
 refine WC.cond rfl (fun h15 => ?_) (fun h15 => ?_)
 ·refine g9 9 ?_
  show Value.tuple #[Value.string _, Value.bool _] = _
  have e : Zg l k = none := by simpa using h15
  rw [e]; rfl
 have hs : (Zg l k).isSome = true := by simpa using h15
 obtain ⟨q1, q2⟩ := odt (hh.symm.trans hs)
 have hv := hr.val q1 q2
 refine g9 6 ?_
 refine h_l.a1 (i := ZI l k) (q1) (fun he35 => (W.ok (ZX (i := ZI l k) Zy Zz h_l rfl rfl ⟨om9, q1⟩) (g9 8 ?_)))
 show Value.tuple #[Value.string _, Value.bool _] = _
 rw [hv]; rfl

end Go.Proofs.YtbbemibbmbmamaaGreat
