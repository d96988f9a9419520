/- What container/heap asks of a heap, and what it does with it. Nothing of the program is named here. No condition. -/
import Derived.Test.YtebkfinhhpelbaaGreatProg
import Derived.Test.YtebkfinhhpelbaaGreatQbX3
set_option linter.unusedVariables false
set_option linter.unusedSimpArgs false
set_option linter.unnecessarySimpa false
set_option maxRecDepth 100000

namespace Go.Fw
open Go Go.RowKit
structure HeapK (P : Program) {α : Type} [Inhabited α] (lt : α → α → Bool) (x : Value) (Rep : GH → List α → MH → Prop) (EV : GH → Value → α → Prop) : Prop where
 mono : ∀ {G G' l M}, Le G G' → Rep G l M → Rep G' l M
 bound : ∀ {G l M}, Rep G l M → l.length ≤ 140737488355328
 len : ∀ {G l M}, Rep G l M → Inv P x "Len" [] G M (fun v G' M' => v = .int .i64 (l.length : Int) ∧ M' = M)
 less : ∀ {G l M} {i j : Nat}, Rep G l M → i < l.length → j < l.length → Inv P x "Less" [.int .i64 (i : Int), .int .i64 (j : Int)] G M (fun v G' M' => v = .bool (lt (nth l i) (nth l j)) ∧ M' = M)
 swap : ∀ {G l M} {i j : Nat}, Rep G l M → i < l.length → j < l.length → Inv P x "Swap" [.int .i64 (i : Int), .int .i64 (j : Int)] G M (fun v G' M' => v = .tuple #[] ∧ Rep G' (swapL l i j) M')
 push : ∀ {G l M u a}, Rep G l M → l.length < 1000000 → EV G u a → Inv P x "Push" [u] G M (fun v G' M' => v = .tuple #[] ∧ Rep G' (l ++ [a]) M')
 pop : ∀ {G l M}, Rep G l M → 0 < l.length → Inv P x "Pop" [] G M (fun v G' M' => EV G' v (nth l (l.length - 1)) ∧ Rep G' (l.take (l.length - 1)) M')
section
variable {α : Type} [Inhabited α] {lt : α → α → Bool}
theorem downL_stop {f : Nat} {l : List α} {i n : Nat} (h : n ≤ 2 * i + 1) : downL lt f l i n = l := by
 cases f with
 | zero => rfl
 | succ f => rw [downL, if_pos h]
theorem downL_end {f : Nat} {l : List α} {i n : Nat} (h1 : ¬ n ≤ 2 * i + 1) (h2 : lt (nth l (kidJ lt l i n)) (nth l i) = false) : downL lt f l i n = l := by
 cases f with
 | zero => rfl
 | succ f => rw [downL, if_neg h1, if_pos h2]
theorem downL_go {f : Nat} {l : List α} {i n : Nat} (hf : n ≤ i + f) (h1 : ¬ n ≤ 2 * i + 1) (h2 : lt (nth l (kidJ lt l i n)) (nth l i) = true) : downL lt f l i n = downL lt (f - 1) (swapL l i (kidJ lt l i n)) (kidJ lt l i n) n := by
 cases f with
 | zero => omega
 | succ f => rw [downL, if_neg h1, if_neg (by simp [h2])]; rfl
theorem kidJ_t {l : List α} {i n : Nat} (h : 2 * i + 2 < n) (h2 : lt (nth l (2 * i + 2)) (nth l (2 * i + 1)) = true) : kidJ lt l i n = 2 * i + 2 := if_pos ⟨h, h2⟩
theorem kidJ_f {l : List α} {i n : Nat} (h : ¬ 2 * i + 2 < n ∨ lt (nth l (2 * i + 2)) (nth l (2 * i + 1)) = false) : kidJ lt l i n = 2 * i + 1 := if_neg (fun ⟨h1, h2⟩ => h.elim (fun h => h h1) (fun h => by rw [h2] at h; cases h))
theorem upL_end {f : Nat} {l : List α} {j : Nat} (h : (j - 1) / 2 = j ∨ lt (nth l j) (nth l ((j - 1) / 2)) = false) : upL lt f l j = l := by
 cases f with
 | zero => rfl
 | succ f => rw [upL, if_pos h]
theorem upL_go {f : Nat} {l : List α} {j : Nat} (hf : j ≤ f) (h1 : ¬ (j - 1) / 2 = j) (h2 : lt (nth l j) (nth l ((j - 1) / 2)) = true) : upL lt f l j = upL lt (f - 1) (swapL l ((j - 1) / 2) j) ((j - 1) / 2) := by
 cases f with
 | zero => omega
 | succ f => rw [upL, if_neg (fun h => h.elim h1 (fun h => by rw [h2] at h; cases h))]; rfl
theorem popL_eq {l : List α} (h : 0 < l.length) : (downL lt l.length (swapL l 0 (l.length - 1)) 0 (l.length - 1)).take ((downL lt l.length (swapL l 0 (l.length - 1)) 0 (l.length - 1)).length - 1) = popL lt l ∧
  nth (downL lt l.length (swapL l 0 (l.length - 1)) 0 (l.length - 1)) ((downL lt l.length (swapL l 0 (l.length - 1)) 0 (l.length - 1)).length - 1) = nth l 0 := by
 rw [downL_length, swapL_length]
 refine ⟨rfl, ?_⟩
 rw [downL_above _ _ _ _ _ (by rw [swapL_length]; omega) (Nat.le_refl _), nth_swap (by omega) (by omega), if_pos rfl]
theorem tdiv_half (j : Nat) : (((j : Int) - 1).tdiv 2) = (((j - 1) / 2 : Nat) : Int) := by
 cases j with
 | zero => rfl
 | succ j =>
  have : (((j + 1 : Nat) : Int) - 1) = (j : Int) := by omega
  rw [this, Int.tdiv_eq_ediv_of_nonneg (by omega)]
  simp
end
end Go.Fw

namespace Go.Fw
open Go Go.RowKit
abbrev Hd := List Msg × Int
def Hd.st (a : Hd) : Int := match a.1 with | [] => 0 | m :: _ => m.stamp
def Hd.lt (a b : Hd) : Bool := decide (a.st < b.st) || (decide (a.st = b.st) && decide (a.2 < b.2))
theorem Hd.st_at {a : Hd} (h : 0 < a.1.length) : a.st = a.1[0].stamp := by
 obtain ⟨l, n⟩ := a
 cases l with
 | nil => simp at h
 | cons m l => rfl
theorem Hd.lo : LO Hd.lt where
 asymm := fun {a b} h => by
  simp only [Hd.lt, Bool.or_eq_true, Bool.and_eq_true, decide_eq_true_eq] at h
  simp only [Hd.lt, Bool.or_eq_false_iff, Bool.and_eq_false_iff, decide_eq_false_iff_not]
  omega
 trans := fun {a b c} h1 h2 => by
  simp only [Hd.lt, Bool.or_eq_false_iff, Bool.and_eq_false_iff, decide_eq_false_iff_not] at h1 h2 ⊢
  omega
def HdC (G : GH) (cs : List Value) (a : Hd) : Prop := ∃ p c, cs = [.slice p a.1.length c, .int .i64 a.2] ∧ SlR eMsg G (.slice p a.1.length c) a.1 ∧ i64 a.2
theorem HdC.mono {G G' : GH} {cs a} (hl : Le G G') (h : HdC G cs a) : HdC G' cs a := by
 obtain ⟨p, c, h1, h2, h3⟩ := h; exact ⟨p, c, h1, h2.mono hl, h3⟩
def eHead : Enc Hd where
 k := 2
 w := 32
 R := HdC
 mono := fun hl h => h.mono hl
 len := fun h => by obtain ⟨p, c, h0, _⟩ := h; rw [h0]; rfl
 one := fun h u hu => by
  obtain ⟨p, c, h0, _⟩ := h
  rw [h0] at hu
  simp at hu
  rcases hu with rfl | rfl <;> rfl
end Go.Fw

namespace Go.Fw
open Go Go.RowKit
def eBool : Enc Bool where
 k := 1
 w := 1
 R := fun _ cs b => cs = [.bool b]
 mono := fun _ h => h
 len := fun h => by rw [h]; rfl
 one := fun h u hu => by rw [h] at hu; simp at hu; subst hu; rfl
abbrev ltI : Int → Int → Bool := fun a b => decide (a < b)
def hasN (u : List Bool) (i : Int) : Bool := decide (0 ≤ i) && (decide (i < u.length) && u.getD i.toNat false)
theorem hasN_iff {u : List Bool} {i : Int} : hasN u i = true ↔ ∃ k : Nat, ∃ h : k < u.length, i = k ∧ u[k] = true := by
 unfold hasN
 simp only [Bool.and_eq_true, decide_eq_true_eq]
 constructor
 ·rintro ⟨h1, h2, h3⟩
  have h4 : i.toNat < u.length := by omega
  rw [List.getD_eq_getElem?_getD, List.getElem?_eq_getElem h4] at h3
  exact ⟨i.toNat, h4, by omega, h3⟩
 ·rintro ⟨k, h, rfl, h2⟩
  refine ⟨by omega, by omega, ?_⟩
  rw [List.getD_eq_getElem?_getD, Int.toNat_natCast, List.getElem?_eq_getElem h]
  exact h2
def freeN (u : List Bool) : List Int := ((List.range u.length).filter fun i => !u.getD i true).map fun i : Nat => (i : Int)
def usedN (u : List Bool) : List Int := ((List.range u.length).filter fun i => u.getD i true).map fun i : Nat => (i : Int)
def firstN : List Bool → Nat
 | [] => 0
 | true :: l => firstN l + 1
 | false :: _ => 0
def iotaN (n : Nat) : List Int := (List.range n).map fun i : Nat => (i : Int)
def nextA {α : Type} (st : List α × List Bool) (x : α) : (Int × Int) × (List α × List Bool) :=
 if firstN st.2 < st.2.length then ((firstN st.2, 0), (st.1.set (firstN st.2) x, st.2.set (firstN st.2) true)) else ((0, 4), st)
def freeA {α : Type} (st : List α × List Bool) (i : Int) (z : α) : Int × (List α × List Bool) := if hasN st.2 i = true then (0, (st.1.set i.toNat z, st.2.set i.toNat false)) else (8, st)
def layA {α : Type} (st : List α × List Bool) (i : Int) (x : α) : Int × (List α × List Bool) := if hasN st.2 i = true then (0, (st.1.set i.toNat x, st.2)) else (8, st)
def getA {α : Type} (st : List α × List Bool) (i : Int) (z : α) : α := if hasN st.2 i = true then st.1.getD i.toNat z else z
def ArP {α : Type} (e : Enc α) (Te TB TI Tb : TypeId) (b : Nat) (G : GH) (st : List α × List Bool × List Int) (M : MH) : Prop :=
 ∃ vc vu vf Mc Mu Mf, M = (b, .cells (List.toArray [vc, vu, vf]) Tb (0, 0)) :: (Mc ++ (Mu ++ Mf)) ∧ OwnR e Te G vc st.1 Mc ∧ OwnR eBool TB G vu st.2.1 Mu ∧ OwnR eInt TI G vf st.2.2 Mf
theorem ArP.mono {α : Type} {e : Enc α} {Te TB TI Tb : TypeId} {b : Nat} {G G' : GH} {st : List α × List Bool × List Int} {M : MH} (hl : Le G G') (h : ArP e Te TB TI Tb b G st M) : ArP e Te TB TI Tb b G' st M := by
 obtain ⟨vc, vu, vf, Mc, Mu, Mf, h1, h2, h3, h4⟩ := h
 exact ⟨vc, vu, vf, Mc, Mu, Mf, h1, h2.mono hl, h3.mono hl, h4.mono hl⟩
def ArR {α : Type} (e : Enc α) (Te TB TI Tb : TypeId) (b : Nat) (G : GH) (st : List α × List Bool) (M : MH) : Prop :=
 ∃ f, ArP e Te TB TI Tb b G (st.1, st.2, f) M ∧ st.1.length = st.2.length ∧ st.2.length ≤ 4096 ∧ Heap ltI f ∧ f.Perm (freeN st.2)
theorem ArR.mono {α : Type} {e : Enc α} {Te TB TI Tb : TypeId} {b : Nat} {G G' : GH} {st : List α × List Bool} {M : MH} (hl : Le G G') (h : ArR e Te TB TI Tb b G st M) : ArR e Te TB TI Tb b G' st M := by
 obtain ⟨f, h1, h2⟩ := h
 exact ⟨f, h1.mono hl, h2⟩
theorem ArR.cast {α : Type} {e : Enc α} {Te TB TI Tb : TypeId} {b : Nat} {G : GH} {st st' : List α × List Bool} {M M' : MH} (h : ArR e Te TB TI Tb b G st M) (e1 : st = st') (e2 : M = M') : ArR e Te TB TI Tb b G st' M' := by subst e1 e2; exact h
theorem getA_t {α : Type} {st : List α × List Bool} {i : Int} {z : α} (h : hasN st.2 i = true) (h2 : i.toNat < st.1.length) : getA st i z = st.1[i.toNat] := by
 unfold getA; rw [if_pos h, List.getD_eq_getElem?_getD, List.getElem?_eq_getElem h2]; rfl
theorem NodeC.cast {G : GH} {cs : List Value} {n m : Nd} (h : NodeC G cs n) (e : n = m) : NodeC G cs m := e ▸ h
def usedK (u : List Bool) (k : Nat) : List Int := ((List.range k).filter fun i => u.getD i true).map fun i : Nat => (i : Int)
end Go.Fw

namespace Go.Fw
open Go Go.RowKit
def CfgR (c : Cfg) : Prop := (4 ≤ c.fan ∧ c.fan ≤ 64) ∧ (2 ≤ c.leaf ∧ c.leaf ≤ 64) ∧ (36 ≤ c.bud ∧ c.bud ≤ 4096) ∧ (1 ≤ c.slots ∧ c.slots ≤ 4096) ∧ (0 ≤ c.rest ∧ c.rest ≤ 100)
instance (c : Cfg) : Decidable (CfgR c) := by unfold CfgR; infer_instance
def arOf (n : Nat) (l : List Nd) : List Nd × List Bool := (l ++ List.replicate (n - l.length) Nd.zero, List.replicate l.length true ++ List.replicate (n - l.length) false)
def putL (l : List Nd) (x : Nd) : Int × List Nd := if 0 ≤ x.slot ∧ x.slot < l.length then (0, l.set x.slot.toNat x) else (8, l)
def takeL (n : Nat) (l : List Nd) (x : Nd) : (Int × Int) × List Nd := if l.length < n then ((l.length, 0), l ++ [{ x with slot := l.length }]) else ((0, 4), l)
def getL (l : List Nd) (i : Int) : Nd := if 0 ≤ i then l.getD i.toNat Nd.zero else Nd.zero
theorem getL_at {l : List Nd} {k : Nat} (h : k < l.length) : getL l k = l[k] := by
 unfold getL; rw [if_pos (by omega), Int.toNat_natCast, List.getD_eq_getElem?_getD, List.getElem?_eq_getElem h]; rfl
def takeA (a : List Nd × List Bool) (x : Nd) : (Int × Int) × (List Nd × List Bool) :=
 if (nextA a Nd.zero).1.2 = 0 then (((nextA a Nd.zero).1.1, (layA (nextA a Nd.zero).2 (nextA a Nd.zero).1.1 { x with slot := (nextA a Nd.zero).1.1 }).1), (layA (nextA a Nd.zero).2 (nextA a Nd.zero).1.1 { x with slot := (nextA a Nd.zero).1.1 }).2)
 else ((0, (nextA a Nd.zero).1.2), (nextA a Nd.zero).2)
def StA (te tB ti tb TS b : Nat) (G : GH) (c : Cfg) (a : List Nd × List Bool) (M : MH) : Prop :=
 ∃ b2 Ma, M = (b, .cells (List.toArray [.int .i64 c.fan, .int .i64 c.leaf, .int .i64 c.bud, .int .i64 c.slots, .int .i64 c.rest, .pointer (some ⟨b2, 0, none⟩)]) TS (0, 0)) :: Ma ∧ ArR eNode te tB ti tb b2 G a Ma
theorem StA.mono {te tB ti tb TS b : Nat} {G G' : GH} {c : Cfg} {a : List Nd × List Bool} {M : MH} (hl : Le G G') (h : StA te tB ti tb TS b G c a M) : StA te tB ti tb TS b G' c a M := by
 obtain ⟨b2, Ma, h1, h2⟩ := h; exact ⟨b2, Ma, h1, h2.mono hl⟩
def StR (te tB ti tb TS b : Nat) (c : Cfg) (G : GH) (l : List Nd) (M : MH) : Prop := CfgR c ∧ l.length ≤ c.slots.toNat ∧ StA te tB ti tb TS b G c (arOf c.slots.toNat l) M
theorem StR.mono {te tB ti tb TS b : Nat} {G G' : GH} {c : Cfg} {l : List Nd} {M : MH} (hl : Le G G') (h : StR te tB ti tb TS b c G l M) : StR te tB ti tb TS b c G' l M := ⟨h.1, h.2.1, h.2.2.mono hl⟩
theorem StA.cast {te tB ti tb TS b : Nat} {G : GH} {c : Cfg} {a a' : List Nd × List Bool} {M : MH} (h : StA te tB ti tb TS b G c a M) (e : a = a') : StA te tB ti tb TS b G c a' M := e ▸ h
def leafN (slot : Int) : Nd := ⟨slot, 0, [], [], Str.nil, true, -1, 0, [], []⟩
theorem NodeC.of {G : GH} {cs : List Value} {n m : Nd} (h : NodeC G cs n) (e : n = m) : NodeC G cs m := e ▸ h
end Go.Fw
namespace Go.Proofs.YtebkfinhhpelbaaGreat
open Go.Fw
theorem ty23 : tyK Tryz.prog 23 = some (true, 5) := by kernel_rfl
theorem sl24 : sliceK Tryz.prog 24 = some 47 := by kernel_rfl
theorem ty47 : tyK Tryz.prog 47 = some (true, 10) := by kernel_rfl
theorem zr47 : zeroK Tryz.prog 47 = some [.int .i64 0, .int .i64 0, .slice none 0 0, .slice none 0 0, .string ⟨#[]⟩, .bool false, .int .i64 0, .int .i64 0, .slice none 0 0, .slice none 0 0] := by kernel_rfl
theorem by47 : bytesK Tryz.prog 47 = some 152 := by kernel_rfl
theorem sl41 : sliceK Tryz.prog 41 = some 69 := by kernel_rfl
theorem ty69 : tyK Tryz.prog 69 = some (true, 2) := by kernel_rfl
theorem zr69 : zeroK Tryz.prog 69 = some [.string ⟨#[]⟩, .string ⟨#[]⟩] := by kernel_rfl
theorem by69 : bytesK Tryz.prog 69 = some 32 := by kernel_rfl
theorem st9 : Tryz.prog.underlying 9 = some .string := by kernel_rfl
theorem fd47_8 : fieldK Tryz.prog 47 8 = some 8 := by kernel_rfl
theorem ty45 : tyK Tryz.prog 45 = some (false, 1) := by kernel_rfl
theorem zr45 : zeroK Tryz.prog 45 = some [.slice none 0 0] := by kernel_rfl
theorem sl45 : sliceK Tryz.prog 45 = some 49 := by kernel_rfl
theorem ty49 : tyK Tryz.prog 49 = some (true, 6) := by kernel_rfl
theorem zr49 : zeroK Tryz.prog 49 = some [.int .i64 0, .int .i64 0, .string ⟨#[]⟩, .string ⟨#[]⟩, .bool false, .string ⟨#[]⟩] := by kernel_rfl
theorem by49 : bytesK Tryz.prog 49 = some 72 := by kernel_rfl
theorem bo4 : Tryz.prog.underlying 4 = some .bool := by kernel_rfl
theorem sl59 : sliceK Tryz.prog 59 = some 63 := by kernel_rfl
theorem ty63 : tyK Tryz.prog 63 = some (true, 3) := by kernel_rfl
theorem zr63 : zeroK Tryz.prog 63 = some [.int .i64 0, .string ⟨#[]⟩, .int .i64 0] := by kernel_rfl
theorem by63 : bytesK Tryz.prog 63 = some 32 := by kernel_rfl
theorem fd63_1 : fieldK Tryz.prog 63 1 = some 1 := by kernel_rfl
theorem ty9 : tyK Tryz.prog 9 = some (false, 1) := by kernel_rfl
theorem zr9 : zeroK Tryz.prog 9 = some [.string ⟨#[]⟩] := by kernel_rfl
theorem fd63_0 : fieldK Tryz.prog 63 0 = some 0 := by kernel_rfl
theorem ty3 : tyK Tryz.prog 3 = some (false, 1) := by kernel_rfl
theorem zr3 : zeroK Tryz.prog 3 = some [.int .i64 0] := by kernel_rfl
theorem un3 : Tryz.prog.underlying 3 = some (.int .i64) := by kernel_rfl
theorem un64 : Tryz.prog.underlying 64 = some (.int .u64) := by kernel_rfl
theorem fd63_2 : fieldK Tryz.prog 63 2 = some 2 := by kernel_rfl
theorem eq69 : fieldKs Tryz.prog 69 = some [.string, .string] := by kernel_rfl
theorem pl69 : placesK Tryz.prog 69 = some [(0, 1), (1, 1)] := by kernel_rfl
theorem ty52 : tyK Tryz.prog 52 = some (true, 3) := by kernel_rfl
theorem zr52 : zeroK Tryz.prog 52 = some [.string ⟨#[]⟩, .string ⟨#[]⟩, .bool false] := by kernel_rfl
theorem fd47_0 : fieldK Tryz.prog 47 0 = some 0 := by kernel_rfl
theorem fd47_7 : fieldK Tryz.prog 47 7 = some 7 := by kernel_rfl
theorem pl47 : placesK Tryz.prog 47 = some [(0, 1), (1, 1), (2, 1), (3, 1), (4, 1), (5, 1), (6, 1), (7, 1), (8, 1), (9, 1)] := by kernel_rfl
theorem fd47_3 : fieldK Tryz.prog 47 3 = some 3 := by kernel_rfl
theorem ty44 : tyK Tryz.prog 44 = some (false, 1) := by kernel_rfl
theorem sl44 : sliceK Tryz.prog 44 = some 3 := by kernel_rfl
theorem by3 : bytesK Tryz.prog 3 = some 8 := by kernel_rfl
theorem fd23_3 : fieldK Tryz.prog 23 3 = some 3 := by kernel_rfl
theorem sl105 : sliceK Tryz.prog 105 = some 111 := by kernel_rfl
theorem ty111 : tyK Tryz.prog 111 = some (true, 14) := by kernel_rfl
theorem zr111 : zeroK Tryz.prog 111 = some [.int .i64 0, .int .i64 0, .slice none 0 0, .slice none 0 0, .string ⟨#[]⟩, .bool false, .int .i64 0, .int .i64 0, .slice none 0 0, .slice none 0 0, .string ⟨#[]⟩, .string ⟨#[]⟩, .bool false, .slice none 0 0] := by kernel_rfl
theorem by111 : bytesK Tryz.prog 111 = some 216 := by kernel_rfl
theorem fd111_0 : fieldK Tryz.prog 111 0 = some 0 := by kernel_rfl
theorem fd111_2 : fieldK Tryz.prog 111 2 = some 13 := by kernel_rfl
theorem fd49_0 : fieldK Tryz.prog 49 0 = some 0 := by kernel_rfl
theorem fd47_1 : fieldK Tryz.prog 47 1 = some 1 := by kernel_rfl
theorem fd47_9 : fieldK Tryz.prog 47 9 = some 9 := by kernel_rfl
theorem ty41 : tyK Tryz.prog 41 = some (false, 1) := by kernel_rfl
theorem fd111_1 : fieldK Tryz.prog 111 1 = some 10 := by kernel_rfl
theorem pl49 : placesK Tryz.prog 49 = some [(0, 1), (1, 1), (2, 1), (3, 1), (4, 1), (5, 1)] := by kernel_rfl
theorem fd52_0 : fieldK Tryz.prog 52 0 = some 0 := by kernel_rfl
theorem fd52_2 : fieldK Tryz.prog 52 2 = some 2 := by kernel_rfl
theorem ty4 : tyK Tryz.prog 4 = some (false, 1) := by kernel_rfl
theorem fd52_1 : fieldK Tryz.prog 52 1 = some 1 := by kernel_rfl
theorem fd49_1 : fieldK Tryz.prog 49 1 = some 1 := by kernel_rfl
theorem fd49_2 : fieldK Tryz.prog 49 2 = some 2 := by kernel_rfl
theorem fd49_3 : fieldK Tryz.prog 49 3 = some 3 := by kernel_rfl
theorem fd49_4 : fieldK Tryz.prog 49 4 = some 4 := by kernel_rfl
theorem pl52 : placesK Tryz.prog 52 = some [(0, 1), (1, 1), (2, 1)] := by kernel_rfl
theorem fd69_0 : fieldK Tryz.prog 69 0 = some 0 := by kernel_rfl
theorem fd69_1 : fieldK Tryz.prog 69 1 = some 1 := by kernel_rfl
theorem zr124 : zeroK Tryz.prog 124 = some [.slice none 0 0, .int .i64 0, .int .i64 0] := by kernel_rfl
theorem pl124 : placesK Tryz.prog 124 = some [(0, 1), (1, 1), (2, 1)] := by kernel_rfl
theorem zr130 : zeroK Tryz.prog 130 = some [.int .i64 0, .int .i64 0, .slice none 0 0, .slice none 0 0, .string ⟨#[]⟩, .bool false, .int .i64 0, .int .i64 0, .slice none 0 0, .slice none 0 0, .string ⟨#[]⟩, .string ⟨#[]⟩, .bool false, .slice none 0 0, .slice none 0 0, .bool false] := by kernel_rfl
theorem pl130 : placesK Tryz.prog 130 = some [(0, 10), (10, 3), (13, 1), (14, 1), (15, 1)] := by kernel_rfl
theorem pp60 : ptrT Tryz.prog 60 = true := by kernel_rfl
theorem fd124_1 : fieldK Tryz.prog 124 1 = some 1 := by kernel_rfl
theorem fd124_2 : fieldK Tryz.prog 124 2 = some 2 := by kernel_rfl
theorem sl43 : sliceK Tryz.prog 43 = some 9 := by kernel_rfl
theorem by9 : bytesK Tryz.prog 9 = some 16 := by kernel_rfl
theorem fd47_2 : fieldK Tryz.prog 47 2 = some 2 := by kernel_rfl
theorem ty43 : tyK Tryz.prog 43 = some (false, 1) := by kernel_rfl
theorem sl187 : sliceK Tryz.prog 187 = some 45 := by kernel_rfl
theorem fd23_0 : fieldK Tryz.prog 23 0 = some 0 := by kernel_rfl
theorem fd23_1 : fieldK Tryz.prog 23 1 = some 1 := by kernel_rfl
theorem fd23_2 : fieldK Tryz.prog 23 2 = some 2 := by kernel_rfl
theorem fd23_4 : fieldK Tryz.prog 23 4 = some 4 := by kernel_rfl
theorem fd47_4 : fieldK Tryz.prog 47 4 = some 4 := by kernel_rfl
theorem fd47_5 : fieldK Tryz.prog 47 5 = some 5 := by kernel_rfl
theorem fd47_6 : fieldK Tryz.prog 47 6 = some 6 := by kernel_rfl
theorem pl111 : placesK Tryz.prog 111 = some [(0, 10), (10, 3), (13, 1)] := by kernel_rfl
theorem eq52 : fieldKs Tryz.prog 52 = some [.string, .string, .bool] := by kernel_rfl
theorem fd130_0 : fieldK Tryz.prog 130 0 = some 0 := by kernel_rfl
theorem fd124_0 : fieldK Tryz.prog 124 0 = some 0 := by kernel_rfl
theorem ty122 : tyK Tryz.prog 122 = some (false, 1) := by kernel_rfl
theorem sl122 : sliceK Tryz.prog 122 = some 127 := by kernel_rfl
theorem ty127 : tyK Tryz.prog 127 = some (false, 1) := by kernel_rfl
theorem zr127 : zeroK Tryz.prog 127 = some [.pointer none] := by kernel_rfl
theorem by127 : bytesK Tryz.prog 127 = some 8 := by kernel_rfl
theorem fd130_1 : fieldK Tryz.prog 130 1 = some 10 := by kernel_rfl
theorem fd130_2 : fieldK Tryz.prog 130 2 = some 13 := by kernel_rfl
theorem fd130_4 : fieldK Tryz.prog 130 4 = some 15 := by kernel_rfl
theorem fd130_3 : fieldK Tryz.prog 130 3 = some 14 := by kernel_rfl
theorem sl202 : sliceK Tryz.prog 202 = some 205 := by kernel_rfl
theorem ty205 : tyK Tryz.prog 205 = some (true, 2) := by kernel_rfl
theorem zr205 : zeroK Tryz.prog 205 = some [.slice none 0 0, .int .i64 0] := by kernel_rfl
theorem by205 : bytesK Tryz.prog 205 = some 32 := by kernel_rfl
theorem ty202 : tyK Tryz.prog 202 = some (false, 1) := by kernel_rfl
theorem pi200 : plainT Tryz.prog 200 = true := by kernel_rfl
theorem pl205 : placesK Tryz.prog 205 = some [(0, 1), (1, 1)] := by kernel_rfl
theorem pi205 : plainT Tryz.prog 205 = true := by kernel_rfl
theorem fd205_0 : fieldK Tryz.prog 205 0 = some 0 := by kernel_rfl
theorem fd49_5 : fieldK Tryz.prog 49 5 = some 5 := by kernel_rfl
theorem ty211 : tyK Tryz.prog 211 = some (true, 2) := by kernel_rfl
theorem zr211 : zeroK Tryz.prog 211 = some [.int .i64 0, .string ⟨#[]⟩] := by kernel_rfl
theorem fd211_0 : fieldK Tryz.prog 211 0 = some 0 := by kernel_rfl
theorem fd211_1 : fieldK Tryz.prog 211 1 = some 1 := by kernel_rfl
theorem pl211 : placesK Tryz.prog 211 = some [(0, 1), (1, 1)] := by kernel_rfl
theorem fd205_1 : fieldK Tryz.prog 205 1 = some 1 := by kernel_rfl
theorem cl5 : Callable Tryz.prog 5 := callable_of Tryz.func5 rfl (by decide)
theorem cl11 : Callable Tryz.prog 11 := callable_of Tryz.func11 rfl (by decide)
theorem cl19 : Callable Tryz.prog 19 := callable_of Tryz.func19 rfl (by decide)
theorem cl20 : Callable Tryz.prog 20 := callable_of Tryz.func20 rfl (by decide)
theorem cl21 : Callable Tryz.prog 21 := callable_of Tryz.func21 rfl (by decide)
theorem cl23 : Callable Tryz.prog 23 := callable_of Tryz.func23 rfl (by decide)
theorem cl24 : Callable Tryz.prog 24 := callable_of Tryz.func24 rfl (by decide)
theorem cl26 : Callable Tryz.prog 26 := callable_of Tryz.func26 rfl (by decide)
theorem cl28 : Callable Tryz.prog 28 := callable_of Tryz.func28 rfl (by decide)
theorem cl29 : Callable Tryz.prog 29 := callable_of Tryz.func29 rfl (by decide)
theorem cl30 : Callable Tryz.prog 30 := callable_of Tryz.func30 rfl (by decide)
theorem cl31 : Callable Tryz.prog 31 := callable_of Tryz.func31 rfl (by decide)
theorem cl32 : Callable Tryz.prog 32 := callable_of Tryz.func32 rfl (by decide)
theorem cl33 : Callable Tryz.prog 33 := callable_of Tryz.func33 rfl (by decide)
theorem cl34 : Callable Tryz.prog 34 := callable_of Tryz.func34 rfl (by decide)
theorem cl35 : Callable Tryz.prog 35 := callable_of Tryz.func35 rfl (by decide)
theorem cl36 : Callable Tryz.prog 36 := callable_of Tryz.func36 rfl (by decide)
theorem cl50 : Callable Tryz.prog 50 := callable_of Tryz.func50 rfl (by decide)
theorem cl52 : Callable Tryz.prog 52 := callable_of Tryz.func52 rfl (by decide)
theorem cl53 : Callable Tryz.prog 53 := callable_of Tryz.func53 rfl (by decide)
theorem cl64 : Callable Tryz.prog 64 := callable_of Tryz.func64 rfl (by decide)
theorem cl65 : Callable Tryz.prog 65 := callable_of Tryz.func65 rfl (by decide)
theorem cl66 : Callable Tryz.prog 66 := callable_of Tryz.func66 rfl (by decide)
theorem cl67 : Callable Tryz.prog 67 := callable_of Tryz.func67 rfl (by decide)
theorem cl68 : Callable Tryz.prog 68 := callable_of Tryz.func68 rfl (by decide)
theorem cl69 : Callable Tryz.prog 69 := callable_of Tryz.func69 rfl (by decide)
theorem cl71 : Callable Tryz.prog 71 := callable_of Tryz.func71 rfl (by decide)
theorem cl74 : Callable Tryz.prog 74 := callable_of Tryz.func74 rfl (by decide)
theorem cl75 : Callable Tryz.prog 75 := callable_of Tryz.func75 rfl (by decide)
theorem cl76 : Callable Tryz.prog 76 := callable_of Tryz.func76 rfl (by decide)
theorem cl77 : Callable Tryz.prog 77 := callable_of Tryz.func77 rfl (by decide)
theorem cl78 : Callable Tryz.prog 78 := callable_of Tryz.func78 rfl (by decide)
theorem cl79 : Callable Tryz.prog 79 := callable_of Tryz.func79 rfl (by decide)
theorem cl80 : Callable Tryz.prog 80 := callable_of Tryz.func80 rfl (by decide)
theorem cl81 : Callable Tryz.prog 81 := callable_of Tryz.func81 rfl (by decide)
theorem cl85 : Callable Tryz.prog 85 := callable_of Tryz.func85 rfl (by decide)
theorem cl89 : Callable Tryz.prog 89 := callable_of Tryz.func89 rfl (by decide)
theorem cl105 : Callable Tryz.prog 105 := callable_of Tryz.func105 rfl (by decide)
theorem cl106 : Callable Tryz.prog 106 := callable_of Tryz.func106 rfl (by decide)
theorem cl108 : Callable Tryz.prog 108 := callable_of Tryz.func108 rfl (by decide)
theorem cl110 : Callable Tryz.prog 110 := callable_of Tryz.func110 rfl (by decide)
theorem cl111 : Callable Tryz.prog 111 := callable_of Tryz.func111 rfl (by decide)
theorem cl112 : Callable Tryz.prog 112 := callable_of Tryz.func112 rfl (by decide)
theorem cl114 : Callable Tryz.prog 114 := callable_of Tryz.func114 rfl (by decide)
theorem cl125 : Callable Tryz.prog 125 := callable_of Tryz.func125 rfl (by decide)
theorem cl126 : Callable Tryz.prog 126 := callable_of Tryz.func126 rfl (by decide)
theorem cl127 : Callable Tryz.prog 127 := callable_of Tryz.func127 rfl (by decide)
theorem cl128 : Callable Tryz.prog 128 := callable_of Tryz.func128 rfl (by decide)
theorem cl129 : Callable Tryz.prog 129 := callable_of Tryz.func129 rfl (by decide)
theorem cl130 : Callable Tryz.prog 130 := callable_of Tryz.func130 rfl (by decide)
theorem cl131 : Callable Tryz.prog 131 := callable_of Tryz.func131 rfl (by decide)
theorem cl132 : Callable Tryz.prog 132 := callable_of Tryz.func132 rfl (by decide)
theorem cl133 : Callable Tryz.prog 133 := callable_of Tryz.func133 rfl (by decide)
theorem cl134 : Callable Tryz.prog 134 := callable_of Tryz.func134 rfl (by decide)
theorem cl137 : Callable Tryz.prog 137 := callable_of Tryz.func137 rfl (by decide)
theorem cl138 : Callable Tryz.prog 138 := callable_of Tryz.func138 rfl (by decide)
theorem cl139 : Callable Tryz.prog 139 := callable_of Tryz.func139 rfl (by decide)
theorem cl140 : Callable Tryz.prog 140 := callable_of Tryz.func140 rfl (by decide)
theorem cl141 : Callable Tryz.prog 141 := callable_of Tryz.func141 rfl (by decide)
theorem cl142 : Callable Tryz.prog 142 := callable_of Tryz.func142 rfl (by decide)
theorem cl143 : Callable Tryz.prog 143 := callable_of Tryz.func143 rfl (by decide)
theorem cl144 : Callable Tryz.prog 144 := callable_of Tryz.func144 rfl (by decide)
theorem cl145 : Callable Tryz.prog 145 := callable_of Tryz.func145 rfl (by decide)
theorem cl146 : Callable Tryz.prog 146 := callable_of Tryz.func146 rfl (by decide)
theorem cl147 : Callable Tryz.prog 147 := callable_of Tryz.func147 rfl (by decide)
theorem cl150 : Callable Tryz.prog 150 := callable_of Tryz.func150 rfl (by decide)
theorem cl152 : Callable Tryz.prog 152 := callable_of Tryz.func152 rfl (by decide)
theorem cl153 : Callable Tryz.prog 153 := callable_of Tryz.func153 rfl (by decide)
theorem cl167 : Callable Tryz.prog 167 := callable_of Tryz.func167 rfl (by decide)
theorem cl171 : Callable Tryz.prog 171 := callable_of Tryz.func171 rfl (by decide)
theorem cl172 : Callable Tryz.prog 172 := callable_of Tryz.func172 rfl (by decide)
theorem cl173 : Callable Tryz.prog 173 := callable_of Tryz.func173 rfl (by decide)
theorem cl176 : Callable Tryz.prog 176 := callable_of Tryz.func176 rfl (by decide)
theorem cl177 : Callable Tryz.prog 177 := callable_of Tryz.func177 rfl (by decide)
theorem cl178 : Callable Tryz.prog 178 := callable_of Tryz.func178 rfl (by decide)
theorem cl179 : Callable Tryz.prog 179 := callable_of Tryz.func179 rfl (by decide)
theorem cl180 : Callable Tryz.prog 180 := callable_of Tryz.func180 rfl (by decide)
theorem cl181 : Callable Tryz.prog 181 := callable_of Tryz.func181 rfl (by decide)
theorem cl182 : Callable Tryz.prog 182 := callable_of Tryz.func182 rfl (by decide)
theorem cl183 : Callable Tryz.prog 183 := callable_of Tryz.func183 rfl (by decide)
theorem cl185 : Callable Tryz.prog 185 := callable_of Tryz.func185 rfl (by decide)
theorem cl186 : Callable Tryz.prog 186 := callable_of Tryz.func186 rfl (by decide)
theorem cl187 : Callable Tryz.prog 187 := callable_of Tryz.func187 rfl (by decide)
theorem cl188 : Callable Tryz.prog 188 := callable_of Tryz.func188 rfl (by decide)
theorem cl189 : Callable Tryz.prog 189 := callable_of Tryz.func189 rfl (by decide)
theorem cl190 : Callable Tryz.prog 190 := callable_of Tryz.func190 rfl (by decide)
theorem cl191 : Callable Tryz.prog 191 := callable_of Tryz.func191 rfl (by decide)
theorem cl194 : Callable Tryz.prog 194 := callable_of Tryz.func194 rfl (by decide)
theorem cl195 : Callable Tryz.prog 195 := callable_of Tryz.func195 rfl (by decide)
theorem cl197 : Callable Tryz.prog 197 := callable_of Tryz.func197 rfl (by decide)
theorem cl198 : Callable Tryz.prog 198 := callable_of Tryz.func198 rfl (by decide)
theorem cl208 : Callable Tryz.prog 208 := callable_of Tryz.func208 rfl (by decide)
theorem cl209 : Callable Tryz.prog 209 := callable_of Tryz.func209 rfl (by decide)
theorem cl210 : Callable Tryz.prog 210 := callable_of Tryz.func210 rfl (by decide)
theorem cl211 : Callable Tryz.prog 211 := callable_of Tryz.func211 rfl (by decide)
theorem cl212 : Callable Tryz.prog 212 := callable_of Tryz.func212 rfl (by decide)
theorem cl213 : Callable Tryz.prog 213 := callable_of Tryz.func213 rfl (by decide)
theorem cl214 : Callable Tryz.prog 214 := callable_of Tryz.func214 rfl (by decide)
theorem cl215 : Callable Tryz.prog 215 := callable_of Tryz.func215 rfl (by decide)
theorem cl216 : Callable Tryz.prog 216 := callable_of Tryz.func216 rfl (by decide)
theorem cl217 : Callable Tryz.prog 217 := callable_of Tryz.func217 rfl (by decide)
theorem cl218 : Callable Tryz.prog 218 := callable_of Tryz.func218 rfl (by decide)
theorem cl224 : Callable Tryz.prog 224 := callable_of Tryz.func224 rfl (by decide)
theorem cl225 : Callable Tryz.prog 225 := callable_of Tryz.func225 rfl (by decide)
theorem cl226 : Callable Tryz.prog 226 := callable_of Tryz.func226 rfl (by decide)
theorem cl227 : Callable Tryz.prog 227 := callable_of Tryz.func227 rfl (by decide)
theorem cl228 : Callable Tryz.prog 228 := callable_of Tryz.func228 rfl (by decide)
theorem cl232 : Callable Tryz.prog 232 := callable_of Tryz.func232 rfl (by decide)
theorem cl233 : Callable Tryz.prog 233 := callable_of Tryz.func233 rfl (by decide)
theorem cl259 : Callable Tryz.prog 259 := callable_of Tryz.func259 rfl (by decide)
theorem cl260 : Callable Tryz.prog 260 := callable_of Tryz.func260 rfl (by decide)
theorem cl261 : Callable Tryz.prog 261 := callable_of Tryz.func261 rfl (by decide)
theorem cl262 : Callable Tryz.prog 262 := callable_of Tryz.func262 rfl (by decide)
theorem mix : Tryz.prog.follows .mixedOrders = true := by kernel_rfl
end Go.Proofs.YtebkfinhhpelbaaGreat
