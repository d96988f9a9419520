/- What container/heap asks of a heap, and what it does with it. Nothing of the program is named here. No condition. -/
import Derived.Test.YtmbafmifalppaaaProg
import Derived.Test.YtmbafmifalppaaaQbX3
set_option linter.unusedVariables false
set_option linter.unusedSimpArgs false
set_option linter.unnecessarySimpa false
set_option maxRecDepth 100000

namespace Go.Fw
open Go Go.RowKit
structure HeapK (P : Program) {α : Type} [Inhabited α] (lt : α → α → Bool) (x : Value) (Rep : GH → List α → MH → Prop) (EV : GH → Value → α → Prop) : Prop where
 mono : ∀ {G G' l M}, Le G G' → Rep G l M → Rep G' l M
 bound : ∀ {G l M}, Rep G l M → l.length ≤ 140737488355328
 len : ∀ {G l M}, Rep G l M → Inv P x "Len" [] G M (fun v G' M' => v = .int .i64 (l.length : Int) ∧ M' = M)
 less : ∀ {G l M} {i j : Nat}, Rep G l M → i < l.length → j < l.length → Inv P x "Less" [.int .i64 (i : Int), .int .i64 (j : Int)] G M (fun v G' M' => v = .bool (lt (nth l i) (nth l j)) ∧ M' = M)
 swap : ∀ {G l M} {i j : Nat}, Rep G l M → i < l.length → j < l.length → Inv P x "Swap" [.int .i64 (i : Int), .int .i64 (j : Int)] G M (fun v G' M' => v = .tuple #[] ∧ Rep G' (swapL l i j) M')
 push : ∀ {G l M u a}, Rep G l M → l.length < 1000000 → EV G u a → Inv P x "Push" [u] G M (fun v G' M' => v = .tuple #[] ∧ Rep G' (l ++ [a]) M')
 pop : ∀ {G l M}, Rep G l M → 0 < l.length → Inv P x "Pop" [] G M (fun v G' M' => EV G' v (nth l (l.length - 1)) ∧ Rep G' (l.take (l.length - 1)) M')
section
variable {α : Type} [Inhabited α] {lt : α → α → Bool}
end
end Go.Fw

namespace Go.Fw
open Go Go.RowKit
abbrev Hd := List Msg × Int
def Hd.st (a : Hd) : Int := match a.1 with | [] => 0 | m :: _ => m.stamp
def Hd.lt (a b : Hd) : Bool := decide (a.st < b.st) || (decide (a.st = b.st) && decide (a.2 < b.2))
theorem Hd.st_at {a : Hd} (h : 0 < a.1.length) : a.st = a.1[0].stamp := by
 obtain ⟨l, n⟩ := a
 cases l with
 | nil => simp at h
 | cons m l => rfl
theorem Hd.lo : LO Hd.lt where
 asymm := fun {a b} h => by
  simp only [Hd.lt, Bool.or_eq_true, Bool.and_eq_true, decide_eq_true_eq] at h
  simp only [Hd.lt, Bool.or_eq_false_iff, Bool.and_eq_false_iff, decide_eq_false_iff_not]
  omega
 trans := fun {a b c} h1 h2 => by
  simp only [Hd.lt, Bool.or_eq_false_iff, Bool.and_eq_false_iff, decide_eq_false_iff_not] at h1 h2 ⊢
  omega
def HdC (G : GH) (cs : List Value) (a : Hd) : Prop := ∃ p c, cs = [.slice p a.1.length c, .int .i64 a.2] ∧ SlR eMsg G (.slice p a.1.length c) a.1 ∧ i64 a.2
theorem HdC.mono {G G' : GH} {cs a} (hl : Le G G') (h : HdC G cs a) : HdC G' cs a := by
 obtain ⟨p, c, h1, h2, h3⟩ := h; exact ⟨p, c, h1, h2.mono hl, h3⟩
def eHead : Enc Hd where
 k := 2
 w := 32
 R := HdC
 mono := fun hl h => h.mono hl
 len := fun h => by obtain ⟨p, c, h0, _⟩ := h; rw [h0]; rfl
 one := fun h u hu => by
  obtain ⟨p, c, h0, _⟩ := h
  rw [h0] at hu
  simp at hu
  rcases hu with rfl | rfl <;> rfl
end Go.Fw

namespace Go.Fw
open Go Go.RowKit
def eBool : Enc Bool where
 k := 1
 w := 1
 R := fun _ cs b => cs = [.bool b]
 mono := fun _ h => h
 len := fun h => by rw [h]; rfl
 one := fun h u hu => by rw [h] at hu; simp at hu; subst hu; rfl
abbrev ltI : Int → Int → Bool := fun a b => decide (a < b)
def hasN (u : List Bool) (i : Int) : Bool := decide (0 ≤ i) && (decide (i < u.length) && u.getD i.toNat false)
def freeN (u : List Bool) : List Int := ((List.range u.length).filter fun i => !u.getD i true).map fun i : Nat => (i : Int)
def usedN (u : List Bool) : List Int := ((List.range u.length).filter fun i => u.getD i true).map fun i : Nat => (i : Int)
def firstN : List Bool → Nat
 | [] => 0
 | true :: l => firstN l + 1
 | false :: _ => 0
def iotaN (n : Nat) : List Int := (List.range n).map fun i : Nat => (i : Int)
def nextA {α : Type} (st : List α × List Bool) (x : α) : (Int × Int) × (List α × List Bool) :=
 if firstN st.2 < st.2.length then ((firstN st.2, 0), (st.1.set (firstN st.2) x, st.2.set (firstN st.2) true)) else ((0, 4), st)
def freeA {α : Type} (st : List α × List Bool) (i : Int) (z : α) : Int × (List α × List Bool) := if hasN st.2 i = true then (0, (st.1.set i.toNat z, st.2.set i.toNat false)) else (8, st)
def layA {α : Type} (st : List α × List Bool) (i : Int) (x : α) : Int × (List α × List Bool) := if hasN st.2 i = true then (0, (st.1.set i.toNat x, st.2)) else (8, st)
def getA {α : Type} (st : List α × List Bool) (i : Int) (z : α) : α := if hasN st.2 i = true then st.1.getD i.toNat z else z
def ArP {α : Type} (e : Enc α) (Te TB TI Tb : TypeId) (b : Nat) (G : GH) (st : List α × List Bool × List Int) (M : MH) : Prop :=
 ∃ vc vu vf Mc Mu Mf, M = (b, .cells (List.toArray [vc, vu, vf]) Tb (0, 0)) :: (Mc ++ (Mu ++ Mf)) ∧ OwnR e Te G vc st.1 Mc ∧ OwnR eBool TB G vu st.2.1 Mu ∧ OwnR eInt TI G vf st.2.2 Mf
theorem ArP.mono {α : Type} {e : Enc α} {Te TB TI Tb : TypeId} {b : Nat} {G G' : GH} {st : List α × List Bool × List Int} {M : MH} (hl : Le G G') (h : ArP e Te TB TI Tb b G st M) : ArP e Te TB TI Tb b G' st M := by
 obtain ⟨vc, vu, vf, Mc, Mu, Mf, h1, h2, h3, h4⟩ := h
 exact ⟨vc, vu, vf, Mc, Mu, Mf, h1, h2.mono hl, h3.mono hl, h4.mono hl⟩
def ArR {α : Type} (e : Enc α) (Te TB TI Tb : TypeId) (b : Nat) (G : GH) (st : List α × List Bool) (M : MH) : Prop :=
 ∃ f, ArP e Te TB TI Tb b G (st.1, st.2, f) M ∧ st.1.length = st.2.length ∧ st.2.length ≤ 4096 ∧ Heap ltI f ∧ f.Perm (freeN st.2)
theorem ArR.mono {α : Type} {e : Enc α} {Te TB TI Tb : TypeId} {b : Nat} {G G' : GH} {st : List α × List Bool} {M : MH} (hl : Le G G') (h : ArR e Te TB TI Tb b G st M) : ArR e Te TB TI Tb b G' st M := by
 obtain ⟨f, h1, h2⟩ := h
 exact ⟨f, h1.mono hl, h2⟩
theorem ArR.cast {α : Type} {e : Enc α} {Te TB TI Tb : TypeId} {b : Nat} {G : GH} {st st' : List α × List Bool} {M M' : MH} (h : ArR e Te TB TI Tb b G st M) (e1 : st = st') (e2 : M = M') : ArR e Te TB TI Tb b G st' M' := by subst e1 e2; exact h
theorem NodeC.cast {G : GH} {cs : List Value} {n m : Nd} (h : NodeC G cs n) (e : n = m) : NodeC G cs m := e ▸ h
def usedK (u : List Bool) (k : Nat) : List Int := ((List.range k).filter fun i => u.getD i true).map fun i : Nat => (i : Int)
end Go.Fw

namespace Go.Fw
open Go Go.RowKit
def CfgR (c : Cfg) : Prop := (4 ≤ c.fan ∧ c.fan ≤ 64) ∧ (2 ≤ c.leaf ∧ c.leaf ≤ 64) ∧ (36 ≤ c.bud ∧ c.bud ≤ 4096) ∧ (1 ≤ c.slots ∧ c.slots ≤ 4096) ∧ (0 ≤ c.rest ∧ c.rest ≤ 100)
instance (c : Cfg) : Decidable (CfgR c) := by unfold CfgR; infer_instance
def arOf (n : Nat) (l : List Nd) : List Nd × List Bool := (l ++ List.replicate (n - l.length) Nd.zero, List.replicate l.length true ++ List.replicate (n - l.length) false)
def putL (l : List Nd) (x : Nd) : Int × List Nd := if 0 ≤ x.slot ∧ x.slot < l.length then (0, l.set x.slot.toNat x) else (8, l)
def takeL (n : Nat) (l : List Nd) (x : Nd) : (Int × Int) × List Nd := if l.length < n then ((l.length, 0), l ++ [{ x with slot := l.length }]) else ((0, 4), l)
def getL (l : List Nd) (i : Int) : Nd := if 0 ≤ i then l.getD i.toNat Nd.zero else Nd.zero
theorem getL_at {l : List Nd} {k : Nat} (h : k < l.length) : getL l k = l[k] := by
 unfold getL; rw [if_pos (by omega), Int.toNat_natCast, List.getD_eq_getElem?_getD, List.getElem?_eq_getElem h]; rfl
def takeA (a : List Nd × List Bool) (x : Nd) : (Int × Int) × (List Nd × List Bool) :=
 if (nextA a Nd.zero).1.2 = 0 then (((nextA a Nd.zero).1.1, (layA (nextA a Nd.zero).2 (nextA a Nd.zero).1.1 { x with slot := (nextA a Nd.zero).1.1 }).1), (layA (nextA a Nd.zero).2 (nextA a Nd.zero).1.1 { x with slot := (nextA a Nd.zero).1.1 }).2)
 else ((0, (nextA a Nd.zero).1.2), (nextA a Nd.zero).2)
def StA (te tB ti tb TS b : Nat) (G : GH) (c : Cfg) (a : List Nd × List Bool) (M : MH) : Prop :=
 ∃ b2 Ma, M = (b, .cells (List.toArray [.int .i64 c.fan, .int .i64 c.leaf, .int .i64 c.bud, .int .i64 c.slots, .int .i64 c.rest, .pointer (some ⟨b2, 0, none⟩)]) TS (0, 0)) :: Ma ∧ ArR eNode te tB ti tb b2 G a Ma
theorem StA.mono {te tB ti tb TS b : Nat} {G G' : GH} {c : Cfg} {a : List Nd × List Bool} {M : MH} (hl : Le G G') (h : StA te tB ti tb TS b G c a M) : StA te tB ti tb TS b G' c a M := by
 obtain ⟨b2, Ma, h1, h2⟩ := h; exact ⟨b2, Ma, h1, h2.mono hl⟩
def StR (te tB ti tb TS b : Nat) (c : Cfg) (G : GH) (l : List Nd) (M : MH) : Prop := CfgR c ∧ l.length ≤ c.slots.toNat ∧ StA te tB ti tb TS b G c (arOf c.slots.toNat l) M
theorem StR.mono {te tB ti tb TS b : Nat} {G G' : GH} {c : Cfg} {l : List Nd} {M : MH} (hl : Le G G') (h : StR te tB ti tb TS b c G l M) : StR te tB ti tb TS b c G' l M := ⟨h.1, h.2.1, h.2.2.mono hl⟩
theorem StA.cast {te tB ti tb TS b : Nat} {G : GH} {c : Cfg} {a a' : List Nd × List Bool} {M : MH} (h : StA te tB ti tb TS b G c a M) (e : a = a') : StA te tB ti tb TS b G c a' M := e ▸ h
def leafN (slot : Int) : Nd := ⟨slot, 0, [], [], Str.nil, true, -1, 0, [], []⟩
theorem NodeC.of {G : GH} {cs : List Value} {n m : Nd} (h : NodeC G cs n) (e : n = m) : NodeC G cs m := e ▸ h
end Go.Fw
namespace Go.Proofs.Ytmbafmifalppaaa
open Go.Fw
theorem ty23 : tyK Try.prog 23 = some (true, 5) := by kernel_rfl
theorem sl24 : sliceK Try.prog 24 = some 35 := by kernel_rfl
theorem ty35 : tyK Try.prog 35 = some (true, 10) := by kernel_rfl
theorem zr35 : zeroK Try.prog 35 = some [.int .i64 0, .int .i64 0, .slice none 0 0, .slice none 0 0, .string ⟨#[]⟩, .bool false, .int .i64 0, .int .i64 0, .slice none 0 0, .slice none 0 0] := by kernel_rfl
theorem fd35_1 : fieldK Try.prog 35 1 = some 1 := by kernel_rfl
theorem ty3 : tyK Try.prog 3 = some (false, 1) := by kernel_rfl
theorem zr3 : zeroK Try.prog 3 = some [.int .i64 0] := by kernel_rfl
theorem fd35_0 : fieldK Try.prog 35 0 = some 0 := by kernel_rfl
theorem sl30 : sliceK Try.prog 30 = some 3 := by kernel_rfl
theorem by3 : bytesK Try.prog 3 = some 8 := by kernel_rfl
theorem fd35_9 : fieldK Try.prog 35 9 = some 9 := by kernel_rfl
theorem ty31 : tyK Try.prog 31 = some (false, 1) := by kernel_rfl
theorem sl31 : sliceK Try.prog 31 = some 71 := by kernel_rfl
theorem ty71 : tyK Try.prog 71 = some (true, 2) := by kernel_rfl
theorem zr71 : zeroK Try.prog 71 = some [.string ⟨#[]⟩, .string ⟨#[]⟩] := by kernel_rfl
theorem by71 : bytesK Try.prog 71 = some 32 := by kernel_rfl
theorem fd35_3 : fieldK Try.prog 35 3 = some 3 := by kernel_rfl
theorem ty30 : tyK Try.prog 30 = some (false, 1) := by kernel_rfl
theorem fd23_0 : fieldK Try.prog 23 0 = some 0 := by kernel_rfl
theorem bo4 : Try.prog.underlying 4 = some .bool := by kernel_rfl
theorem un3 : Try.prog.underlying 3 = some (.int .i64) := by kernel_rfl
theorem un63 : Try.prog.underlying 63 = some (.int .u64) := by kernel_rfl
theorem fd71_1 : fieldK Try.prog 71 1 = some 1 := by kernel_rfl
theorem ty9 : tyK Try.prog 9 = some (false, 1) := by kernel_rfl
theorem zr9 : zeroK Try.prog 9 = some [.string ⟨#[]⟩] := by kernel_rfl
theorem st9 : Try.prog.underlying 9 = some .string := by kernel_rfl
theorem fd35_7 : fieldK Try.prog 35 7 = some 7 := by kernel_rfl
theorem fd35_2 : fieldK Try.prog 35 2 = some 2 := by kernel_rfl
theorem ty32 : tyK Try.prog 32 = some (false, 1) := by kernel_rfl
theorem sl32 : sliceK Try.prog 32 = some 9 := by kernel_rfl
theorem by9 : bytesK Try.prog 9 = some 16 := by kernel_rfl
theorem ty37 : tyK Try.prog 37 = some (true, 3) := by kernel_rfl
theorem zr37 : zeroK Try.prog 37 = some [.string ⟨#[]⟩, .string ⟨#[]⟩, .bool false] := by kernel_rfl
theorem fd37_0 : fieldK Try.prog 37 0 = some 0 := by kernel_rfl
theorem fd35_8 : fieldK Try.prog 35 8 = some 8 := by kernel_rfl
theorem ty33 : tyK Try.prog 33 = some (false, 1) := by kernel_rfl
theorem sl33 : sliceK Try.prog 33 = some 141 := by kernel_rfl
theorem ty141 : tyK Try.prog 141 = some (true, 6) := by kernel_rfl
theorem zr141 : zeroK Try.prog 141 = some [.int .i64 0, .int .i64 0, .string ⟨#[]⟩, .string ⟨#[]⟩, .bool false, .string ⟨#[]⟩] := by kernel_rfl
theorem by141 : bytesK Try.prog 141 = some 72 := by kernel_rfl
theorem pl37 : placesK Try.prog 37 = some [(0, 1), (1, 1), (2, 1)] := by kernel_rfl
theorem fd35_4 : fieldK Try.prog 35 4 = some 4 := by kernel_rfl
theorem fd23_1 : fieldK Try.prog 23 1 = some 1 := by kernel_rfl
theorem fd23_2 : fieldK Try.prog 23 2 = some 2 := by kernel_rfl
theorem fd35_5 : fieldK Try.prog 35 5 = some 5 := by kernel_rfl
theorem ty4 : tyK Try.prog 4 = some (false, 1) := by kernel_rfl
theorem fd35_6 : fieldK Try.prog 35 6 = some 6 := by kernel_rfl
theorem fd37_2 : fieldK Try.prog 37 2 = some 2 := by kernel_rfl
theorem fd37_1 : fieldK Try.prog 37 1 = some 1 := by kernel_rfl
theorem fd141_0 : fieldK Try.prog 141 0 = some 0 := by kernel_rfl
theorem pl141 : placesK Try.prog 141 = some [(0, 1), (1, 1), (2, 1), (3, 1), (4, 1), (5, 1)] := by kernel_rfl
theorem fd141_2 : fieldK Try.prog 141 2 = some 2 := by kernel_rfl
theorem fd141_1 : fieldK Try.prog 141 1 = some 1 := by kernel_rfl
theorem fd71_0 : fieldK Try.prog 71 0 = some 0 := by kernel_rfl
theorem ty94 : tyK Try.prog 94 = some (true, 2) := by kernel_rfl
theorem zr94 : zeroK Try.prog 94 = some [.int .i64 0, .string ⟨#[]⟩] := by kernel_rfl
theorem fd94_0 : fieldK Try.prog 94 0 = some 0 := by kernel_rfl
theorem fd94_1 : fieldK Try.prog 94 1 = some 1 := by kernel_rfl
theorem pl94 : placesK Try.prog 94 = some [(0, 1), (1, 1)] := by kernel_rfl
theorem pl71 : placesK Try.prog 71 = some [(0, 1), (1, 1)] := by kernel_rfl
theorem fd141_3 : fieldK Try.prog 141 3 = some 3 := by kernel_rfl
theorem fd141_5 : fieldK Try.prog 141 5 = some 5 := by kernel_rfl
theorem fd141_4 : fieldK Try.prog 141 4 = some 4 := by kernel_rfl
theorem cl6 : Callable Try.prog 6 := callable_of Try.func6 rfl (by decide)
theorem cl20 : Callable Try.prog 20 := callable_of Try.func20 rfl (by decide)
theorem cl45 : Callable Try.prog 45 := callable_of Try.func45 rfl (by decide)
theorem cl47 : Callable Try.prog 47 := callable_of Try.func47 rfl (by decide)
theorem cl48 : Callable Try.prog 48 := callable_of Try.func48 rfl (by decide)
theorem cl49 : Callable Try.prog 49 := callable_of Try.func49 rfl (by decide)
theorem cl50 : Callable Try.prog 50 := callable_of Try.func50 rfl (by decide)
theorem cl51 : Callable Try.prog 51 := callable_of Try.func51 rfl (by decide)
theorem cl52 : Callable Try.prog 52 := callable_of Try.func52 rfl (by decide)
theorem cl53 : Callable Try.prog 53 := callable_of Try.func53 rfl (by decide)
theorem cl54 : Callable Try.prog 54 := callable_of Try.func54 rfl (by decide)
theorem cl55 : Callable Try.prog 55 := callable_of Try.func55 rfl (by decide)
theorem cl56 : Callable Try.prog 56 := callable_of Try.func56 rfl (by decide)
theorem cl57 : Callable Try.prog 57 := callable_of Try.func57 rfl (by decide)
theorem cl65 : Callable Try.prog 65 := callable_of Try.func65 rfl (by decide)
theorem cl73 : Callable Try.prog 73 := callable_of Try.func73 rfl (by decide)
theorem cl74 : Callable Try.prog 74 := callable_of Try.func74 rfl (by decide)
theorem cl75 : Callable Try.prog 75 := callable_of Try.func75 rfl (by decide)
theorem cl85 : Callable Try.prog 85 := callable_of Try.func85 rfl (by decide)
theorem cl93 : Callable Try.prog 93 := callable_of Try.func93 rfl (by decide)
theorem cl94 : Callable Try.prog 94 := callable_of Try.func94 rfl (by decide)
theorem cl96 : Callable Try.prog 96 := callable_of Try.func96 rfl (by decide)
theorem cl97 : Callable Try.prog 97 := callable_of Try.func97 rfl (by decide)
theorem cl98 : Callable Try.prog 98 := callable_of Try.func98 rfl (by decide)
theorem cl99 : Callable Try.prog 99 := callable_of Try.func99 rfl (by decide)
theorem cl100 : Callable Try.prog 100 := callable_of Try.func100 rfl (by decide)
theorem cl101 : Callable Try.prog 101 := callable_of Try.func101 rfl (by decide)
theorem cl102 : Callable Try.prog 102 := callable_of Try.func102 rfl (by decide)
theorem cl103 : Callable Try.prog 103 := callable_of Try.func103 rfl (by decide)
theorem cl104 : Callable Try.prog 104 := callable_of Try.func104 rfl (by decide)
theorem cl105 : Callable Try.prog 105 := callable_of Try.func105 rfl (by decide)
theorem cl110 : Callable Try.prog 110 := callable_of Try.func110 rfl (by decide)
theorem cl112 : Callable Try.prog 112 := callable_of Try.func112 rfl (by decide)
theorem cl117 : Callable Try.prog 117 := callable_of Try.func117 rfl (by decide)
theorem cl124 : Callable Try.prog 124 := callable_of Try.func124 rfl (by decide)
theorem cl129 : Callable Try.prog 129 := callable_of Try.func129 rfl (by decide)
theorem cl130 : Callable Try.prog 130 := callable_of Try.func130 rfl (by decide)
theorem cl131 : Callable Try.prog 131 := callable_of Try.func131 rfl (by decide)
theorem cl132 : Callable Try.prog 132 := callable_of Try.func132 rfl (by decide)
theorem cl134 : Callable Try.prog 134 := callable_of Try.func134 rfl (by decide)
theorem cl136 : Callable Try.prog 136 := callable_of Try.func136 rfl (by decide)
theorem cl137 : Callable Try.prog 137 := callable_of Try.func137 rfl (by decide)
theorem cl138 : Callable Try.prog 138 := callable_of Try.func138 rfl (by decide)
theorem cl139 : Callable Try.prog 139 := callable_of Try.func139 rfl (by decide)
theorem cl140 : Callable Try.prog 140 := callable_of Try.func140 rfl (by decide)
theorem cl141 : Callable Try.prog 141 := callable_of Try.func141 rfl (by decide)
theorem cl142 : Callable Try.prog 142 := callable_of Try.func142 rfl (by decide)
theorem cl146 : Callable Try.prog 146 := callable_of Try.func146 rfl (by decide)
theorem cl149 : Callable Try.prog 149 := callable_of Try.func149 rfl (by decide)
theorem cl151 : Callable Try.prog 151 := callable_of Try.func151 rfl (by decide)
theorem cl156 : Callable Try.prog 156 := callable_of Try.func156 rfl (by decide)
theorem cl158 : Callable Try.prog 158 := callable_of Try.func158 rfl (by decide)
theorem cl159 : Callable Try.prog 159 := callable_of Try.func159 rfl (by decide)
theorem cl160 : Callable Try.prog 160 := callable_of Try.func160 rfl (by decide)
theorem cl161 : Callable Try.prog 161 := callable_of Try.func161 rfl (by decide)
theorem cl162 : Callable Try.prog 162 := callable_of Try.func162 rfl (by decide)
theorem cl163 : Callable Try.prog 163 := callable_of Try.func163 rfl (by decide)
theorem cl164 : Callable Try.prog 164 := callable_of Try.func164 rfl (by decide)
theorem cl165 : Callable Try.prog 165 := callable_of Try.func165 rfl (by decide)
theorem cl166 : Callable Try.prog 166 := callable_of Try.func166 rfl (by decide)
theorem cl168 : Callable Try.prog 168 := callable_of Try.func168 rfl (by decide)
theorem cl169 : Callable Try.prog 169 := callable_of Try.func169 rfl (by decide)
theorem cl170 : Callable Try.prog 170 := callable_of Try.func170 rfl (by decide)
theorem cl171 : Callable Try.prog 171 := callable_of Try.func171 rfl (by decide)
theorem cl173 : Callable Try.prog 173 := callable_of Try.func173 rfl (by decide)
theorem cl178 : Callable Try.prog 178 := callable_of Try.func178 rfl (by decide)
theorem cl179 : Callable Try.prog 179 := callable_of Try.func179 rfl (by decide)
theorem cl180 : Callable Try.prog 180 := callable_of Try.func180 rfl (by decide)
theorem cl181 : Callable Try.prog 181 := callable_of Try.func181 rfl (by decide)
theorem cl182 : Callable Try.prog 182 := callable_of Try.func182 rfl (by decide)
theorem cl183 : Callable Try.prog 183 := callable_of Try.func183 rfl (by decide)
theorem cl184 : Callable Try.prog 184 := callable_of Try.func184 rfl (by decide)
theorem cl185 : Callable Try.prog 185 := callable_of Try.func185 rfl (by decide)
theorem cl186 : Callable Try.prog 186 := callable_of Try.func186 rfl (by decide)
theorem cl187 : Callable Try.prog 187 := callable_of Try.func187 rfl (by decide)
theorem cl188 : Callable Try.prog 188 := callable_of Try.func188 rfl (by decide)
theorem cl189 : Callable Try.prog 189 := callable_of Try.func189 rfl (by decide)
theorem cl190 : Callable Try.prog 190 := callable_of Try.func190 rfl (by decide)
theorem cl191 : Callable Try.prog 191 := callable_of Try.func191 rfl (by decide)
theorem cl194 : Callable Try.prog 194 := callable_of Try.func194 rfl (by decide)
theorem cl195 : Callable Try.prog 195 := callable_of Try.func195 rfl (by decide)
theorem cl196 : Callable Try.prog 196 := callable_of Try.func196 rfl (by decide)
theorem cl197 : Callable Try.prog 197 := callable_of Try.func197 rfl (by decide)
theorem cl198 : Callable Try.prog 198 := callable_of Try.func198 rfl (by decide)
theorem cl199 : Callable Try.prog 199 := callable_of Try.func199 rfl (by decide)
theorem cl200 : Callable Try.prog 200 := callable_of Try.func200 rfl (by decide)
theorem cl201 : Callable Try.prog 201 := callable_of Try.func201 rfl (by decide)
theorem cl202 : Callable Try.prog 202 := callable_of Try.func202 rfl (by decide)
theorem cl203 : Callable Try.prog 203 := callable_of Try.func203 rfl (by decide)
theorem cl206 : Callable Try.prog 206 := callable_of Try.func206 rfl (by decide)
theorem mix : Try.prog.follows .mixedOrders = true := by kernel_rfl
end Go.Proofs.Ytmbafmifalppaaa
theorem List.Sublist.k9 {α : Type} {a : α} {l l' : List α} (h : l.Sublist l') : (a :: l).Sublist (a :: l') := h.cons_cons a
namespace Go.Fw
open Go Go.RowKit
theorem sn9 {α : Type} {l : List α} : List.Sublist [] l := List.nil_sublist l
theorem sr9 {α : Type} {l : List α} : List.Sublist l l := List.Sublist.refl l
theorem pr9 {α : Type} {l : List α} : List.Perm l l := List.Perm.refl l
theorem WD.tk {E : Env} {f : Fr} {G : GH} {M Mk : MH} {ops : Array Oper} {K : Kt} {fuel : Nat} {listed : Array Bool} (i : Nat) {op : Op} {ty : TypeId} {pos : String} {aft : Array Edge} {d : Nat} {v : Value} (ho : ops[i]? = some ⟨some d, op, ty, pos, aft, none⟩) (hok : Ok E f G Mk ⟨some d, op, ty, pos, aft, none⟩ v)
    (h : WD E ops fuel (listed.setIfInBounds i true) (upd f d v) G M Mk K) (hs : Region.noSelect ops = true := by kernel_rfl) (hf : Region.free .any ops listed i = true := by kernel_rfl) (hr : (Region.ready .any ops listed).contains i = true := by kernel_rfl) (hd : Nat.blt d E.n = true := by rfl) : WD E ops (fuel + 1) listed f G M Mk K :=
  WD.take i ho rfl rfl hs hf hr hok h hd
theorem WD.n9 {E : Env} {f : Fr} {G G' : GH} {M' Mk : MH} {ops : Array Oper} {K : Kt} {fuel : Nat} {listed : Array Bool} (a : Le G G') (b : Mk.Sublist M') (h : WD E ops fuel listed f G' M' Mk K) : Le G G' ∧ Mk.Sublist M' ∧ ∃ Mk' : MH, Mk'.Sublist M' ∧ Mk.Sublist Mk' ∧ WD E ops fuel listed f G' M' Mk' K := ⟨a, b, Mk, b, List.Sublist.refl _, h⟩
theorem WD.a1 {E : Env} {f : Fr} {G : GH} {M Mk : MH} {ops : Array Oper} {K : Kt} {fuel : Nat} {listed : Array Bool} (i : Nat) {dst : Option Nat} {op : Op} {ty : TypeId} {pos : String} {aft : Array Edge} (ho : ops[i]? = some ⟨dst, op, ty, pos, aft, none⟩)
    (h : W E [(⟨dst, op, ty, pos, aft, none⟩ : Oper)].toArray false [(⟨dst, op, ty, pos, aft, none⟩ : Oper)] f G M (fun f' G' M' => Le G G' ∧ Mk.Sublist M' ∧ ∃ Mk', Mk'.Sublist M' ∧ Mk.Sublist Mk' ∧ WD E ops fuel (listed.setIfInBounds i true) f' G' M' Mk' K))
    (hr : Region.ready .any ops listed = [i] := by kernel_rfl) : WD E ops (fuel + 1) listed f G M Mk K := WD.any [i] hr rfl ⟨⟨_, ho, rfl, h⟩, trivial⟩
abbrev nd9 (a b : Int) (c : Option Addr) (d e : Nat) (f : Option Addr) (g h : Nat) (i : ByteArray) (j : Bool) (k l : Int) (m : Option Addr) (n o : Nat) (p : Option Addr) (q r : Nat) : List Value := [.int .i64 a, .int .i64 b, .slice c d e, .slice f g h, .string i, .bool j, .int .i64 k, .int .i64 l, .slice m n o, .slice p q r]
end Go.Fw
