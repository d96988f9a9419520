/- What container/heap asks of a heap, and what it does with it. Nothing of the program is named here. No condition. -/
import Derived.Test.YtmbafmifalppaaaGreatProg
import Derived.Test.YtmbafmifalppaaaGreatQcX3
set_option linter.unusedVariables false
set_option linter.unusedSimpArgs false
set_option linter.unnecessarySimpa false
set_option maxRecDepth 100000

namespace Go.Fw
open Go Go.RowKit
structure HeapK (P : Program) {α : Type} [Inhabited α] (lt : α → α → Bool) (x : Value) (Rep : GH → List α → MH → Prop) (EV : GH → Value → α → Prop) : Prop where
 mono : ∀ {G G' l M}, Le G G' → Rep G l M → Rep G' l M
 bound : ∀ {G l M}, Rep G l M → l.length ≤ 140737488355328
 len : ∀ {G l M}, Rep G l M → Inv P x "Len" [] G M (fun v G' M' => v = .int .i64 (l.length : Int) ∧ M' = M)
 less : ∀ {G l M} {i j : Nat}, Rep G l M → i < l.length → j < l.length → Inv P x "Less" [.int .i64 (i : Int), .int .i64 (j : Int)] G M (fun v G' M' => v = .bool (lt (nth l i) (nth l j)) ∧ M' = M)
 swap : ∀ {G l M} {i j : Nat}, Rep G l M → i < l.length → j < l.length → Inv P x "Swap" [.int .i64 (i : Int), .int .i64 (j : Int)] G M (fun v G' M' => v = .tuple #[] ∧ Rep G' (swapL l i j) M')
 push : ∀ {G l M u a}, Rep G l M → l.length < 1000000 → EV G u a → Inv P x "Push" [u] G M (fun v G' M' => v = .tuple #[] ∧ Rep G' (l ++ [a]) M')
 pop : ∀ {G l M}, Rep G l M → 0 < l.length → Inv P x "Pop" [] G M (fun v G' M' => EV G' v (nth l (l.length - 1)) ∧ Rep G' (l.take (l.length - 1)) M')
section
variable {α : Type} [Inhabited α] {lt : α → α → Bool}
end
end Go.Fw

namespace Go.Fw
open Go Go.RowKit
abbrev Hd := List Msg × Int
def Hd.st (a : Hd) : Int := match a.1 with | [] => 0 | m :: _ => m.stamp
def Hd.lt (a b : Hd) : Bool := decide (a.st < b.st) || (decide (a.st = b.st) && decide (a.2 < b.2))
theorem Hd.st_at {a : Hd} (h : 0 < a.1.length) : a.st = a.1[0].stamp := by
 obtain ⟨l, n⟩ := a
 cases l with
 | nil => simp at h
 | cons m l => rfl
theorem Hd.lo : LO Hd.lt where
 asymm := fun {a b} h => by
  simp only [Hd.lt, Bool.or_eq_true, Bool.and_eq_true, decide_eq_true_eq] at h
  simp only [Hd.lt, Bool.or_eq_false_iff, Bool.and_eq_false_iff, decide_eq_false_iff_not]
  omega
 trans := fun {a b c} h1 h2 => by
  simp only [Hd.lt, Bool.or_eq_false_iff, Bool.and_eq_false_iff, decide_eq_false_iff_not] at h1 h2 ⊢
  omega
def HdC (G : GH) (cs : List Value) (a : Hd) : Prop := ∃ p c, cs = [.slice p a.1.length c, .int .i64 a.2] ∧ SlR eMsg G (.slice p a.1.length c) a.1 ∧ i64 a.2
theorem HdC.mono {G G' : GH} {cs a} (hl : Le G G') (h : HdC G cs a) : HdC G' cs a := by
 obtain ⟨p, c, h1, h2, h3⟩ := h; exact ⟨p, c, h1, h2.mono hl, h3⟩
def eHead : Enc Hd where
 k := 2
 w := 32
 R := HdC
 mono := fun hl h => h.mono hl
 len := fun h => by obtain ⟨p, c, h0, _⟩ := h; rw [h0]; rfl
 one := fun h u hu => by
  obtain ⟨p, c, h0, _⟩ := h
  rw [h0] at hu
  simp at hu
  rcases hu with rfl | rfl <;> rfl
end Go.Fw

namespace Go.Fw
open Go Go.RowKit
def eBool : Enc Bool where
 k := 1
 w := 1
 R := fun _ cs b => cs = [.bool b]
 mono := fun _ h => h
 len := fun h => by rw [h]; rfl
 one := fun h u hu => by rw [h] at hu; simp at hu; subst hu; rfl
abbrev ltI : Int → Int → Bool := fun a b => decide (a < b)
def hasN (u : List Bool) (i : Int) : Bool := decide (0 ≤ i) && (decide (i < u.length) && u.getD i.toNat false)
def freeN (u : List Bool) : List Int := ((List.range u.length).filter fun i => !u.getD i true).map fun i : Nat => (i : Int)
def usedN (u : List Bool) : List Int := ((List.range u.length).filter fun i => u.getD i true).map fun i : Nat => (i : Int)
def firstN : List Bool → Nat
 | [] => 0
 | true :: l => firstN l + 1
 | false :: _ => 0
def iotaN (n : Nat) : List Int := (List.range n).map fun i : Nat => (i : Int)
def nextA {α : Type} (st : List α × List Bool) (x : α) : (Int × Int) × (List α × List Bool) :=
 if firstN st.2 < st.2.length then ((firstN st.2, 0), (st.1.set (firstN st.2) x, st.2.set (firstN st.2) true)) else ((0, 4), st)
def freeA {α : Type} (st : List α × List Bool) (i : Int) (z : α) : Int × (List α × List Bool) := if hasN st.2 i = true then (0, (st.1.set i.toNat z, st.2.set i.toNat false)) else (8, st)
def layA {α : Type} (st : List α × List Bool) (i : Int) (x : α) : Int × (List α × List Bool) := if hasN st.2 i = true then (0, (st.1.set i.toNat x, st.2)) else (8, st)
def getA {α : Type} (st : List α × List Bool) (i : Int) (z : α) : α := if hasN st.2 i = true then st.1.getD i.toNat z else z
def ArP {α : Type} (e : Enc α) (Te TB TI Tb : TypeId) (b : Nat) (G : GH) (st : List α × List Bool × List Int) (M : MH) : Prop :=
 ∃ vc vu vf Mc Mu Mf, M = (b, .cells (List.toArray [vc, vu, vf]) Tb (0, 0)) :: (Mc ++ (Mu ++ Mf)) ∧ OwnR e Te G vc st.1 Mc ∧ OwnR eBool TB G vu st.2.1 Mu ∧ OwnR eInt TI G vf st.2.2 Mf
theorem ArP.mono {α : Type} {e : Enc α} {Te TB TI Tb : TypeId} {b : Nat} {G G' : GH} {st : List α × List Bool × List Int} {M : MH} (hl : Le G G') (h : ArP e Te TB TI Tb b G st M) : ArP e Te TB TI Tb b G' st M := by
 obtain ⟨vc, vu, vf, Mc, Mu, Mf, h1, h2, h3, h4⟩ := h
 exact ⟨vc, vu, vf, Mc, Mu, Mf, h1, h2.mono hl, h3.mono hl, h4.mono hl⟩
def ArR {α : Type} (e : Enc α) (Te TB TI Tb : TypeId) (b : Nat) (G : GH) (st : List α × List Bool) (M : MH) : Prop :=
 ∃ f, ArP e Te TB TI Tb b G (st.1, st.2, f) M ∧ st.1.length = st.2.length ∧ st.2.length ≤ 4096 ∧ Heap ltI f ∧ f.Perm (freeN st.2)
theorem ArR.mono {α : Type} {e : Enc α} {Te TB TI Tb : TypeId} {b : Nat} {G G' : GH} {st : List α × List Bool} {M : MH} (hl : Le G G') (h : ArR e Te TB TI Tb b G st M) : ArR e Te TB TI Tb b G' st M := by
 obtain ⟨f, h1, h2⟩ := h
 exact ⟨f, h1.mono hl, h2⟩
theorem ArR.cast {α : Type} {e : Enc α} {Te TB TI Tb : TypeId} {b : Nat} {G : GH} {st st' : List α × List Bool} {M M' : MH} (h : ArR e Te TB TI Tb b G st M) (e1 : st = st') (e2 : M = M') : ArR e Te TB TI Tb b G st' M' := by subst e1 e2; exact h
theorem NodeC.cast {G : GH} {cs : List Value} {n m : Nd} (h : NodeC G cs n) (e : n = m) : NodeC G cs m := e ▸ h
def usedK (u : List Bool) (k : Nat) : List Int := ((List.range k).filter fun i => u.getD i true).map fun i : Nat => (i : Int)
end Go.Fw

namespace Go.Fw
open Go Go.RowKit
def CfgR (c : Cfg) : Prop := (4 ≤ c.fan ∧ c.fan ≤ 64) ∧ (2 ≤ c.leaf ∧ c.leaf ≤ 64) ∧ (36 ≤ c.bud ∧ c.bud ≤ 4096) ∧ (1 ≤ c.slots ∧ c.slots ≤ 4096) ∧ (0 ≤ c.rest ∧ c.rest ≤ 100)
instance (c : Cfg) : Decidable (CfgR c) := by unfold CfgR; infer_instance
def arOf (n : Nat) (l : List Nd) : List Nd × List Bool := (l ++ List.replicate (n - l.length) Nd.zero, List.replicate l.length true ++ List.replicate (n - l.length) false)
def putL (l : List Nd) (x : Nd) : Int × List Nd := if 0 ≤ x.slot ∧ x.slot < l.length then (0, l.set x.slot.toNat x) else (8, l)
def takeL (n : Nat) (l : List Nd) (x : Nd) : (Int × Int) × List Nd := if l.length < n then ((l.length, 0), l ++ [{ x with slot := l.length }]) else ((0, 4), l)
def getL (l : List Nd) (i : Int) : Nd := if 0 ≤ i then l.getD i.toNat Nd.zero else Nd.zero
theorem getL_at {l : List Nd} {k : Nat} (h : k < l.length) : getL l k = l[k] := by
 unfold getL; rw [if_pos (by omega), Int.toNat_natCast, List.getD_eq_getElem?_getD, List.getElem?_eq_getElem h]; rfl
def takeA (a : List Nd × List Bool) (x : Nd) : (Int × Int) × (List Nd × List Bool) :=
 if (nextA a Nd.zero).1.2 = 0 then (((nextA a Nd.zero).1.1, (layA (nextA a Nd.zero).2 (nextA a Nd.zero).1.1 { x with slot := (nextA a Nd.zero).1.1 }).1), (layA (nextA a Nd.zero).2 (nextA a Nd.zero).1.1 { x with slot := (nextA a Nd.zero).1.1 }).2)
 else ((0, (nextA a Nd.zero).1.2), (nextA a Nd.zero).2)
def StA (te tB ti tb TS b : Nat) (G : GH) (c : Cfg) (a : List Nd × List Bool) (M : MH) : Prop :=
 ∃ b2 Ma, M = (b, .cells (List.toArray [.int .i64 c.fan, .int .i64 c.leaf, .int .i64 c.bud, .int .i64 c.slots, .int .i64 c.rest, .pointer (some ⟨b2, 0, none⟩)]) TS (0, 0)) :: Ma ∧ ArR eNode te tB ti tb b2 G a Ma
theorem StA.mono {te tB ti tb TS b : Nat} {G G' : GH} {c : Cfg} {a : List Nd × List Bool} {M : MH} (hl : Le G G') (h : StA te tB ti tb TS b G c a M) : StA te tB ti tb TS b G' c a M := by
 obtain ⟨b2, Ma, h1, h2⟩ := h; exact ⟨b2, Ma, h1, h2.mono hl⟩
def StR (te tB ti tb TS b : Nat) (c : Cfg) (G : GH) (l : List Nd) (M : MH) : Prop := CfgR c ∧ l.length ≤ c.slots.toNat ∧ StA te tB ti tb TS b G c (arOf c.slots.toNat l) M
theorem StR.mono {te tB ti tb TS b : Nat} {G G' : GH} {c : Cfg} {l : List Nd} {M : MH} (hl : Le G G') (h : StR te tB ti tb TS b c G l M) : StR te tB ti tb TS b c G' l M := ⟨h.1, h.2.1, h.2.2.mono hl⟩
theorem StA.cast {te tB ti tb TS b : Nat} {G : GH} {c : Cfg} {a a' : List Nd × List Bool} {M : MH} (h : StA te tB ti tb TS b G c a M) (e : a = a') : StA te tB ti tb TS b G c a' M := e ▸ h
def leafN (slot : Int) : Nd := ⟨slot, 0, [], [], Str.nil, true, -1, 0, [], []⟩
theorem NodeC.of {G : GH} {cs : List Value} {n m : Nd} (h : NodeC G cs n) (e : n = m) : NodeC G cs m := e ▸ h
end Go.Fw
namespace Go.Proofs.YtmbafmifalppaaaGreat
open Go.Fw
theorem ty23 : tyK Tryz.prog 23 = some (true, 5) := by kernel_rfl
theorem sl24 : sliceK Tryz.prog 24 = some 43 := by kernel_rfl
theorem ty43 : tyK Tryz.prog 43 = some (true, 10) := by kernel_rfl
theorem zr43 : zeroK Tryz.prog 43 = some [.int .i64 0, .int .i64 0, .slice none 0 0, .slice none 0 0, .string ⟨#[]⟩, .bool false, .int .i64 0, .int .i64 0, .slice none 0 0, .slice none 0 0] := by kernel_rfl
theorem st9 : Tryz.prog.underlying 9 = some .string := by kernel_rfl
theorem un3 : Tryz.prog.underlying 3 = some (.int .i64) := by kernel_rfl
theorem un31 : Tryz.prog.underlying 31 = some (.int .u64) := by kernel_rfl
theorem fd43_0 : fieldK Tryz.prog 43 0 = some 0 := by kernel_rfl
theorem ty3 : tyK Tryz.prog 3 = some (false, 1) := by kernel_rfl
theorem zr3 : zeroK Tryz.prog 3 = some [.int .i64 0] := by kernel_rfl
theorem ty45 : tyK Tryz.prog 45 = some (true, 3) := by kernel_rfl
theorem zr45 : zeroK Tryz.prog 45 = some [.string ⟨#[]⟩, .string ⟨#[]⟩, .bool false] := by kernel_rfl
theorem fd43_1 : fieldK Tryz.prog 43 1 = some 1 := by kernel_rfl
theorem bo4 : Tryz.prog.underlying 4 = some .bool := by kernel_rfl
theorem sl41 : sliceK Tryz.prog 41 = some 120 := by kernel_rfl
theorem ty120 : tyK Tryz.prog 120 = some (true, 2) := by kernel_rfl
theorem zr120 : zeroK Tryz.prog 120 = some [.string ⟨#[]⟩, .string ⟨#[]⟩] := by kernel_rfl
theorem by120 : bytesK Tryz.prog 120 = some 32 := by kernel_rfl
theorem fd43_3 : fieldK Tryz.prog 43 3 = some 3 := by kernel_rfl
theorem ty39 : tyK Tryz.prog 39 = some (false, 1) := by kernel_rfl
theorem sl39 : sliceK Tryz.prog 39 = some 3 := by kernel_rfl
theorem by3 : bytesK Tryz.prog 3 = some 8 := by kernel_rfl
theorem fd45_1 : fieldK Tryz.prog 45 1 = some 1 := by kernel_rfl
theorem ty9 : tyK Tryz.prog 9 = some (false, 1) := by kernel_rfl
theorem zr9 : zeroK Tryz.prog 9 = some [.string ⟨#[]⟩] := by kernel_rfl
theorem fd43_8 : fieldK Tryz.prog 43 8 = some 8 := by kernel_rfl
theorem ty40 : tyK Tryz.prog 40 = some (false, 1) := by kernel_rfl
theorem sl40 : sliceK Tryz.prog 40 = some 150 := by kernel_rfl
theorem ty150 : tyK Tryz.prog 150 = some (true, 6) := by kernel_rfl
theorem zr150 : zeroK Tryz.prog 150 = some [.int .i64 0, .int .i64 0, .string ⟨#[]⟩, .string ⟨#[]⟩, .bool false, .string ⟨#[]⟩] := by kernel_rfl
theorem by150 : bytesK Tryz.prog 150 = some 72 := by kernel_rfl
theorem fd43_7 : fieldK Tryz.prog 43 7 = some 7 := by kernel_rfl
theorem pl45 : placesK Tryz.prog 45 = some [(0, 1), (1, 1), (2, 1)] := by kernel_rfl
theorem fd43_2 : fieldK Tryz.prog 43 2 = some 2 := by kernel_rfl
theorem ty38 : tyK Tryz.prog 38 = some (false, 1) := by kernel_rfl
theorem sl38 : sliceK Tryz.prog 38 = some 9 := by kernel_rfl
theorem by9 : bytesK Tryz.prog 9 = some 16 := by kernel_rfl
theorem fd45_0 : fieldK Tryz.prog 45 0 = some 0 := by kernel_rfl
theorem fd45_2 : fieldK Tryz.prog 45 2 = some 2 := by kernel_rfl
theorem ty4 : tyK Tryz.prog 4 = some (false, 1) := by kernel_rfl
theorem fd120_0 : fieldK Tryz.prog 120 0 = some 0 := by kernel_rfl
theorem fd120_1 : fieldK Tryz.prog 120 1 = some 1 := by kernel_rfl
theorem fd43_9 : fieldK Tryz.prog 43 9 = some 9 := by kernel_rfl
theorem ty41 : tyK Tryz.prog 41 = some (false, 1) := by kernel_rfl
theorem fd43_4 : fieldK Tryz.prog 43 4 = some 4 := by kernel_rfl
theorem fd43_5 : fieldK Tryz.prog 43 5 = some 5 := by kernel_rfl
theorem fd43_6 : fieldK Tryz.prog 43 6 = some 6 := by kernel_rfl
theorem fd150_0 : fieldK Tryz.prog 150 0 = some 0 := by kernel_rfl
theorem fd23_0 : fieldK Tryz.prog 23 0 = some 0 := by kernel_rfl
theorem fd23_1 : fieldK Tryz.prog 23 1 = some 1 := by kernel_rfl
theorem fd23_2 : fieldK Tryz.prog 23 2 = some 2 := by kernel_rfl
theorem fd150_2 : fieldK Tryz.prog 150 2 = some 2 := by kernel_rfl
theorem fd150_3 : fieldK Tryz.prog 150 3 = some 3 := by kernel_rfl
theorem fd150_5 : fieldK Tryz.prog 150 5 = some 5 := by kernel_rfl
theorem fd150_1 : fieldK Tryz.prog 150 1 = some 1 := by kernel_rfl
theorem fd150_4 : fieldK Tryz.prog 150 4 = some 4 := by kernel_rfl
theorem pl150 : placesK Tryz.prog 150 = some [(0, 1), (1, 1), (2, 1), (3, 1), (4, 1), (5, 1)] := by kernel_rfl
theorem ty242 : tyK Tryz.prog 242 = some (true, 2) := by kernel_rfl
theorem zr242 : zeroK Tryz.prog 242 = some [.int .i64 0, .string ⟨#[]⟩] := by kernel_rfl
theorem pl120 : placesK Tryz.prog 120 = some [(0, 1), (1, 1)] := by kernel_rfl
theorem pl242 : placesK Tryz.prog 242 = some [(0, 1), (1, 1)] := by kernel_rfl
theorem fd242_0 : fieldK Tryz.prog 242 0 = some 0 := by kernel_rfl
theorem fd242_1 : fieldK Tryz.prog 242 1 = some 1 := by kernel_rfl
theorem cl5 : Callable Tryz.prog 5 := callable_of Tryz.func5 rfl (by decide)
theorem cl14 : Callable Tryz.prog 14 := callable_of Tryz.func14 rfl (by decide)
theorem cl19 : Callable Tryz.prog 19 := callable_of Tryz.func19 rfl (by decide)
theorem cl29 : Callable Tryz.prog 29 := callable_of Tryz.func29 rfl (by decide)
theorem cl30 : Callable Tryz.prog 30 := callable_of Tryz.func30 rfl (by decide)
theorem cl32 : Callable Tryz.prog 32 := callable_of Tryz.func32 rfl (by decide)
theorem cl33 : Callable Tryz.prog 33 := callable_of Tryz.func33 rfl (by decide)
theorem cl34 : Callable Tryz.prog 34 := callable_of Tryz.func34 rfl (by decide)
theorem cl35 : Callable Tryz.prog 35 := callable_of Tryz.func35 rfl (by decide)
theorem cl54 : Callable Tryz.prog 54 := callable_of Tryz.func54 rfl (by decide)
theorem cl55 : Callable Tryz.prog 55 := callable_of Tryz.func55 rfl (by decide)
theorem cl56 : Callable Tryz.prog 56 := callable_of Tryz.func56 rfl (by decide)
theorem cl59 : Callable Tryz.prog 59 := callable_of Tryz.func59 rfl (by decide)
theorem cl67 : Callable Tryz.prog 67 := callable_of Tryz.func67 rfl (by decide)
theorem cl68 : Callable Tryz.prog 68 := callable_of Tryz.func68 rfl (by decide)
theorem cl69 : Callable Tryz.prog 69 := callable_of Tryz.func69 rfl (by decide)
theorem cl70 : Callable Tryz.prog 70 := callable_of Tryz.func70 rfl (by decide)
theorem cl71 : Callable Tryz.prog 71 := callable_of Tryz.func71 rfl (by decide)
theorem cl74 : Callable Tryz.prog 74 := callable_of Tryz.func74 rfl (by decide)
theorem cl75 : Callable Tryz.prog 75 := callable_of Tryz.func75 rfl (by decide)
theorem cl76 : Callable Tryz.prog 76 := callable_of Tryz.func76 rfl (by decide)
theorem cl77 : Callable Tryz.prog 77 := callable_of Tryz.func77 rfl (by decide)
theorem cl78 : Callable Tryz.prog 78 := callable_of Tryz.func78 rfl (by decide)
theorem cl79 : Callable Tryz.prog 79 := callable_of Tryz.func79 rfl (by decide)
theorem cl80 : Callable Tryz.prog 80 := callable_of Tryz.func80 rfl (by decide)
theorem cl81 : Callable Tryz.prog 81 := callable_of Tryz.func81 rfl (by decide)
theorem cl82 : Callable Tryz.prog 82 := callable_of Tryz.func82 rfl (by decide)
theorem cl83 : Callable Tryz.prog 83 := callable_of Tryz.func83 rfl (by decide)
theorem cl98 : Callable Tryz.prog 98 := callable_of Tryz.func98 rfl (by decide)
theorem cl99 : Callable Tryz.prog 99 := callable_of Tryz.func99 rfl (by decide)
theorem cl100 : Callable Tryz.prog 100 := callable_of Tryz.func100 rfl (by decide)
theorem cl104 : Callable Tryz.prog 104 := callable_of Tryz.func104 rfl (by decide)
theorem cl112 : Callable Tryz.prog 112 := callable_of Tryz.func112 rfl (by decide)
theorem cl113 : Callable Tryz.prog 113 := callable_of Tryz.func113 rfl (by decide)
theorem cl114 : Callable Tryz.prog 114 := callable_of Tryz.func114 rfl (by decide)
theorem cl115 : Callable Tryz.prog 115 := callable_of Tryz.func115 rfl (by decide)
theorem cl116 : Callable Tryz.prog 116 := callable_of Tryz.func116 rfl (by decide)
theorem cl117 : Callable Tryz.prog 117 := callable_of Tryz.func117 rfl (by decide)
theorem cl121 : Callable Tryz.prog 121 := callable_of Tryz.func121 rfl (by decide)
theorem cl122 : Callable Tryz.prog 122 := callable_of Tryz.func122 rfl (by decide)
theorem cl123 : Callable Tryz.prog 123 := callable_of Tryz.func123 rfl (by decide)
theorem cl124 : Callable Tryz.prog 124 := callable_of Tryz.func124 rfl (by decide)
theorem cl125 : Callable Tryz.prog 125 := callable_of Tryz.func125 rfl (by decide)
theorem cl126 : Callable Tryz.prog 126 := callable_of Tryz.func126 rfl (by decide)
theorem cl127 : Callable Tryz.prog 127 := callable_of Tryz.func127 rfl (by decide)
theorem cl128 : Callable Tryz.prog 128 := callable_of Tryz.func128 rfl (by decide)
theorem cl129 : Callable Tryz.prog 129 := callable_of Tryz.func129 rfl (by decide)
theorem cl145 : Callable Tryz.prog 145 := callable_of Tryz.func145 rfl (by decide)
theorem cl149 : Callable Tryz.prog 149 := callable_of Tryz.func149 rfl (by decide)
theorem cl152 : Callable Tryz.prog 152 := callable_of Tryz.func152 rfl (by decide)
theorem cl154 : Callable Tryz.prog 154 := callable_of Tryz.func154 rfl (by decide)
theorem cl155 : Callable Tryz.prog 155 := callable_of Tryz.func155 rfl (by decide)
theorem cl156 : Callable Tryz.prog 156 := callable_of Tryz.func156 rfl (by decide)
theorem cl157 : Callable Tryz.prog 157 := callable_of Tryz.func157 rfl (by decide)
theorem cl158 : Callable Tryz.prog 158 := callable_of Tryz.func158 rfl (by decide)
theorem cl161 : Callable Tryz.prog 161 := callable_of Tryz.func161 rfl (by decide)
theorem cl162 : Callable Tryz.prog 162 := callable_of Tryz.func162 rfl (by decide)
theorem cl163 : Callable Tryz.prog 163 := callable_of Tryz.func163 rfl (by decide)
theorem cl164 : Callable Tryz.prog 164 := callable_of Tryz.func164 rfl (by decide)
theorem cl165 : Callable Tryz.prog 165 := callable_of Tryz.func165 rfl (by decide)
theorem cl166 : Callable Tryz.prog 166 := callable_of Tryz.func166 rfl (by decide)
theorem cl167 : Callable Tryz.prog 167 := callable_of Tryz.func167 rfl (by decide)
theorem cl168 : Callable Tryz.prog 168 := callable_of Tryz.func168 rfl (by decide)
theorem cl169 : Callable Tryz.prog 169 := callable_of Tryz.func169 rfl (by decide)
theorem cl178 : Callable Tryz.prog 178 := callable_of Tryz.func178 rfl (by decide)
theorem cl180 : Callable Tryz.prog 180 := callable_of Tryz.func180 rfl (by decide)
theorem cl184 : Callable Tryz.prog 184 := callable_of Tryz.func184 rfl (by decide)
theorem cl189 : Callable Tryz.prog 189 := callable_of Tryz.func189 rfl (by decide)
theorem cl191 : Callable Tryz.prog 191 := callable_of Tryz.func191 rfl (by decide)
theorem cl192 : Callable Tryz.prog 192 := callable_of Tryz.func192 rfl (by decide)
theorem cl194 : Callable Tryz.prog 194 := callable_of Tryz.func194 rfl (by decide)
theorem cl195 : Callable Tryz.prog 195 := callable_of Tryz.func195 rfl (by decide)
theorem cl196 : Callable Tryz.prog 196 := callable_of Tryz.func196 rfl (by decide)
theorem cl197 : Callable Tryz.prog 197 := callable_of Tryz.func197 rfl (by decide)
theorem cl198 : Callable Tryz.prog 198 := callable_of Tryz.func198 rfl (by decide)
theorem cl199 : Callable Tryz.prog 199 := callable_of Tryz.func199 rfl (by decide)
theorem cl200 : Callable Tryz.prog 200 := callable_of Tryz.func200 rfl (by decide)
theorem cl205 : Callable Tryz.prog 205 := callable_of Tryz.func205 rfl (by decide)
theorem cl209 : Callable Tryz.prog 209 := callable_of Tryz.func209 rfl (by decide)
theorem cl210 : Callable Tryz.prog 210 := callable_of Tryz.func210 rfl (by decide)
theorem cl211 : Callable Tryz.prog 211 := callable_of Tryz.func211 rfl (by decide)
theorem cl212 : Callable Tryz.prog 212 := callable_of Tryz.func212 rfl (by decide)
theorem cl213 : Callable Tryz.prog 213 := callable_of Tryz.func213 rfl (by decide)
theorem cl214 : Callable Tryz.prog 214 := callable_of Tryz.func214 rfl (by decide)
theorem cl219 : Callable Tryz.prog 219 := callable_of Tryz.func219 rfl (by decide)
theorem cl220 : Callable Tryz.prog 220 := callable_of Tryz.func220 rfl (by decide)
theorem cl222 : Callable Tryz.prog 222 := callable_of Tryz.func222 rfl (by decide)
theorem cl224 : Callable Tryz.prog 224 := callable_of Tryz.func224 rfl (by decide)
theorem cl225 : Callable Tryz.prog 225 := callable_of Tryz.func225 rfl (by decide)
theorem cl226 : Callable Tryz.prog 226 := callable_of Tryz.func226 rfl (by decide)
theorem cl227 : Callable Tryz.prog 227 := callable_of Tryz.func227 rfl (by decide)
theorem cl231 : Callable Tryz.prog 231 := callable_of Tryz.func231 rfl (by decide)
theorem cl232 : Callable Tryz.prog 232 := callable_of Tryz.func232 rfl (by decide)
theorem cl233 : Callable Tryz.prog 233 := callable_of Tryz.func233 rfl (by decide)
theorem cl234 : Callable Tryz.prog 234 := callable_of Tryz.func234 rfl (by decide)
theorem cl235 : Callable Tryz.prog 235 := callable_of Tryz.func235 rfl (by decide)
theorem cl236 : Callable Tryz.prog 236 := callable_of Tryz.func236 rfl (by decide)
theorem cl237 : Callable Tryz.prog 237 := callable_of Tryz.func237 rfl (by decide)
theorem cl238 : Callable Tryz.prog 238 := callable_of Tryz.func238 rfl (by decide)
theorem cl239 : Callable Tryz.prog 239 := callable_of Tryz.func239 rfl (by decide)
theorem cl240 : Callable Tryz.prog 240 := callable_of Tryz.func240 rfl (by decide)
theorem cl243 : Callable Tryz.prog 243 := callable_of Tryz.func243 rfl (by decide)
theorem cl244 : Callable Tryz.prog 244 := callable_of Tryz.func244 rfl (by decide)
theorem cl245 : Callable Tryz.prog 245 := callable_of Tryz.func245 rfl (by decide)
theorem mix : Tryz.prog.follows .mixedOrders = true := by kernel_rfl
end Go.Proofs.YtmbafmifalppaaaGreat
theorem List.Sublist.k9 {α : Type} {a : α} {l l' : List α} (h : l.Sublist l') : (a :: l).Sublist (a :: l') := h.cons_cons a
namespace Go.Fw
open Go Go.RowKit
theorem sn9 {α : Type} {l : List α} : List.Sublist [] l := List.nil_sublist l
theorem sr9 {α : Type} {l : List α} : List.Sublist l l := List.Sublist.refl l
theorem pr9 {α : Type} {l : List α} : List.Perm l l := List.Perm.refl l
theorem WD.tk {E : Env} {f : Fr} {G : GH} {M Mk : MH} {ops : Array Oper} {K : Kt} {fuel : Nat} {listed : Array Bool} (i : Nat) {op : Op} {ty : TypeId} {pos : String} {aft : Array Edge} {d : Nat} {v : Value} (ho : ops[i]? = some ⟨some d, op, ty, pos, aft, none⟩) (hok : Ok E f G Mk ⟨some d, op, ty, pos, aft, none⟩ v)
    (h : WD E ops fuel (listed.setIfInBounds i true) (upd f d v) G M Mk K) (hs : Region.noSelect ops = true := by kernel_rfl) (hf : Region.free .any ops listed i = true := by kernel_rfl) (hr : (Region.ready .any ops listed).contains i = true := by kernel_rfl) (hd : Nat.blt d E.n = true := by rfl) : WD E ops (fuel + 1) listed f G M Mk K :=
  WD.take i ho rfl rfl hs hf hr hok h hd
theorem WD.n9 {E : Env} {f : Fr} {G G' : GH} {M' Mk : MH} {ops : Array Oper} {K : Kt} {fuel : Nat} {listed : Array Bool} (a : Le G G') (b : Mk.Sublist M') (h : WD E ops fuel listed f G' M' Mk K) : Le G G' ∧ Mk.Sublist M' ∧ ∃ Mk' : MH, Mk'.Sublist M' ∧ Mk.Sublist Mk' ∧ WD E ops fuel listed f G' M' Mk' K := ⟨a, b, Mk, b, List.Sublist.refl _, h⟩
theorem WD.a1 {E : Env} {f : Fr} {G : GH} {M Mk : MH} {ops : Array Oper} {K : Kt} {fuel : Nat} {listed : Array Bool} (i : Nat) {dst : Option Nat} {op : Op} {ty : TypeId} {pos : String} {aft : Array Edge} (ho : ops[i]? = some ⟨dst, op, ty, pos, aft, none⟩)
    (h : W E [(⟨dst, op, ty, pos, aft, none⟩ : Oper)].toArray false [(⟨dst, op, ty, pos, aft, none⟩ : Oper)] f G M (fun f' G' M' => Le G G' ∧ Mk.Sublist M' ∧ ∃ Mk', Mk'.Sublist M' ∧ Mk.Sublist Mk' ∧ WD E ops fuel (listed.setIfInBounds i true) f' G' M' Mk' K))
    (hr : Region.ready .any ops listed = [i] := by kernel_rfl) : WD E ops (fuel + 1) listed f G M Mk K := WD.any [i] hr rfl ⟨⟨_, ho, rfl, h⟩, trivial⟩
abbrev nd9 (a b : Int) (c : Option Addr) (d e : Nat) (f : Option Addr) (g h : Nat) (i : ByteArray) (j : Bool) (k l : Int) (m : Option Addr) (n o : Nat) (p : Option Addr) (q r : Nat) : List Value := [.int .i64 a, .int .i64 b, .slice c d e, .slice f g h, .string i, .bool j, .int .i64 k, .int .i64 l, .slice m n o, .slice p q r]
end Go.Fw
