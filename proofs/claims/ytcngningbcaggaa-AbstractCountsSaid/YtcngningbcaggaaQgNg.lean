/- Arenas: which slots are in use, which are free. Plain Lean; nothing of the program is named here. No condition. -/
import Derived.Test.YtcngningbcaggaaQgNd
import Derived.Test.YtcngningbcaggaaQgGa
set_option linter.unusedVariables false
set_option linter.unusedSimpArgs false
set_option linter.unnecessarySimpa false

namespace Go.Fw
open Go Go.RowKit
def eBool : Enc Bool where
 k := 1
 w := 1
 R := fun _ cs b => cs = [.bool b]
 mono := fun _ h => h
 len := fun h => by rw [h]; rfl
 one := fun h u hu => by rw [h] at hu; simp at hu; subst hu; rfl
instance : EqE eBool (fun b => [.bool b]) := ⟨fun _ _ _ h => h⟩
instance : EqE eSpan (fun s => [.string s.lo.b, .string s.hi.b, .bool s.opn]) := ⟨fun _ _ _ h => h⟩
instance : EqP eEff (fun e => [.int .i64 e.kind, .string e.val.b]) (fun e => i64 e.kind) := ⟨fun _ _ _ h => h⟩
abbrev ltI : Int → Int → Bool := fun a b => decide (a < b)
def hasN (u : List Bool) (i : Int) : Bool := decide (0 ≤ i) && (decide (i < u.length) && u.getD i.toNat false)
def freeN (u : List Bool) : List Int := ((List.range u.length).filter fun i => !u.getD i true).map fun i : Nat => (i : Int)
def usedN (u : List Bool) : List Int := ((List.range u.length).filter fun i => u.getD i true).map fun i : Nat => (i : Int)
def firstN : List Bool → Nat
 | [] => 0
 | true :: l => firstN l + 1
 | false :: _ => 0
def iotaN (n : Nat) : List Int := (List.range n).map fun i : Nat => (i : Int)
def nextA {α : Type} (st : List α × List Bool) (x : α) : (Int × Int) × (List α × List Bool) :=
 if firstN st.2 < st.2.length then ((firstN st.2, 0), (st.1.set (firstN st.2) x, st.2.set (firstN st.2) true)) else ((0, 4), st)
def freeA {α : Type} (st : List α × List Bool) (i : Int) (z : α) : Int × (List α × List Bool) := if hasN st.2 i = true then (0, (st.1.set i.toNat z, st.2.set i.toNat false)) else (8, st)
def layA {α : Type} (st : List α × List Bool) (i : Int) (x : α) : Int × (List α × List Bool) := if hasN st.2 i = true then (0, (st.1.set i.toNat x, st.2)) else (8, st)
def getA {α : Type} (st : List α × List Bool) (i : Int) (z : α) : α := if hasN st.2 i = true then st.1.getD i.toNat z else z
def ArP {α : Type} (e : Enc α) (Te TB TI Tb : TypeId) (b : Nat) (G : GH) (st : List α × List Bool × List Int) (M : MH) : Prop :=
 ∃ vc vu vf Mc Mu Mf, M = (b, .cells (List.toArray [vc, vu, vf]) Tb (0, 0)) :: (Mc ++ (Mu ++ Mf)) ∧ OwnR e Te G vc st.1 Mc ∧ OwnR eBool TB G vu st.2.1 Mu ∧ OwnR eInt TI G vf st.2.2 Mf
theorem ArP.mono {α : Type} {e : Enc α} {Te TB TI Tb : TypeId} {b : Nat} {G G' : GH} {st : List α × List Bool × List Int} {M : MH} (hl : Le G G') (h : ArP e Te TB TI Tb b G st M) : ArP e Te TB TI Tb b G' st M := by
 obtain ⟨vc, vu, vf, Mc, Mu, Mf, h1, h2, h3, h4⟩ := h
 exact ⟨vc, vu, vf, Mc, Mu, Mf, h1, h2.mono hl, h3.mono hl, h4.mono hl⟩
def ArR {α : Type} (e : Enc α) (Te TB TI Tb : TypeId) (b : Nat) (G : GH) (st : List α × List Bool) (M : MH) : Prop :=
 ∃ f, ArP e Te TB TI Tb b G (st.1, st.2, f) M ∧ st.1.length = st.2.length ∧ st.2.length ≤ 4096 ∧ Heap ltI f ∧ f.Perm (freeN st.2)
theorem ArR.mono {α : Type} {e : Enc α} {Te TB TI Tb : TypeId} {b : Nat} {G G' : GH} {st : List α × List Bool} {M : MH} (hl : Le G G') (h : ArR e Te TB TI Tb b G st M) : ArR e Te TB TI Tb b G' st M := by
 obtain ⟨f, h1, h2⟩ := h
 exact ⟨f, h1.mono hl, h2⟩
theorem ArR.cast {α : Type} {e : Enc α} {Te TB TI Tb : TypeId} {b : Nat} {G : GH} {st st' : List α × List Bool} {M M' : MH} (h : ArR e Te TB TI Tb b G st M) (e1 : st = st') (e2 : M = M') : ArR e Te TB TI Tb b G st' M' := by subst e1 e2; exact h
theorem NodeC.cast {G : GH} {cs : List Value} {n m : Nd} (h : NodeC G cs n) (e : n = m) : NodeC G cs m := e ▸ h
def usedK (u : List Bool) (k : Nat) : List Int := ((List.range k).filter fun i => u.getD i true).map fun i : Nat => (i : Int)
end Go.Fw
