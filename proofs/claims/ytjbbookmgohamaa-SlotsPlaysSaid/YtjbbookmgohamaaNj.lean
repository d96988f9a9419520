/- Arenas by definition, and what is done to both. Plain Lean; nothing of the program is named here. No condition. -/
import Derived.Test.YtjbbookmgohamaaNg
set_option linter.unusedVariables false
set_option linter.unusedSimpArgs false
set_option linter.unnecessarySimpa false
namespace Go.Fw
open Go Go.RowKit
/-- Three numbers. -/
structure Act3 where
  kind : Int
  slot : Int
  x : Int
instance : Inhabited Act3 := ⟨⟨0, 0, 0⟩⟩
def eAct3 : Enc Act3 where
  k := 3
  w := 24
  R := fun _ cs o => cs = [.int .i64 o.kind, .int .i64 o.slot, .int .i64 o.x] ∧ i64 o.kind ∧ i64 o.slot ∧ i64 o.x
  mono := fun _ h => h
  len := fun h => by rw [h.1]; rfl
  one := fun h u hu => by rw [h.1] at hu; simp at hu; rcases hu with rfl | rfl | rfl <;> rfl
theorem dec_act3 {P : Program} {t i : TypeId} (ht : structK P t = some [(i, 0, 1), (i, 1, 1), (i, 2, 1)]) (hi : P.underlying i = some (.int .i64)) (hc : P.cellsOf t = 3) : Dec P t eAct3 := by
  intro H enc w fuel cs x h hw
  obtain ⟨hl, hf⟩ := trod_fld ht h hw
  obtain ⟨y0, n0, t0, w0⟩ := hf 0 _ _ _ rfl
  obtain ⟨y1, n1, t1, w1⟩ := hf 1 _ _ _ rfl
  obtain ⟨y2, n2, t2, w2⟩ := hf 2 _ _ _ rfl
  obtain ⟨a0, e0, q0⟩ := fld_int hi t0 w0
  obtain ⟨a1, e1, q1⟩ := fld_int hi t1 w1
  obtain ⟨a2, e2, q2⟩ := fld_int hi t2 w2
  rw [hc] at hl
  match cs, hl with
  | [_, _, _], _ =>
    simp at e0 e1 e2
    subst e0 e1 e2
    exact ⟨⟨a0, a1, a2⟩, rfl, q0, q1, q2⟩
/-- An arena by definition, in memory. -/
def ReR (ti tB Tb : TypeId) (b : Nat) (G : GH) (st : List Int × List Bool) (M : MH) : Prop :=
  ∃ vx vu Mx Mu, M = (b, .cells (List.toArray [vx, vu]) Tb (0, 0)) :: (Mx ++ Mu) ∧ OwnR eInt ti G vx st.1 Mx ∧ OwnR eBool tB G vu st.2 Mu
theorem ReR.mono {ti tB Tb : TypeId} {b : Nat} {G G' : GH} {st : List Int × List Bool} {M : MH} (hl : Le G G') (h : ReR ti tB Tb b G st M) : ReR ti tB Tb b G' st M := by
  obtain ⟨vx, vu, Mx, Mu, h1, h2, h3⟩ := h
  exact ⟨vx, vu, Mx, Mu, h1, h2.mono hl, h3.mono hl⟩
theorem ReR.cast {ti tB Tb : TypeId} {b : Nat} {G : GH} {st st' : List Int × List Bool} {M M' : MH} (h : ReR ti tB Tb b G st M) (e1 : st = st') (e2 : M = M') : ReR ti tB Tb b G st' M' := by subst e1 e2; exact h
def nextR (st : List Int × List Bool) (x : Int) : Int × (List Int × List Bool) := if firstN st.2 < st.2.length then (firstN st.2, (st.1.set (firstN st.2) x, st.2.set (firstN st.2) true)) else (-1, st)
theorem nextR_t {st : List Int × List Bool} {x : Int} {i : Nat} (h : i < st.2.length) (h1 : st.2[i] = false) (h2 : ∀ j (hj : j < st.2.length), j < i → st.2[j] = true) : nextR st x = ((i : Int), (st.1.set i x, st.2.set i true)) := by
  have e := firstN_at h h1 h2
  unfold nextR; rw [e, if_pos h]
theorem nextR_f {st : List Int × List Bool} {x : Int} (h2 : ∀ j (hj : j < st.2.length), st.2[j] = true) : nextR st x = (-1, st) := by
  unfold nextR; rw [firstN_all h2, if_neg (by omega)]
/-- What an arena has in its slots in use is what the other one has there. -/
def Agree (c : List Int) (u : List Bool) (X : List Int) : Prop := c.length = u.length ∧ X.length = u.length ∧ ∀ i (h : i < u.length) (h2 : i < c.length) (h3 : i < X.length), u[i] = true → c[i] = X[i]
theorem Agree.init (n : Nat) : Agree (List.replicate n 0) (List.replicate n false) (List.replicate n 0) := ⟨by simp, by simp, fun i h h2 h3 hu => by simp⟩
theorem Agree.set {c : List Int} {u : List Bool} {X : List Int} (h : Agree c u X) (i : Nat) (x : Int) (b : Bool) : Agree (c.set i x) (u.set i b) (X.set i x) := by
  obtain ⟨h1, h2, h3⟩ := h
  refine ⟨by simp [h1], by simp [h2], fun j hj hj2 hj3 hu => ?_⟩
  rw [List.length_set] at hj hj2 hj3
  rw [List.getElem_set] at hu
  rw [List.getElem_set, List.getElem_set]
  split
  · rfl
  · rename_i e
    rw [if_neg e] at hu
    exact h3 j hj hj2 hj3 hu
theorem Agree.set1 {c : List Int} {u : List Bool} {X : List Int} (h : Agree c u X) (i : Nat) (x : Int) : Agree (c.set i x) u (X.set i x) := by
  obtain ⟨h1, h2, h3⟩ := h
  refine ⟨by simp [h1], by simp [h2], fun j hj hj2 hj3 hu => ?_⟩
  rw [List.length_set] at hj2 hj3
  rw [List.getElem_set, List.getElem_set]
  split
  · rfl
  · exact h3 j hj hj2 hj3 hu
theorem Agree.free {c : List Int} {u : List Bool} {X : List Int} (h : Agree c u X) (i : Nat) (x : Int) : Agree (c.set i x) (u.set i false) X := by
  obtain ⟨h1, h2, h3⟩ := h
  refine ⟨by simp [h1], by simp [h2], fun j hj hj2 hj3 hu => ?_⟩
  rw [List.length_set] at hj hj2
  rw [List.getElem_set] at hu
  split at hu
  · cases hu
  · rename_i e
    rw [List.getElem_set_ne e]
    exact h3 j hj hj2 hj3 hu
theorem Agree.get {c : List Int} {u : List Bool} {X : List Int} (h : Agree c u X) {i : Int} (hi : hasN u i = true) (h3 : i.toNat < X.length) : getA (c, u) i 0 = X[i.toNat] := by
  obtain ⟨k, hk, rfl, hu⟩ := hasN_iff.1 hi
  obtain ⟨h1, h2, h4⟩ := h
  rw [getA_t (st := (c, u)) hi (by show (k : Int).toNat < c.length; rw [Int.toNat_natCast]; omega)]
  exact h4 k hk (by omega) (by omega) hu
theorem next_same {c : List Int} {u : List Bool} {X : List Int} {x : Int} : (firstN u < u.length ∧ nextA (c, u) x = (((firstN u : Int), 0), (c.set (firstN u) x, u.set (firstN u) true)) ∧ nextR (X, u) x = ((firstN u : Int), (X.set (firstN u) x, u.set (firstN u) true))) ∨
    (nextA (c, u) x = ((0, 4), (c, u)) ∧ nextR (X, u) x = (-1, (X, u))) := by
  by_cases h : firstN u < u.length
  · exact .inl ⟨h, nextA_t h, by unfold nextR; rw [if_pos h]⟩
  · have := firstN_le u
    exact .inr ⟨nextA_f (by show firstN u = u.length; omega), by unfold nextR; rw [if_neg h]⟩
end Go.Fw
