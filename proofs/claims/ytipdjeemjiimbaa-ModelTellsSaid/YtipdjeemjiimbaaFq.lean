/- Regions that draw their order and hold operations that change the world: quiet operations first, the others as they may come up. Nothing of the program is named here. No condition. -/
import Derived.Test.YtipdjeemjiimbaaFp
import Derived.OrdersHeld
set_option linter.unusedVariables false
set_option linter.unusedSimpArgs false
set_option linter.unnecessarySimpa false
namespace Go.Fw
open Go Go.RowKit

/-- From here on, in whatever order, 'fuel' operations still to come, 'listed' those that have come; the boxes Mk are not written. -/
def WD (E : Env) (ops : Array Oper) (fuel : Nat) (listed : Array Bool) (f : Fr) (G : GH) (M Mk : MH) (K : Kt) : Prop :=
  Mk.Sublist M → ∀ a w (Q : Exit → Act → World → Prop), Is E.n a f → E.real G M w → (∀ c a w, ¬ Q (.panic c) a w) → (∀ f G M a w, Is E.n a f → E.real G M w → K f G M → Q .normal a w) → wpAnyH E.P .any ops Q (E.real G Mk) fuel listed a w

theorem wpAnyH_mono {P : Program} {md : Region.Mode} {ops : Array Oper} {Q : Exit → Act → World → Prop} {S S' : World → Prop} (hs : ∀ w, S w → S' w) : ∀ (fuel : Nat) (listed : Array Bool) (a : Act) (w : World), wpAnyH P md ops Q S fuel listed a w → wpAnyH P md ops Q S' fuel listed a w
  | 0, _, _, _, h => h
  | fuel + 1, _, _, _, h => ⟨h.1, fun i hi => wpOp_mono (fun a' w' h' => ⟨hs _ h'.1, wpAnyH_mono hs fuel _ a' w' h'.2⟩) (h.2 i hi)⟩

section
variable {E : Env} {f : Fr} {G : GH} {M Mk : MH} {ops : Array Oper} {K : Kt} {Q : Exit → Kt} {fuel : Nat} {listed : Array Bool}

/-- The beginning. -/
theorem WC.drawW {id : Nat} {l : List Oper} (Mk : MH) (hsub : Mk.Sublist M) (hm : E.P.follows .mixedOrders = true) (hq : ∀ c f G M, ¬ Q (.panic c) f G M) (h : WD E l.toArray l.toArray.size (Array.replicate l.toArray.size false) f G M Mk (Q .normal)) :
    WC E (.region id l.toArray true) Q f G M := fun a w hi hr =>
  wp_region_held (S := E.real G Mk) hm (h hsub a _ _ hi hr.drew (fun c a w ⟨_, _, _, _, _, h⟩ => hq _ _ _ _ h) (fun _ _ _ _ _ h1 h2 h3 => ⟨_, _, _, h1, h2, h3⟩))

/-- All have come. -/
theorem WD.done (hr : Region.ready .any ops listed = []) (h : K f G M) : WD E ops fuel listed f G M Mk K := fun _ a w Q hi hw _ hK =>
  wpAnyH_done hr (hK _ _ _ _ _ hi hw h) fuel

/-- A quiet operation is taken first. -/
theorem WD.take (i : Nat) {o : Oper} {d : Nat} {v : Value} (ho : ops[i]? = some o) (hdst : o.dst = some d) (hg : o.guard = none) (hs : Region.noSelect ops = true) (hf : Region.free .any ops listed i = true)
    (hr : (Region.ready .any ops listed).contains i = true) (hok : Ok E f G Mk o v) (h : WD E ops fuel (listed.setIfInBounds i true) (upd f d v) G M Mk K) (hd : Nat.blt d E.n = true := by rfl) : WD E ops (fuel + 1) listed f G M Mk K := by
  intro hsub a w Q hi hw hp hK
  have hS : E.real G Mk w := ⟨hw.r.sub hsub, hw.le, hw.nw⟩
  refine wpAnyH_take ho hs hf hr (fun c a w h => absurd h (hp _ _ _)) (v := v) ?_ hS ?_
  · refine .inl ⟨by simp [Region.wanted, hg], fun w' hw' => ?_⟩
    rw [hi.eval]
    exact hok w' hw'
  · rw [hdst]
    exact h hsub _ w Q (hi.put hd v) hw hp hK

theorem upon_mono2 {P : Program} {o : Oper} {a : Act} {next next' : Act → World → Prop} {Q Q' : Exit → Act → World → Prop} {r : Result Next} (h : o.upon P a next Q' r) (hn : ∀ a w, next a w → next' a w) (hq : ∀ e a w, e ≠ .normal → Q' e a w → Q e a w) : o.upon P a next' Q r := by
  cases r with
  | ok n w' =>
    cases n <;> simp only [Oper.upon] at h ⊢
    case value u => exact hn _ _ h
    case skip => exact hn _ _ h
    case defer d => exact hn _ _ h
    case enter f args =>
      refine Calls.mono h fun e w'' he => ?_
      cases e with
      | returned u => exact hn _ _ he
      | panicked c => exact hq _ _ _ (by simp) he
      | outgrown => obtain ⟨a, w, h⟩ := he; exact ⟨a, w, hq _ _ _ (by simp) h⟩
    case row row args => exact Rows.mono h fun u w'' he => hn _ _ he
  | halt x w' =>
    cases x <;> simp only [Oper.upon] at h ⊢
    case panic u => exact hq _ _ _ (by simp) h

/-- The one operation that may come up, whatever it does: by the rule of its kind. -/
theorem WD.one (i : Nat) (Mk' : MH) {o : Oper} (ho : ops[i]? = some o) (hr : Region.ready .any ops listed = [i]) (hg : o.guard = none)
    (h : W E [o].toArray false [o] f G M (fun f' G' M' => Le G G' ∧ Mk.Sublist M' ∧ Mk'.Sublist M' ∧ Mk.Sublist Mk' ∧ WD E ops fuel (listed.setIfInBounds i true) f' G' M' Mk' K)) : WD E ops (fuel + 1) listed f G M Mk K := by
  intro hsub a w Q hi hw hp hK
  refine wpAnyH_all hr (by simp) ?_
  intro j hj
  obtain rfl : j = i := by simpa using hj
  have h1 := h a w (fun e a' w' => e = .normal ∧ E.real G Mk w' ∧ wpAnyH E.P .any ops Q (E.real G Mk) fuel (listed.setIfInBounds j true) a' w') hi hw (by
    rintro f' G' M' a' w' h2 h3 ⟨h4, h5, h6, h7, h8⟩
    have h9 : E.real G' Mk w' := ⟨h3.r.sub h5, h3.le, h3.nw⟩
    refine ⟨rfl, h9.anti h4 hw.le, ?_⟩
    refine wpAnyH_mono (S := E.real G' Mk') (fun w hw' => ?_) _ _ _ _ (h8 h6 a' w' Q h2 h3 hp hK)
    have h10 : E.real G' Mk w := ⟨hw'.r.sub h7, hw'.le, hw'.nw⟩
    exact h10.anti h4 hw.le)
  unfold wpList at h1
  rw [if_pos (by simp [Region.wanted, hg])] at h1
  unfold wpOp
  simp only [ho]
  rw [if_pos (by simp [Region.wanted, hg])]
  rcases h1 with h1 | ⟨_, a1, w1, h1, _⟩
  · left
    unfold Oper.wp at h1 ⊢
    exact upon_mono2 h1 (fun a' w' h2 => h2.2) (fun e a' w' he h2 => absurd h2.1 he)
  · cases h1
end
end Go.Fw
