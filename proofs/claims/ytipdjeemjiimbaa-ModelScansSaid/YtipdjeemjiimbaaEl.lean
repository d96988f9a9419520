/- What the evaluator says of a call holds in the model: regions that draw their order, and the whole. Nothing of the program is named here. No condition. -/
import Derived.Test.YtipdjeemjiimbaaEk
set_option linter.unusedVariables false
set_option linter.unusedSimpArgs false
set_option linter.unnecessarySimpa false
namespace Go.Fw
open Go Go.RowKit

section
variable {C : Ctx}
theorem getD_lt {listed : Array Bool} {i : Nat} (h : listed.getD i true = false) : i < listed.size := by
  rcases Nat.lt_or_ge i listed.size with h' | h'
  · exact h'
  · simp [Array.getElem?_eq_none h'] at h
theorem draw_ok (n : Nat) (ih : ∀ t f d s r, evl C n t f d s = some r → TaskOk C t f d s r) (nt : Nat) (arr : Array Oper) (n0 : Nat) (p : Plan) (L : List Fact) (f : Tr AV) (d : DL) (s : St) (r : Rs) (h : evl C (n + 1) (.draw nt arr n0 p L) f d s = some r) :
    TaskOk C (.draw nt arr n0 p L) f d s r := by
  have hQ : ∀ {w0 : World} {V : Vl} (dst : Option Tmp) (v : Value) c a w, Po w0 V n0 nt r (.panic c) (Act.put a dst v) w → Po w0 V n0 nt r (.panic c) a w := fun dst v c a w h => by
    obtain ⟨h1, _⟩ := h
    cases hr : r.e <;> rw [hr] at h1 <;> cases h1
  simp only [evl] at h
  split at h
  · -- done
    cases h
    refine ⟨rfl, ?_⟩
    intro w0 V w a listed rs D fuel hpl hD hns hsz hcl hrr hs hf hd hn0 hnm hL
    simp only [planOk] at hpl
    have hr : Region.ready .any arr listed = [] := by simpa using hpl
    have hP : Po w0 V n0 nt ⟨.nor, f, d, s, .und⟩ .normal a w := ⟨rfl, V, Vx.rfl, hs, hf, hd, by show n0 ≤ s.n; omega⟩
    show wpAnyI C.P arr _ _ fuel listed a w
    cases fuel with
    | zero => exact ⟨hr, hP⟩
    | succ k => exact ⟨fun _ => hP, by rw [hr]; simp⟩
  · -- step
    rename_i i p
    split at h
    · rename_i o hi
      cases hdst : dstOk nt o.dst
      · simp [hdst] at h
      simp only [hdst, cond_true] at h
      -- what remains to be said once the operation has yielded z wherever Y holds
      have main : ∀ {v : AV} {L' : List Fact}, evl C n (.draw nt arr n0 p L') (putF f o.dst v) d s = some r →
          (∀ w0 V w a, Sim w0 V s w → FA V nt f a → (∀ fa ∈ L, FactOk V fa) → (∀ fa ∈ L', FactOk V fa) ∧ (∀ j w w', SF V arr L' j w w' → SF V arr L j w w') ∧ ∃ (Y : World → Prop) (z : Value), VR V v z ∧ YieldsIf C.P arr Y o z a ∧ Y w ∧
            ∀ j w w', ¬ Anc arr j i → Y w → SF V arr L' j w w' → Y w') →
          r.e = .nor ∧ DrawS C.P nt arr n0 (.step i p) L f d s r := fun {v L'} hgo key => by
        obtain ⟨hre, hnext⟩ := ih _ _ _ _ _ hgo
        refine ⟨hre, ?_⟩
        intro w0 V w a listed rs D fuel hpl hD hns hsz hcl hrr hs hf hd hn0 hnm hL
        cases D with
        | zero => simp [planOk] at hpl
        | succ D =>
        simp only [planOk, Bool.and_eq_true] at hpl
        obtain ⟨⟨c1, c2⟩, c3⟩ := hpl
        cases fuel with
        | zero => omega
        | succ fuel =>
        obtain ⟨hL', hS, Y, z, k1, k2, k3, k4⟩ := key w0 V w a hs hf hL
        have h1 := hnext w0 V w (a.put o.dst z) (listed.setIfInBounds i true) [] D fuel c3 (by omega) hns (by simp [hsz]) (hcl.add (by simpa using c2)) (fun i hi => by cases hi) hs (hf.putF hdst k1) (by rw [put_defers]; exact hd) hn0
          (fun j hj => hnm j (by
            by_cases e : i = j
            · subst e
              have := getD_lt hj
              simp at this
              simp [this] at hj
            · rw [getD_set_ne true e] at hj; exact hj)) hL'
        have h2 : wpAnyI C.P arr (Po w0 V n0 nt r) (SF V arr L') fuel (listed.setIfInBounds i true) (a.put o.dst z) w := by
          cases p with
          | alt _ _ _ _ => simp [planOk] at c3
          | stop =>
            exact absurd hgo (by cases n <;> simp [evl])
          | done => exact h1
          | step _ _ => exact h1
          | alts _ _ => exact h1
        refine wpAnyI.mono hS _ _ _ _ (wpAnyI_first hi (Region.noSelect_spec hns) (fun c a w h => hQ _ _ c a w h) k4 (fun w => SF.refl _ _) fuel listed a w (free_all hi c1) hcl (by simpa using c2) k2 k3 h2)
      split at h
      · rename_i hw
        refine main h fun w0 V w a hs hf hL => ⟨hL, fun j w w' h => h, fun _ => True, undef, by simp only [VR], .inr ⟨wantedA_ok hw hf, rfl⟩, trivial, fun _ _ _ _ _ _ => trivial⟩
      · rename_i hw
        split at h
        · rename_i v hp
          refine main h fun w0 V w a hs hf hL => ?_
          obtain ⟨z, k1, k2⟩ := pureA_ok hp hf hs.kn
          exact ⟨hL, fun j w w' h => h, fun _ => True, z, k1, .inl ⟨wantedA_ok hw hf, fun w _ => k2 w⟩, trivial, fun _ _ _ _ _ _ => trivial⟩
        · split at h
          · rename_i v fa hl
            refine main h fun w0 V w a hs hf hL => ?_
            obtain ⟨k0, k1, b, vs, z, k2, k3, k4, k5, k6⟩ := loadF_ok (P := C.P) hl hs hf
            refine ⟨fun x hx => ?_, fun j w w' h => h.weaken, fun w' => CellsAt w' b fa.2.2.1 vs, z, k5, .inl ⟨wantedA_ok hw hf, k6⟩, k4, ?_⟩
            · rcases List.mem_cons.1 hx with rfl | hx
              · exact k1
              · exact hL x hx
            · intro j w1 w2 hno hY hS
              rcases hS fa (by simp) with hS | hS
              · rw [k0] at hS; exact absurd hS hno
              · exact hS b vs k2 k3 hY
          · cases h
      · cases h
    · cases h
  · -- alternatives
    rename_i rs q
    obtain ⟨hre, hnext⟩ := ih _ _ _ _ _ h
    refine ⟨hre, ?_⟩
    intro w0 V w a listed rs' D fuel hpl hD hns hsz hcl hrr hs hf hd hn0 hnm hL
    simp only [planOk, Bool.and_eq_true, beq_iff_eq] at hpl
    obtain ⟨⟨c1, c2⟩, c3⟩ := hpl
    have h1 := hnext w0 V w a listed rs D fuel c3 hD hns hsz hcl (fun i hi => by rw [c1]; exact hi) hs hf hd hn0 hnm hL
    have hne : rs ≠ [] := by intro e; subst e; simp at c2
    cases q with
    | alt i an p q =>
      cases D with
      | zero => cases rs <;> simp [planOk] at c3
      | succ D =>
      cases fuel with
      | zero => omega
      | succ fuel =>
        have h2 := h1 fuel rfl
        exact ⟨fun e => absurd (c1.symm.trans e) hne, fun i hi => h2 i (by rw [c1] at hi; exact hi)⟩
    | stop => exact absurd h (by cases n <;> simp [evl])
    | done => exact h1
    | step _ _ => exact h1
    | alts _ _ => exact h1
  · -- one of them
    rename_i i an p q
    split at h
    · rename_i o hi
      cases hdst : dstOk nt o.dst
      · simp [hdst] at h
      simp only [hdst, cond_true] at h
      split at h
      · rename_i v s1 hop
        cases hfa : factsOk an s1 L
        · simp [hfa] at h
        simp only [hfa, cond_true] at h
        split at h
        · rename_i r1 hr1
          have hrr : r = r1 := by
            cases hst : isStop q
            · simp only [hst, cond_false] at h
              split at h
              · rename_i r2 hr2
                obtain ⟨hb, rfl⟩ := bif_some h
                rfl
              · cases h
            · simp only [hst, cond_true, Option.some.injEq] at h
              exact h.symm
          subst hrr
          obtain ⟨hre, hnext⟩ := ih _ _ _ _ _ hr1
          refine ⟨hre, ?_⟩
          intro w0 V w a listed rs D fuel hpl hD hns hsz hcl hrr hs hf hd hn0 hnm hL
          cases rs with
          | nil => simp [planOk] at hpl
          | cons j rs =>
          cases D with
          | zero => simp [planOk] at hpl
          | succ D =>
          simp only [planOk, Bool.and_eq_true] at hpl
          obtain ⟨⟨⟨⟨⟨c1, c6⟩, c4⟩, c5⟩, c2⟩, c3⟩ := hpl
          have c4 : listed.getD i true = false := by simpa using c4
          have c1 := Nat.eq_of_beq_eq_true c1
          subst c1
          intro fuel' hfu k hk
          subst hfu
          rcases List.mem_cons.1 hk with rfl | hk
          · -- this one
            have next : ∀ V' z w', Vx V V' s.n (some (n0 + k)) → VR V' v z → Sim w0 V' s1 w' → s.n ≤ s1.n →
                SF V arr L k w w' ∧ wpAnyI C.P arr (Po w0 V n0 nt r) (SF V arr L) fuel' (listed.setIfInBounds k true) (a.put o.dst z) w' := fun V' z w' k1 k2 k3 k4 => by
              refine ⟨factsOk_ok (ancOk_ok c6 (fun k hk => by cases hk)) hfa hL k1.1 k3, ?_⟩
              have h1 := hnext w0 V' w' (a.put o.dst z) (listed.setIfInBounds k true) [] D fuel' c2 (by omega) hns (by simp [hsz]) (hcl.add (hrr k (by simp))) (fun i hi => by cases hi) k3 ((hf.mono k1.1).putF hdst k2) (by rw [put_defers]; exact hd.mono k1.1) (by omega)
                (fun j hj => by
                  by_cases e : k = j
                  · subst e
                    have := getD_lt hj
                    simp at this
                    simp [this] at hj
                  · rw [getD_set_ne true e] at hj
                    have hlt := getD_lt hj
                    exact k1.2 (n0 + j) (by omega) (by simp; omega) (hnm j hj)) (fun fa h => (hL fa h).mono k1.1)
              have h2 : wpAnyI C.P arr (Po w0 V' n0 nt r) (SF V' arr L) fuel' (listed.setIfInBounds k true) (a.put o.dst z) w' := by
                cases p with
                | alt _ _ _ _ => simp [planOk] at c2
                | stop => exact absurd hr1 (by cases n <;> simp [evl])
                | done => exact h1
                | step _ _ => exact h1
                | alts _ _ => exact h1
              have hx : Vx V V' n0 none := ⟨k1.1, fun id h1 _ h3 => k1.2 id (by omega) (by simp; omega) h3⟩
              exact wpAnyI.post (fun e a w h => h.back hx (Nat.le_refl _)) _ _ _ _ (wpAnyI.mono (fun j w w' h => h.back hL k1.1) _ _ _ _ h2)
            unfold wpOp
            simp only [hi]
            split at hop
            · rename_i hw
              have hw' := wantedA_ok hw hf
              rw [if_neg (by rw [hw']; simp)]
              cases hop
              exact next V undef w Vx.rfl (by simp only [VR]) hs (Nat.le_refl _)
            · rename_i hw
              have hw' := wantedA_ok hw hf
              rw [if_pos hw']
              left
              split at hop
              · rename_i g' args hc
                split at hop
                · rename_i r' hr
                  cases hop
                  exact call_wp hc (ih _ _ _ _ _ hr) hs hf fun V' z w' k1 k2 k3 k4 => next V' z w' k1.any k2 k3 k4
                · cases hop
              · exact (memA_ok hop hs (fun p hp => by cases hp; exact hnm k c4) hf).wp fun V' z w' k1 k2 k3 k4 => next V' z w' k1 k2 k3 k4
            · cases hop
          · -- another one
            cases hst : isStop q
            · simp only [hst, cond_false] at h
              split at h
              · rename_i r2 hr2
                obtain ⟨hb, _⟩ := bif_some h
                have := Rs.beq_eq hb
                subst this
                obtain ⟨_, hq⟩ := ih _ _ _ _ _ hr2
                have h1 := hq w0 V w a listed rs (D + 1) (fuel' + 1) c3 hD hns hsz hcl (fun i hi => hrr i (by simp [hi])) hs hf hd hn0 hnm hL
                cases q with
                | alt _ _ _ _ => exact h1 fuel' rfl k hk
                | stop => exact h1 fuel' rfl k hk
                | done => simp [isChain] at c5
                | step _ _ => simp [isChain] at c5
                | alts _ _ => simp [isChain] at c5
              · cases h
            · cases q <;> simp [isStop] at hst
              cases rs with
              | nil => cases hk
              | cons _ _ => simp [planOk] at c3
        · cases h
      · cases h
    · cases h
  · cases h
/-- **What the evaluator says holds.** -/
theorem evl_ok (hC : COk C) : ∀ (n : Nat) (t : Task) (f : Tr AV) (d : DL) (s : St) (r : Rs), evl C n t f d s = some r → TaskOk C t f d s r := by
  intro n
  induction n using Nat.strongRecOn with
  | _ n ih =>
    cases n with
    | zero => intro t f d s r h; simp [evl] at h
    | succ n =>
      have ih' : ∀ k, k ≤ n → ∀ t f d s r, evl C k t f d s = some r → TaskOk C t f d s r := fun k hk => ih k (by omega)
      intro t f d s r h
      cases t with
      | code g nt c => exact code_ok hC n ih' g nt c f d s r h
      | ops g nt arr l => exact ops_ok n (ih' n (Nat.le_refl _)) g nt arr l f d s r h
      | call g args => exact call_ok hC n (ih' n (Nat.le_refl _)) g args f d s r h
      | callD g args => exact callD_ok hC n (ih' n (Nat.le_refl _)) g args f d s r h
      | draw nt arr n0 p L => exact draw_ok n (ih' n (Nat.le_refl _)) nt arr n0 p L f d s r h

/-- The empty memory. -/
def St0 : St := ⟨.e, 0⟩
/-- What a call with unknown values of one cell each comes to: a truth value. -/
def evB (C : Ctx) (n g : Nat) (args : List AV) : Option Bool :=
  match evl C n (.call g args) .e [] St0 with
  | some r => match r.v with
    | .b x => some x
    | _ => none
  | none => none
theorem sim0 (w : World) (σ : Nat → Value) (h1 : ∀ k, (σ k).oneCell' = true) : Sim w ⟨fun _ => none, fun _ => 0, σ, h1⟩ St0 w :=
  ⟨rfl, rfl, rfl, Nat.le_refl _, fun _ _ => rfl, (fun _ _ h => by cases h), (fun id x h => by rw [show St0.h.get id = none from Tr.get_e id] at h; cases h), (fun id id' b x x' h => by rw [show St0.h.get id = none from Tr.get_e id] at h; cases h)⟩
theorem evB_ok (hC : COk C) {n g : Nat} {args : List AV} {b : Bool} (h : evB C n g args = some b) (σ : Nat → Value) (h1 : ∀ k, (σ k).oneCell' = true) {vs : List Value} (hv : VRs ⟨fun _ => none, fun _ => 0, σ, h1⟩ args vs) (G : GH) :
    Fc C.P g vs G [] (fun v _ _ => v = .bool b) := by
  unfold evB at h
  split at h
  · rename_i r hr
    split at h
    · rename_i x hx
      cases h
      obtain ⟨k1, k2⟩ := evl_ok hC _ _ _ _ _ _ hr
      refine ⟨k1, fun w hw => ?_⟩
      refine (k2 w _ w vs (sim0 w σ h1) hv).mono ?_
      rintro e w' ⟨V', z, _, rfl, h3, h4, _⟩
      rw [hx] at h3
      simp only [VR] at h3
      subst h3
      refine ⟨_, G, [], rfl, ⟨h4.os, h4.tape, h4.output, h4.size, fun c hc _ => h4.keep c hc, ?_, (fun _ h => by cases h), (fun _ h => by cases h), List.nodup_nil, (fun _ h => by cases h)⟩, Le.rfl, fun c h1 h2 => absurd h1 h2, rfl⟩
      intro c o hc
      have h5 := hw.ro c o hc
      rw [h4.keep c (Array.getElem?_eq_some_iff.1 h5).1]
      exact h5
    · cases h
  · cases h
end
end Go.Fw
