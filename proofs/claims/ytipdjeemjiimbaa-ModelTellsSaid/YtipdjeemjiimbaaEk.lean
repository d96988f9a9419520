/- What the evaluator says of a call holds in the model. Nothing of the program is named here. No condition. -/
import Derived.Test.YtipdjeemjiimbaaEj
set_option linter.unusedVariables false
set_option linter.unusedSimpArgs false
set_option linter.unnecessarySimpa false
namespace Go.Fw
open Go Go.RowKit

section
variable {P : Program} {w0 w : World} {V V' : Vl} {n n' nt : Nat}
theorem FA.putF {f : Tr AV} {a : Act} (h : FA V nt f a) {dst : Option Nat} (hd : dstOk nt dst = true) {x : AV} {v : Value} (hv : VR V x v) : FA V nt (putF f dst x) (a.put dst v) := by
  cases dst with
  | none => exact h.put_none v
  | some d => exact h.put hd hv
theorem put_defers (a : Act) (dst : Option Nat) (v : Value) : (a.put dst v).defers = a.defers := by cases dst <;> rfl
theorem Po.back {r : Rs} {e : Exit} {a : Act} (h : Po w0 V' n' nt r e a w) (hx : Vx V V' n none) (hn : n ≤ n') : Po w0 V n nt r e a w := by
  obtain ⟨h1, V2, h2, h3, h4, h5, h6⟩ := h
  exact ⟨h1, V2, hx.trans h2 hn, h3, h4, h5, by omega⟩
theorem wpList_post {arr : Array Oper} {Q Q' : Exit → Act → World → Prop} (hq : ∀ e a w, Q e a w → Q' e a w) : ∀ (l : List Oper) (a : Act) (w : World), wpList P arr Q l a w → wpList P arr Q' l a w
  | [], a, w, h => hq _ _ _ h
  | o :: l, a, w, h => by
    unfold wpList at h ⊢
    split
    · rename_i hw
      rw [if_pos hw] at h
      rcases h with h | ⟨h1, a', w', h2⟩
      · left
        unfold Oper.wp at h ⊢
        exact upon_mono2 h (fun a w h => wpList_post hq l a w h) (fun e a w _ h => hq e a w h)
      · exact .inr ⟨h1, a', w', hq _ _ _ h2⟩
    · rename_i hw
      rw [if_neg hw] at h
      exact wpList_post hq l _ _ h
/-- One operation that is no call, then the rest. -/
theorem Step.wp {s : St} {nm : Option Nat} {a : Act} {o : Oper} {r : AV} {s' : St} {next : Act → World → Prop} {Q : Exit → Act → World → Prop} (h : Step P w0 V s nm a o w r s')
    (k : ∀ V' z w', Vx V V' s.n nm → VR V' r z → Sim w0 V' s' w' → s.n ≤ s'.n → next (a.put o.dst z) w') : o.wp P a w next Q := by
  obtain ⟨V', z, w', nx, h1, h2, h3, h4, h5, h6⟩ := h.ex
  unfold Oper.wp
  rw [h3]
  rcases h4 with rfl | ⟨rfl, rfl⟩
  · exact k V' z w' h1 h2 h5 h6
  · exact k V' undef w' h1 h2 h5 h6
theorem call_wp {s : St} {a : Act} {o : Oper} {g : FuncId} {args : List AV} {v : AV} {s' : St} {f : Tr AV} {next : Act → World → Prop} {Q : Exit → Act → World → Prop} (hc : calleeA P s.h f o.op = some (g, args)) (h : CallS P g args s v s') (hs : Sim w0 V s w) (hf : FA V nt f a)
    (k : ∀ V' z w', Vx V V' s.n none → VR V' v z → Sim w0 V' s' w' → s.n ≤ s'.n → next (a.put o.dst z) w') : o.wp P a w next Q := by
  obtain ⟨vs, h1, h2⟩ := calleeA_ok hc hs hf h.1
  unfold Oper.wp
  rw [h2]
  refine (h.2 w0 V w vs hs h1).mono ?_
  rintro e w' ⟨V', z, k1, rfl, k2, k3, k4⟩
  exact k V' z w' k1 k2 k3 k4

/-- A region that only looks. -/
theorem qrun_ok {s : St} {arr : Array Oper} (hs : Sim w0 V s w) : ∀ {l : List Oper} {f f' : Tr AV} {a : Act} {d : DL}, qrun P s.h nt arr f l = some f' → FA V nt f a → DRs V d a.defers →
    wpQuiet P arr (fun w' => w' = w) (fun a' => FA V nt f' a' ∧ DRs V d a'.defers) l a
  | [], f, f', a, d, h, hf, hd => by
    simp only [qrun, Option.some.injEq] at h
    subst h
    exact wpQuiet_nil ⟨hf, hd⟩
  | o :: l, f, f', a, d, h, hf, hd => by
    simp only [qrun] at h
    cases hdst : dstOk nt o.dst
    · simp [hdst] at h
    simp only [hdst, cond_true] at h
    have fin : ∀ {v : AV}, qrun P s.h nt arr (putF f o.dst v) l = some f' → ∀ z, VR V v z → wpQuiet P arr (fun w' => w' = w) (fun a' => FA V nt f' a' ∧ DRs V d a'.defers) l (a.put o.dst z) := fun h z hz =>
      qrun_ok hs h (hf.putF hdst hz) (by rw [put_defers]; exact hd)
    split at h
    · rename_i hw
      have hw' := wantedA_ok hw hf
      refine wpQuiet_step fun K' hK' => ?_
      rw [if_neg (by rw [hw']; simp)]
      exact hK' _ (fin h undef (by simp only [VR]))
    · rename_i hw
      have hw' := wantedA_ok hw hf
      refine wpQuiet_step fun K' hK' => ?_
      rw [if_pos hw']
      split at h
      · rename_i t x ho
        split at h
        · rename_i v hl
          obtain ⟨id, b, off, vs, z, _, h2, h3, h4, h5⟩ := loadA_ok (P := P) hl hs (hf.eval x)
          refine ⟨z, fun w' hw => ?_, hK' _ (fin h z h4)⟩
          subst hw
          unfold Oper.quietAt
          have : (execOp a.eval o).run P w' = .ok (.value z) w' := by simp [execOp, ho, h5 w' h3]
          rw [this]
          exact ⟨rfl, rfl⟩
        · cases h
      · split at h
        · rename_i v hp
          obtain ⟨z, h1, h2⟩ := pureA_ok hp hf hs.kn
          refine ⟨z, fun w' hw => ?_, hK' _ (fin h z h1)⟩
          subst hw
          unfold Oper.quietAt
          rw [h2 w']
          exact ⟨rfl, rfl⟩
        · cases h
    · cases h

/-! ### The loads that were taken first -/
theorem SF.refl {arr : Array Oper} {L : List Fact} (j : Nat) (w : World) : SF V arr L j w w := fun fa _ => .inr fun _ _ _ _ h => h
theorem SF.weaken {arr : Array Oper} {L : List Fact} {fa : Fact} {j : Nat} {w w' : World} (h : SF V arr (fa :: L) j w w') : SF V arr L j w w' := fun x hx => h x (by simp [hx])
theorem FactOk.mono {fa : Fact} (h : FactOk V fa) (hl : V.le V') : FactOk V' fa := by
  obtain ⟨h1, b, vs, h2, h3⟩ := h
  exact ⟨h1, b, vs, (hl.1 _ _ h2).1, h3.mono hl⟩
theorem SF.back {arr : Array Oper} {L : List Fact} {j : Nat} {w w' : World} (hL : ∀ fa ∈ L, FactOk V fa) (hl : V.le V') (h : SF V' arr L j w w') : SF V arr L j w w' := by
  intro fa hfa
  rcases h fa hfa with h | h
  · exact .inl h
  · exact .inr fun b vs h1 h2 => h b vs (hl.1 _ _ h1).1 (h2.mono hl)
theorem waitsB_ok {arr : Array Oper} {j i : Nat} (h : waitsB arr j i = true) : ∃ oj, arr[j]? = some oj ∧ ∃ e ∈ oj.after, Region.binds .any e = true ∧ e.on = i := by
  unfold waitsB at h
  split at h
  · rename_i o ho
    obtain ⟨e, he, hb⟩ := Array.any_eq_true'.1 h
    simp only [Bool.and_eq_true] at hb
    exact ⟨o, ho, e, he, hb.1, Nat.eq_of_beq_eq_true hb.2⟩
  · cases h
theorem ancOk_ok {arr : Array Oper} {j : Nat} : ∀ {l seen : List Nat}, ancOk arr j seen l = true → (∀ k ∈ seen, Anc arr j k) → ∀ i ∈ l, Anc arr j i
  | [], _, _, _, i, hi => by cases hi
  | x :: l, seen, h, hs, i, hi => by
    simp only [ancOk, Bool.and_eq_true, Bool.or_eq_true, List.any_eq_true] at h
    have hx : Anc arr j x := by
      rcases h.1 with h1 | ⟨k, hk, h1⟩
      · obtain ⟨oj, h2, e, he, hb, rfl⟩ := waitsB_ok h1
        exact .one h2 he hb
      · obtain ⟨ok, h2, e, he, hb, rfl⟩ := waitsB_ok h1
        exact .more (hs k hk) h2 he hb
    rcases List.mem_cons.1 hi with rfl | hi
    · exact hx
    · refine ancOk_ok h.2 (fun k hk => ?_) i hi
      rcases List.mem_cons.1 hk with rfl | hk
      · exact hx
      · exact hs k hk
theorem factsOk_ok {arr : Array Oper} {an : List Nat} {s : St} {i : Nat} {w1 : World} (hi : ∀ k ∈ an, Anc arr i k) : ∀ {L : List Fact}, factsOk an s L = true → (∀ fa ∈ L, FactOk V fa) → V.le V' → Sim w0 V' s w → SF V arr L i w1 w
  | [], _, _, _, _ => fun fa hfa => by simp at hfa
  | (k, id, off, cs) :: L, h, hL, hl, hs => by
    simp only [factsOk, Bool.and_eq_true, Bool.or_eq_true] at h
    intro fa hfa
    rcases List.mem_cons.1 hfa with rfl | hfa
    · rcases h.1 with h1 | h1
      · obtain ⟨k, hk, hb⟩ := List.any_eq_true.1 h1
        have := Nat.eq_of_beq_eq_true hb
        subst this
        exact .inl (hi _ hk)
      · refine .inr fun b vs k1 k2 _ => ?_
        split at h1
        · rename_i l hl1
          have := AV.beqs_eq h1
          subst this
          obtain ⟨us, k3, k4, k5⟩ := rowA_ok hl1 hs (hl.1 _ _ k1).1
          obtain ⟨hd, _⟩ := hL (k, id, off, l) (by simp)
          have : vs = us := VRs.det hd (k2.mono hl) k3
          subst this
          exact k5
        · cases h1
    · exact factsOk_ok hi h.2 (fun x hx => hL x (by simp [hx])) hl hs fa hfa
theorem loadF_ok {s : St} {f : Tr AV} {i : Nat} {a : Act} {o : Oper} {v : AV} {fa : Fact} (h : loadF P s.h f i o.op = some (v, fa)) (hs : Sim w0 V s w) (hf : FA V nt f a) :
    fa.1 = i ∧ FactOk V fa ∧ ∃ b vs z, V.ρ fa.2.1 = some b ∧ VRs V fa.2.2.2 vs ∧ CellsAt w b fa.2.2.1 vs ∧ VR V v z ∧ ∀ w', CellsAt w' b fa.2.2.1 vs → (execOp a.eval o).run P w' = .ok (.value z) w' := by
  unfold loadF at h
  split at h
  · rename_i t x ho
    have hx := hf.eval x
    split at h
    · rename_i id off hb
      rw [hb] at hx; simp only [VR] at hx
      obtain ⟨b, h1, h2⟩ := hx
      split at h
      · rename_i bb k ht
        split at h
        · rename_i l hl
          cases hd : AV.dets l
          · simp [hd] at h
          simp only [hd, cond_true] at h
          split at h
          · rename_i v' hm
            cases h
            obtain ⟨vs, k1, k2, k3⟩ := rowA_ok hl hs h1
            obtain ⟨k4, k5⟩ := mkA_ok hm k1
            refine ⟨rfl, ⟨hd, b, vs, h1, k1⟩, b, vs, mkV bb vs, h1, k1, k3, k4, fun w' hw' => ?_⟩
            have := hw'.load (P := P) ht k2 (fun e => by rw [← k2]; exact k5 e)
            simp [execOp, ho, h2, Instr.loadAt, Instr.sureAddr, this]
          · cases h
        · cases h
      · cases h
    · cases h
  · cases h
theorem free_all {arr : Array Oper} {listed : Array Bool} {i : Nat} {oi : Oper} (hi : arr[i]? = some oi) (h : Region.free .any arr listed i = true) :
    ∀ j oj, arr[j]? = some oj → j ≠ i → listed.getD j true = false → (∀ e ∈ oj.after, Region.binds .any e = true → e.on ≠ i) → oi.apart arr oj = true := fun j oj hj hne hun hno => Region.free_spec hi h j oj hj hne hun hno
end

section
variable {C : Ctx}
theorem init_ok {V : Vl} : ∀ {args : List AV} {vs : List Value} {i : Nat} {t : Tr AV} {ws : List Value}, VRs V args vs → ws.length = i → (∀ j, VR V ((t.get j).getD .und) (ws.getD j undef)) →
    ∀ j, VR V (((initF i args t).get j).getD .und) ((ws ++ vs).getD j undef)
  | [], vs, i, t, ws, h, hw, ht, j => by simp only [VRs] at h; subst h; simpa [initF] using ht j
  | x :: l, vs, i, t, ws, h, hw, ht, j => by
    simp only [VRs] at h
    obtain ⟨v, us, h1, h2, rfl⟩ := h
    simp only [initF]
    have := init_ok (t := t.set i (some x)) (ws := ws ++ [v]) h2 (i := i + 1) (by simp [hw]) (fun k => ?_) j
    · simpa using this
    · rw [Tr.get_set]
      by_cases e : k = i
      · subst e
        rw [if_pos rfl]
        simp only [Option.getD_some, List.getD_eq_getElem?_getD]
        rw [List.getElem?_append_right (by omega)]
        simpa [hw] using h1
      · rw [if_neg e]
        have h3 := ht k
        simp only [List.getD_eq_getElem?_getD] at h3 ⊢
        by_cases hk : k < ws.length
        · rw [List.getElem?_append_left hk]; exact h3
        · rw [List.getElem?_eq_none (by simp; omega)]
          rw [List.getElem?_eq_none (by omega)] at h3
          exact h3
theorem enter_ok {V : Vl} {nt : Nat} {args : List AV} {vs : List Value} (h : VRs V args vs) (hle : Nat.ble args.length nt = true) : FA V nt (initF 0 args .e) { tmps := vs.toArray ++ Array.replicate (nt - vs.toArray.size) undef, defers := [] } := by
  have hl : vs.length ≤ nt := by rw [h.len]; simpa using hle
  refine ⟨by simp; omega, fun t => ?_⟩
  have h1 := init_ok (t := .e) (ws := []) h rfl (fun j => by simp [Tr.get_e, VR]) t
  simp only [List.nil_append, List.getD_eq_getElem?_getD] at h1
  simp only [Array.getD_eq_getD_getElem?]
  by_cases ht : t < vs.length
  · rw [Array.getElem?_append_left (by simpa using ht)]
    simpa using h1
  · rw [Array.getElem?_append_right (by simpa using ht)]
    rw [List.getElem?_eq_none (by omega)] at h1
    rw [Array.getElem?_replicate]
    split <;> simpa using h1

/-! ## The main theorem -/
theorem code_ok (hC : COk C) (n : Nat) (ih' : ∀ k, k ≤ n → ∀ t f d s r, evl C k t f d s = some r → TaskOk C t f d s r) (g nt : Nat) (c : Code) (f : Tr AV) (d : DL) (s : St) (r : Rs) (h : evl C (n + 1) (.code g nt c) f d s = some r) :
    TaskOk C (.code g nt c) f d s r := by
  have ih := ih' n (Nat.le_refl _)
  intro w0 V w a hs hf hd
  simp only [evl] at h
  split at h
  · -- skip
    cases h
    exact wp_skip ⟨rfl, V, Vx.rfl, hs, hf, hd, Nat.le_refl _⟩
  · cases h
    exact wp_ret ⟨rfl, V, Vx.rfl, hs, hf, hd, Nat.le_refl _⟩
  · cases h
    exact wp_exit ⟨rfl, V, Vx.rfl, hs, hf, hd, Nat.le_refl _⟩
  · -- seq
    rename_i x y
    split at h
    · rename_i f' d' s' v' hx
      have h1 := ih _ _ _ _ _ hx w0 V w a hs hf hd
      refine wp_seq (wp_mono h1 ?_)
      rintro e a' w' ⟨he, V', k1, k2, k3, k4, k5⟩
      simp only [ExR] at he
      subst he
      have h2 := ih _ _ _ _ _ h w0 V' w' a' k2 k3 k4
      exact wp_mono h2 (fun e a w h => h.back k1 k5)
    · rename_i hno
      have h1 := ih _ _ _ _ _ h w0 V w a hs hf hd
      refine wp_seq (wp_mono h1 ?_)
      rintro e a' w' hp
      obtain ⟨he, V', k1, k2, k3, k4, k5⟩ := hp
      cases e with
      | normal =>
        exfalso
        obtain ⟨re, rf, rd, rs, rv⟩ := r
        cases re <;> simp [ExR] at he
        exact hno rf rd rs rv h
      | _ => exact ⟨he, V', k1, k2, k3, k4, k5⟩
  · -- cond
    rename_i c x y
    have hc := hf.eval c
    split at h
    · rename_i hb
      rw [hb] at hc; simp only [VR] at hc
      exact wp_cond hc (ih _ _ _ _ _ h w0 V w a hs hf hd)
    · rename_i hb
      rw [hb] at hc; simp only [VR] at hc
      exact wp_cond hc (ih _ _ _ _ _ h w0 V w a hs hf hd)
    · cases h
  · -- block
    rename_i id c
    split at h
    · rename_i j f' d' s' v' hx
      have h1 := ih _ _ _ _ _ hx w0 V w a hs hf hd
      refine wp_block (wp_mono h1 ?_)
      rintro e a' w' ⟨he, V', k1, k2, k3, k4, k5⟩
      simp only [ExR] at he
      subst he
      simp only [Exit.inBlock]
      cases hj : Nat.beq j id
      · simp only [hj, cond_false, Option.some.injEq] at h
        subst h
        rw [nbeq] at hj
        rw [if_neg (of_decide_eq_false hj)]
        exact ⟨rfl, V', k1, k2, k3, k4, k5⟩
      · simp only [hj, cond_true, Option.some.injEq] at h
        subst h
        rw [nbeq] at hj
        rw [if_pos (of_decide_eq_true hj)]
        exact ⟨rfl, V', k1, k2, k3, k4, k5⟩
    · rename_i hno
      have h1 := ih _ _ _ _ _ h w0 V w a hs hf hd
      refine wp_block (wp_mono h1 ?_)
      rintro e a' w' ⟨he, V', k1, k2, k3, k4, k5⟩
      cases e with
      | exit id' =>
        exfalso
        obtain ⟨re, rf, rd, rs, rv⟩ := r
        cases re <;> simp [ExR] at he
        exact hno _ rf rd rs rv h
      | _ => exact ⟨he, V', k1, k2, k3, k4, k5⟩
  · -- loop
    rename_i c
    refine wp_loop_ghost (fun m a w => ∃ f d s' V', m ≤ n + 1 ∧ evl C m (.code g nt (.loop c)) f d s' = some r ∧ Sim w0 V' s' w ∧ FA V' nt f a ∧ DRs V' d a.defers ∧ Vx V V' s.n none ∧ s.n ≤ s'.n) (n + 1)
      ⟨f, d, s, V, Nat.le_refl _, by simp only [evl]; exact h, hs, hf, hd, Vx.rfl, Nat.le_refl _⟩ ?_
    rintro m a1 w1 ⟨f1, d1, s1, V1, hm, h1, i1, i2, i3, i4, i5⟩
    cases m with
    | zero => simp [evl] at h1
    | succ k =>
      have ihk := ih' k (by omega)
      simp only [evl] at h1
      split at h1
      · rename_i f' d' s' v' hx
        have h2 := ihk _ _ _ _ _ hx w0 V1 w1 a1 i1 i2 i3
        refine wp_mono h2 ?_
        rintro e a' w' ⟨he, V', k1, k2, k3, k4, k5⟩
        simp only [ExR] at he
        subst he
        exact ⟨k, by omega, f', d', s', V', by omega, h1, k2, k3, k4, i4.trans k1 i5, by have := k5; simp only at this; omega⟩
      · rename_i hno
        have h2 := ihk _ _ _ _ _ h1 w0 V1 w1 a1 i1 i2 i3
        refine wp_mono h2 ?_
        rintro e a' w' hp
        have hp' := hp.back i4 i5
        obtain ⟨he, V', k1, k2, k3, k4, k5⟩ := hp'
        cases e with
        | normal =>
          exfalso
          obtain ⟨re, rf, rd, rs, rv⟩ := r
          cases re <;> simp [ExR] at he
          exact hno rf rd rs rv h1
        | _ => exact ⟨he, V', k1, k2, k3, k4, k5⟩
  · -- region
    rename_i id arr
    exact wp_region_list (ih _ _ _ _ _ h w0 V w a hs hf hd)
  · rename_i id arr
    split at h
    · rename_i p hp
      cases hc : Region.noSelect arr && planOk arr p (Array.replicate arr.size false) [] arr.size
      · simp [hc] at h
      simp only [hc, cond_true] at h
      simp only [Bool.and_eq_true] at hc
      obtain ⟨h1, h2⟩ := ih _ _ _ _ _ h
      have hs' : Sim w0 V ⟨s.h, s.n + arr.size⟩ { w with drawn := w.drawn + 1 } := ⟨hs.os, hs.tape, hs.output, hs.size, hs.keep, fun id b hb => by have := hs.fresh id b hb; show id < s.n + arr.size; omega, hs.live, hs.inj⟩
      have h3 := h2 w0 V { w with drawn := w.drawn + 1 } a (Array.replicate arr.size false) [] arr.size arr.size hc.2 (Nat.le_refl _) hc.1 (by simp) (Closed.init _) (fun i hi => by cases hi) hs' hf hd (Nat.le_refl _) (fun i hi => by
        cases e : V.ρ (s.n + i) with
        | none => rfl
        | some b => have := hs.fresh _ _ e; omega) (fun fa hfa => by simp at hfa)
      have h4 : wpAnyI C.P arr (Po w0 V s.n nt r) (SF V arr []) arr.size (Array.replicate arr.size false) a { w with drawn := w.drawn + 1 } := by
        cases p with
        | alt i an p q => cases hn : arr.size <;> simp [planOk, hn] at hc
        | stop => 
          -- no alternatives: cannot be
          exact absurd h (by cases n <;> simp [evl])
        | done => exact h3
        | step i p => exact h3
        | alts rs p => exact h3
      exact wp_region_any hC.mix (wpAny_of_I _ _ _ _ h4)
    · rename_i hp
      cases hc : Region.lexB .any arr
      · simp [hc] at h
      simp only [hc, cond_true] at h
      split at h
      · rename_i f' hq
        cases h
        have hs' : Sim w0 V s { w with drawn := w.drawn + 1 } := hs.drew
        have h1 := qrun_ok hs' hq hf hd
        refine wp_region_quiet (C := fun w' => w' = { w with drawn := w.drawn + 1 }) hC.mix hc rfl ?_
        have key : ∀ (l' : List Oper) (a : Act), wpQuiet C.P arr (fun w' => w' = { w with drawn := w.drawn + 1 }) (fun a' => FA V nt f' a' ∧ DRs V d a'.defers) l' a →
            wpQuiet C.P arr (fun w' => w' = { w with drawn := w.drawn + 1 }) (fun a' => ∀ w', w' = { w with drawn := w.drawn + 1 } → Po w0 V s.n nt ⟨.nor, f', d, s, .und⟩ .normal a' w') l' a := by
          intro l'
          induction l' with
          | nil => rintro a ⟨k1, k2⟩ w' rfl; exact ⟨rfl, V, Vx.rfl, hs', k1, k2, Nat.le_refl _⟩
          | cons o l' ih2 =>
            intro a h
            unfold wpQuiet at h ⊢
            split at h
            · rename_i hw; rw [if_pos hw]; exact Oper.quiet_mono ih2 h
            · rename_i hw; rw [if_neg hw]; exact ih2 _ h
        exact key _ _ h1
      · cases h
  · cases h
theorem ops_ok (n : Nat) (ih : ∀ t f d s r, evl C n t f d s = some r → TaskOk C t f d s r) (g nt : Nat) (arr : Array Oper) (l : List Oper) (f : Tr AV) (d : DL) (s : St) (r : Rs) (h : evl C (n + 1) (.ops g nt arr l) f d s = some r) :
    TaskOk C (.ops g nt arr l) f d s r := by
  intro w0 V w a hs hf hd
  simp only [evl] at h
  split at h
  · cases h
    exact ⟨rfl, V, Vx.rfl, hs, hf, hd, Nat.le_refl _⟩
  · rename_i o rest
    cases hdst : dstOk nt o.dst
    · simp [hdst] at h
    simp only [hdst, cond_true] at h
    have goes : ∀ {v : AV} {d' : DL} {s' : St}, evl C n (.ops g nt arr rest) (putF f o.dst v) d' s' = some r → ∀ V' z w' a', Vx V V' s.n none → VR V' v z → Sim w0 V' s' w' → s.n ≤ s'.n → FA V nt f a' → DRs V' d' a'.defers →
        wpList C.P arr (Po w0 V s.n nt r) rest (a'.put o.dst z) w' := fun h V' z w' a' k1 k2 k3 k4 k5 k6 => by
      have h1 := ih _ _ _ _ _ h w0 V' w' (a'.put o.dst z) k3 ((k5.mono k1.1).putF hdst k2) (by rw [put_defers]; exact k6)
      exact wpList_post (fun e a w h => h.back k1 k4) _ _ _ h1
    unfold wpList
    split at h
    · rename_i hw
      have hw' := wantedA_ok hw hf
      rw [if_neg (by rw [hw']; simp)]
      exact goes h V undef w a Vx.rfl (by simp only [VR]) hs (Nat.le_refl _) hf hd
    · rename_i hw
      have hw' := wantedA_ok hw hf
      rw [if_pos hw']
      left
      split at h
      · rename_i g' args hc
        split at h
        · rename_i r' hr
          have h1 := ih _ _ _ _ _ hr
          exact call_wp hc h1 hs hf fun V' z w' k1 k2 k3 k4 => goes h V' z w' a k1 k2 k3 k4 hf (hd.mono k1.1)
        · cases h
      · split at h
        · rename_i x hx
          obtain ⟨g', args⟩ := x
          obtain ⟨vs, cs, h1, h2⟩ := deferA_ok (P := C.P) hx hf
          unfold Oper.wp
          rw [h2 w]
          refine goes h V undef w _ Vx.rfl (by simp only [VR]) hs (Nat.le_refl _) ⟨hf.size, hf.get⟩ ?_
          simp only [DRs]
          exact ⟨vs, cs, _, h1, hd, rfl⟩
        · split at h
          · rename_i v s' hm
            have h1 := memA_ok hm hs (fun p hp => by cases hp) hf
            exact h1.wp fun V' z w' k1 k2 k3 k4 => goes h V' z w' a k1 k2 k3 k4 hf (hd.mono k1.1)
          · cases h
    · cases h

theorem end_ok {fn : Func} {w0 : World} {V V' : Vl} {s : St} {r : Rs} {e : Exit} {a : Act} {w : World} (he : isEnd r.e = true) (hp : Po w0 V s.n fn.ntmps r e a w) {l : List AV} (hr : resList C.P r.f r.s fn.results.toList = some l) (hd0 : r.d = []) :
    bodyPost C.P fn (fun e w' => ∃ V' z, Vx V V' s.n none ∧ e = .returned z ∧ VR V' (packA l) z ∧ Sim w0 V' r.s w' ∧ s.n ≤ r.s.n) e a w := by
  obtain ⟨he', V2, k1, k2, k3, k4, k5⟩ := hp
  rw [hd0] at k4
  simp only [DRs] at k4
  obtain ⟨z, h1, h2⟩ := results_ok (P := C.P) k2 k3 hr
  have : a.defers = [] ∧ ∃ v, (results fn a.tmps).run C.P w = .ok v w ∧ (fun e w' => ∃ V' z, Vx V V' s.n none ∧ e = Ending.returned z ∧ VR V' (packA l) z ∧ Sim w0 V' r.s w' ∧ s.n ≤ r.s.n) (.returned v) w :=
    ⟨k4, z, h2, V2, z, k1, rfl, h1, k2, k5⟩
  cases hre : r.e with
  | nor => rw [hre] at he'; simp only [ExR] at he'; subst he'; exact this
  | ret => rw [hre] at he'; simp only [ExR] at he'; subst he'; exact this
  | exit id => rw [hre] at he; simp [isEnd] at he
theorem callD_ok (hC : COk C) (n : Nat) (ih : ∀ t f d s r, evl C n t f d s = some r → TaskOk C t f d s r) (g : FuncId) (args : List AV) (f : Tr AV) (d : DL) (s : St) (r : Rs) (h : evl C (n + 1) (.callD g args) f d s = some r) :
    TaskOk C (.callD g args) f d s r := by
  simp only [evl] at h
  split at h
  · rename_i fn hfn
    obtain ⟨hf1, hf2⟩ := hC.fn g fn hfn
    split at h
    · rename_i c hb
      cases hle : Nat.ble args.length fn.ntmps
      · simp [hle] at h
      simp only [hle, cond_true] at h
      split at h
      · rename_i r1 hr1
        cases he : isEnd r1.e
        · simp [he] at h
        simp only [he, cond_true] at h
        split at h
        · rename_i hd0
          split at h
          · rename_i l hl
            cases h
            refine ⟨hf2, fun w0 V w vs u hs hvs => ?_⟩
            have h1 := ih _ _ _ _ _ hr1 w0 V w _ hs (enter_ok hvs hle) (by simp only [DRs])
            exact callsD_of_wp hf1 hb (wp_mono h1 fun e a w hp => end_ok (V' := V) he hp hl hd0)
          · cases h
        · cases h
      · cases h
    · cases h
  · cases h
theorem call_ok (hC : COk C) (n : Nat) (ih : ∀ t f d s r, evl C n t f d s = some r → TaskOk C t f d s r) (g : FuncId) (args : List AV) (f : Tr AV) (d : DL) (s : St) (r : Rs) (h : evl C (n + 1) (.call g args) f d s = some r) :
    TaskOk C (.call g args) f d s r := by
  simp only [evl] at h
  split at h
  · rename_i v s' hps
    cases h
    unfold primA at hps
    split at hps
    · rename_i p hp
      exact hC.prim g p args s v s' hp hps
    · cases hps
  · split at h
    · rename_i fn hfn
      obtain ⟨hf1, hf2⟩ := hC.fn g fn hfn
      split at h
      · rename_i c hb
        cases hle : Nat.ble args.length fn.ntmps
        · simp [hle] at h
        simp only [hle, cond_true] at h
        split at h
        · rename_i r1 hr1
          cases he : isEnd r1.e
          · simp [he] at h
          simp only [he, cond_true] at h
          split at h
          · rename_i hd0
            split at h
            · rename_i l hl
              cases h
              refine ⟨hf2, fun w0 V w vs hs hvs => ?_⟩
              have h1 := ih _ _ _ _ _ hr1 w0 V w _ hs (enter_ok hvs hle) (by simp only [DRs])
              exact calls_of_wp hf1 hb (wp_mono h1 fun e a w hp => end_ok (V' := V) he hp hl hd0)
            · cases h
          · rename_i g' args' hd1
            split at h
            · rename_i r2 hr2
              split at h
              · rename_i l hl
                cases h
                refine ⟨hf2, fun w0 V w vs hs hvs => ?_⟩
                have h1 := ih _ _ _ _ _ hr1 w0 V w _ hs (enter_ok hvs hle) (by simp only [DRs])
                obtain ⟨hcl, h2⟩ := ih _ _ _ _ _ hr2
                refine calls_of_wp_defers hf1 hb (wp_mono h1 ?_)
                rintro e a1 w1 ⟨he', V2, k1, k2, k3, k4, k5⟩
                rw [hd1] at k4
                simp only [DRs] at k4
                obtain ⟨us, cs, t, k6, rfl, k7⟩ := k4
                have key : Leaves C.P fn a1.tmps (fun e w' => ∃ V' z, Vx V V' s.n none ∧ e = .returned z ∧ VR V' (packA l) z ∧ Sim w0 V' r2.s w' ∧ s.n ≤ r2.s.n) a1.defers .returning w1 := by
                  rw [k7]
                  refine leaves_cons (f := g') (args := (us ++ cs).toArray) (by simp) ?_ ?_
                  · have := hcl (us.toArray ++ cs.toArray) w1
                    simp only [invoke]
                    rw [this]
                    simp
                  · refine (h2 w0 V2 w1 (us ++ cs) .returning k2 k6).mono ?_
                    rintro e' u' w' ⟨rfl, V3, z, j1, rfl, j2, j3, j4⟩
                    obtain ⟨z', m1, m2⟩ := results_ok (P := C.P) j3 (k3.mono j1.1) hl
                    exact ⟨z', m2, V3, z', k1.trans j1 k5, rfl, m1, j3, by omega⟩
                cases hre : r1.e with
                | nor => rw [hre] at he'; simp only [ExR] at he'; subst he'; exact key
                | ret => rw [hre] at he'; simp only [ExR] at he'; subst he'; exact key
                | exit id => rw [hre] at he; simp [isEnd] at he
              · cases h
            · cases h
          · cases h
        · cases h
      · cases h
    · cases h
end
end Go.Fw
