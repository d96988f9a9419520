/- The evaluator: regions that draw their order; the evaluator itself. Nothing of the program is named here. No condition. -/
import Derived.Test.YtipdjeemjiimbaaEh
import Derived.OrdersHeld
set_option linter.unusedVariables false
set_option linter.unusedSimpArgs false
set_option linter.unnecessarySimpa false
namespace Go.Fw
open Go Go.RowKit

/-! ## Equality of values and memories -/
mutual
def AV.beq : AV → AV → Bool
  | .und, .und => true
  | .u, .u => true
  | .b x, .b y => x == y
  | .i k x, .i k' y => decide (k = k') && iEq x y
  | .s l, .s l' => sEq l l'
  | .p x q, .p x' q' => Nat.beq x x' && Nat.beq q q'
  | .pn, .pn => true
  | .sl x q l c, .sl x' q' l' c' => Nat.beq x x' && Nat.beq q q' && Nat.beq l l' && Nat.beq c c'
  | .so x q l c, .so x' q' l' c' => Nat.beq x x' && Nat.beq q q' && Nat.beq l l' && Nat.beq c c'
  | .sn, .sn => true
  | .sz, .sz => true
  | .m x, .m y => Nat.beq x y
  | .mn, .mn => true
  | .fn f l c, .fn f' l' c' => decide (f = f') && AV.beqs l l' && AV.beqs c c'
  | .fnn, .fnn => true
  | .ic t v, .ic t' v' => Nat.beq t t' && AV.beq v v'
  | .icn, .icn => true
  | .agg l, .agg l' => AV.beqs l l'
  | .tup l, .tup l' => AV.beqs l l'
  | .o k, .o k' => Nat.beq k k'
  | .oi k x, .oi k' y => Nat.beq k k' && (x == y)
  | _, _ => false
def AV.beqs : List AV → List AV → Bool
  | [], [] => true
  | x :: l, y :: l' => AV.beq x y && AV.beqs l l'
  | _, _ => false
end
mutual
theorem AV.beq_eq : ∀ {x y : AV}, AV.beq x y = true → x = y
  | .und, y, h => by cases y <;> simp_all [AV.beq]
  | .u, y, h => by cases y <;> simp_all [AV.beq]
  | .b _, y, h => by cases y <;> simp_all [AV.beq]
  | .i _ _, y, h => by cases y <;> simp_all [AV.beq, iEq_eq]
  | .s _, y, h => by cases y <;> simp_all [AV.beq, sEq_eq]
  | .p _ _, y, h => by cases y <;> simp_all [AV.beq, nbeq]
  | .pn, y, h => by cases y <;> simp_all [AV.beq]
  | .sl _ _ _ _, y, h => by cases y <;> simp_all [AV.beq, nbeq]
  | .so _ _ _ _, y, h => by cases y <;> simp_all [AV.beq, nbeq]
  | .sn, y, h => by cases y <;> simp_all [AV.beq]
  | .sz, y, h => by cases y <;> simp_all [AV.beq]
  | .m _, y, h => by cases y <;> simp_all [AV.beq, nbeq]
  | .mn, y, h => by cases y <;> simp_all [AV.beq]
  | .fn f l c, y, h => by
    cases y <;> simp only [AV.beq, Bool.and_eq_true, Bool.false_eq_true, decide_eq_true_eq] at h
    obtain ⟨⟨h1, h2⟩, h3⟩ := h
    rw [h1, AV.beqs_eq h2, AV.beqs_eq h3]
  | .fnn, y, h => by cases y <;> simp_all [AV.beq]
  | .ic t v, y, h => by
    cases y <;> simp only [AV.beq, Bool.and_eq_true, Bool.false_eq_true, nbeq, decide_eq_true_eq] at h
    obtain ⟨h1, h2⟩ := h
    rw [h1, AV.beq_eq h2]
  | .icn, y, h => by cases y <;> simp_all [AV.beq]
  | .agg l, y, h => by
    cases y <;> simp only [AV.beq, Bool.false_eq_true] at h
    rw [AV.beqs_eq h]
  | .tup l, y, h => by
    cases y <;> simp only [AV.beq, Bool.false_eq_true] at h
    rw [AV.beqs_eq h]
  | .o _, y, h => by cases y <;> simp_all [AV.beq, nbeq]
  | .oi _ _, y, h => by cases y <;> simp_all [AV.beq, nbeq]
theorem AV.beqs_eq : ∀ {l l' : List AV}, AV.beqs l l' = true → l = l'
  | [], [], _ => rfl
  | [], _ :: _, h => by simp [AV.beqs] at h
  | _ :: _, [], h => by simp [AV.beqs] at h
  | x :: l, y :: l', h => by
    simp only [AV.beqs, Bool.and_eq_true] at h
    rw [AV.beq_eq h.1, AV.beqs_eq h.2]
end
mutual
/-- Does it stand for one value alone? -/
def AV.det : AV → Bool
  | .u => false
  | .sz => false
  | .fn _ l c => AV.dets l && AV.dets c
  | .ic _ v => AV.det v
  | .agg l => AV.dets l
  | .tup l => AV.dets l
  | _ => true
def AV.dets : List AV → Bool
  | [] => true
  | x :: l => AV.det x && AV.dets l
end
mutual
theorem VR.det {V : Vl} : ∀ {x : AV} {v u : Value}, AV.det x = true → VR V x v → VR V x u → v = u
  | .und, _, _, _, h, k => by simp only [VR] at h k; rw [h, k]
  | .u, _, _, d, _, _ => by simp [AV.det] at d
  | .b _, _, _, _, h, k => by simp only [VR] at h k; rw [h, k]
  | .i _ _, _, _, _, h, k => by simp only [VR] at h k; rw [h, k]
  | .s _, _, _, _, h, k => by simp only [VR] at h k; rw [h, k]
  | .p _ _, _, _, _, h, k => by simp only [VR] at h k; obtain ⟨b, h1, rfl⟩ := h; obtain ⟨b', k1, rfl⟩ := k; rw [h1] at k1; cases k1; rfl
  | .pn, _, _, _, h, k => by simp only [VR] at h k; rw [h, k]
  | .sl _ _ _ _, _, _, _, h, k => by simp only [VR] at h k; obtain ⟨b, h1, rfl⟩ := h; obtain ⟨b', k1, rfl⟩ := k; rw [h1] at k1; cases k1; rfl
  | .so _ _ _ _, _, _, _, h, k => by simp only [VR] at h k; obtain ⟨b, h1, _, rfl⟩ := h; obtain ⟨b', k1, _, rfl⟩ := k; rw [h1] at k1; cases k1; rfl
  | .sn, _, _, _, h, k => by simp only [VR] at h k; rw [h, k]
  | .sz, _, _, d, _, _ => by simp [AV.det] at d
  | .m _, _, _, _, h, k => by simp only [VR] at h k; obtain ⟨b, h1, rfl⟩ := h; obtain ⟨b', k1, rfl⟩ := k; rw [h1] at k1; cases k1; rfl
  | .mn, _, _, _, h, k => by simp only [VR] at h k; rw [h, k]
  | .fn _ _ _, _, _, d, h, k => by
    simp only [AV.det, Bool.and_eq_true] at d
    simp only [VR] at h k
    obtain ⟨a, b, h1, h2, rfl⟩ := h
    obtain ⟨a', b', k1, k2, rfl⟩ := k
    rw [VRs.det d.1 h1 k1, VRs.det d.2 h2 k2]
  | .fnn, _, _, _, h, k => by simp only [VR] at h k; rw [h, k]
  | .ic _ _, _, _, d, h, k => by
    simp only [AV.det] at d
    simp only [VR] at h k
    obtain ⟨a, h1, rfl⟩ := h
    obtain ⟨a', k1, rfl⟩ := k
    rw [VR.det d h1 k1]
  | .icn, _, _, _, h, k => by simp only [VR] at h k; rw [h, k]
  | .agg _, _, _, d, h, k => by
    simp only [AV.det] at d
    simp only [VR] at h k
    obtain ⟨a, h1, rfl⟩ := h
    obtain ⟨a', k1, rfl⟩ := k
    rw [VRs.det d h1 k1]
  | .tup _, _, _, d, h, k => by
    simp only [AV.det] at d
    simp only [VR] at h k
    obtain ⟨a, h1, rfl⟩ := h
    obtain ⟨a', k1, rfl⟩ := k
    rw [VRs.det d h1 k1]
  | .o _, _, _, _, h, k => by simp only [VR] at h k; rw [h, k]
  | .oi _ _, _, _, _, h, k => by simp only [VR] at h k; obtain ⟨n, h1, _, rfl⟩ := h; obtain ⟨n', k1, _, rfl⟩ := k; rw [h1] at k1; rw [k1]
theorem VRs.det {V : Vl} : ∀ {l : List AV} {vs us : List Value}, AV.dets l = true → VRs V l vs → VRs V l us → vs = us
  | [], _, _, _, h, k => by simp only [VRs] at h k; rw [h, k]
  | x :: l, _, _, d, h, k => by
    simp only [AV.dets, Bool.and_eq_true] at d
    simp only [VRs] at h k
    obtain ⟨v, t, h1, h2, rfl⟩ := h
    obtain ⟨v', t', k1, k2, rfl⟩ := k
    rw [VR.det d.1 h1 k1, VRs.det d.2 h2 k2]
end
def Tr.beq {α : Type} (eq : α → α → Bool) : Tr α → Tr α → Bool
  | .e, .e => true
  | .n v l r, .n v' l' r' => (match v, v' with | none, none => true | some a, some b => eq a b | _, _ => false) && Tr.beq eq l l' && Tr.beq eq r r'
  | _, _ => false
theorem Tr.beq_eq {α : Type} {eq : α → α → Bool} (he : ∀ a b, eq a b = true → a = b) : ∀ {t u : Tr α}, Tr.beq eq t u = true → t = u
  | .e, .e, _ => rfl
  | .e, .n _ _ _, h => by simp [Tr.beq] at h
  | .n _ _ _, .e, h => by simp [Tr.beq] at h
  | .n v l r, .n v' l' r', h => by
    simp only [Tr.beq, Bool.and_eq_true] at h
    obtain ⟨⟨h1, h2⟩, h3⟩ := h
    rw [Tr.beq_eq he h2, Tr.beq_eq he h3]
    cases v <;> cases v' <;> simp at h1
    · rfl
    · rw [he _ _ h1]
def ents : List (AV × AV × Nat) → List (AV × AV × Nat) → Bool
  | [], [] => true
  | (k, x, n) :: l, (k', x', n') :: m => AV.beq k k' && AV.beq x x' && Nat.beq n n' && ents l m
  | _, _ => false
theorem ents_eq : ∀ {l m : List (AV × AV × Nat)}, ents l m = true → l = m
  | [], [], _ => rfl
  | [], _ :: _, h => by simp [ents] at h
  | _ :: _, [], h => by simp [ents] at h
  | (k, x, n) :: l, (k', x', n') :: m, h => by
    simp only [ents, Bool.and_eq_true] at h
    obtain ⟨⟨⟨h1, h2⟩, h3⟩, h4⟩ := h
    rw [AV.beq_eq h1, AV.beq_eq h2, Nat.eq_of_beq_eq_true h3, ents_eq h4]
def Blk.beq : Blk → Blk → Bool
  | .c t k l, .c t' k' l' => Nat.beq t t' && Nat.beq k k' && AV.beqs l l'
  | .m es q, .m es' q' => ents es es' && Nat.beq q q'
  | _, _ => false
theorem Blk.beq_eq (x y : Blk) (h : Blk.beq x y = true) : x = y := by
  cases x <;> cases y <;> simp only [Blk.beq, Bool.and_eq_true, Bool.false_eq_true] at h
  · obtain ⟨⟨h1, h2⟩, h3⟩ := h
    rw [Nat.eq_of_beq_eq_true h1, Nat.eq_of_beq_eq_true h2, AV.beqs_eq h3]
  · rw [ents_eq h.1, Nat.eq_of_beq_eq_true h.2]

/-! ## Regions that draw their order: a load may be taken first where the operations that may come ahead of it leave its cells -/
section
variable {P : Program} {ops : Array Oper} {Q : Exit → Act → World → Prop}
/-- Whatever order is picked; S tells of each operation from which world to which it may lead. -/
def wpAnyI (P : Program) (ops : Array Oper) (Q : Exit → Act → World → Prop) (S : Nat → World → World → Prop) : Nat → Array Bool → Act → World → Prop
  | 0, listed, a, w => Region.ready .any ops listed = [] ∧ Q .normal a w
  | fuel + 1, listed, a, w =>
    (Region.ready .any ops listed = [] → Q .normal a w) ∧
    ∀ i ∈ Region.ready .any ops listed, wpOp P ops Q i (fun a' w' => S i w w' ∧ wpAnyI P ops Q S fuel (listed.setIfInBounds i true) a' w') a w
theorem wpAny_of_I {S : Nat → World → World → Prop} : ∀ (fuel : Nat) (listed : Array Bool) (a : Act) (w : World), wpAnyI P ops Q S fuel listed a w → wpAny P .any ops Q fuel listed a w
  | 0, _, _, _, h => h
  | fuel + 1, _, _, _, h => ⟨h.1, fun i hi => wpOp_mono (fun a' w' h' => wpAny_of_I fuel _ a' w' h'.2) (h.2 i hi)⟩
theorem wpAnyI.mono {S S' : Nat → World → World → Prop} (hs : ∀ i w w', S i w w' → S' i w w') : ∀ (fuel : Nat) (listed : Array Bool) (a : Act) (w : World), wpAnyI P ops Q S fuel listed a w → wpAnyI P ops Q S' fuel listed a w
  | 0, _, _, _, h => h
  | fuel + 1, _, _, _, h => ⟨h.1, fun i hi => wpOp_mono (fun a' w' h' => ⟨hs _ _ _ h'.1, wpAnyI.mono hs fuel _ a' w' h'.2⟩) (h.2 i hi)⟩
theorem wpOp_post {i : Nat} {a : Act} {w : World} {K : Act → World → Prop} {Q' : Exit → Act → World → Prop} (hq : ∀ e a w, Q e a w → Q' e a w) (h : wpOp P ops Q i K a w) : wpOp P ops Q' i K a w := by
  unfold wpOp at h ⊢
  split
  · rename_i hi; simpa [hi] using h
  · rename_i o hi
    simp only [hi] at h
    split
    · rename_i hw
      simp only [hw, if_true] at h
      rcases h with h | ⟨h1, a', w', h2⟩
      · left
        unfold Oper.wp at h ⊢
        exact upon_mono2 h (fun _ _ h => h) (fun e a w _ h => hq e a w h)
      · exact .inr ⟨h1, a', w', hq _ _ _ h2⟩
    · rename_i hw; simpa [hw] using h
theorem wpAnyI.post {S : Nat → World → World → Prop} {Q' : Exit → Act → World → Prop} (hq : ∀ e a w, Q e a w → Q' e a w) : ∀ (fuel : Nat) (listed : Array Bool) (a : Act) (w : World), wpAnyI P ops Q S fuel listed a w → wpAnyI P ops Q' S fuel listed a w
  | 0, _, _, _, h => ⟨h.1, hq _ _ _ h.2⟩
  | fuel + 1, _, _, _, h => ⟨fun e => hq _ _ _ (h.1 e), fun i hi => wpOp_post hq (wpOp_mono (fun a' w' h' => ⟨h'.1, wpAnyI.post hq fuel _ a' w' h'.2⟩) (h.2 i hi))⟩
/-- Operation j waits for operation i, directly or through others. -/
inductive Anc (ops : Array Oper) : Nat → Nat → Prop where
  | one {j : Nat} {oj : Oper} {e : Edge} (hj : ops[j]? = some oj) (he : e ∈ oj.after) (hb : Region.binds .any e = true) : Anc ops j e.on
  | more {j k : Nat} {ok : Oper} {e : Edge} (h : Anc ops j k) (hk : ops[k]? = some ok) (he : e ∈ ok.after) (hb : Region.binds .any e = true) : Anc ops j e.on
/-- Whatever has come up waited for nothing that has not. -/
def Closed (ops : Array Oper) (listed : Array Bool) : Prop := ∀ k ok, ops[k]? = some ok → listed.getD k false = true → ∀ e ∈ ok.after, Region.binds .any e = true → listed.getD e.on false = true
theorem Closed.anc {listed : Array Bool} (h : Closed ops listed) {j i : Nat} (ha : Anc ops j i) (hr : j ∈ Region.ready .any ops listed) : listed.getD i false = true := by
  induction ha with
  | one hj he hb =>
    obtain ⟨_, o, ho, hall⟩ := mem_ready.1 hr
    rw [hj] at ho; cases ho
    exact hall _ he hb
  | more _ hk he hb ih => exact h _ _ hk ih _ he hb
theorem Closed.add {listed : Array Bool} (h : Closed ops listed) {j : Nat} (hr : j ∈ Region.ready .any ops listed) : Closed ops (listed.setIfInBounds j true) := by
  intro k ok hk hl e he hb
  by_cases hkj : j = k
  · subst hkj
    obtain ⟨_, o, ho, hall⟩ := mem_ready.1 hr
    rw [hk] at ho; cases ho
    exact getD_set_true (hall _ he hb)
  · rw [getD_set_ne false hkj] at hl
    exact getD_set_true (h k ok hk hl e he hb)
theorem Closed.init (n : Nat) : Closed ops (Array.replicate n false) := by
  intro k ok hk hl
  simp [Array.getElem?_replicate] at hl
  split at hl <;> simp at hl
/-- An operation that yields its value wherever Y holds may be taken first, if whatever may come ahead of it leaves Y. -/
theorem wpAnyI_first {S : Nat → World → World → Prop} {Y : World → Prop} {i : Nat} {oi : Oper} {v : Value} (hi : ops[i]? = some oi) (hsel : ∀ (j : Nat) (o : Oper) cs b, ops[j]? = some o → o.op ≠ .select cs b)
    (hQ : ∀ c a w, Q (.panic c) (a.put oi.dst v) w → Q (.panic c) a w)
    (hY : ∀ j w w', ¬ Anc ops j i → Y w → S j w w' → Y w') (hSr : ∀ w, S i w w) :
    ∀ (fuel : Nat) (listed : Array Bool) (a : Act) (w : World),
      (∀ j oj, ops[j]? = some oj → j ≠ i → listed.getD j true = false → (∀ e ∈ oj.after, Region.binds .any e = true → e.on ≠ i) → oi.apart ops oj = true) →
      Closed ops listed → i ∈ Region.ready .any ops listed → YieldsIf P ops Y oi v a → Y w →
      wpAnyI P ops Q S fuel (listed.setIfInBounds i true) (a.put oi.dst v) w → wpAnyI P ops Q S (fuel + 1) listed a w := by
  intro fuel
  induction fuel with
  | zero =>
    intro listed a w _ _ hr hy hY0 H
    refine ⟨fun h => (by rw [h] at hr; cases hr), fun j hj => ?_⟩
    by_cases hji : j = i
    · subst hji; exact hy.wpOp hi hY0 ⟨hSr w, H⟩
    · have := ready_mono hj hji
      rw [H.1] at this
      cases this
  | succ fuel ih =>
    intro listed a w hfree hcl hr hy hY0 H
    refine ⟨fun h => (by rw [h] at hr; cases hr), fun j hj => ?_⟩
    by_cases hji : j = i
    · subst hji; exact hy.wpOp hi hY0 ⟨hSr w, H⟩
    · have h1 := H.2 j (ready_mono hj hji)
      obtain ⟨hjun, oj, hoj, hall⟩ := mem_ready.1 hj
      have hnot : ∀ e ∈ oj.after, Region.binds .any e = true → e.on ≠ i := fun e he hb heq => by
        have h1 := hall e he hb
        have h0 := (mem_ready.1 hr).1
        rw [heq] at h1
        rcases Nat.lt_or_ge i listed.size with h' | h'
        · simp [h'] at h0 h1; rw [h0] at h1; cases h1
        · simp [Array.getElem?_eq_none h'] at h1
      have h2 := wpOp_putIf hoj (hfree j oj hoj hji hjun hnot) (fun cs b => hsel i oi cs b hi) (fun cs b => hsel j oj cs b hoj) hQ hy h1
      have hfree' : ∀ k ok, ops[k]? = some ok → k ≠ i → (listed.setIfInBounds j true).getD k true = false →
          (∀ e ∈ ok.after, Region.binds .any e = true → e.on ≠ i) → oi.apart ops ok = true := fun k ok hk hki hun hno => by
        refine hfree k ok hk hki ?_ hno
        by_cases hjk : j = k
        · subst hjk; exact hjun
        · rw [getD_set_ne true hjk] at hun; exact hun
      refine wpOp_mono (fun a' w' h3 => ⟨h3.2.1, ?_⟩) h2
      have hanc : ¬ Anc ops j i := fun ha => by
        have h1 := hcl.anc ha hj
        have h0 := (mem_ready.1 hr).1
        rcases Nat.lt_or_ge i listed.size with h' | h'
        · simp [h'] at h0 h1; rw [h0] at h1; cases h1
        · simp [Array.getElem?_eq_none h'] at h1
      have hY' := hY j w w' hanc hY0 h3.2.1
      refine ih (listed.setIfInBounds j true) a' w' hfree' (hcl.add hj) (ready_mono hr (Ne.symm hji)) h3.1 hY' ?_
      rw [Array.setIfInBounds_comm _ _ hji]
      exact h3.2.2
end
end Go.Fw
