/- Which nodes are a plain tree: level by level, and gone through from the root down. Plain Lean; nothing of the program is named here. No condition. -/
import Derived.Test.YtcngningbcaggaaQgNr
set_option linter.unusedVariables false
set_option linter.unusedSimpArgs false
set_option linter.unnecessarySimpa false
namespace Go.Fw
open Go Go.RowKit
/-! ## By definition -/
def Leaf17 (x : Seat) (least most : Int) : Prop := (x.n.pivots.length + x.n.kids.length = 0 ∧ (x.n.rows.length : Int) ≤ most ∧ least ≤ (x.n.rows.length : Int)) ∧ PairsR x.n.rows ∧ ∀ i (h : i < x.n.rows.length), x.s.has x.n.rows[i].key = true
instance (x : Seat) (k m : Int) : Decidable (Leaf17 x k m) := by unfold Leaf17; infer_instance
def Inner17 (x : Seat) (least most : Int) : Prop := (x.n.rows.length = 0 ∧ (x.n.kids.length : Int) ≤ most ∧ least ≤ (x.n.kids.length : Int)) ∧ ∀ i (h : i < x.n.pivots.length), x.s.has x.n.pivots[i] = true ∧ x.n.pivots[i] ≠ x.s.lo
instance (x : Seat) (k m : Int) : Decidable (Inner17 x k m) := by unfold Inner17; infer_instance
def Seat17 (c : Cfg) (top : Bool) (x : Seat) : Prop := if x.n.level = 0 then Leaf17 x (if top = true then 0 else c.leaf.tdiv 2) c.leaf else Inner17 x (if top = true then 2 else c.fan.tdiv 2) c.fan
instance (c : Cfg) (top : Bool) (x : Seat) : Decidable (Seat17 c top x) := by unfold Seat17; infer_instance
def Sound17 (c : Cfg) (l : List Nd) (ss : List Seat) : Prop := OnceP l ss ∧ ∀ i (h : i < ss.length), Seat17 c (decide (i = 0)) ss[i]
instance (c : Cfg) (l : List Nd) (ss : List Seat) : Decidable (Sound17 c l ss) := by unfold Sound17; infer_instance
noncomputable def sound17 (c : Cfg) (root : Int) (l : List Nd) : Bool := match seatsN l root with | none => false | some ss => decide (Sound17 c l ss)
noncomputable def map17 (c : Cfg) (root : Int) (l : List Nd) : List Pair := if sound17 c root l = true then ((seatsN l root).getD []).flatMap fun x => x.n.rows else []
/-! ## From the root down -/
noncomputable def wfF (c : Cfg) (l : List Nd) : Nat → Bool → Seat → Prop
  | 0, top, x => x.n.level = 0 ∧ Seat17 c top x
  | n + 1, top, x => x.n.level = ((n + 1 : Nat) : Int) ∧ (kidsO l x).isSome = true ∧ Seat17 c top x ∧ ∀ y ∈ kidsD l x, wfF c l n false y
def SlotsNd (l : List Nd) : Prop := (l.map fun n : Nd => n.slot).Nodup
noncomputable def preS (l : List Nd) (n : Nat) (x : Seat) : List Int := (preF l n x).map fun y : Seat => y.n.slot
noncomputable def rowsF (l : List Nd) (n : Nat) (x : Seat) : List Pair := (dfsF l n x).flatMap fun y : Seat => y.n.rows
structure Good17 (c : Cfg) (root : Int) (l : List Nd) : Prop where
  found : (findN l root).2 = true
  nd : SlotsNd l
  lvl : 0 ≤ (findN l root).1.level
  wf : wfF c l (findN l root).1.level.toNat true (rootS l root)
  pre : (preS l (findN l root).1.level.toNat (rootS l root)).Nodup
  len : (preS l (findN l root).1.level.toNat (rootS l root)).length = l.length
section
variable {c : Cfg} {l : List Nd} {root : Int}
theorem find_slot {s : Int} (h : (findN l s).2 = true) : (findN l s).1.slot = s ∧ (findN l s).1 ∈ l := by
  unfold findN at h ⊢
  have h1 := of_decide_eq_true h
  cases e : (atS l s).getLast? with
  | none => rw [List.getLast?_eq_none_iff] at e; rw [e] at h1; simp at h1
  | some n =>
    have := List.mem_filter.1 (List.mem_of_getLast? e)
    exact ⟨of_decide_eq_true this.2, this.1⟩
theorem found_of {s : Int} (h : (findN l s).2 = true) : findN l (findN l s).1.slot = ((findN l s).1, true) := by rw [(find_slot h).1, ← h]
theorem kid_found {x y : Seat} (hx : (kidsO l x).isSome = true) (hy : y ∈ kidsD l x) : findN l y.n.slot = (y.n, true) ∧ y.n.level = x.n.level - 1 ∧ 0 < x.n.level := by
  by_cases h0 : x.n.level = 0
  · rw [kids_leaf h0] at hy; cases hy
  · obtain ⟨h1, h2, _, h4⟩ := kids_all hx h0
    rw [h1] at hy
    obtain ⟨j, hj, rfl⟩ := List.mem_map.1 hy
    have h5 := h4 j (List.mem_range.1 hj)
    unfold kidOk at h5
    rw [Bool.and_eq_true, decide_eq_true_eq] at h5
    exact ⟨found_of h5.1, h5.2, h2⟩
theorem pre_perm9 : ∀ (n : Nat) (R T : List Seat), T = R ++ T.flatMap (kidsD l) → (∀ x ∈ T, (kidsO l x).isSome = true) → (∀ x ∈ R, x.n.level = n) → T.Perm (R.flatMap (preF l n)) ∧ leavesS T = R.flatMap (dfsF l n) := by
  intro n
  induction n with
  | zero =>
    intro R T hT hs hR
    have hK : R.flatMap (kidsD l) = [] := List.flatMap_eq_nil_iff.2 fun x hx => kids_leaf (hR x hx)
    generalize hS : T.flatMap (kidsD l) = S at hT
    have hS2 : S = S.flatMap (kidsD l) := by
      conv => lhs; rw [← hS, hT]
      rw [List.flatMap_append, hK, List.nil_append]
    have hST : ∀ x ∈ S, x ∈ T := fun x hx => by rw [hT]; exact List.mem_append_right _ hx
    have hn := fix_nil2 hS2 fun x hx y hy => by have := (kid_found (hs x (hST x hx)) hy).2.1; omega
    rw [hT, hn, List.append_nil]
    refine ⟨List.Perm.of_eq (List.flatMap_singleton' R).symm, ?_⟩
    unfold leavesS
    rw [List.filter_eq_self.2 fun x hx => decide_eq_true (show x.n.level = (0 : Int) by have := hR x hx; omega)]
    exact (List.flatMap_singleton' R).symm
  | succ n ih =>
    intro R T hT hs hR
    have hRT : ∀ x ∈ R, x ∈ T := fun x hx => by rw [hT]; exact List.mem_append_left _ hx
    generalize hS : T.flatMap (kidsD l) = S at hT
    have hS2 : S = R.flatMap (kidsD l) ++ S.flatMap (kidsD l) := by
      conv => lhs; rw [← hS, hT]
      rw [List.flatMap_append]
    have hST : ∀ x ∈ S, x ∈ T := fun x hx => by rw [hT]; exact List.mem_append_right _ hx
    have h1 := ih (R.flatMap (kidsD l)) S hS2 (fun x hx => hs x (hST x hx)) fun y hy => by
      obtain ⟨x, hx, hyx⟩ := List.mem_flatMap.1 hy
      have := (kid_found (hs x (hRT x hx)) hyx).2.1
      have := hR x hx
      omega
    have h2 : leavesS R = [] := List.filter_eq_nil_iff.2 fun x hx => by have := hR x hx; simp; omega
    rw [hT]
    constructor
    · refine (List.Perm.append_left R h1.1).trans ?_
      have h3 := perm_flat (f := preF l (n + 1)) (g := fun x => [x]) (h := fun x => (kidsD l x).flatMap (preF l n)) (fun x => rfl) R
      rw [List.flatMap_singleton' R] at h3
      refine List.Perm.trans ?_ h3.symm
      rw [List.flatMap_assoc]
    · have h4 := h1.2
      unfold leavesS at *
      rw [List.filter_append, h2, List.nil_append, h4, List.flatMap_assoc]
      rfl
theorem pre_kids : ∀ (n : Nat) (top : Bool) (x : Seat), wfF c l n top x → (preF l n x).Perm (x :: (preF l n x).flatMap (kidsD l))
  | 0, top, x, h => by
    show [x].Perm (x :: [x].flatMap (kidsD l))
    rw [List.flatMap_cons, kids_leaf h.1]; exact List.Perm.refl _
  | n + 1, top, x, h => by
    show (x :: (kidsD l x).flatMap (preF l n)).Perm (x :: (x :: (kidsD l x).flatMap (preF l n)).flatMap (kidsD l))
    refine List.Perm.cons _ ?_
    rw [List.flatMap_cons, List.flatMap_assoc]
    have key : ∀ L : List Seat, (∀ y ∈ L, y ∈ kidsD l x) → (L.flatMap (preF l n)).Perm (L ++ L.flatMap fun y => (preF l n y).flatMap (kidsD l)) := by
      intro L
      induction L with
      | nil => intro _; exact List.Perm.refl _
      | cons y L ih =>
        intro hL
        rw [List.flatMap_cons, List.flatMap_cons]
        have h1 := pre_kids n false y (h.2.2.2 y (hL y (by simp)))
        have h2 := ih fun z hz => hL z (List.mem_cons_of_mem _ hz)
        refine (h1.append h2).trans ?_
        rw [List.cons_append, List.cons_append]
        refine List.Perm.cons _ ?_
        rw [← List.append_assoc, ← List.append_assoc]
        exact List.perm_append_comm.append_right _
    exact key _ fun y hy => hy
theorem wf_all : ∀ (n : Nat) (top : Bool) (x : Seat), wfF c l n top x → ∀ y ∈ preF l n x, (kidsO l y).isSome = true ∧ ∀ z ∈ kidsD l y, Seat17 c false z
  | 0, top, x, h, y, hy => by
    simp [preF] at hy
    subst hy
    exact ⟨by rw [kidsO_0 h.1]; rfl, fun z hz => by rw [kids_leaf h.1] at hz; cases hz⟩
  | n + 1, top, x, h, y, hy => by
    rcases List.mem_cons.1 hy with rfl | hy
    · refine ⟨h.2.1, fun z hz => ?_⟩
      have := h.2.2.2 z hz
      cases n with
      | zero => exact this.2
      | succ n => exact this.2.2.1
    · obtain ⟨z, hz, hyz⟩ := List.mem_flatMap.1 hy
      exact wf_all n false z (h.2.2.2 z hz) y hyz
theorem wf_top {n : Nat} {top : Bool} {x : Seat} (h : wfF c l n top x) : Seat17 c top x ∧ x.n.level = (n : Int) := by
  cases n with
  | zero => exact ⟨h.2, h.1⟩
  | succ n => exact ⟨h.2.2.1, h.1⟩
theorem seats_some {P : List Seat} {r : Seat} (hP : P.Perm (r :: P.flatMap (kidsD l))) (hk : ∀ x ∈ P, (kidsO l x).isSome = true) (hl : P.length ≤ l.length) :
    ∀ (f i : Nat) (out : List Seat), out = r :: (out.take i).flatMap (kidsD l) → (∃ R, P.Perm (out ++ R)) → i ≤ out.length → l.length + 2 ≤ f + i → ∃ ss, seatsF l f i out = some ss ∧ ∃ R, P.Perm (ss ++ R) := by
  intro f
  induction f with
  | zero =>
    intro i out ho ⟨R, hR⟩ hi hf
    have := hR.length_eq
    rw [List.length_append] at this
    omega
  | succ f ih =>
    intro i out ho ⟨R, hR⟩ hi hf
    have hlen := hR.length_eq
    rw [List.length_append] at hlen
    by_cases h : i < out.length
    · have hin : out[i] ∈ P := (hR.mem_iff).2 (List.mem_append_left _ (List.getElem_mem h))
      have hs := hk _ hin
      cases hko : kidsO l out[i] with
      | none => rw [hko] at hs; cases hs
      | some ks =>
        have hkd : kidsD l out[i] = ks := by unfold kidsD; rw [hko]; rfl
        rw [seatsF_some h (by omega) hko]
        have e : (out ++ ks).take (i + 1) = out.take i ++ [out[i]] := by
          rw [List.take_append_of_le_length (by omega), List.take_succ_eq_append_getElem h]
        have e2 : out ++ ks = r :: ((out ++ ks).take (i + 1)).flatMap (kidsD l) := by
          rw [e, List.flatMap_append, ← List.cons_append, ← ho]
          congr 1
          simp [hkd]
        refine ih (i + 1) (out ++ ks) e2 ?_ (by rw [List.length_append]; omega) (by omega)
        -- what is left over
        have h1 : P.Perm ((out ++ ks).take (i + 1) ++ (out.drop (i + 1) ++ R)) := by
          rw [e, ← List.append_assoc, List.append_assoc (out.take i), List.singleton_append, ← List.drop_eq_getElem_cons h, List.take_append_drop]
          exact hR
        have h2 := hP.trans ((h1.flatMap_right (kidsD l)).cons r)
        rw [List.flatMap_append, ← List.cons_append, ← e2] at h2
        exact ⟨_, h2⟩
    · rw [seatsF_done h]; exact ⟨out, rfl, R, hR⟩
theorem found_in {x : Seat} (h : findN l x.n.slot = (x.n, true)) : x.n ∈ l := by
  have := (find_slot (l := l) (s := x.n.slot) (by rw [h])).2
  rwa [h] at this
theorem root_found (h : (findN l root).2 = true) : findN l (rootS l root).n.slot = ((rootS l root).n, true) := found_of h
theorem nodup_perm {α : Type} [DecidableEq α] : ∀ {A B : List α}, A.Nodup → B.Nodup → (∀ a ∈ A, a ∈ B) → A.length = B.length → A.Perm B
  | [], B, _, _, _, hl => by rw [List.eq_nil_of_length_eq_zero hl.symm]
  | a :: A, B, hA, hB, hs, hl => by
    have hm := hs a (by simp)
    obtain ⟨h1, h2⟩ := List.nodup_cons.1 hA
    have ih := nodup_perm (A := A) (B := B.erase a) h2 (hB.erase a) (fun x hx => (List.Nodup.mem_erase_iff hB).2 ⟨fun e => h1 (e ▸ hx), hs x (List.mem_cons_of_mem _ hx)⟩) (by
      have := List.length_erase_of_mem hm
      rw [List.length_cons] at hl
      omega)
    exact (ih.cons a).trans (List.perm_cons_erase hm).symm
theorem once_of {ss : List Seat} (hf : ∀ x ∈ ss, findN l x.n.slot = (x.n, true)) : (OnceP l ss ↔ SlotsNd l ∧ (ss.map fun x : Seat => x.n.slot).Nodup ∧ ss.length = l.length) := by
  constructor
  · rintro ⟨h1, h2⟩
    have key : ∀ n ∈ l, ∃ x ∈ ss, x.n.slot = n.slot := fun n hn => by
      obtain ⟨i, hi, rfl⟩ := List.getElem_of_mem hn
      have h3 := h2 i hi
      cases h4 : slotS ss l[i].slot with
      | nil => rw [h4] at h3; simp at h3
      | cons x L =>
        have : x ∈ slotS ss l[i].slot := by rw [h4]; simp
        have := List.mem_filter.1 this
        exact ⟨x, this.1, of_decide_eq_true this.2⟩
    have hone : ∀ n ∈ l, (atS l n.slot).length = 1 := fun n hn => by
      obtain ⟨x, hx, e⟩ := key n hn
      have := hf x hx
      rw [e] at this
      unfold findN at this
      exact of_decide_eq_true (congrArg Prod.snd this)
    have hnd : SlotsNd l := by
      unfold SlotsNd
      rw [List.nodup_iff_count]
      intro a
      by_cases ha : a ∈ l.map fun n : Nd => n.slot
      · obtain ⟨n, hn, rfl⟩ := List.mem_map.1 ha
        have h3 := hone n hn
        unfold atS at h3
        rw [List.count_eq_countP, List.countP_map]
        rw [← List.countP_eq_length_filter] at h3
        refine Nat.le_of_eq ((List.countP_congr fun y _ => ?_).trans h3)
        simp [Function.comp]
      · rw [List.count_eq_zero_of_not_mem ha]; omega
    refine ⟨hnd, ?_, h1.symm⟩
    rw [List.nodup_iff_count]
    intro a
    by_cases ha : a ∈ ss.map fun x : Seat => x.n.slot
    · obtain ⟨x, hx, rfl⟩ := List.mem_map.1 ha
      obtain ⟨i, hi, e⟩ := List.getElem_of_mem (found_in (hf x hx))
      have h3 := h2 i hi
      rw [e] at h3
      unfold slotS at h3
      rw [List.count_eq_countP, List.countP_map]
      rw [← List.countP_eq_length_filter] at h3
      refine Nat.le_of_eq ((List.countP_congr fun y _ => ?_).trans h3)
      simp [Function.comp]
    · rw [List.count_eq_zero_of_not_mem ha]; omega
  · rintro ⟨h1, h2, h3⟩
    have hsub : ∀ a ∈ ss.map (fun x : Seat => x.n.slot), a ∈ l.map fun n : Nd => n.slot := fun a ha => by
      obtain ⟨x, hx, rfl⟩ := List.mem_map.1 ha
      exact List.mem_map.2 ⟨x.n, found_in (hf x hx), rfl⟩
    have hp : (ss.map fun x : Seat => x.n.slot).Perm (l.map fun n : Nd => n.slot) := nodup_perm h2 h1 hsub (by simp [h3])
    refine ⟨h3.symm, fun i hi => ?_⟩
    have h4 : l[i].slot ∈ ss.map fun x : Seat => x.n.slot := hp.mem_iff.2 (List.mem_map.2 ⟨l[i], List.getElem_mem hi, rfl⟩)
    have h5 : List.count l[i].slot (ss.map fun x : Seat => x.n.slot) = 1 := by
      have h6 := List.nodup_iff_count.1 h2 l[i].slot
      have h7 := List.count_pos_iff.2 h4
      omega
    rw [List.count_eq_countP, List.countP_map] at h5
    unfold slotS
    rw [← List.countP_eq_length_filter]
    refine (List.countP_congr fun y _ => ?_).trans h5
    simp [Function.comp]
end
end Go.Fw
