/- A row more in a tree of rows behind slots: which slots are taken, and where the nodes lie. Plain Lean; nothing of the program is named here. No condition. -/
import Derived.Test.YtemoalimclnfkaaGreatQjRn
set_option linter.unusedVariables false
set_option linter.unusedSimpArgs false
set_option linter.unnecessarySimpa false
namespace Go.Fw
open Go Go.RowKit
/-! ## Slots that are taken -/
theorem firstN_no : ∀ {u : List Bool} (h : firstN u < u.length), u[firstN u] = false
  | [], h => by simp at h
  | true :: l, h => by
    have h1 : firstN l < l.length := by simp [firstN] at h; omega
    have := firstN_no h1
    simpa [firstN] using this
  | false :: l, h => rfl
theorem firstN_end : ∀ {u : List Bool}, firstN u = u.length → ∀ j (hj : j < u.length), u[j] = true
  | [], _, j, hj => by simp at hj
  | true :: l, h, j, hj => by
    have h1 : firstN l = l.length := by simp [firstN] at h; omega
    cases j with
    | zero => rfl
    | succ j => exact firstN_end h1 j (by simpa using hj)
  | false :: l, h, j, hj => by simp [firstN] at h
theorem firstN_lt {u : List Bool} (h : 0 < (freeN u).length) : firstN u < u.length := by
  have h1 := firstN_le u
  have h2 : firstN u ≠ u.length := fun e => by
    obtain ⟨a, ha⟩ := List.exists_mem_of_length_pos h
    obtain ⟨i, hi, _, h3⟩ := mem_free.1 ha
    rw [firstN_end e i hi] at h3; cases h3
  omega
theorem free_set {u : List Bool} {i : Nat} (hi : i < u.length) (h : u[i] = false) : (freeN (u.set i true)).length + 1 = (freeN u).length := by
  have hp : (freeN u).Perm ((i : Int) :: freeN (u.set i true)) := by
    refine perm_of_mem (free_nodup u) ?_ fun x => ?_
    · refine List.nodup_cons.2 ⟨fun hm => ?_, free_nodup _⟩
      obtain ⟨j, hj, e, h2⟩ := mem_free.1 hm
      have e : i = j := by omega
      subst e
      simp at h2
    · rw [List.mem_cons, mem_free, mem_free]
      constructor
      · rintro ⟨j, hj, rfl, h2⟩
        by_cases e : i = j
        · left; omega
        · exact .inr ⟨j, by rw [List.length_set]; exact hj, rfl, by rw [List.getElem_set_ne e]; exact h2⟩
      · rintro (rfl | ⟨j, hj, rfl, h2⟩)
        · exact ⟨i, hi, rfl, h⟩
        · rw [List.length_set] at hj
          by_cases e : i = j
          · subst e; simp at h2
          · rw [List.getElem_set_ne e] at h2; exact ⟨j, hj, rfl, h2⟩
  rw [hp.length_eq]; rfl
structure NewS (u u' : List Bool) (new : List Int) : Prop where
  len : u'.length = u.length
  nd : new.Nodup
  no : ∀ s ∈ new, hasN u s = false
  iff : ∀ s, hasN u' s = true ↔ hasN u s = true ∨ s ∈ new
theorem NewS.rfl9 {u : List Bool} : NewS u u [] := ⟨rfl, List.nodup_nil, fun s hs => (by cases hs), fun s => by simp⟩
theorem NewS.keep {u u' : List Bool} {new : List Int} (h : NewS u u' new) {s : Int} (hs : hasN u s = true) : hasN u' s = true := (h.iff s).2 (.inl hs)
theorem NewS.trans {u u' u'' : List Bool} {a b : List Int} (h : NewS u u' a) (k : NewS u' u'' b) : NewS u u'' (a ++ b) := by
  refine ⟨k.len.trans h.len, List.nodup_append.2 ⟨h.nd, k.nd, fun x hx y hy e => ?_⟩, fun s hs => ?_, fun s => ?_⟩
  · subst e
    have := k.no x hy
    rw [(h.iff x).2 (.inr hx)] at this; cases this
  · rcases List.mem_append.1 hs with hs | hs
    · exact h.no s hs
    · cases h2 : hasN u s
      · rfl
      · have := k.no s hs
        rw [h.keep h2] at this; cases this
  · rw [k.iff, h.iff, List.mem_append, or_assoc]
theorem new_one {u : List Bool} (h : firstN u < u.length) : NewS u (u.set (firstN u) true) [(firstN u : Int)] := by
  have h0 := firstN_no h
  refine ⟨List.length_set, List.nodup_cons.2 ⟨List.not_mem_nil, List.nodup_nil⟩, fun s hs => ?_, fun s => ?_⟩
  · rw [List.mem_singleton.1 hs, hasN_at h, h0]
  · rw [List.mem_singleton, hasN_iff, hasN_iff]
    constructor
    · rintro ⟨j, hj, rfl, h2⟩
      rw [List.length_set] at hj
      by_cases e : firstN u = j
      · right; omega
      · rw [List.getElem_set_ne e] at h2; exact .inl ⟨j, hj, rfl, h2⟩
    · rintro (⟨j, hj, rfl, h2⟩ | rfl)
      · refine ⟨j, by rw [List.length_set]; exact hj, rfl, ?_⟩
        by_cases e : firstN u = j
        · subst e; simp
        · rw [List.getElem_set_ne e]; exact h2
      · exact ⟨firstN u, by rw [List.length_set]; exact h, rfl, by simp⟩
/-! ## Insertions -/
def btU {k : Nat} (r : Option (Str × BT k)) : Str := match r with | none => Str.nil | some w => w.1
def btS {k : Nat} (r : Option (Str × BT k)) : Int := match r with | none => -1 | some w => w.2.slot
def btN {k : Nat} (r : BT k × Option (Str × BT k)) : List BNd := nds k r.1 ++ (match r.2 with | none => [] | some w => nds k w.2)
section
variable {fan leaf : Int} {key : Str} {e : Eff}
theorem ins_slot : ∀ {k : Nat} {y : BT k} {u : List Bool}, (insB fan leaf key e k y u).1.1.slot = y.slot
  | 0, y, u => by
    by_cases h : ((withN (lfR y) key e).length : Int) ≤ leaf
    · rw [insB_0t h]; rfl
    · rw [insB_0f h]; rfl
  | k + 1, y, u => by
    show (upB fan y (routeN (ndP y) key) _).1.1.slot = _
    unfold upB
    split
    · rfl
    · unfold splB; split <;> rfl
def spB (fan leaf : Int) (key : Str) (e : Eff) : (k : Nat) → BT k → Nat
  | 0, y => if ((withN (lfR y) key e).length : Int) ≤ leaf then 0 else 1
  | k + 1, y => if spB fan leaf key e k ((ndK y).getD (routeN (ndP y) key) default) = k + 1 then (if ((ndK y).length : Int) + 1 ≤ fan then k + 1 else k + 2) else spB fan leaf key e k ((ndK y).getD (routeN (ndP y) key) default)
theorem spB_le : ∀ {k : Nat} {y : BT k}, spB fan leaf key e k y ≤ k + 1
  | 0, y => by unfold spB; split <;> omega
  | k + 1, y => by
    have := spB_le (k := k) (y := (ndK y).getD (routeN (ndP y) key) default)
    unfold spB
    split
    · split <;> omega
    · omega
theorem insB_at {k : Nat} {y : BT (k + 1)} {u : List Bool} (h : routeN (ndP y) key < (ndK y).length) : insB fan leaf key e (k + 1) y u = upB fan y (routeN (ndP y) key) (insB fan leaf key e k (ndK y)[routeN (ndP y) key] u) := by
  show upB _ _ _ (insB fan leaf key e k ((ndK y).getD _ _) u) = _
  rw [getD_lt h]
theorem spB_at {k : Nat} {y : BT (k + 1)} (h : routeN (ndP y) key < (ndK y).length) : spB fan leaf key e (k + 1) y = if spB fan leaf key e k (ndK y)[routeN (ndP y) key] = k + 1 then (if ((ndK y).length : Int) + 1 ≤ fan then k + 1 else k + 2) else spB fan leaf key e k (ndK y)[routeN (ndP y) key] := by
  show (if spB fan leaf key e k ((ndK y).getD _ _) = k + 1 then _ else spB fan leaf key e k ((ndK y).getD _ _)) = _
  rw [getD_lt h]
theorem up_len {k : Nat} {y : BT (k + 1)} {i : Nat} (hi : i < (ndK y).length) (a w : BT k) : ((ndK y).take i ++ ([a, w] ++ (ndK y).drop (i + 1))).length = (ndK y).length + 1 := by
  simp [List.length_take, List.length_drop]; omega
theorem spl_snd {k : Nat} {s : Int} {P : List Str} {K : List (BT k)} {u : List Bool} : (splB fan s P K u).1.2.isSome = decide (¬ ((K.length : Int) ≤ fan)) := by
  unfold splB
  split
  · rename_i h; simp [h]
  · rename_i h; simp [h]
theorem ins_some : ∀ {k : Nat} {y : BT k} {u : List Bool} {lo hi : Int} {s : Span}, s.norm = s → BT.ok fan leaf k lo hi s y → ((insB fan leaf key e k y u).1.2.isSome = true ↔ spB fan leaf key e k y = k + 1)
  | 0, y, u, _, _, _, _, _ => by
    unfold spB
    by_cases h : ((withN (lfR y) key e).length : Int) ≤ leaf
    · rw [insB_0t h, if_pos h]; simp
    · rw [insB_0f h, if_neg h]; simp
  | k + 1, y, u, lo, hi, s, hs, h => by
    have hl := kid_at hs h key
    obtain ⟨v, _, hv, _, hP, _⟩ := h.2.at hs (i := routeN (ndP y) key) (List.length_filter_le _ _)
    have ih := ins_some (u := u) hv hP
    have hsl := spB_le (fan := fan) (leaf := leaf) (key := key) (e := e) (k := k) (y := (ndK y)[routeN (ndP y) key])
    rw [insB_at hl, spB_at hl]
    unfold upB
    cases hr : (insB fan leaf key e k (ndK y)[routeN (ndP y) key] u).1.2 with
    | none =>
      have h1 : ¬ spB fan leaf key e k (ndK y)[routeN (ndP y) key] = k + 1 := fun h9 => by have := ih.2 h9; rw [hr] at this; cases this
      rw [if_neg h1]
      simp; omega
    | some w =>
      rw [if_pos (ih.1 (by rw [hr]; rfl))]
      dsimp only
      rw [spl_snd, up_len hl]
      by_cases h2 : ((ndK y).length : Int) + 1 ≤ fan
      · rw [if_pos h2]
        simp; omega
      · rw [if_neg h2]
        simp; omega
theorem nds_mk {k : Nat} {s : Int} {P : List Str} {K : List (BT k)} : (nds (k + 1) (mkN s P K)).map BNd.slot = s :: (K.flatMap (nds k)).map BNd.slot := by
  rw [nds_succ, List.map_cons, ndB_slot]; rfl
theorem spl_none {k : Nat} {s : Int} {P : List Str} {K : List (BT k)} {u : List Bool} (h : (K.length : Int) ≤ fan) : splB fan s P K u = ((mkN s P K, none), u) := if_pos h
theorem spl_some {k : Nat} {s : Int} {P : List Str} {K : List (BT k)} {u : List Bool} (h : ¬ (K.length : Int) ≤ fan) : splB fan s P K u = ((mkN s (P.take ((K.length + 1) / 2 - 1)) (K.take ((K.length + 1) / 2)), some (P.getD ((K.length + 1) / 2 - 1) Str.nil, mkN (firstN u : Int) (P.drop ((K.length + 1) / 2)) (K.drop ((K.length + 1) / 2)))), u.set (firstN u) true) := if_neg h
theorem spl_new {k : Nat} {s : Int} {P : List Str} {K : List (BT k)} {u : List Bool} (h : (K.length : Int) ≤ fan ∨ 0 < (freeN u).length) :
    ∃ new, NewS u (splB fan s P K u).2 new ∧ ((btN (splB fan s P K u).1).map BNd.slot).Perm (s :: (K.flatMap (nds k)).map BNd.slot ++ new) ∧ new.length = (if (K.length : Int) ≤ fan then 0 else 1) ∧ (freeN (splB fan s P K u).2).length + new.length = (freeN u).length := by
  by_cases hK : (K.length : Int) ≤ fan
  · rw [spl_none hK]
    refine ⟨[], NewS.rfl9, ?_, by rw [if_pos hK]; rfl, rfl⟩
    show (((nds (k + 1) (mkN s P K)) ++ []).map BNd.slot).Perm _
    rw [List.append_nil, List.append_nil, nds_mk]
  · rw [spl_some hK]
    have hf := firstN_lt (h.resolve_left hK)
    refine ⟨[(firstN u : Int)], new_one hf, ?_, by rw [if_neg hK]; rfl, free_set hf (firstN_no hf)⟩
    show (((nds (k + 1) (mkN s _ (K.take ((K.length + 1) / 2)))) ++ nds (k + 1) (mkN (firstN u : Int) _ (K.drop ((K.length + 1) / 2)))).map BNd.slot).Perm _
    rw [List.map_append, nds_mk, nds_mk]
    have e1 : K.flatMap (nds k) = (K.take ((K.length + 1) / 2)).flatMap (nds k) ++ (K.drop ((K.length + 1) / 2)).flatMap (nds k) := by rw [← List.flatMap_append, List.take_append_drop]
    rw [e1, List.map_append]
    exact List.Perm.cons _ (List.perm_middle.trans (List.perm_append_singleton _ _).symm)
theorem ins_new (hf : 4 ≤ fan) : ∀ {k : Nat} {y : BT k} {u : List Bool} {lo hi : Int} {s : Span}, s.norm = s → BT.ok fan leaf k lo hi s y → spB fan leaf key e k y ≤ (freeN u).length →
    ∃ new, NewS u (insB fan leaf key e k y u).2 new ∧ ((btN (insB fan leaf key e k y u).1).map BNd.slot).Perm ((nds k y).map BNd.slot ++ new) ∧ new.length = spB fan leaf key e k y ∧ (freeN (insB fan leaf key e k y u).2).length + new.length = (freeN u).length
  | 0, y, u, _, _, _, _, _, hsp => by
    unfold spB at hsp ⊢
    by_cases h : ((withN (lfR y) key e).length : Int) ≤ leaf
    · rw [insB_0t h]
      exact ⟨[], NewS.rfl9, by simp [btN, nds, ndB, ndT, mkL, BT.slot], by rw [if_pos h]; rfl, rfl⟩
    · rw [if_neg h] at hsp
      have hl := firstN_lt (u := u) (by omega)
      rw [insB_0f h]
      exact ⟨[(firstN u : Int)], new_one hl, by simp [btN, nds, ndB, ndT, mkL, BT.slot], by rw [if_neg h]; rfl, free_set hl (firstN_no hl)⟩
  | k + 1, y, u, lo, hi, s, hs, h, hsp => by
    have hl := kid_at hs h key
    obtain ⟨v, _, hv, _, hP, _⟩ := h.2.at hs (i := routeN (ndP y) key) (List.length_filter_le _ _)
    have hso := ins_some (key := key) (e := e) (u := u) hv hP
    rw [spB_at hl] at hsp ⊢
    have hle : spB fan leaf key e k (ndK y)[routeN (ndP y) key] ≤ (freeN u).length := by
      revert hsp
      split
      · rename_i h9; rw [h9]; split <;> omega
      · exact id
    obtain ⟨n1, a1, a2, a3, a4⟩ := ins_new hf hv hP hle
    rw [insB_at hl]
    generalize hr : insB fan leaf key e k (ndK y)[routeN (ndP y) key] u = r at *
    generalize routeN (ndP y) key = i at *
    have hK : (nds (k + 1) y).map BNd.slot = y.slot :: (((ndK y).take i).flatMap (nds k) ++ (nds k (ndK y)[i] ++ ((ndK y).drop (i + 1)).flatMap (nds k))).map BNd.slot := by
      rw [nds_succ, List.map_cons, ndB_slot]
      congr 2
      conv => lhs; rw [← List.take_append_drop i (ndK y), List.drop_eq_getElem_cons hl]
      rw [List.flatMap_append, List.flatMap_cons]
    have mid : ∀ {A B C D : List Int}, B.Perm (C ++ n1) → (A ++ (B ++ D)).Perm ((A ++ (C ++ D)) ++ n1) := fun {A B C D} hB => by
      rw [List.append_assoc, List.append_assoc]
      refine List.Perm.append_left _ ((List.Perm.append_right _ hB).trans ?_)
      rw [List.append_assoc]
      exact List.Perm.append_left _ List.perm_append_comm
    unfold upB
    cases hr2 : r.1.2 with
    | none =>
      have h1 : ¬ spB fan leaf key e k (ndK y)[i] = k + 1 := fun h9 => by have := hso.2 h9; rw [hr2] at this; cases this
      rw [if_neg h1]
      refine ⟨n1, a1, ?_, a3, a4⟩
      dsimp only
      show (((nds (k + 1) (mkN y.slot (ndP y) ((ndK y).set i r.1.1))) ++ []).map BNd.slot).Perm _
      rw [List.append_nil, nds_mk, hK, List.cons_append, set_spl9 hl, List.flatMap_append, List.flatMap_cons, List.map_append, List.map_append, List.map_append, List.map_append]
      refine List.Perm.cons _ (mid ?_)
      have : btN r.1 = nds k r.1.1 := by unfold btN; rw [hr2, List.append_nil]
      rw [this] at a2; exact a2
    | some w =>
      have h1 := hso.1 (by rw [hr2]; rfl)
      rw [if_pos h1] at hsp ⊢
      dsimp only
      have hul := up_len hl r.1.1 w.2
      obtain ⟨n2, b1, b2, b3, b4⟩ := spl_new (fan := fan) (s := y.slot) (P := (ndP y).take i ++ ([w.1] ++ (ndP y).drop i)) (K := (ndK y).take i ++ ([r.1.1, w.2] ++ (ndK y).drop (i + 1))) (u := r.2) (by
        rw [hul]
        by_cases h2 : ((ndK y).length : Int) + 1 ≤ fan
        · left; omega
        · right; rw [if_neg h2] at hsp; omega)
      refine ⟨n1 ++ n2, a1.trans b1, ?_, ?_, ?_⟩
      · refine b2.trans ?_
        rw [hK]
        have e1 : (btN r.1).map BNd.slot = (nds k r.1.1 ++ nds k w.2).map BNd.slot := by unfold btN; rw [hr2]
        rw [e1] at a2
        have e2 : (((ndK y).take i ++ ([r.1.1, w.2] ++ (ndK y).drop (i + 1))).flatMap (nds k)).map BNd.slot = (((ndK y).take i).flatMap (nds k)).map BNd.slot ++ ((nds k r.1.1 ++ nds k w.2).map BNd.slot ++ (((ndK y).drop (i + 1)).flatMap (nds k)).map BNd.slot) := by
          rw [List.flatMap_append, List.flatMap_append, List.flatMap_cons, List.flatMap_cons, List.flatMap_nil, List.append_nil, List.map_append, List.map_append]
        have key := List.Perm.cons y.slot (mid (A := (((ndK y).take i).flatMap (nds k)).map BNd.slot) (D := (((ndK y).drop (i + 1)).flatMap (nds k)).map BNd.slot) a2)
        rw [← e2] at key
        have k2 := List.Perm.append_right n2 key
        rw [List.map_append, List.map_append]
        refine k2.trans (List.Perm.of_eq ?_)
        simp only [List.cons_append, List.append_assoc]
      · rw [List.length_append, b3, a3, hul, h1]
        by_cases h2 : ((ndK y).length : Int) + 1 ≤ fan
        · rw [if_pos h2, if_pos (by omega)]
        · rw [if_neg h2, if_neg (by omega)]
      · rw [List.length_append]; omega
end
section
variable {Tn Ts : TypeId} {cells cells' : List (Option Nat)} {G : GH}
theorem NsM.open0 {y : BT 0} {Ms : MH} (h : NsM Tn Ts cells (nds 0 y) G Ms) : ∃ b vp vk vr Mp, Ms = (b, .cells (List.toArray [.int .i64 0, vp, vk, vr]) Tn (0, 0)) :: Mp ∧ Blk cells y.slot b ∧ OwnR eStr Ts G vp [] Mp ∧ SlR eInt G vk [] ∧ SlR ePair G vr (lfR y) := by
  obtain ⟨A, B, rfl, ⟨b, hb, vp, vk, vr, Mp, rfl, h1, h2, h3⟩, h4⟩ := h
  have h4 : B = [] := h4
  subst h4
  exact ⟨b, vp, vk, vr, Mp, List.append_nil _, hb, h1, h2, h3⟩
theorem NsM.open1 {k : Nat} {y : BT (k + 1)} {Ms : MH} (h : NsM Tn Ts cells (nds (k + 1) y) G Ms) : ∃ b vp vk vr Mp B, Ms = (b, .cells (List.toArray [.int .i64 ((k + 1 : Nat) : Int), vp, vk, vr]) Tn (0, 0)) :: (Mp ++ B) ∧ Blk cells y.slot b ∧ OwnR eStr Ts G vp (ndP y) Mp ∧ SlR eInt G vk ((ndK y).map BT.slot) ∧ SlR ePair G vr [] ∧ NsM Tn Ts cells ((ndK y).flatMap (nds k)) G B := by
  obtain ⟨A, B, rfl, ⟨b, hb, vp, vk, vr, Mp, rfl, h1, h2, h3⟩, h4⟩ := h
  exact ⟨b, vp, vk, vr, Mp, B, rfl, hb, h1, h2, h3, h4⟩
theorem NsM.pack0 {s : Int} {R : List Pair} {b : Nat} {vp vk vr : Value} {Mp : MH} (hb : Blk cells s b) (h1 : OwnR eStr Ts G vp [] Mp) (h2 : SlR eInt G vk []) (h3 : SlR ePair G vr R) : NsM Tn Ts cells (nds 0 (mkL s R)) G ((b, .cells (List.toArray [.int .i64 0, vp, vk, vr]) Tn (0, 0)) :: Mp) :=
  ⟨_, [], (List.append_nil _).symm, ⟨b, hb, vp, vk, vr, Mp, rfl, h1, h2, h3⟩, rfl⟩
theorem NsM.pack1 {k : Nat} {s : Int} {P : List Str} {K : List (BT k)} {b : Nat} {vp vk vr : Value} {Mp B : MH} (hb : Blk cells s b) (h1 : OwnR eStr Ts G vp P Mp) (h2 : SlR eInt G vk (K.map BT.slot)) (h3 : SlR ePair G vr []) (h4 : NsM Tn Ts cells (K.flatMap (nds k)) G B) :
    NsM Tn Ts cells (nds (k + 1) (mkN s P K)) G (((b, .cells (List.toArray [.int .i64 ((k + 1 : Nat) : Int), vp, vk, vr]) Tn (0, 0)) :: Mp) ++ B) :=
  ⟨_, B, rfl, ⟨b, hb, vp, vk, vr, Mp, rfl, h1, h2, h3⟩, h4⟩
theorem flat_kid {k : Nat} {l : List (BT k)} {j : Nat} (hj : j < l.length) : l.flatMap (nds k) = (l.take j).flatMap (nds k) ++ (nds k l[j] ++ (l.drop (j + 1)).flatMap (nds k)) := by
  conv => lhs; rw [← List.take_append_drop j l, List.drop_eq_getElem_cons hj]
  rw [List.flatMap_append, List.flatMap_cons]
theorem NsM.kid {k : Nat} {l : List (BT k)} {j : Nat} (hj : j < l.length) {Ms : MH} (h : NsM Tn Ts cells (l.flatMap (nds k)) G Ms) : ∃ A B C, Ms = A ++ (B ++ C) ∧ NsM Tn Ts cells ((l.take j).flatMap (nds k)) G A ∧ NsM Tn Ts cells (nds k l[j]) G B ∧ NsM Tn Ts cells ((l.drop (j + 1)).flatMap (nds k)) G C := by
  rw [flat_kid hj] at h
  obtain ⟨A, D, rfl, h1, h2⟩ := NsM.app.1 h
  obtain ⟨B, C, rfl, h3, h4⟩ := NsM.app.1 h2
  exact ⟨A, B, C, rfl, h1, h3, h4⟩
theorem NsM.set_kid {k : Nat} {l : List (BT k)} {j : Nat} {a : BT k} {A B C : MH} (hj : j < l.length) (h1 : NsM Tn Ts cells ((l.take j).flatMap (nds k)) G A) (h2 : NsM Tn Ts cells (nds k a) G B) (h3 : NsM Tn Ts cells ((l.drop (j + 1)).flatMap (nds k)) G C) : NsM Tn Ts cells ((l.set j a).flatMap (nds k)) G (A ++ (B ++ C)) := by
  rw [set_spl9 hj, List.flatMap_append, List.flatMap_cons]
  exact h1.two (h2.two h3)
theorem NsM.two_kids {k : Nat} {l : List (BT k)} {j : Nat} {a w : BT k} {A B C : MH} (h1 : NsM Tn Ts cells ((l.take j).flatMap (nds k)) G A) (h2 : NsM Tn Ts cells (nds k a ++ nds k w) G B) (h3 : NsM Tn Ts cells ((l.drop (j + 1)).flatMap (nds k)) G C) : NsM Tn Ts cells ((l.take j ++ ([a, w] ++ l.drop (j + 1))).flatMap (nds k)) G (A ++ (B ++ C)) := by
  rw [List.flatMap_append, List.flatMap_append, List.flatMap_cons, List.flatMap_cons, List.flatMap_nil, List.append_nil]
  exact h1.two (h2.two h3)
end
theorem pmN1 {t n : Nat × Obj} {Ma Mp X : MH} : (t :: n :: (Ma ++ (Mp ++ X))).Perm (t :: (Ma ++ ((n :: Mp) ++ X))) := List.Perm.cons _ List.perm_middle.symm
theorem pmN2 {t n m : Nat × Obj} {Ma Mp Mq X Y Z : MH} (e : Z = X ++ Y) : (t :: n :: m :: (Ma ++ (Mp ++ (Mq ++ Z)))).Perm (t :: (Ma ++ (((n :: Mp) ++ X) ++ ((m :: Mq) ++ Y)))) := by
  subst e
  refine List.Perm.cons _ ?_
  have h1 : (Ma ++ (((n :: Mp) ++ X) ++ ((m :: Mq) ++ Y))).Perm (n :: (Ma ++ (Mp ++ (X ++ (m :: (Mq ++ Y)))))) := by
    rw [List.cons_append, List.cons_append, List.cons_append, List.append_assoc]
    exact List.perm_middle
  refine List.Perm.trans (List.Perm.cons _ ?_) h1.symm
  have h2 : (Ma ++ (Mp ++ (X ++ (m :: (Mq ++ Y))))).Perm (m :: (Ma ++ (Mp ++ (X ++ (Mq ++ Y))))) := by
    rw [← List.append_assoc, ← List.append_assoc]
    refine List.perm_middle.trans (List.Perm.cons _ (List.Perm.of_eq ?_))
    simp only [List.append_assoc]
  refine List.Perm.trans (List.Perm.cons _ ?_) h2.symm
  exact List.Perm.append_left _ (List.Perm.append_left _ (by
    rw [← List.append_assoc, ← List.append_assoc]
    exact List.Perm.append_right _ List.perm_append_comm))
theorem us_get {u : List Bool} {s : Int} (h : hasN u s = true) : u[s.toNat]? = some true := by
  obtain ⟨j, hj, rfl, h2⟩ := hasN_iff.1 h
  rw [Int.toNat_natCast, List.getElem?_eq_getElem hj, h2]
theorem us_of {u : List Bool} {s : Int} (h0 : 0 ≤ s) (h : u[s.toNat]? = some true) : hasN u s = true := by
  obtain ⟨h1, h2⟩ := List.getElem?_eq_some_iff.1 h
  exact hasN_iff.2 ⟨s.toNat, h1, by omega, h2⟩
theorem NewS.us {u u' : List Bool} {new : List Int} {l l' : List BNd} (h : NewS u u' new) (hu : UsN u l) (hp : (l'.map BNd.slot).Perm (l.map BNd.slot ++ new)) : UsN u' l' := fun n hn => by
  have := hp.mem_iff.1 (List.mem_map_of_mem (f := BNd.slot) hn)
  rcases List.mem_append.1 this with h2 | h2
  · obtain ⟨m, hm, e⟩ := List.mem_map.1 h2
    rw [← e]; exact h.keep (hu m hm)
  · exact (h.iff _).2 (.inr h2)
theorem NewS.get {u u' : List Bool} {new : List Int} (h : NewS u u' new) {j : Nat} (hj : u[j]? = some true) : u'[j]? = some true := by
  have := h.keep (us_of (u := u) (s := (j : Int)) (by omega) (by rw [Int.toNat_natCast]; exact hj))
  have := us_get this
  rwa [Int.toNat_natCast] at this
theorem first_ne {u : List Bool} (hf : firstN u < u.length) {j : Nat} (hj : u[j]? = some true) : firstN u ≠ j := fun e => by
  subst e
  rw [List.getElem?_eq_getElem hf, firstN_no hf] at hj; cases hj
theorem agree_set {u : List Bool} {cells : List (Option Nat)} {x : Option Nat} (hf : firstN u < u.length) {j : Nat} (hj : u[j]? = some true) : (cells.set (firstN u) x)[j]? = cells[j]? := List.getElem?_set_ne (first_ne hf hj)
section
variable {fan leaf : Int} {key : Str} {e : Eff}
theorem has_lo {v : Span} {q : Str} (h : v.has q = true) : v.has v.lo = true := by
  obtain ⟨h1, h2⟩ := span_has.1 h
  refine span_has.2 ⟨Str.lt_irrefl _, ?_⟩
  rcases h2 with h2 | h2
  · exact .inl h2
  · exact .inr (Str.lt_of_le_of_lt h1 h2)
theorem ins_range {P : List Str} (hr : rising P = true) {j : Nat} (hj : j ≤ P.length) {s v : Span} (hv : ∀ q, v.has q = (s.has q && decide (j = routeN P q))) {w : Str} (h1 : v.has w = true) (h2 : w ≠ v.lo) : (rangeN P (j : Int)).has w = true ∧ w ≠ (rangeN P (j : Int)).lo := by
  have hh : ∀ q, v.has q = true → (rangeN P (j : Int)).has q = true := fun q hq => by
    rw [hv, Bool.and_eq_true] at hq
    rw [range_has hr q hj]; exact hq.2
  refine ⟨hh w h1, fun e => h2 ?_⟩
  have h3 : w.lt v.lo = false := lo_le h1
  have h4 : v.lo.lt w = false := by rw [e]; exact lo_le (hh _ (has_lo h1))
  exact Str.lt_total h3 h4
theorem ins_range9 (hf : 4 ≤ fan) (hlf : 2 ≤ leaf) (he : Grows e) (hk16 : key.b.size ≤ 16) (he16 : e.val.b.size ≤ 16) {k : Nat} {lo hi : Int} {s : Span} {y : BT (k + 1)} (hs : s.norm = s) (hk : s.has key = true) (h : BT.ok fan leaf (k + 1) lo hi s y) {u : List Bool} (hl : routeN (ndP y) key < (ndK y).length) {w : Str × BT k}
    (hw : (insB fan leaf key e k (ndK y)[routeN (ndP y) key] u).1.2 = some w) : (rangeN (ndP y) (routeN (ndP y) key : Int)).has w.1 = true ∧ w.1 ≠ (rangeN (ndP y) (routeN (ndP y) key : Int)).lo := by
  have hi : routeN (ndP y) key ≤ (ndP y).length := List.length_filter_le _ _
  obtain ⟨v, _, v1, v2, v3, _⟩ := h.2.at hs hi
  have hv : v.has key = true := by rw [v2, hk, decide_eq_true rfl]; rfl
  have g1 := (ins_ok hf hlf he hk16 he16 k u v1 hv v3).1
  unfold InsOk at g1
  rw [hw] at g1
  exact ins_range (h.2.piv hs).1 hi v2 g1.1 g1.2.1
theorem btS_none {k : Nat} {r : Option (Str × BT k)} (h : btS r = -1) (h0 : ∀ w, r = some w → 0 ≤ w.2.slot) : r = none := by
  cases r with
  | none => rfl
  | some w => have := h0 w rfl; have h : w.2.slot = -1 := h; omega
theorem K_set {k : Nat} {l : List (BT k)} {j : Nat} {a : BT k} (hj : j < l.length) (h : a.slot = l[j].slot) : (l.set j a).map BT.slot = l.map BT.slot := by
  rw [List.map_set, h]
  refine List.ext_getElem (by simp) fun i h1 h2 => ?_
  rw [List.getElem_set]
  split
  · rename_i e; subst e; rw [List.getElem_map]
  · rfl
theorem K_two {k : Nat} {l : List (BT k)} {j : Nat} {a w : BT k} (hj : j < l.length) (h : a.slot = l[j].slot) : (l.take j ++ ([a, w] ++ l.drop (j + 1))).map BT.slot = (l.map BT.slot).take (j + 1) ++ ([w.slot] ++ (l.map BT.slot).drop (j + 1)) := by
  rw [List.map_append, List.map_append, List.map_cons, List.map_cons, List.map_nil, h, List.take_succ_eq_append_getElem (by simpa using hj), List.map_take, List.map_drop, List.getElem_map, List.append_assoc]
  rfl
end
theorem pmN0 {t n : Nat × Obj} {Ma Mp : MH} : (t :: n :: (Ma ++ Mp)).Perm (t :: (Ma ++ (n :: Mp))) := List.Perm.cons _ List.perm_middle.symm
theorem pmN3 {t n m : Nat × Obj} {Ma Mp : MH} : (t :: n :: m :: (Ma ++ Mp)).Perm (t :: (Ma ++ ((n :: Mp) ++ [m]))) := by
  have := pmN2 (t := t) (n := n) (m := m) (Ma := Ma) (Mp := Mp) (Mq := []) (X := []) (Y := []) (Z := []) rfl
  simpa using this
theorem blk_set {cells : List (Option Nat)} {u : List Bool} {b : Nat} (hf : firstN u < cells.length) : Blk (cells.set (firstN u) (some b)) (firstN u : Int) b := ⟨by omega, by rw [Int.toNat_natCast]; exact List.getElem?_set_self hf⟩
theorem Blk.lt {cells : List (Option Nat)} {s : Int} {b : Nat} (h : Blk cells s b) : 0 ≤ s ∧ s.toNat < cells.length := ⟨h.1, (List.getElem?_eq_some_iff.1 h.2).1⟩
theorem NsM.agreeU {Tn Ts : TypeId} {cells cells' : List (Option Nat)} {G : GH} {u : List Bool} {l : List BNd} {Ms : MH} (h : NsM Tn Ts cells l G Ms) (hu : UsN u l) (ha : ∀ j : Nat, u[j]? = some true → cells'[j]? = cells[j]?) : NsM Tn Ts cells' l G Ms := h.agree fun n hn => ha _ (us_get (hu n hn))
theorem Blk.agreeU {cells cells' : List (Option Nat)} {u : List Bool} {s : Int} {b : Nat} (h : Blk cells s b) (hu : hasN u s = true) (ha : ∀ j : Nat, u[j]? = some true → cells'[j]? = cells[j]?) : Blk cells' s b := h.agree (ha _ (us_get hu))
theorem us_take {k : Nat} {y : BT (k + 1)} {u : List Bool} (h : UsN u (nds (k + 1) y)) (j : Nat) : UsN u (((ndK y).take j).flatMap (nds k)) := fun n hn => by
  obtain ⟨c, hc, hn⟩ := List.mem_flatMap.1 hn
  exact h n (nds_kid (List.mem_of_mem_take hc) hn)
theorem us_drop {k : Nat} {y : BT (k + 1)} {u : List Bool} (h : UsN u (nds (k + 1) y)) (j : Nat) : UsN u (((ndK y).drop j).flatMap (nds k)) := fun n hn => by
  obtain ⟨c, hc, hn⟩ := List.mem_flatMap.1 hn
  exact h n (nds_kid (List.mem_of_mem_drop hc) hn)
theorem us_kid {k : Nat} {y : BT (k + 1)} {u : List Bool} (h : UsN u (nds (k + 1) y)) {c : BT k} (hc : c ∈ ndK y) : UsN u (nds k c) := fun n hn => h n (nds_kid hc hn)
theorem btN_n {k : Nat} {r : BT k × Option (Str × BT k)} (h : r.2 = none) : btN r = nds k r.1 := by unfold btN; rw [h, List.append_nil]
theorem btN_s {k : Nat} {r : BT k × Option (Str × BT k)} {w : Str × BT k} (h : r.2 = some w) : btN r = nds k r.1 ++ nds k w.2 := by unfold btN; rw [h]
theorem NsM.bn {Tn Ts : TypeId} {cells : List (Option Nat)} {G : GH} {k : Nat} {a : BT k} {Ms : MH} (h : NsM Tn Ts cells (nds k a) G Ms) : NsM Tn Ts cells (btN ((a, none) : BT k × Option (Str × BT k))) G Ms := by rw [btN_n rfl]; exact h
theorem NsM.to {Tn Ts : TypeId} {cells : List (Option Nat)} {G : GH} {l l' : List BNd} {Ms : MH} (h : NsM Tn Ts cells l G Ms) (e : l = l') : NsM Tn Ts cells l' G Ms := e ▸ h
theorem OwnR.to {α : Type} {e : Enc α} {T : TypeId} {G : GH} {v : Value} {l l' : List α} {Ms : MH} (h : OwnR e T G v l Ms) (q : l = l') : OwnR e T G v l' Ms := q ▸ h
abbrev InsQ (AR : GH → List (Option Nat) × List Bool → MH → Prop) (Tn Ts : TypeId) (tb : Nat × Obj) (st : List (Option Nat) × List Bool) {k : Nat} (r : InsT k) (v : Value) (G' : GH) (M' : MH) : Prop :=
  ∃ cells' Ma' Mn', M'.Perm (tb :: (Ma' ++ Mn')) ∧ AR G' (cells', r.2) Ma' ∧ NsM Tn Ts cells' (btN r.1) G' Mn' ∧ (∀ j : Nat, st.2[j]? = some true → cells'[j]? = st.1[j]?) ∧ v = .tuple #[.string (btU r.1.2).b, .int .i64 (btS r.1.2)]
theorem InsQ.of {AR : GH → List (Option Nat) × List Bool → MH → Prop} {Tn Ts : TypeId} {tb : Nat × Obj} {st : List (Option Nat) × List Bool} {k : Nat} {r r' : InsT k} {v : Value} {G' : GH} {M' : MH} (e : r = r') (h : InsQ AR Tn Ts tb st r' v G' M') : InsQ AR Tn Ts tb st r v G' M' := e ▸ h
theorem sp_kid {fan leaf : Int} {key : Str} {e : Eff} {k : Nat} {y : BT (k + 1)} (h : routeN (ndP y) key < (ndK y).length) {n : Nat} (hsp : spB fan leaf key e (k + 1) y ≤ n) : spB fan leaf key e k (ndK y)[routeN (ndP y) key] ≤ n ∧ (spB fan leaf key e k (ndK y)[routeN (ndP y) key] = k + 1 → ¬ ((ndK y).length : Int) + 1 ≤ fan → spB fan leaf key e k (ndK y)[routeN (ndP y) key] + 1 ≤ n) := by
  rw [spB_at h] at hsp
  constructor
  · revert hsp
    split
    · rename_i h9; rw [h9]; split <;> omega
    · exact id
  · intro h9 h8
    rw [if_pos h9, if_neg h8] at hsp
    omega
end Go.Fw
