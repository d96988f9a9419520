/- Whole trees of rows behind slots: an effect on a key, a key taken away. Plain Lean; nothing of the program is named here. No condition. -/
import Derived.Test.YtemoalimclnfkaaGreatQjRq
set_option linter.unusedVariables false
set_option linter.unusedSimpArgs false
set_option linter.unnecessarySimpa false
namespace Go.Fw
open Go Go.RowKit
structure BTr where
  k : Nat
  y : BT k
  u : List Bool
def allS : Span := ⟨Str.nil, Str.nil, true⟩
theorem allS_norm : allS.norm = allS := rfl
theorem allS_has (q : Str) : allS.has q = true := by
  unfold allS Span.has
  rw [Str.nil_le]; rfl
structure TOk (fan leaf : Int) (t : BTr) : Prop where
  ok : BT.ok fan leaf t.k (if t.k = 0 then 0 else 2) (mxB fan leaf t.k) allS t.y
  us : UsN t.u (nds t.k t.y)
  nd : ((nds t.k t.y).map BNd.slot).Nodup
  all : ∀ s, hasN t.u s = true → s ∈ (nds t.k t.y).map BNd.slot
  len : t.u.length ≤ 4096
  cfg : 4 ≤ fan ∧ fan ≤ 64 ∧ 2 ≤ leaf ∧ leaf ≤ 64
section
variable {fan leaf : Int} {key : Str} {e : Eff}
theorem mem_used {u : List Bool} {s : Int} : s ∈ usedN u ↔ hasN u s = true := by
  unfold usedN
  rw [List.mem_map, hasN_iff]
  constructor
  · rintro ⟨i, hi, rfl⟩
    rw [List.mem_filter, List.mem_range] at hi
    obtain ⟨h1, h2⟩ := hi
    rw [getD_at9 h1] at h2
    exact ⟨i, h1, rfl, h2⟩
  · rintro ⟨i, h, rfl, h2⟩
    exact ⟨i, List.mem_filter.2 ⟨List.mem_range.2 h, by rw [getD_at9 h]; exact h2⟩, rfl⟩
theorem used_nodup (u : List Bool) : (usedN u).Nodup := by
  unfold usedN
  have h : List.Pairwise (fun a b : Nat => a ≠ b) ((List.range u.length).filter fun i => u.getD i true) := List.Pairwise.sublist List.filter_sublist List.nodup_range
  exact List.Pairwise.map _ (fun a b h e => h (by have e : (a : Int) = (b : Int) := e; omega)) h
theorem TOk.perm {t : BTr} (h : TOk fan leaf t) : (usedN t.u).Perm ((nds t.k t.y).map BNd.slot) := perm_of_mem (used_nodup _) h.nd fun s => by
  rw [mem_used]
  exact ⟨h.all s, us_slot.1 h.us s⟩
theorem TOk.count {t : BTr} (h : TOk fan leaf t) : (usedN t.u).length = (nds t.k t.y).length := by rw [h.perm.length_eq, List.length_map]
theorem nds_gt : ∀ {k : Nat} {y : BT k} {lo hi : Int} {s : Span}, s.norm = s → BT.ok fan leaf k lo hi s y → k < (nds k y).length
  | 0, _, _, _, _, _, _ => by show 0 < 1; omega
  | k + 1, y, lo, hi, s, hs, h => by
    have hl := h.2.len
    obtain ⟨v, hv2, v1, _, v3, _⟩ := h.2.at hs (i := 0) (by omega)
    have ih := nds_gt v1 v3
    rw [nds_succ, flat_kid hv2, List.length_cons, List.length_append, List.length_append]
    omega
theorem TOk.high {t : BTr} (h : TOk fan leaf t) : t.k < 4096 := by
  have h1 := nds_gt allS_norm h.ok
  have h2 := h.count
  have h3 := free_used t.u
  have h4 := h.len
  omega
theorem TOk.rows {t : BTr} (h : TOk fan leaf t) : PairsR (BT.rows t.k t.y) := (BT.ok.rows allS_norm h.ok).1
/-! ## What is full on a way -/
def cfB (fan leaf : Int) (key : Str) : (k : Nat) → BT k → Nat
  | 0, y => if fulN fan leaf (ndB 0 y) = true then 1 else 0
  | k + 1, y => if cfB fan leaf key k ((ndK y).getD (routeN (ndP y) key) default) = k + 1 then (if fulN fan leaf (ndB (k + 1) y) = true then k + 2 else k + 1) else cfB fan leaf key k ((ndK y).getD (routeN (ndP y) key) default)
theorem tw_snoc {l : List Bool} {b : Bool} : ((b :: l).reverse.takeWhile id).length = if (l.reverse.takeWhile id).length = l.length then (if b = true then l.length + 1 else l.length) else (l.reverse.takeWhile id).length := by
  rw [List.reverse_cons]
  by_cases h : (l.reverse.takeWhile id).length = l.length
  · rw [if_pos h]
    have h2 : l.reverse.takeWhile id = l.reverse := List.Sublist.eq_of_length (List.takeWhile_sublist _) (by rw [h, List.length_reverse])
    have h3 : ∀ a ∈ l.reverse, id a = true := fun a ha => by
      rw [← h2] at ha
      exact List.all_eq_true.1 List.all_takeWhile a ha
    rw [List.takeWhile_append_of_pos h3]
    cases b <;> simp
  · rw [if_neg h]
    have h2 : (l.reverse ++ [b]).takeWhile id = l.reverse.takeWhile id := by
      rw [List.takeWhile_append, if_neg]
      rw [List.length_reverse]; exact h
    rw [h2]
theorem cfB_eq : ∀ {k : Nat} {y : BT k}, cfB fan leaf key k y = (((pathB key k y).map (fulN fan leaf)).reverse.takeWhile id).length
  | 0, y => by
    unfold cfB pathB
    cases h : fulN fan leaf (ndB 0 y) <;> simp [h]
  | k + 1, y => by
    have ih := cfB_eq (k := k) (y := (ndK y).getD (routeN (ndP y) key) default)
    have hl : ((pathB key k ((ndK y).getD (routeN (ndP y) key) default)).map (fulN fan leaf)).length = k + 1 := by rw [List.length_map, pathB_len]
    show (if cfB fan leaf key k _ = k + 1 then _ else _) = (((fulN fan leaf (ndB (k + 1) y)) :: (pathB key k ((ndK y).getD (routeN (ndP y) key) default)).map (fulN fan leaf)).reverse.takeWhile id).length
    rw [tw_snoc, hl, ← ih]
theorem cfB_le {k : Nat} {y : BT k} : cfB fan leaf key k y ≤ k + 1 := by
  rw [cfB_eq]
  have := (List.takeWhile_sublist (p := id) (l := ((pathB key k y).map (fulN fan leaf)).reverse)).length_le
  rw [List.length_reverse, List.length_map, pathB_len] at this
  exact this
theorem need_cf {k : Nat} {y : BT k} : needN ((pathB key k y).map (fulN fan leaf)) = if cfB fan leaf key k y = k + 1 then k + 2 else cfB fan leaf key k y := by
  unfold needN
  rw [← cfB_eq, List.length_map, pathB_len]
theorem sp_cf : ∀ {k : Nat} {y : BT k} {lo hi : Int} {s : Span}, s.norm = s → BT.ok fan leaf k lo hi s y → spB fan leaf key e k y ≤ cfB fan leaf key k y
  | 0, y, lo, hi, s, hs, h => by
    have hw := h.2.1.srt.with_len key e
    unfold spB cfB
    split
    · omega
    · rename_i h1
      rw [if_pos]
      · exact Nat.le_refl _
      · unfold fulN
        rw [if_pos (show (ndB 0 y).lvl = 0 from rfl)]
        exact decide_eq_true (by show leaf ≤ ((lfR y).length : Int); omega)
  | k + 1, y, lo, hi, s, hs, h => by
    have hl := kid_at hs h key
    obtain ⟨v, _, v1, _, v3, _⟩ := h.2.at hs (i := routeN (ndP y) key) (List.length_filter_le _ _)
    have ih := sp_cf v1 v3
    have hc := cfB_le (fan := fan) (leaf := leaf) (key := key) (k := k) (y := (ndK y)[routeN (ndP y) key])
    rw [spB_at hl]
    show _ ≤ if cfB fan leaf key k ((ndK y).getD _ _) = k + 1 then _ else cfB fan leaf key k ((ndK y).getD _ _)
    rw [getD_lt hl]
    by_cases h1 : spB fan leaf key e k (ndK y)[routeN (ndP y) key] = k + 1
    · have hce : cfB fan leaf key k (ndK y)[routeN (ndP y) key] = k + 1 := by omega
      by_cases h2 : ((ndK y).length : Int) + 1 ≤ fan
      · rw [if_pos h1, if_pos h2, if_pos hce]; split <;> omega
      · rw [if_pos h1, if_neg h2, if_pos hce, if_pos]
        · exact Nat.le_refl _
        · unfold fulN
          rw [if_neg (by rw [ndB_lvl]; omega)]
          exact decide_eq_true (by show fan ≤ (((ndK y).map BT.slot).length : Int); rw [List.length_map]; omega)
    · rw [if_neg h1]
      split
      · split <;> omega
      · exact ih
def leafB (key : Str) : (k : Nat) → BT k → List Pair
  | 0, y => lfR y
  | k + 1, y => leafB key k ((ndK y).getD (routeN (ndP y) key) default)
theorem path_leaf {k : Nat} {y : BT k} : ∃ h : k < (pathB key k y).length, (pathB key k y)[k] = ndB 0 (mkL (pathB key k y)[k].slot (leafB key k y)) := by
  induction k with
  | zero => exact ⟨Nat.zero_lt_one, rfl⟩
  | succ k ih =>
    obtain ⟨h, e⟩ := ih (y := (ndK y).getD (routeN (ndP y) key) default)
    refine ⟨by rw [pathB_len]; omega, ?_⟩
    exact e
theorem with_has {l : List Pair} (h : Srt l) {k : Str} {e : Eff} (hs : (getN l k).isSome = true) : (withN l k e).length ≤ l.length := by
  have hh := h.has k
  rw [hs] at hh
  obtain ⟨q1, q2⟩ := of_decide_eq_true hh.symm
  rw [withN_mid, h.front, h.back_yes q1 q2, List.length_append, List.length_append, List.length_take, List.length_drop]
  have : (midN (Eff.apply e (getN l k)) k).length ≤ 1 := by
    unfold midN
    split <;> simp
  omega
theorem sp_fits (hk12 : e.kind = 1 ∨ e.kind = 2) : ∀ {k : Nat} {y : BT k} {lo : Int} {s : Span}, s.norm = s → BT.ok fan leaf k lo (mxB fan leaf k) s y → fitsN (leafB key k y) key e leaf = true → spB fan leaf key e k y = 0
  | 0, y, lo, s, hs, h, hf => by
    unfold spB
    rw [if_pos]
    have h1 : ((lfR y).length : Int) ≤ leaf := h.1.2
    have hw := h.2.1.srt.with_len key e
    have hf : fitsN (lfR y) key e leaf = true := hf
    unfold fitsN at hf
    have h2 : (decide (e.kind = 1) || decide (e.kind = 2)) = true := by
      rcases hk12 with h9 | h9 <;> simp [h9]
    rw [h2, Bool.not_true, Bool.or_false, Bool.or_eq_true, decide_eq_true_eq] at hf
    rcases hf with hf | hf
    · have := with_has (e := e) h.2.1.srt hf; omega
    · omega
  | k + 1, y, lo, s, hs, h, hf => by
    have hl := kid_at hs h key
    obtain ⟨v, _, v1, _, v3, _⟩ := h.2.at hs (i := routeN (ndP y) key) (List.length_filter_le _ _)
    have hf : fitsN (leafB key k ((ndK y).getD (routeN (ndP y) key) default)) key e leaf = true := hf
    rw [getD_lt hl] at hf
    have ih := sp_fits hk12 v1 v3 hf
    rw [spB_at hl, ih, if_neg (by omega)]
def needT (fan leaf : Int) (key : Str) (k : Nat) (y : BT k) : Nat := needN ((pathB key k y).map (fulN fan leaf))
theorem sp_need {k : Nat} {y : BT k} {lo hi : Int} {s : Span} (hs : s.norm = s) (h : BT.ok fan leaf k lo hi s y) : spB fan leaf key e k y ≤ needT fan leaf key k y ∧ (spB fan leaf key e k y = k + 1 → needT fan leaf key k y = k + 2) := by
  have h1 := sp_cf (key := key) (e := e) hs h
  have h2 := cfB_le (fan := fan) (leaf := leaf) (key := key) (k := k) (y := y)
  unfold needT
  rw [need_cf]
  constructor
  · split <;> omega
  · intro h3
    rw [if_pos (by omega)]
/-! ## An effect -/
def rootB {k : Nat} (r : InsT k) : BTr :=
  match r.1.2 with
  | none => ⟨k, r.1.1, r.2⟩
  | some w => ⟨k + 1, mkN (firstN r.2 : Int) [w.1] [r.1.1, w.2], r.2.set (firstN r.2) true⟩
theorem rootB_n {k : Nat} {r : InsT k} (h : r.1.2 = none) : rootB r = ⟨k, r.1.1, r.2⟩ := by unfold rootB; rw [h]
theorem rootB_s {k : Nat} {r : InsT k} {w : Str × BT k} (h : r.1.2 = some w) : rootB r = ⟨k + 1, mkN (firstN r.2 : Int) [w.1] [r.1.1, w.2], r.2.set (firstN r.2) true⟩ := by unfold rootB; rw [h]
def roomT (fan leaf : Int) (key : Str) (e : Eff) (t : BTr) : Bool := fitsN (leafB key t.k t.y) key e leaf || decide (needT fan leaf key t.k t.y ≤ (freeN t.u).length)
def putT (fan leaf : Int) (key : Str) (e : Eff) (t : BTr) : Int × BTr := if roomT fan leaf key e t = true then (0, rootB (insB fan leaf key e t.k t.y t.u)) else (4, t)
theorem putT_t {t : BTr} (h : roomT fan leaf key e t = true) : putT fan leaf key e t = (0, rootB (insB fan leaf key e t.k t.y t.u)) := if_pos h
theorem putT_f {t : BTr} (h : roomT fan leaf key e t = false) : putT fan leaf key e t = (4, t) := if_neg (by rw [h]; simp)
theorem TOk.room {t : BTr} (h : TOk fan leaf t) (hk12 : e.kind = 1 ∨ e.kind = 2) (hr : roomT fan leaf key e t = true) : spB fan leaf key e t.k t.y ≤ (freeN t.u).length ∧ (spB fan leaf key e t.k t.y = t.k + 1 → spB fan leaf key e t.k t.y + 1 ≤ (freeN t.u).length) := by
  unfold roomT at hr
  rw [Bool.or_eq_true, decide_eq_true_eq] at hr
  rcases hr with hr | hr
  · have := sp_fits hk12 allS_norm h.ok hr
    omega
  · obtain ⟨h1, h2⟩ := sp_need (key := key) (e := e) allS_norm h.ok
    exact ⟨by omega, fun h3 => by have := h2 h3; omega⟩
theorem TOk.mk9 {u u' : List Bool} {new : List Int} {t : BTr} {l' : List BNd} (h : TOk fan leaf t) (hn : NewS t.u u' new) (hp : (l'.map BNd.slot).Perm ((nds t.k t.y).map BNd.slot ++ new)) : UsN u' l' ∧ (l'.map BNd.slot).Nodup ∧ (∀ s, hasN u' s = true → s ∈ l'.map BNd.slot) ∧ u'.length ≤ 4096 := by
  refine ⟨hn.us h.us hp, hp.nodup_iff.2 (List.nodup_append.2 ⟨h.nd, hn.nd, fun a ha b hb e => ?_⟩), fun s hs => hp.mem_iff.2 ?_, by rw [hn.len]; exact h.len⟩
  · subst e
    have := hn.no a hb
    rw [us_slot.1 h.us a ha] at this; cases this
  · rcases (hn.iff s).1 hs with h9 | h9
    · exact List.mem_append_left _ (h.all s h9)
    · exact List.mem_append_right _ h9
theorem put_ok {t : BTr} (h : TOk fan leaf t) (he : Grows e) (hk12 : e.kind = 1 ∨ e.kind = 2) (hk16 : key.b.size ≤ 16) (he16 : e.val.b.size ≤ 16) (hr : roomT fan leaf key e t = true) :
    TOk fan leaf (rootB (insB fan leaf key e t.k t.y t.u)) ∧ BT.rows _ (rootB (insB fan leaf key e t.k t.y t.u)).y = withN (BT.rows t.k t.y) key e := by
  obtain ⟨c1, c2, c3, c4⟩ := h.cfg
  obtain ⟨r1, r2⟩ := h.room hk12 hr
  have g1 := (ins_ok (fan := fan) (leaf := leaf) c1 c3 he hk16 he16 t.k t.u allS_norm (allS_has key) h.ok).1
  obtain ⟨new, n1, n2, n3, n4⟩ := ins_new (key := key) (e := e) c1 allS_norm h.ok r1
  have hso := ins_some (key := key) (e := e) (u := t.u) allS_norm h.ok
  generalize insB fan leaf key e t.k t.y t.u = r at *
  unfold InsOk at g1
  cases hr2 : r.1.2 with
  | none =>
    rw [hr2] at g1
    rw [rootB_n hr2]
    rw [btN_n hr2] at n2
    obtain ⟨a1, a2, a3, a4⟩ := h.mk9 (u := t.u) n1 n2
    exact ⟨⟨g1.1, a1, a2, a3, a4, h.cfg⟩, g1.2⟩
  | some w =>
    rw [hr2] at g1
    rw [rootB_s hr2]
    rw [btN_s hr2] at n2
    obtain ⟨b1, b2, b3, b4, b5⟩ := g1
    have hf : firstN r.2 < r.2.length := firstN_lt (by have := r2 (hso.1 (by rw [hr2]; rfl)); omega)
    have m1 := n1.trans (new_one hf)
    have m2 : ((nds (t.k + 1) (mkN (firstN r.2 : Int) [w.1] [r.1.1, w.2])).map BNd.slot).Perm ((nds t.k t.y).map BNd.slot ++ (new ++ [(firstN r.2 : Int)])) := by
      rw [nds_mk, List.flatMap_cons, List.flatMap_cons, List.flatMap_nil, List.append_nil, ← List.append_assoc]
      exact (List.Perm.cons _ n2).trans (List.perm_append_singleton _ _).symm
    obtain ⟨a1, a2, a3, a4⟩ := h.mk9 (u := t.u) m1 m2
    refine ⟨⟨?_, a1, a2, a3, a4, h.cfg⟩, ?_⟩
    · show BT.ok fan leaf (t.k + 1) (if t.k + 1 = 0 then 0 else 2) (mxB fan leaf (t.k + 1)) allS _
      rw [if_neg (by omega)]
      exact ⟨⟨by show (2 : Int) ≤ ((2 : Nat) : Int); omega, by show ((2 : Nat) : Int) ≤ fan; omega⟩, ch_cons.2 ⟨b1, b2, b3, ch_one.2 b4⟩⟩
    · show ([r.1.1, w.2] : List (BT t.k)).flatMap (BT.rows t.k) = _
      rw [List.flatMap_cons, List.flatMap_cons, List.flatMap_nil, List.append_nil, b5]
/-! ## A key taken away -/
def rootD : (k : Nat) → BT k → List Bool → BTr
  | 0, y, u => ⟨0, y, u⟩
  | k + 1, y, u => if (ndK y).length = 1 then ⟨k, (ndK y).getD 0 default, u.set y.slot.toNat false⟩ else ⟨k + 1, y, u⟩
def delT (fan leaf : Int) (key : Str) (t : BTr) : BTr := rootD t.k (remB fan leaf key t.k t.y t.u).1 (remB fan leaf key t.k t.y t.u).2
theorem rootD_ok : ∀ {k : Nat} {y : BT k} {u : List Bool}, BT.ok fan leaf k (if k = 0 then 0 else 1) (mxB fan leaf k) allS y → UsN u (nds k y) → ((nds k y).map BNd.slot).Nodup → (∀ s, hasN u s = true → s ∈ (nds k y).map BNd.slot) → u.length ≤ 4096 → 4 ≤ fan ∧ fan ≤ 64 ∧ 2 ≤ leaf ∧ leaf ≤ 64 →
    TOk fan leaf (rootD k y u) ∧ BT.rows _ (rootD k y u).y = BT.rows k y
  | 0, y, u, h, hu, hn, ha, hl, hc => ⟨⟨h, hu, hn, ha, hl, hc⟩, rfl⟩
  | k + 1, y, u, h, hu, hn, ha, hl, hc => by
    by_cases h1 : (ndK y).length = 1
    · rw [show rootD (k + 1) y u = ⟨k, (ndK y).getD 0 default, u.set y.slot.toNat false⟩ from if_pos h1]
      have hlen := h.2.len
      obtain ⟨c, hc1⟩ : ∃ c, ndK y = [c] := by
        match hK : ndK y, h1 with
        | [c], _ => exact ⟨c, rfl⟩
      have hch := h.2
      have hP : ndP y = [] := List.eq_nil_of_length_eq_zero (by omega)
      rw [hc1, hP, ch_one] at hch
      have hg : (ndK y).getD 0 default = c := by rw [hc1]; rfl
      rw [hg]
      have hns : (nds (k + 1) y).map BNd.slot = y.slot :: (nds k c).map BNd.slot := by
        rw [nds_succ, List.map_cons, ndB_slot, hc1, List.flatMap_cons, List.flatMap_nil, List.append_nil]
      have hus : hasN u y.slot = true := by have := hu _ nds_head; rwa [ndB_slot] at this
      have hd := del_one hus
      rw [hns, List.nodup_cons] at hn
      refine ⟨⟨?_, us_slot.2 fun s hs => (hd.iff s).2 ⟨us_slot.1 hu s (by rw [hns]; exact List.mem_cons_of_mem _ hs), fun h9 => hn.1 (by rw [List.mem_singleton] at h9; rw [← h9]; exact hs)⟩, hn.2, fun s hs => ?_, by rw [List.length_set]; exact hl, hc⟩, ?_⟩
      · refine hch.to ?_ hch.cnt.2
        have := hch.cnt.1
        show (if k = 0 then (0 : Int) else 2) ≤ _
        split
        · omega
        · rename_i h9
          unfold mnB at this
          rw [if_neg h9] at this
          omega
      · obtain ⟨a1, a2⟩ := (hd.iff s).1 hs
        have := ha s a1
        rw [hns] at this
        rcases List.mem_cons.1 this with h9 | h9
        · exact absurd (List.mem_singleton.2 h9) a2
        · exact h9
      · show BT.rows k c = (ndK y).flatMap (BT.rows k)
        rw [hc1, List.flatMap_cons, List.flatMap_nil, List.append_nil]
    · rw [show rootD (k + 1) y u = ⟨k + 1, y, u⟩ from if_neg h1]
      have h2 : (1 : Int) ≤ ((ndK y).length : Int) := h.1.1
      refine ⟨⟨?_, hu, hn, ha, hl, hc⟩, rfl⟩
      show BT.ok fan leaf (k + 1) (if k + 1 = 0 then 0 else 2) _ _ _
      rw [if_neg (by omega)]
      exact ⟨⟨by show (2 : Int) ≤ ((ndK y).length : Int); omega, h.1.2⟩, h.2⟩
theorem del_ok {t : BTr} (h : TOk fan leaf t) (hk16 : key.b.size ≤ 16) : TOk fan leaf (delT fan leaf key t) ∧ BT.rows _ (delT fan leaf key t).y = withN (BT.rows t.k t.y) key delE := by
  obtain ⟨c1, c2, c3, c4⟩ := h.cfg
  have hlo : t.k = 0 ∨ 2 ≤ (if t.k = 0 then (0 : Int) else 2) := by
    by_cases e : t.k = 0
    · exact .inl e
    · right; rw [if_neg e]; omega
  obtain ⟨g1, g2, g3⟩ := rem_ok (fan := fan) (leaf := leaf) (key := key) c1 c3 hk16 t.k t.u hlo allS_norm (allS_has key) h.ok
  obtain ⟨gone, d1, p1⟩ := rem_del (fan := fan) (leaf := leaf) (key := key) c1 c3 hk16 t.k t.u hlo allS_norm (allS_has key) h.ok h.us h.nd
  unfold delT
  generalize remB fan leaf key t.k t.y t.u = r at *
  have hnd := p1.nodup_iff.1 h.nd
  rw [List.nodup_append] at hnd
  obtain ⟨a1, a2⟩ := rootD_ok (fan := fan) (leaf := leaf) (k := t.k) (y := r.1) (u := r.2) (g1.to (by
      have := g1.cnt.1
      by_cases e : t.k = 0
      · rw [if_pos e]; omega
      · rw [if_neg e] at this ⊢; omega) g1.cnt.2)
    (us_slot.2 fun s hs => (d1.iff s).2 ⟨us_slot.1 h.us s (p1.mem_iff.2 (List.mem_append_left _ hs)), fun h9 => hnd.2.2 s hs s h9 rfl⟩) hnd.1
    (fun s hs => by
      obtain ⟨b1, b2⟩ := (d1.iff s).1 hs
      rcases List.mem_append.1 (p1.mem_iff.1 (h.all s b1)) with h9 | h9
      · exact h9
      · exact absurd h9 b2) (by rw [d1.len]; exact h.len) h.cfg
  exact ⟨a1, a2.trans g2⟩
end
abbrev BpM (AR : Nat → GH → List (Option Nat) × List Bool → MH → Prop) (Tt Tn Ts : TypeId) (bt : Nat) (fan leaf : Int) (G : GH) (t : BTr) (Ms : MH) : Prop :=
  ∃ ba root cells Ma Mn, Ms.Perm ((bt, .cells (List.toArray [.pointer (some ⟨ba, 0, none⟩), .int .i64 root, .int .i64 fan, .int .i64 leaf]) Tt (0, 0)) :: (Ma ++ Mn)) ∧ root = t.y.slot ∧ AR ba G (cells, t.u) Ma ∧ NsM Tn Ts cells (nds t.k t.y) G Mn
theorem BpM.to {AR : Nat → GH → List (Option Nat) × List Bool → MH → Prop} {Tt Tn Ts : TypeId} {bt : Nat} {fan leaf : Int} {G : GH} {t t' : BTr} {Ms : MH} (e : t = t') (h : BpM AR Tt Tn Ts bt fan leaf G t' Ms) : BpM AR Tt Tn Ts bt fan leaf G t Ms := e ▸ h
theorem Ok.to {E : Env} {f : Fr} {G : GH} {M : MH} {o : Oper} {v v' : Value} (h : Ok E f G M o v) (e : v = v') : Ok E f G M o v' := e ▸ h
section
variable {fan leaf : Int} {key : Str}
theorem leafB_ok : ∀ {k : Nat} {y : BT k} {lo : Int} {s : Span}, s.norm = s → s.has key = true → BT.ok fan leaf k lo (mxB fan leaf k) s y → PairsR (leafB key k y) ∧ ((leafB key k y).length : Int) ≤ leaf ∧ getN (leafB key k y) key = getN (BT.rows k y) key
  | 0, y, lo, s, hs, hk, h => ⟨h.2.1, h.1.2, rfl⟩
  | k + 1, y, lo, s, hs, hk, h => by
    have hl := kid_at hs h key
    obtain ⟨v, _, v1, v2, v3, _⟩ := h.2.at hs (i := routeN (ndP y) key) (List.length_filter_le _ _)
    have hv : v.has key = true := by rw [v2, hk, decide_eq_true rfl]; rfl
    obtain ⟨a1, a2, a3⟩ := leafB_ok v1 hv v3
    have e : leafB key (k + 1) y = leafB key k (ndK y)[routeN (ndP y) key] := by
      show leafB key k ((ndK y).getD _ _) = _
      rw [getD_lt hl]
    rw [e]
    refine ⟨a1, a2, ?_⟩
    obtain ⟨ha, hc⟩ := Ch.ahead (f := BT.rows k) (fun u c hu hc => BT.ok.rows hu hc) hs h.2 hk
    show _ = getN ((ndK y).flatMap (BT.rows k)) key
    rw [flat_at (BT.rows k) hl, getN_mid ha hc, a3]
end
theorem NsM.leaf {Tn Ts : TypeId} {cells : List (Option Nat)} {G : GH} {fan leaf : Int} {key : Str} {k : Nat} {y : BT k} {lo hi : Int} {s : Span} {Ms : MH} (hs : s.norm = s) (hok : BT.ok fan leaf k lo hi s y) (h : NsM Tn Ts cells (nds k y) G Ms) :
    ∃ b l vp vk vr, (b, Obj.cells (List.toArray [.int .i64 l, vp, vk, vr]) Tn (0, 0)) ∈ Ms ∧ SlR ePair G vr (leafB key k y) ∧ ∃ h : k < ((pathB key k y).map (ptB cells)).length, ((pathB key k y).map (ptB cells))[k] = some b := by
  obtain ⟨h1, h2⟩ := path_leaf (key := key) (k := k) (y := y)
  obtain ⟨b, vp, vk, vr, Mp, a1, a2, a3, a4, a5, a6⟩ := h.mem _ (path_mem hs hok _ (List.getElem_mem h1))
  refine ⟨b, _, vp, vk, vr, a2, ?_, by rw [List.length_map]; exact h1, ?_⟩
  · rw [h2] at a6; exact a6
  · rw [List.getElem_map]; exact a1.pt
theorem one_list {k : Nat} {l : List (BT k)} (h : l.length = 1) : l = [l.getD 0 default] := by
  match l, h with
  | [c], _ => rfl
end Go.Fw
