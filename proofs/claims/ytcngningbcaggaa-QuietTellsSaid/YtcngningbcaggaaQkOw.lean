/- A cycle does something where messages wait at the root, or tells that there is no room. Plain Lean; nothing of the program is named here. No condition. -/
import Derived.Test.YtcngningbcaggaaQkOr
set_option linter.unusedVariables false
set_option linter.unusedSimpArgs false
set_option linter.unnecessarySimpa false
set_option maxRecDepth 100000

namespace Go.Fw
open Go Go.RowKit
theorem cyc_mono {c : Cfg} {k : Str} : ∀ (m : Nat) {l : List Nd} {a n : Int} {r : Int × Int × List Nd}, cycF c k m l a n = some r → n ≤ r.1
 | 0, _, _, _, _, h => by cases h
 | m + 1, l, a, n, r, h => by
  by_cases h0 : (stepN c l a k).1.1 = 0
  ·rw [cyc_end h0] at h; cases h; exact Int.le_refl _
  ·by_cases h5 : (stepN c l a k).1.1 = 5
   ·rw [cyc_down h5] at h; exact cyc_mono m h
   ·rw [cyc_did h0 h5] at h
    have := cyc_mono m h
    omega
theorem victim_for {P : List Str} {l : List Msg} (hr : rising P = true) (hR : ∀ m ∈ l, m.R) (h : 0 < l.length) : 0 < (forN P l (victimN P l).1).length := by
 have h1 := best_pos (P := P) h
 rw [victim_p h]
 have h2 : ∃ m ∈ frontN l, routeN P m.key = bestTo (wOf P (frontN l)) (P.length + 1) := by
  apply Classical.byContradiction
  intro hn
  have : (frontN l).filter (fun m => decide (routeN P m.key = bestTo (wOf P (frontN l)) (P.length + 1))) = [] := by
   rw [List.filter_eq_nil_iff]
   intro m hm h3
   exact hn ⟨m, hm, of_decide_eq_true h3⟩
  unfold wOf at h1 this
  rw [this] at h1
  simp [sizesN] at h1
 obtain ⟨m, hm, e⟩ := h2
 have hmR := hR m (front_mem hm)
 have hb : bestTo (wOf P (frontN l)) (P.length + 1) ≤ P.length := by rw [← e]; exact List.length_filter_le _ _
 have hcl : (m.clip (rangeN P ((bestTo (wOf P (frontN l)) (P.length + 1) : Nat) : Int))).2 = true := by
  have hne : ¬ (m.span.meet (rangeN P ((bestTo (wOf P (frontN l)) (P.length + 1) : Nat) : Int))).empty = true := fun h => by
   have := empty_iff.1 h m.key
   rw [meet_has, Msg.has_key hmR, range_has hr _ hb, e] at this
   simp at this
  unfold Msg.clip
  rw [if_neg hne]
  split <;> rfl
 dsimp only
 refine List.length_pos_of_mem (a := (m.clip (rangeN P ((bestTo (wOf P (frontN l)) (P.length + 1) : Nat) : Int))).1) (List.mem_filterMap.2 ⟨m, hm, ?_⟩)
 unfold forF
 rw [if_pos ⟨om9, hcl⟩]
theorem decide_30 {c : Cfg} {p k : Nd} {i : Int} (hp : fullN c p = false) (hf : 0 < (forN p.pivots p.msgs i).length) : ¬ decideN c p k i = 0 := by
 unfold decideN
 split
 ·rw [if_neg (by rw [hp]; simp)]; simp
 ·split
  ·simp
  ·split
   ·simp
   ·first
    | (rw [if_pos hf, if_neg (by rw [hp]; simp)]; simp; done)
    | (rw [if_neg (by rw [hp]; simp)]; simp)
theorem decide_33 {c : Cfg} {p k : Nd} {i : Int} (h : decideN c p k i = 3) : (0 < k.level ∧ fullN c k = true) ∨ (¬ 0 < k.level ∧ ¬ 0 < countN c.leaf c.bud p k i) := by
 unfold decideN at h
 split at h
 ·rename_i h1; exact .inl h1
 ·split at h
  ·cases h
  ·rename_i h2
   split at h
   ·cases h
   ·rename_i h3; exact .inr ⟨h3, h2⟩
theorem size_le {m : Msg} (h : m.R) : m.size ≤ 36 := by
 have := msgR_key h
 unfold Msg.size
 split <;> omega
theorem no_count {c : Cfg} {p k : Nd} {i : Int} (hc : CfgR c) (hk : KidOf p k i) (hR : ∀ m ∈ forN p.pivots p.msgs i, m.R) (hf : 0 < (forN p.pivots p.msgs i).length) (h : ¬ 0 < countN c.leaf c.bud p k i) :
  (k.level = 0 → 2 ≤ k.rows.length) ∧ (¬ k.level = 0 → 0 < k.msgs.length) := by
 obtain ⟨_, ⟨l1, l2⟩, ⟨b1, b2⟩, _⟩ := hc
 rw [count_t hk] at h
 obtain ⟨m, L, e⟩ : ∃ m L, forN p.pivots p.msgs i = m :: L := by
  cases hh : forN p.pivots p.msgs i with
  | nil => rw [hh] at hf; cases hf
  | cons m L => exact ⟨m, L, rfl⟩
 have hmR := hR m (by rw [e]; simp)
 rw [e] at h
 refine ⟨fun h0 => ?_, fun h0 => ?_⟩
 ·rw [moved_0 h0] at h
  dsimp only at h
  unfold drainN at h
  split at h
  ·dsimp only at h; omega
  ·rename_i h2
   rw [lfits_eq hmR] at h2
   unfold rfits20N at h2
   simp only [Bool.or_eq_true, decide_eq_true_eq, not_or] at h2
   omega
 ·rw [moved_n h0 rfl] at h
  dsimp only at h
  unfold addsN at h
  split at h
  ·omega
  ·rename_i h2
   apply Classical.byContradiction
   intro h3
   have h4 : k.msgs = [] := List.eq_nil_of_length_eq_zero om9
   apply h2
   rw [h4]
   have := size_le hmR
   simp [roomB, sizesN]
   omega
theorem cleave_leaf {n : Nd} {y : Int} (h0 : n.level = 0) (h : 2 ≤ n.rows.length) : (cleaveN n y).2.2.2 = true := by
 rw [cleave_ok, halvesN_0 h0]
 dsimp only
 rw [rowsN_t om9]
theorem cleave_inner {n : Nd} {y : Int} (h0 : ¬ n.level = 0) (hr : rightN n.pivots n.kids.length = true) (h : 4 ≤ n.kids.length) : (cleaveN n y).2.2.2 = true := by
 rw [cleave_ok, halvesN_k h0 hr]
 dsimp only
 have := (rightN_spec hr).2
 rw [halveN_t om9]
theorem adopt_t {n : Nd} {i : Nat} {k : Str} {v : Int} (h0 : ¬ n.level = 0) (hi : i < n.kids.length) (hk : (rangeN n.pivots (i : Int)).has k = true) (hl : ¬ k = (rangeN n.pivots (i : Int)).lo) : (adoptN n i k v).2 = true := by
 rw [adoptN_2 h0]
 rw [binsN_1 om9 hk hl]
 simp
theorem part_err {c : Cfg} {l : List Nd} {ss : List Seat} (t : Tree c l ss) {a i : Int} {P : Seat} (ha : 0 ≤ a ∧ a < l.length) (s : StepAt c l ss a i P) (hf : fullN c (getL l a) = false)
  (h : (0 < (kidAt l a i).level ∧ fullN c (kidAt l a i) = true) ∨ ((kidAt l a i).level = 0 ∧ 2 ≤ (kidAt l a i).rows.length)) : (partI c l a i).1 = 0 ∨ (partI c l a i).1 = 4 := by
 have hi := s.hi
 have hin : i.toNat < P.n.kids.length := om9
 have hat := t.at s.mem s.h0 hin
 have hkR := t.seat hat.1
 have ec : (cleaveN (kidAt l a i) l.length).2.2.2 = true := by
  rcases h with ⟨h1, h2⟩ | ⟨h1, h2⟩
  ·have h3 : ¬ (kidAt l a i).level = 0 := om9
   have h4 := t.inner hat.1 (by rw [s.kid]; exact h3)
   rw [s.kid] at h4
   refine cleave_inner h3 h4.2.1 ?_
   unfold fullN at h2
   rw [if_neg h3] at h2
   have := of_decide_eq_true h2
   obtain ⟨⟨f1, _⟩, _⟩ := t.cfg
   omega
  ·exact cleave_leaf h1 h2
 unfold partI
 rw [if_neg om9]
 have h3 : 0 ≤ kdN l a i.toNat ∧ kdN l a i.toNat < l.length := s.kin
 have e5 : (cutP l a i.toNat).2.2.2 = true := ec
 have e6 : (adP l a i.toNat).2 = true := by
  obtain ⟨x, y, q, hh, e, hv, _, _, _, _, _, _, hq⟩ := cleave_halves hkR.1 (y := (l.length : Int)) (by rw [s.kid]; exact ec)
  obtain ⟨g1, g2⟩ := t.k_in hat.1 hv hq
  have hks : (kidSt l P i.toNat).s = P.s.meet (rangeN P.n.pivots ((i.toNat : Nat) : Int)) := rfl
  rw [hks, meet_has, Bool.and_eq_true] at g1
  have eq : (cutP l a i.toNat).2.2.1 = q := by
   show (cleaveN (kidAt l a i) l.length).2.2.1 = q
   rw [← s.kid, e]
  show (adoptN (getL l a) i.toNat (cutP l a i.toNat).2.2.1 l.length).2 = true
  rw [eq, ← s.n]
  refine adopt_t s.h0 hin g1.2 (fun e7 => g2 ?_)
  rw [hks]
  have h8 : ¬ (P.s.meet (rangeN P.n.pivots ((i.toNat : Nat) : Int))).empty = true := fun h => by
   have := empty_iff.1 h q
   rw [meet_has, g1.1, g1.2] at this
   cases this
  unfold Span.meet at h8 ⊢
  rw [norm_lo h8]
  dsimp only
  split
  ·exact e7
  ·rename_i h9
   have h10 := (span_has.1 g1.1).1
   rw [e7] at h10
   rw [e7]
   cases h11 : P.s.lo.lt (rangeN P.n.pivots ((i.toNat : Nat) : Int)).lo
   ·exact (Str.lt_total h10 h11)
   ·exact absurd h11 h9
 by_cases h7 : (l.length : Int) < c.slots
 ·rw [partS_0 ha (by rw [← s.n]; omega) h3 hf e5 e6 h7]; exact .inl rfl
 ·rw [partS_4 ha (by rw [← s.n]; omega) h3 hf e5 e6 h7]; exact .inr rfl
theorem prog {c : Cfg} {k : Str} : ∀ (m : Nat) {l : List Nd} {ss : List Seat} {a n : Int} {r : Int × Int × List Nd}, Tree c l ss → 0 ≤ a ∧ a < l.length → ¬ (getL l a).level = 0 → 0 < (getL l a).msgs.length → fullN c (getL l a) = false → cycF c k m l a n = some r → n < r.1 ∨ r.2.1 = 4
 | 0, _, _, _, _, _, _, _, _, _, _, h => by cases h
 | m + 1, l, ss, a, n, r, t, ha, h0, hm, hf, h => by
  obtain ⟨Q, hQ, eQ⟩ := t.seat_of ha
  have hin := t.inner hQ (by rw [eQ]; exact h0)
  rw [eQ] at hin
  have hmR : ∀ m ∈ (getL l a).msgs, m.R := (MsgsR.iff.1 hin.2.2.1).1
  have hri := (rightN_spec hin.2.1).1
  have hfor := victim_for hri hmR hm
  have hc := choose_v (k := k) h0 (fun e => by rw [hf] at e; cases e.2) (show (victimN (getL l a).pivots (getL l a).msgs).2 = true by rw [victim_p hm])
  have hc1 : (chooseN c (getL l a) k).1 = 2 := by rw [hc]
  have hc2 : (chooseN c (getL l a) k).2 = (victimN (getL l a).pivots (getL l a).msgs).1 := by rw [hc]
  obtain ⟨_, hi1, hi2⟩ := choose_in t ha hc1
  obtain ⟨P, s⟩ := step_at t ha h0 ⟨hi1, hi2⟩
  have hst := step_2 hc1
  rw [← hc2] at hfor
  generalize (chooseN c (getL l a) k).2 = i at *
  have hforR : ∀ m ∈ forN (getL l a).pivots (getL l a).msgs i, m.R := for_R (fun q hq => by
   obtain ⟨j, hj, rfl⟩ := List.getElem_of_mem hq
   exact (hin.2.2.2.2.2.1 j hj).2.1) hmR
  obtain ⟨k1, k2, k3, k4⟩ := kid_low t s
  have hkl : 0 ≤ (kidAt l a i).level := by have := s.kof.1; omega
  rcases decide_cases c (getL l a) (kidAt l a i) i with hd | hd | ⟨hd, _⟩ | hd
  ·exact absurd hd (decide_30 hf hfor)
  ·have hpe : (partI c l a i).1 = 0 ∨ (partI c l a i).1 = 4 := by
    refine part_err t ha s hf ?_
    rcases decide_33 hd with h | ⟨h1, h2⟩
    ·exact .inl h
    ·have h3 : (kidAt l a i).level = 0 := om9
     exact .inr ⟨h3, (no_count t.cfg s.kof hforR hfor h2).1 h3⟩
   rcases hpe with h3 | h3
   ·have e := hst.trans (kid_3 hd h3)
    rw [cyc_did (by rw [e]; simp) (by rw [e]; simp)] at h
    have := cyc_mono m h
    exact .inl om9
   ·have e := hst.trans (kid_e hd om9)
    rw [cyc_end (by rw [e])] at h
    cases h
    exact .inr (by rw [e]; exact h3)
  ·have e := hst.trans (kid_4 hd)
   rw [cyc_did (by rw [e]; simp) (by rw [e]; simp)] at h
   have := cyc_mono m h
   exact .inl om9
  ·have e := hst.trans (kid_5 hd)
   obtain ⟨d1, d2, d3⟩ := decide_5 hd
   rw [cyc_down (by rw [e])] at h
   rw [e] at h
   dsimp only at h
   exact prog m t k4 (by rw [k3]; omega) (by rw [k3]; exact (no_count t.cfg s.kof hforR hfor d3).2 om9) (by rw [k3]; exact d2) h
theorem prog_root {c : Cfg} {k : Str} {m : Nat} {l : List Nd} {ss : List Seat} {r : Int × Int × List Nd} (t : Tree c l ss) (hm : 0 < (getL l 0).msgs.length) (h : cycF c k m l 0 0 = some r) : 0 < r.1 ∨ r.2.1 = 4 := by
 have ha : (0 : Int) ≤ 0 ∧ (0 : Int) < l.length := ⟨Int.le_refl _, by have := t.pos; omega⟩
 obtain ⟨Q, hQ, eQ⟩ := t.seat_of ha
 have h0 : ¬ (getL l 0).level = 0 := fun e => by
  have := t.nomsgs hQ (by rw [eQ]; exact e)
  rw [eQ] at this
  rw [this] at hm
  cases hm
 cases hf : fullN c (getL l 0)
 ·exact prog m t ha h0 hm hf h
 ·obtain ⟨m2, rfl⟩ : ∃ m2, m = m2 + 1 := by
   cases m with
   | zero => cases h
   | succ m2 => exact ⟨m2, rfl⟩
  have hsl := (getL_slot t.slot ha).1
  have hc1 : (chooseN c (getL l 0) k).1 = 1 := by rw [choose_1 h0 hsl hf]
  have hin := t.inner hQ (by rw [eQ]; exact h0)
  rw [eQ] at hin
  have hk4 : 4 ≤ (getL l 0).kids.length := by
   unfold fullN at hf
   rw [if_neg h0] at hf
   have := of_decide_eq_true hf
   obtain ⟨⟨f1, _⟩, _⟩ := t.cfg
   omega
  have hlf : (liftN (getL l 0) 0 0).2.2.2 = true := by rw [lift_ok]; exact cleave_inner h0 hin.2.1 hk4
  by_cases hr : c.slots.toNat - l.length < 2
  ·have e := step_e hc1 (show ¬ (liftS c l).1 = 0 by rw [liftS_4 hlf hr]; simp)
   rw [cyc_end (by rw [e])] at h
   cases h
   exact .inr (by rw [e, liftS_4 hlf hr])
  ·have e := step_1 hc1 (show (liftS c l).1 = 0 by rw [liftS_0 hlf hr])
   rw [cyc_did (by rw [e]; simp) (by rw [e]; simp)] at h
   have := cyc_mono m2 h
   exact .inl om9
section
variable {c : Cfg} {l : List Nd} {ss : List Seat}
def addsM (ms : List Msg) : Nat := (ms.filter fun m => decide (m.kind = 1 ∨ m.kind = 2)).length
def valN (c : Cfg) (n : Nd) : Nat := if n.level = 0 then 1 + (n.rows.length - (c.leaf.toNat + 1) / 2) else addsM n.msgs
def valL (c : Cfg) (l : List Nd) : Nat := (l.map (valN c)).sum
theorem valN_0 {n : Nd} (h : n.level = 0) : valN c n = 1 + (n.rows.length - (c.leaf.toNat + 1) / 2) := if_pos h
theorem valN_1 {n : Nd} (h : ¬ n.level = 0) : valN c n = addsM n.msgs := if_neg h
end
section
theorem addsM_cons (m : Msg) (ms : List Msg) : addsM (m :: ms) = (if m.kind = 1 ∨ m.kind = 2 then 1 else 0) + addsM ms := by
  unfold addsM
  rw [List.filter_cons]
  by_cases h : m.kind = 1 ∨ m.kind = 2
  · rw [if_pos (decide_eq_true h), if_pos h, List.length_cons]; omega
  · rw [if_neg (by simpa using h), if_neg h]; omega
theorem addsM_app (A B : List Msg) : addsM (A ++ B) = addsM A + addsM B := by unfold addsM; rw [List.filter_append, List.length_append]
theorem addsM_nil : addsM [] = 0 := rfl
theorem clip_kind (m : Msg) (s : Span) (h : (m.clip s).2 = true) : (m.clip s).1.kind = m.kind := by
  unfold Msg.clip at h ⊢
  split at h
  · cases h
  · rename_i h1
    rw [if_neg h1]
    split <;> rfl
theorem clip_put {m : Msg} (hR : m.R) (hk : m.kind = 1 ∨ m.kind = 2) (s : Span) (h : (m.clip s).2 = true) : s.has m.key = true := by
  cases hs : s.has m.key
  · exfalso
    have he : (m.span.meet s).empty = true := empty_iff.2 fun q => by
      rw [meet_has]
      cases hq : m.span.has q
      · rfl
      · have hsp : m.span = ⟨m.key, m.key.next, false⟩ := by unfold Msg.span; rw [if_neg (by omega)]
        rw [hsp, point_has (by have := (msgR_key hR).1; omega)] at hq
        have e : q = m.key := of_decide_eq_true hq
        rw [e, hs]; rfl
    unfold Msg.clip at h
    rw [if_pos he] at h
    cases h
  · rfl
theorem clips_cons9 (s : Span) (m : Msg) (ms : List Msg) : clips s (m :: ms) = (if (m.clip s).2 = true then [(m.clip s).1] else []) ++ clips s ms := by
  unfold clips
  rw [List.filterMap_cons]
  split <;> simp_all
theorem adds_two {s u : Span} (h : ∀ q, s.has q = true → u.has q = false) : ∀ {ms : List Msg}, (∀ m ∈ ms, m.R) → addsM (clips s ms) + addsM (clips u ms) ≤ addsM ms
  | [], _ => Nat.le_refl _
  | m :: ms, hR => by
    have ih := adds_two h (ms := ms) fun x hx => hR x (List.mem_cons_of_mem _ hx)
    have hm := hR m (by simp)
    rw [clips_cons9, clips_cons9, addsM_cons, addsM_app, addsM_app]
    have one : ∀ v : Span, addsM (if (m.clip v).2 = true then [(m.clip v).1] else []) = if (m.clip v).2 = true ∧ (m.kind = 1 ∨ m.kind = 2) then 1 else 0 := fun v => by
      cases hc : (m.clip v).2
      · rfl
      · rw [if_pos rfl, addsM_cons, clip_kind m v hc, addsM_nil]
        by_cases hk : m.kind = 1 ∨ m.kind = 2
        · rw [if_pos hk, if_pos ⟨rfl, hk⟩]
        · rw [if_neg hk, if_neg (fun h => hk h.2)]
    rw [one, one]
    by_cases hk : m.kind = 1 ∨ m.kind = 2
    · rw [if_pos hk]
      by_cases h1 : (m.clip s).2 = true
      · have h2 := h _ (clip_put hm hk s h1)
        have h3 : ¬ (m.clip u).2 = true := fun h4 => by rw [clip_put hm hk u h4] at h2; cases h2
        rw [if_pos ⟨h1, hk⟩, if_neg (fun h => h3 h.1)]; omega
      · rw [if_neg (fun h => h1 h.1)]
        split <;> omega
    · rw [if_neg hk, if_neg (fun h => hk h.2), if_neg (fun h => hk h.2)]; omega
end
end Go.Fw
