/- What counts does not grow with a cycle's steps. Plain Lean; nothing of the program is named here. No condition. -/
import Derived.Test.YtcngningbcaggaaQkOw
set_option linter.unusedVariables false
set_option linter.unusedSimpArgs false
set_option linter.unnecessarySimpa false
set_option maxHeartbeats 1000000
namespace Go.Fw
open Go Go.RowKit
theorem sum_set {f : Nd → Nat} : ∀ {l : List Nd} {i : Nat} (h : i < l.length) (x : Nd), ((l.set i x).map f).sum + f l[i] = (l.map f).sum + f x
  | n :: l, 0, _, x => by simp only [List.set_cons_zero, List.map_cons, List.sum_cons, List.getElem_cons_zero]; omega
  | n :: l, i + 1, h, x => by
    have := sum_set (f := f) (l := l) (i := i) (by simpa using h) x
    simp only [List.set_cons_succ, List.map_cons, List.sum_cons, List.getElem_cons_succ]
    omega
theorem lfits_len {rows : List Pair} {m : Msg} {n : Int} (hp : PairsR rows) (hm : m.R) (h : lfitsN rows m n = true) (hl : (rows.length : Int) ≤ n) : ((takeN rows m).length : Int) ≤ n := by
  have h1 := drain_len n [m] rows hp (fun x hx => by simp at hx; subst hx; exact hm)
  have h2 : (drainN n rows [m]).1 = takeN rows m := by
    show (if lfitsN rows m n = true then ((drainN n (takeN rows m) []).1, (drainN n (takeN rows m) []).2 + 1) else (rows, 0)).1 = _
    rw [if_pos h]
    cases htk : takeN rows m <;> rfl
  rw [h2] at h1
  omega
def addM (m : Msg) : Nat := if m.kind = 1 ∨ m.kind = 2 then 1 else 0
theorem take_adds {rows : List Pair} {m : Msg} (hp : PairsR rows) (hm : m.R) : (takeN rows m).length ≤ rows.length + addM m := by
  unfold addM
  by_cases hk : m.kind = 1 ∨ m.kind = 2
  · rw [if_pos hk]; exact hp.take_len m
  · rw [if_neg hk]
    have h3 : 3 ≤ m.kind := by
      have h := hm.2
      split at h
      · omega
      · rcases h.2.2 with h | h | h <;> omega
    have := lfits_len (n := rows.length) hp hm (by rw [lfits_eq hm]; unfold rfits20N; simp [h3]) (Int.le_refl _)
    omega
theorem fold_adds : ∀ {T : List Msg} {rows : List Pair}, PairsR rows → (∀ m ∈ T, m.R) → (foldN rows T).length ≤ rows.length + addsM T
  | [], _, _, _ => Nat.le_refl _
  | m :: T, rows, hp, hT => by
    have hm := hT m (by simp)
    have h1 := take_adds hp hm
    have h2 := fold_adds (T := T) (hp.takeM hm.1.2.1 hm.1.2.2.1) fun x hx => hT x (List.mem_cons_of_mem _ hx)
    rw [addsM_cons]
    unfold addM at h1
    show (foldN (takeN rows m) T).length ≤ _
    omega
theorem adds_four {m : Msg} (h : m.kind = 4) : addsM [m] = 0 := by rw [addsM_cons, if_neg (by omega)]; rfl
theorem adds_filter (p : Msg → Bool) : ∀ (L : List Msg), addsM (L.filter p) + addsM (L.filter fun m => !p m) = addsM L
  | [] => rfl
  | m :: L => by
    have ih := adds_filter p L
    cases h : p m
    · rw [List.filter_cons_of_neg (by simp [h]), List.filter_cons_of_pos (by simp [h]), addsM_cons, addsM_cons]; omega
    · rw [List.filter_cons_of_pos h, List.filter_cons_of_neg (by simp [h]), addsM_cons, addsM_cons]; omega
theorem moved_adds {P : List Str} {i : Nat} {l T : List Msg} (h : Moved P i l T) : addsM (restN P i T l) + addsM T ≤ addsM l := by
  cases h with
  | none hT => rw [hT, rest_nil, addsM_nil]; exact Nat.le_refl _
  | wipe w R hl hk hr hc hT hA =>
    rw [hA, hT, hl, addsM_app, addsM_cons w R, adds_four ((clip_kind w _ hc).trans hk)]
    have : addsM (if (withoutN w (rangeN P (i : Int))).2 = true then [(withoutN w (rangeN P (i : Int))).1] else []) = 0 := by
      split
      · rename_i h
        unfold withoutN at h ⊢
        split at h
        · cases h
        · rename_i h2
          rw [if_neg h2]
          exact adds_four ((clip_kind w _ h).trans hk)
      · rfl
    omega
  | points F R hl hF hT hA =>
    rw [hA, hT, hl, addsM_app, addsM_app]
    have := adds_filter (fun m => decide (routeN P m.key = i)) F
    omega
section
variable {c : Cfg} {l : List Nd} {ss : List Seat}
theorem pour_val (t : Tree c l ss) {a i : Int} {P : Seat} (s : StepAt c l ss a i P) (h4 : 0 < countN c.leaf c.bud (getL l a) (kidAt l a i) i) :
    valL c (pourL l (pourN c.leaf c.bud (getL l a) (kidAt l a i) i).1 (pourN c.leaf c.bud (getL l a) (kidAt l a i) i).2.1) ≤ valL c l := by
  obtain ⟨T, p⟩ := s.pour t h4
  have hmv := moved_adds p.mv
  have hTR : ∀ m ∈ T, m.R := fun m hm => by
    obtain ⟨n, _, _, e⟩ := p.po.take
    have hm2 : m ∈ forN P.n.pivots P.n.msgs (i.toNat : Int) := by rw [e] at hm; exact List.mem_of_mem_take hm
    exact for_R (fun q hq => by
      obtain ⟨j, hj, rfl⟩ := List.getElem_of_mem hq
      exact (p.pin.2.2.2.2.2.1 j hj).2.1) ((MsgsR.iff.1 p.pin.2.2.1).1) m hm2
  have hrows := t.rows p.km.1
  generalize (pourN c.leaf c.bud (getL l a) (kidAt l a i) i).1 = x at *
  generalize (pourN c.leaf c.bud (getL l a) (kidAt l a i) i).2.1 = y at *
  have hx : 0 ≤ x.slot ∧ x.slot < l.length := by rw [p.al.1]; exact p.sin p.mem
  have hy : 0 ≤ y.slot ∧ y.slot < l.length := by rw [p.bl.1]; exact p.sin p.km.1
  have hne : x.slot.toNat ≠ y.slot.toNat := by
    have := p.ksl
    rw [← p.al.1, ← p.bl.1] at this
    omega
  have hxl : x.slot.toNat < l.length := by omega
  have hyl : y.slot.toNat < (l.set x.slot.toNat x).length := by rw [List.length_set]; omega
  have e1 := sum_set (f := valN c) hxl x
  have e2 := sum_set (f := valN c) hyl y
  have gx : l[x.slot.toNat] = P.n := by
    have h := (t.nd p.mem).2.1
    rw [getL_in (p.sin p.mem)] at h
    have h2 := p.al.1
    simp only [h2]
    exact h.symm
  have gy : (l.set x.slot.toNat x)[y.slot.toNat] = (kidSt l P i.toNat).n := by
    rw [List.getElem_set_ne hne]
    have h := (t.nd p.km.1).2.1
    rw [getL_in (p.sin p.km.1)] at h
    have h2 := p.bl.1
    simp only [h2]
    exact h.symm
  rw [gx, valN_1 p.h0, valN_1 (by rw [p.al.2.1]; exact p.h0), p.al.2.2.2.2.2.2.2.2.2] at e1
  rw [gy] at e2
  have hv : valN c y ≤ valN c (kidSt l P i.toNat).n + addsM T := by
    by_cases h0 : (kidSt l P i.toNat).n.level = 0
    · rw [valN_0 h0, valN_0 (by rw [p.bl.2.1]; exact h0), (p.po.leaf h0).2.1]
      have := fold_adds hrows hTR
      omega
    · rw [valN_1 h0, valN_1 (by rw [p.bl.2.1]; exact h0), (p.po.inner h0).2.1, addsM_app]
      exact Nat.le_refl _
  unfold valL pourL
  omega
theorem lift_val (t : Tree c l ss) (h : (getL l 0).level = 0 → c.leaf ≤ ((getL l 0).rows.length : Int)) : valL c (liftS c l).2 ≤ valL c l := by
  have hp := t.pos
  unfold liftS
  split
  · exact Nat.le_refl _
  · split
    · exact Nat.le_refl _
    · rename_i h1 h2
      have hc : (liftN (getL l 0) l.length ((l.length : Int) + 1)).2.2.2 = true := by simpa using h1
      rw [lift_ok] at hc
      have hh : (halvesN (getL l 0)).2.2.2 = true := by rw [← cleave_ok]; exact hc
      rw [liftN_t hc, cleaveN_t hh]
      have e0 : getL l 0 = l[0] := getL_in ⟨Int.le_refl _, by omega⟩
      have hR := (t.seat t.root).1
      rw [t.rootn] at hR
      dsimp only
      unfold valL liftL
      have key : ∀ r a b : Nd, valN c r + valN c a + valN c b ≤ valN c (getL l 0) → (((l.set 0 r) ++ [a, b]).map (valN c)).sum ≤ (l.map (valN c)).sum := fun r a b hk => by
        have e1 := sum_set (f := valN c) hp r
        rw [← e0] at e1
        rw [List.map_append, List.sum_append]
        simp only [List.map_cons, List.map_nil, List.sum_cons, List.sum_nil]
        omega
      apply key
      have hlv := hR.1.2.1
      have er : ∀ k x y, valN c (liftR (getL l 0) k x y) = if (getL l 0).level = 0 then 0 else addsM (getL l 0).msgs := fun k x y => by
        rw [valN_1 (show ¬ (getL l 0).level + 1 = 0 by omega)]
        show addsM (if _ then _ else _) = _
        split <;> rfl
      rw [er]
      by_cases h0 : (getL l 0).level = 0
      · rw [if_pos h0, valN_0 h0, halvesN_0 h0]
        have hL := hR.2.2.2
        rw [if_pos h0] at hL
        have h9 := h h0
        have hle := hL.2.1
        obtain ⟨_, ⟨f1, f2⟩, _⟩ := t.cfg
        have hA : ∀ z s, z.level = 0 → z.rows.length ≤ (c.leaf.toNat + 1) / 2 → valN c (liftH (getL l 0) z s) ≤ 1 := fun z s e1 e2 => by
          refine Nat.le_trans (Nat.le_of_eq (valN_0 (show (liftH (getL l 0) z s).level = 0 from e1))) ?_
          show 1 + (z.rows.length - _) ≤ 1
          omega
        have hr := rowsN_t (l := (getL l 0).rows) (by omega)
        have hfin : 0 + 1 + 1 ≤ 1 + ((getL l 0).rows.length - (c.leaf.toNat + 1) / 2) := by omega
        refine Nat.le_trans (Nat.add_le_add (Nat.add_le_add_left (hA _ _ ?_ ?_) _) (hA _ _ ?_ ?_)) hfin
        · exact h0
        · show (rowsN (getL l 0).rows).1.length ≤ _
          rw [hr, List.length_take]; omega
        · exact h0
        · show (rowsN (getL l 0).rows).2.1.length ≤ _
          rw [hr, List.length_drop]; omega
      · rw [if_neg h0, valN_1 h0]
        have hz : ∀ z s, z.level = (getL l 0).level → valN c (liftH (getL l 0) z s) = 0 := fun z s e => by
          rw [valN_1 (show ¬ (liftH _ z _).level = 0 by show ¬ z.level = 0; rw [e]; exact h0)]; rfl
        have hlev : (halvesN (getL l 0)).1.level = (getL l 0).level ∧ (halvesN (getL l 0)).2.1.level = (getL l 0).level := by
          unfold halvesN
          rw [if_neg h0]
          split <;> exact ⟨rfl, rfl⟩
        refine Nat.le_trans (Nat.add_le_add (Nat.add_le_add_left (Nat.le_of_eq (hz _ _ ?_)) _) (Nat.le_of_eq (hz _ _ ?_))) (Nat.le_refl _)
        · exact hlev.1
        · exact hlev.2
theorem half_two {k : Str} : ∀ q, (⟨Str.nil, k, false⟩ : Span).has q = true → (⟨k, Str.nil, true⟩ : Span).has q = false := fun q h => by
  have h1 := (span_has.1 h).2
  rcases h1 with h1 | h1
  · cases h1
  · cases h2 : (⟨k, Str.nil, true⟩ : Span).has q
    · rfl
    · have h3 := (span_has.1 h2).1
      dsimp only at h1 h3
      rw [h1] at h3; cases h3
theorem part_val (t : Tree c l ss) {p i : Int} (h : (kidAt l p i).level = 0 → c.leaf ≤ ((kidAt l p i).rows.length : Int)) : valL c (partI c l p i).2 ≤ valL c l := by
  have hpos := t.pos
  unfold partI
  split
  · exact Nat.le_refl _
  · unfold kidAt at h
    generalize i.toNat = j at h ⊢
    unfold partS
    split
    · exact Nat.le_refl _
    · rename_i h1
      split
      · exact Nat.le_refl _
      · split
        · exact Nat.le_refl _
        · rename_i h3
          split
          · exact Nat.le_refl _
          · rename_i h4
            have h3 : (cutP l p j).2.2.2 = true ∧ (adP l p j).2 = true := by
              constructor
              · cases h5 : (cutP l p j).2.2.2
                · exact absurd (.inl h5) h3
                · rfl
              · cases h5 : (adP l p j).2
                · exact absurd (.inr h5) h3
                · rfl
            obtain ⟨e3, hj⟩ := adopt_eq (n := getL l p) h3.2
            have hin : ¬ (¬ (0 ≤ p ∧ p < l.length) ∨ (getL l p).kids.length ≤ j ∨ ¬ (0 ≤ kdN l p j ∧ kdN l p j < l.length)) := h1
            have hp2 : 0 ≤ p ∧ p < l.length := Classical.byContradiction fun e => hin (.inl e)
            have hk2 : 0 ≤ kdN l p j ∧ kdN l p j < l.length := Classical.byContradiction fun e => hin (.inr (.inr e))
            have hcs := (cut_slots h3.1).1
            obtain ⟨hks, hkm⟩ := getL_slot t.slot hk2
            obtain ⟨P, hP, eP⟩ := t.seat_of hp2
            have h0 : ¬ P.n.level = 0 := fun h0 => by have := (t.leaf hP h0).1; rw [eP] at this; omega
            obtain ⟨K, hK, eK⟩ := t.seat_of hk2
            have hjP : j < P.n.kids.length := by rw [eP]; exact hj
            have hat := t.at hP h0 hjP
            have ek : (kidSt l P j).n = getL l (kdN l p j) := by
              rw [hat.2.2.1]
              unfold kdN
              rw [← eP, List.getD_eq_getElem?_getD, List.getElem?_eq_getElem hjP]; rfl
            have hne : kdN l p j ≠ p := fun e => by
              have := hat.2.2.2
              rw [ek, eP, e] at this
              omega
            have hcut : (halvesN (getL l (kdN l p j))).2.2.2 = true := by rw [← cleave_ok _ (l.length : Int)]; exact h3.1
            have hA : valN c (cutP l p j).1 + valN c (cutP l p j).2.1 ≤ valN c (getL l (kdN l p j)) := by
              unfold cutP
              rw [cleaveN_t hcut]
              have hR := (t.seat hK).1
              rw [eK] at hR
              have hms := (t.msgs hK).2.1
              rw [eK] at hms
              by_cases hl0 : (getL l (kdN l p j)).level = 0
              · have hL := hR.2.2.2
                rw [if_pos hl0] at hL
                have h9 := h hl0
                have hle := hL.2.1
                obtain ⟨_, ⟨f1, f2⟩, _⟩ := t.cfg
                have h9 : c.leaf ≤ ((getL l (kdN l p j)).rows.length : Int) := h9
                rw [halvesN_0 hl0, valN_0 hl0]
                have hA : ∀ z : Nd, z.level = 0 → z.rows.length ≤ (c.leaf.toNat + 1) / 2 → valN c z ≤ 1 := fun z e1 e2 => by rw [valN_0 e1]; omega
                have hr := rowsN_t (l := (getL l (kdN l p j)).rows) (by omega)
                have hfin : 1 + 1 ≤ 1 + ((getL l (kdN l p j)).rows.length - (c.leaf.toNat + 1) / 2) := by omega
                refine Nat.le_trans (Nat.add_le_add (hA _ ?_ ?_) (hA _ ?_ ?_)) hfin
                · exact hl0
                · show (rowsN (getL l (kdN l p j)).rows).1.length ≤ _
                  rw [hr, List.length_take]; omega
                · exact hl0
                · show (rowsN (getL l (kdN l p j)).rows).2.1.length ≤ _
                  rw [hr, List.length_drop]; omega
              · cases hr : rightN (getL l (kdN l p j)).pivots (getL l (kdN l p j)).kids.length
                · rw [halvesN_n hl0 hr] at hcut; cases hcut
                · rw [halvesN_k hl0 hr, valN_1 hl0]
                  exact Nat.le_trans (Nat.add_le_add (Nat.le_of_eq (valN_1 hl0)) (Nat.le_of_eq (valN_1 hl0))) (adds_two half_two hms)
            have hB : valN c (adP l p j).1 = valN c (getL l p) := by
              show valN c (adoptN (getL l p) j _ _).1 = _
              rw [e3]
              rw [eP] at h0
              exact (valN_1 (show ¬ (adoptNd (getL l p) j _ _).level = 0 from h0)).trans (valN_1 h0).symm
            have hkl : (cutP l p j).1.slot.toNat < l.length := by rw [hcs, hks]; omega
            have e1 := sum_set (f := valN c) hkl (cutP l p j).1
            have hpl : p.toNat < (l.set (cutP l p j).1.slot.toNat (cutP l p j).1).length := by rw [List.length_set]; omega
            have e2 := sum_set (f := valN c) hpl (adP l p j).1
            have g1 : l[(cutP l p j).1.slot.toNat] = getL l (kdN l p j) := by
              rw [getL_in hk2]
              have h2 := hcs.trans hks
              simp only [h2]
            have g2 : (l.set (cutP l p j).1.slot.toNat (cutP l p j).1)[p.toNat] = getL l p := by
              rw [List.getElem_set_ne (by rw [hcs, hks]; omega), getL_in hp2]
            rw [g1] at e1
            rw [g2, hB] at e2
            unfold valL lstP
            rw [List.map_append, List.sum_append]
            simp only [List.map_cons, List.map_nil, List.sum_cons, List.sum_nil]
            omega
theorem no_room {p k : Nd} {i : Int} (hk : KidOf p k i) (hR : ∀ m ∈ forN p.pivots p.msgs i, m.R) (hf : 0 < (forN p.pivots p.msgs i).length) (h : ¬ 0 < countN c.leaf c.bud p k i) (h0 : k.level = 0) : c.leaf ≤ (k.rows.length : Int) := by
  rw [count_t hk] at h
  obtain ⟨m, L, e⟩ : ∃ m L, forN p.pivots p.msgs i = m :: L := by
    cases hh : forN p.pivots p.msgs i with
    | nil => rw [hh] at hf; cases hf
    | cons m L => exact ⟨m, L, rfl⟩
  have hmR := hR m (by rw [e]; simp)
  rw [e, moved_0 h0] at h
  dsimp only at h
  unfold drainN at h
  split at h
  · dsimp only at h; omega
  · rename_i h2
    rw [lfits_eq hmR] at h2
    unfold rfits20N at h2
    simp only [Bool.or_eq_true, decide_eq_true_eq, not_or] at h2
    omega
theorem decide_3r {p k : Nd} {i : Int} (h : decideN c p k i = 3) : 0 < k.level ∨ (0 < (forN p.pivots p.msgs i).length ∧ ¬ 0 < countN c.leaf c.bud p k i) := by
  unfold decideN at h
  split at h
  · rename_i h1; exact .inl h1.1
  · split at h
    · cases h
    · rename_i h2
      split at h
      · cases h
      · split at h
        · rename_i h4; exact .inr ⟨h4, h2⟩
        · cases h
theorem step_val (t : Tree c l ss) {a : Int} (ha : 0 ≤ a ∧ a < l.length) (k : Str) : valL c (stepN c l a k).2 ≤ valL c l := by
  rcases choose_cases c (getL l a) k with h1 | h1 | ⟨h1, _⟩
  · rw [step_0 h1]; exact Nat.le_refl _
  · obtain ⟨g1, g2, _⟩ := choose_is1 h1
    have hs := (getL_slot t.slot ha).1
    have e0 : a = 0 := by omega
    subst e0
    have hl := lift_val t (fun h => absurd h g1)
    by_cases h3 : (liftS c l).1 = 0
    · rw [step_1 h1 h3]; exact hl
    · rw [step_e h1 h3]; exact hl
  · obtain ⟨h0, hi⟩ := choose_in t ha h1
    obtain ⟨P, s⟩ := step_at t ha h0 hi
    rw [step_2 h1]
    generalize (chooseN c (getL l a) k).2 = i at *
    rcases decide_cases c (getL l a) (kidAt l a i) i with hd | hd | ⟨hd, hd2⟩ | hd
    · rw [kid_0 hd]; exact Nat.le_refl _
    · have hin := t.inner s.mem s.h0
      rw [s.n] at hin
      have hl := part_val t (p := a) (i := i) fun h9 => by
        rcases decide_3r hd with h | ⟨h5, h6⟩
        · omega
        · exact no_room s.kof (for_R (fun q hq => by
            obtain ⟨j, hj, rfl⟩ := List.getElem_of_mem hq
            exact (hin.2.2.2.2.2.1 j hj).2.1) ((MsgsR.iff.1 hin.2.2.1).1)) h5 h6 h9
      by_cases h3 : (partI c l a i).1 = 0
      · rw [kid_3 hd h3]; exact hl
      · rw [kid_e hd h3]; exact hl
    · rw [kid_4 hd]; exact pour_val t s hd2
    · rw [kid_5 hd]; exact Nat.le_refl _
theorem cyc_val {k : Str} : ∀ (m : Nat) {l : List Nd} {ss : List Seat} {a n : Int} {r : Int × Int × List Nd}, Tree c l ss → 0 ≤ a ∧ a < l.length → cycF c k m l a n = some r → valL c r.2.2 ≤ valL c l
  | 0, _, _, _, _, _, _, _, h => by cases h
  | m + 1, l, ss, a, n, r, t, ha, h => by
    obtain ⟨T, hT, _⟩ := step_tree t ha k
    have hnx := step_next t ha k
    have hq2 := step_val t ha k
    by_cases h1 : (stepN c l a k).1.1 = 0
    · rw [cyc_end h1] at h
      cases h
      exact hq2
    · by_cases h2 : (stepN c l a k).1.1 = 5
      · rw [cyc_down h2] at h; exact Nat.le_trans (cyc_val m hT hnx h) hq2
      · rw [cyc_did h1 h2] at h; exact Nat.le_trans (cyc_val m hT hnx h) hq2
end
def SeenB (S : Int) (l : List Nd) : Prop := ∀ n ∈ l, n.seen ≤ S
structure Grown (c : Cfg) (k : Int) (l : List Nd) : Prop where
  all : SeenB (getL l 0).seen l
  le : (getL l 0).seen ≤ k
  pos : 0 ≤ (getL l 0).seen
  val : (valL c l : Int) ≤ 1 + k
section
variable {c : Cfg} {l : List Nd} {ss : List Seat}
theorem Tree.one_leaf (t : Tree c l ss) (h : (getL l 0).level = 0) : l = [getL l 0] := by
  have h0 : (rootS l 0).n.level = 0 := by rw [t.rootn]; exact h
  have h1 : ∀ x ∈ ss, x = rootS l 0 := t.ind rfl fun x hx hl e => absurd (by rw [e]; exact h0) hl
  have h2 : ss.length = 1 := by
    have h3 := t.nodup_s
    have h4 := t.fix
    cases hs : ss with
    | nil => rw [hs] at h4; cases h4
    | cons x L =>
      cases hL : L with
      | nil => rfl
      | cons y L2 =>
        exfalso
        rw [hs, hL] at h3 h1
        have e1 := h1 x (by simp)
        have e2 := h1 y (by simp)
        rw [e1, e2] at h3
        simp at h3
  have h3 : l.length = 1 := by rw [← t.len, h2]
  match l, h3 with
  | [n], _ => rfl
def injF (n : Nd) (m : Msg) : Nd := { n with rows := takeN n.rows m, seen := m.stamp }
theorem leaf_tree (t : Tree c l ss) (h : (getL l 0).level = 0) {m : Msg} (hm : m.R) (hf : lfitsN (getL l 0).rows m c.leaf = true) (hle : m.stamp ≤ 1099511627776) :
    (∃ T, Tree c (injL l (injF (getL l 0) m)) T) ∧ mapN (injL l (injF (getL l 0) m)) = takeN (mapN l) m := by
  have e := t.one_leaf h
  have hS := t.seat t.root
  have hg := t.rootn
  have hsl := getL_slot t.slot ⟨Int.le_refl _, by have := t.pos; omega⟩
  have hR := hS.1
  rw [hg] at hR
  have htop : (getL l 0).top = true := by have := hS.2.1.1.1; rw [hg] at this; exact this
  have hseen : (getL l 0).seen ≤ 1099511627776 := by
    obtain ⟨j, hj, e2⟩ := List.getElem_of_mem hsl.2
    rw [← e2]; exact (t.slot j hj).2
  generalize getL l 0 = n at *
  obtain ⟨⟨r1, r2, r3⟩, r4, r5, r6⟩ := hR
  rw [if_pos h] at r6
  obtain ⟨f1, f2, f3, f4⟩ := r6
  have e2 : injL l (injF n m) = [injF n m] := by rw [e]; rfl
  have hst := hm.1.1
  have hR2 : (injF n m).R c.fan c.leaf c.bud := by
    refine ⟨⟨r1, r2, by show 0 ≤ m.stamp; omega⟩, r4, r5, ?_⟩
    rw [if_pos (show (injF n m).level = 0 from h)]
    refine ⟨f1, lfits_len f3 hm hf f2, f3.takeM hm.1.2.1 hm.1.2.2.1, fun i hi => ?_⟩
    show (n.top || _) = true
    rw [htop]; rfl
  rw [e2]
  refine ⟨⟨_, tree_one t.cfg h hsl.1 hle hR2 htop (nds_R t.cfg hR2)⟩, ?_⟩
  rw [map_one (show (injF n m).level = 0 from h) hsl.1 hle, e, map_one h hsl.1 hseen]; rfl

def injN (c : Cfg) (l : List Nd) (o : Opr) : Int × Int × List Nd :=
  if (getL l 0).level = 0 then (if lfitsN (getL l 0).rows (o.msg ((getL l 0).seen + 1)) c.leaf = true then ((getL l 0).seen + 1, 0, injL l (injF (getL l 0) (o.msg ((getL l 0).seen + 1)))) else (0, 4, l))
  else if roomB c.bud (getL l 0).msgs (o.msg ((getL l 0).seen + 1)) = true then ((getL l 0).seen + 1, 0, injL l (injR (getL l 0) (o.msg ((getL l 0).seen + 1)))) else (0, 4, l)
theorem injN_lt (h : (getL l 0).level = 0) {o : Opr} (h2 : lfitsN (getL l 0).rows (o.msg ((getL l 0).seen + 1)) c.leaf = true) : injN c l o = ((getL l 0).seen + 1, 0, injL l (injF (getL l 0) (o.msg ((getL l 0).seen + 1)))) := by unfold injN; rw [if_pos h, if_pos h2]
theorem injN_lf (h : (getL l 0).level = 0) {o : Opr} (h2 : lfitsN (getL l 0).rows (o.msg ((getL l 0).seen + 1)) c.leaf = false) : injN c l o = (0, 4, l) := by unfold injN; rw [if_pos h, if_neg (by simp [h2])]
theorem injN_it (h : ¬ (getL l 0).level = 0) {o : Opr} (h2 : roomB c.bud (getL l 0).msgs (o.msg ((getL l 0).seen + 1)) = true) : injN c l o = ((getL l 0).seen + 1, 0, injL l (injR (getL l 0) (o.msg ((getL l 0).seen + 1)))) := by unfold injN; rw [if_neg h, if_pos h2]
theorem injN_if (h : ¬ (getL l 0).level = 0) {o : Opr} (h2 : roomB c.bud (getL l 0).msgs (o.msg ((getL l 0).seen + 1)) = false) : injN c l o = (0, 4, l) := by unfold injN; rw [if_neg h, if_neg (by simp [h2])]
theorem msg_R {o : Opr} (h : o.R) (h4 : o.kind ≤ 4) {s : Int} (hs : 1 ≤ s) : (o.msg s).R := by
  obtain ⟨⟨h1, h2, h3, h5, h6⟩, h7, _, _, h8⟩ := h
  refine ⟨⟨hs, h3, h6, h5⟩, ?_⟩
  show if o.kind = 4 then _ else _
  split
  · rename_i h9
    rw [if_pos (.inl h9)] at h8
    refine ⟨h7 (by omega), h8.2, ?_⟩
    have : (o.msg s).span = o.span := by
      show (if o.kind = 4 then _ else _) = _
      unfold Opr.span
      rw [if_pos h9, if_pos (.inl h9)]; rfl
    rw [this]; exact h8.1
  · rename_i h9
    rw [if_neg (by omega)] at h8
    refine ⟨h8.1, h8.2, ?_⟩
    show o.kind = 1 ∨ o.kind = 2 ∨ (o.kind = 3 ∧ o.val = Str.nil)
    rcases (by omega : o.kind = 1 ∨ o.kind = 2 ∨ o.kind = 3) with h | h | h
    · exact .inl h
    · exact .inr (.inl h)
    · exact .inr (.inr ⟨h, h7 (by omega)⟩)
theorem getL_injL {r : Nd} (hp : 0 < l.length) : getL (injL l r) 0 = r := by
  rw [getL_in ⟨Int.le_refl _, by unfold injL; rw [List.length_set]; omega⟩]
  unfold injL
  simp
theorem injL_mem {r n : Nd} (h : n ∈ injL l r) : n ∈ l ∨ n = r := List.mem_or_eq_of_mem_set h
theorem inj_ok (t : Tree c l ss) {o : Opr} (ho : o.R) (h4 : o.kind ≤ 4) {k : Int} (hg : Grown c k l) (hk : k < 1099511627776) (h : (injN c l o).2.1 = 0) :
    (∃ T, Tree c (injN c l o).2.2 T) ∧ mapN (injN c l o).2.2 = takeN (mapN l) (o.msg 1) ∧ Grown c (k + 1) (injN c l o).2.2 ∧ (injN c l o).2.2.length = l.length ∧ (injN c l o).1 = (getL l 0).seen + 1 := by
  have hp := hg.pos
  have hl := hg.le
  have hpos := t.pos
  have hmR := msg_R ho h4 (s := (getL l 0).seen + 1) (by omega)
  have grown : ∀ r : Nd, r.seen = (getL l 0).seen + 1 → valN c r ≤ valN c (getL l 0) + 1 → Grown c (k + 1) (injL l r) := fun r hr hv => by
    refine ⟨fun n hn => ?_, ?_, ?_, ?_⟩
    · rw [getL_injL hpos, hr]
      rcases injL_mem hn with hn | rfl
      · have := hg.all n hn; omega
      · omega
    · rw [getL_injL hpos, hr]; omega
    · rw [getL_injL hpos, hr]; omega
    · have h1 := sum_set (f := valN c) hpos r
      have h2 := hg.val
      have e0 : getL l 0 = l[0] := getL_in ⟨Int.le_refl _, by omega⟩
      rw [← e0] at h1
      unfold valL at h2 ⊢
      unfold injL
      omega
  by_cases h0 : (getL l 0).level = 0
  · cases hf : lfitsN (getL l 0).rows (o.msg ((getL l 0).seen + 1)) c.leaf
    · rw [injN_lf h0 hf] at h; cases h
    · rw [injN_lt h0 hf]
      obtain ⟨h1, h2⟩ := leaf_tree t h0 hmR hf (by show (getL l 0).seen + 1 ≤ _; omega)
      have hrows := t.rows t.root
      rw [t.rootn] at hrows
      have h3 := hrows.take_len (o.msg ((getL l 0).seen + 1))
      refine ⟨h1, h2, grown _ rfl ?_, by show (injL l _).length = _; unfold injL; rw [List.length_set], rfl⟩
      rw [valN_0 h0, valN_0 (show (injF _ _).level = 0 from h0)]
      show 1 + ((takeN _ _).length - _) ≤ _
      omega
  · cases hf : roomB c.bud (getL l 0).msgs (o.msg ((getL l 0).seen + 1))
    · rw [injN_if h0 hf] at h; cases h
    · rw [injN_it h0 hf]
      unfold roomB at hf
      rw [Bool.and_eq_true] at hf
      have p : InjOf c l ss (o.msg ((getL l 0).seen + 1)) := ⟨t, h0, hmR, rfl, by show (getL l 0).seen + 1 ≤ _; omega, hg.all, of_decide_eq_true hf.1⟩
      refine ⟨⟨_, p.tree⟩, p.map, grown _ rfl ?_, by show (injL l _).length = _; unfold injL; rw [List.length_set], rfl⟩
      rw [valN_1 h0, valN_1 (show ¬ (injR _ _).level = 0 from h0)]
      show addsM (_ ++ [_]) ≤ _
      rw [addsM_app, addsM_cons, addsM_nil]
      split <;> omega
theorem inj_full (t : Tree c l ss) {o : Opr} (ho : o.R) (h4 : o.kind ≤ 4) {k : Int} (hg : Grown c k l) (h : ¬ (injN c l o).2.1 = 0) :
    injN c l o = (0, 4, l) ∧ ((getL l 0).level = 0 → c.leaf ≤ ((getL l 0).rows.length : Int)) ∧ (¬ (getL l 0).level = 0 → 0 < (getL l 0).msgs.length) := by
  have hmR := msg_R ho h4 (s := (getL l 0).seen + 1) (by have := hg.pos; omega)
  obtain ⟨_, ⟨f1, _⟩, ⟨b1, _⟩, _⟩ := t.cfg
  by_cases h0 : (getL l 0).level = 0
  · cases hf : lfitsN (getL l 0).rows (o.msg ((getL l 0).seen + 1)) c.leaf
    · refine ⟨injN_lf h0 hf, fun _ => ?_, fun h => absurd h0 h⟩
      unfold lfitsN fitsN at hf
      simp only [Bool.or_eq_false_iff, decide_eq_false_iff_not] at hf
      omega
    · rw [injN_lt h0 hf] at h; exact absurd rfl h
  · cases hf : roomB c.bud (getL l 0).msgs (o.msg ((getL l 0).seen + 1))
    · refine ⟨injN_if h0 hf, fun h => absurd h h0, fun _ => ?_⟩
      apply Classical.byContradiction
      intro hn
      have e : (getL l 0).msgs = [] := List.eq_nil_of_length_eq_zero (by omega)
      rw [e] at hf
      have := size_le hmR
      unfold roomB at hf
      simp [sizesN] at hf
      omega
    · rw [injN_it h0 hf] at h; exact absurd rfl h
def rootW (l : List Nd) (o : Opr) : Nd := if (getL l 0).level = 0 then injF (getL l 0) (o.msg ((getL l 0).seen + 1)) else injR (getL l 0) (o.msg ((getL l 0).seen + 1))
end
section
variable {c : Cfg} {l : List Nd} {ss : List Seat}
theorem part_4 {p i : Int} (h : (partI c l p i).1 = 4) : (partI c l p i).2 = l ∧ ¬ (l.length : Int) < c.slots := by
  unfold partI at h ⊢
  split at h
  · cases h
  · rename_i h1
    rw [if_neg h1]
    unfold partS at h ⊢
    split at h
    · cases h
    · rename_i h2
      rw [if_neg h2]
      split at h
      · cases h
      · rename_i h3
        rw [if_neg h3]
        split at h
        · cases h
        · rename_i h4
          rw [if_neg h4]
          split at h
          · rename_i h5
            exact ⟨by rw [if_pos h5], h5⟩
          · cases h
theorem decide_3f {p k : Nd} {i : Int} (h : decideN c p k i = 3) : fullN c p = false := by
  cases hf : fullN c p
  · rfl
  · exfalso
    unfold decideN at h
    rw [hf] at h
    split at h
    · rw [if_pos rfl] at h; cases h
    · split at h
      · cases h
      · split at h
        · cases h
        · split at h
          · rw [if_pos rfl] at h; cases h
          · cases h
theorem decide_3w {p k : Nd} {i : Int} (h : decideN c p k i = 3) (h2 : ¬ 0 < k.level) : 0 < (forN p.pivots p.msgs i).length := by
  apply Classical.byContradiction
  intro hn
  unfold decideN at h
  rw [if_neg (fun e => h2 e.1)] at h
  split at h
  · cases h
  · simp [h2, hn] at h
theorem lift_may {k : Str} (t : Tree c l ss) (h : (chooseN c (getL l 0) k).1 = 1 ∨ ((getL l 0).level = 0 ∧ 2 ≤ (getL l 0).rows.length)) : (liftN (getL l 0) 0 0).2.2.2 = true := by
  rw [lift_ok]
  rcases h with h | ⟨h1, h2⟩
  · obtain ⟨h0, _, h3⟩ := choose_is1 h
    have hin := t.inner t.root (by rw [t.rootn]; exact h0)
    rw [t.rootn] at hin
    refine cleave_inner h0 hin.2.1 ?_
    unfold fullN at h3
    rw [if_neg h0] at h3
    have := of_decide_eq_true h3
    obtain ⟨⟨f1, _⟩, _⟩ := t.cfg
    omega
  · exact cleave_leaf h1 h2
theorem lift_res (t : Tree c l ss) (h : (liftN (getL l 0) 0 0).2.2.2 = true) : (liftS c l).1 = 0 ∨ (liftS c l = (4, l) ∧ c.slots - (l.length : Int) < 2) := by
  by_cases h2 : c.slots.toNat - l.length < 2
  · exact .inr ⟨liftS_4 h h2, by omega⟩
  · exact .inl (by rw [liftS_0 h h2])
theorem step_err (t : Tree c l ss) {a : Int} (ha : 0 ≤ a ∧ a < l.length) (k : Str) : (stepN c l a k).1.2.2 = 0 ∨ ((stepN c l a k).1.1 = 0 ∧ (stepN c l a k).1.2.2 = 4 ∧ (stepN c l a k).2 = l ∧ c.slots - (l.length : Int) < 2) := by
  rcases choose_cases c (getL l a) k with h | h | ⟨h, _⟩
  · rw [step_0 h]; exact .inl rfl
  · obtain ⟨_, hs, _⟩ := choose_is1 h
    have hsl := (getL_slot t.slot ha).1
    have ea : a = 0 := by omega
    subst ea
    rcases lift_res t (lift_may (k := k) t (.inl h)) with h3 | ⟨h3, h4⟩
    · rw [step_1 h h3]; exact .inl rfl
    · rw [step_e h (by rw [h3]; simp), h3]; exact .inr ⟨rfl, rfl, rfl, h4⟩
  · obtain ⟨h0, hi⟩ := choose_in t ha h
    obtain ⟨P, s⟩ := step_at t ha h0 hi
    rw [step_2 h]
    generalize (chooseN c (getL l a) k).2 = i at *
    rcases decide_cases c (getL l a) (kidAt l a i) i with hd | hd | ⟨hd, _⟩ | hd
    · rw [kid_0 hd]; exact .inl rfl
    · have hf := decide_3f hd
      have hkl : 0 ≤ (kidAt l a i).level := by have := s.kof.1; have := (kid_low t s).2.1; omega
      have hin := t.inner s.mem s.h0
      rw [s.n] at hin
      have hpe : (partI c l a i).1 = 0 ∨ (partI c l a i).1 = 4 := by
        refine part_err t ha s hf ?_
        rcases decide_33 hd with h | ⟨h1, h2⟩
        · exact .inl h
        · have h3 : (kidAt l a i).level = 0 := by omega
          have hfor := decide_3w hd h1
          have hforR : ∀ m ∈ forN (getL l a).pivots (getL l a).msgs i, m.R := for_R (fun q hq => by
            obtain ⟨j, hj, rfl⟩ := List.getElem_of_mem hq
            exact (hin.2.2.2.2.2.1 j hj).2.1) (MsgsR.iff.1 hin.2.2.1).1
          exact .inr ⟨h3, (no_count t.cfg s.kof hforR hfor h2).1 h3⟩
      rcases hpe with h3 | h3
      · rw [kid_3 hd h3]; exact .inl rfl
      · obtain ⟨e1, e2⟩ := part_4 h3
        rw [kid_e hd (by omega)]
        exact .inr ⟨rfl, h3, e1, by omega⟩
    · rw [kid_4 hd]; exact .inl rfl
    · rw [kid_5 hd]; exact .inl rfl
theorem cyc_err {k : Str} : ∀ (m : Nat) {l : List Nd} {ss : List Seat} {a n : Int} {r : Int × Int × List Nd}, Tree c l ss → 0 ≤ a ∧ a < l.length → cycF c k m l a n = some r → r.2.1 = 0 ∨ (r.2.1 = 4 ∧ c.slots - (r.2.2.length : Int) < 2)
  | 0, _, _, _, _, _, _, _, h => by cases h
  | m + 1, l, ss, a, n, r, t, ha, h => by
    obtain ⟨T, hT, _⟩ := step_tree t ha k
    have hnx := step_next t ha k
    by_cases h1 : (stepN c l a k).1.1 = 0
    · rw [cyc_end h1] at h
      cases h
      rcases step_err t ha k with h2 | ⟨_, h2, h3, h4⟩
      · exact .inl h2
      · exact .inr ⟨h2, by show c.slots - ((stepN c l a k).2.length : Int) < 2; rw [h3]; exact h4⟩
    · by_cases h2 : (stepN c l a k).1.1 = 5
      · rw [cyc_down h2] at h; exact cyc_err m hT hnx h
      · rw [cyc_did h1 h2] at h; exact cyc_err m hT hnx h
end
end Go.Fw
