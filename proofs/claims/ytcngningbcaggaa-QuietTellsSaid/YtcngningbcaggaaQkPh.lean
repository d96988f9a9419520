/- What the nodes have seen does not change with a cycle's steps, and something goes down with each. Plain Lean; nothing of the program is named here. No condition. -/
import Derived.Test.YtcngningbcaggaaQkPt
set_option linter.unusedVariables false
set_option linter.unusedSimpArgs false
set_option linter.unnecessarySimpa false
namespace Go.Fw
open Go Go.RowKit
section
variable {c : Cfg} {l : List Nd} {ss : List Seat}
theorem halves_seen (n : Nd) : (halvesN n).1.seen = n.seen ∧ (halvesN n).2.1.seen = n.seen := by
  unfold halvesN
  split
  · exact ⟨rfl, rfl⟩
  · split <;> exact ⟨rfl, rfl⟩
theorem cleave_seen {n : Nd} {i : Int} (h : (cleaveN n i).2.2.2 = true) : (cleaveN n i).1.seen = n.seen ∧ (cleaveN n i).2.1.seen = n.seen := by
  rw [cleave_ok] at h
  rw [cleaveN_t h]
  exact halves_seen n
theorem seenB_set {S : Int} {l : List Nd} {i : Nat} {x : Nd} (h : SeenB S l) (hx : x.seen ≤ S) : SeenB S (l.set i x) := fun n hn => by
  rcases List.mem_or_eq_of_mem_set hn with hn | rfl
  · exact h n hn
  · exact hx
theorem seenB_snoc {S : Int} {l : List Nd} {x : Nd} (h : SeenB S l) (hx : x.seen ≤ S) : SeenB S (l ++ [x]) := fun n hn => by
  rcases List.mem_append.1 hn with hn | hn
  · exact h n hn
  · simp at hn; subst hn; exact hx
theorem seenB_get {S : Int} (h : SeenB S l) (hs : 0 ≤ S) (i : Int) : (getL l i).seen ≤ S := by
  by_cases hi : 0 ≤ i ∧ i < l.length
  · rw [getL_in hi]; exact h _ (List.getElem_mem _)
  · rw [getL_out hi]; exact hs
def SeenQ (S : Int) (l : List Nd) : Prop := SeenB S l ∧ (getL l 0).seen = S
theorem lift_seen (t : Tree c l ss) {S : Int} (hs : 0 ≤ S) (h : SeenQ S l) : SeenQ S (liftS c l).2 := by
  have hp := t.pos
  unfold liftS
  split
  · exact h
  · split
    · exact h
    · rename_i h1 h2
      have h1 : (liftN (getL l 0) l.length ((l.length : Int) + 1)).2.2.2 = true := by simpa using h1
      have hc := h1
      rw [lift_ok] at hc
      obtain ⟨e1, e2⟩ := cleave_seen hc
      rw [liftN_t hc]
      dsimp only
      have er : (liftR (getL l 0) (cleaveN (getL l 0) ((l.length : Int) + 1)).2.2.1 l.length ((l.length : Int) + 1)).seen = S := h.2
      have ha : ∀ z s, z.seen = (getL l 0).seen → (liftH (getL l 0) z s).seen ≤ S := fun z s e => by
        unfold liftH
        dsimp only
        split
        · rw [e, h.2]; exact Int.le_refl _
        · exact hs
      refine ⟨?_, ?_⟩
      · unfold liftL
        refine fun n hn => ?_
        rcases List.mem_append.1 hn with hn | hn
        · exact seenB_set h.1 (by rw [er]; exact Int.le_refl _) n hn
        · simp at hn
          rcases hn with rfl | rfl
          · exact ha _ _ e1
          · exact ha _ _ e2
      · unfold liftL
        rw [getL_in ⟨Int.le_refl _, by rw [List.length_append, List.length_set]; omega⟩]
        rw [List.getElem_append_left (by rw [List.length_set]; show 0 < _; omega)]
        simp
        exact er
theorem set_root {i : Nat} {x : Nd} (hp : 0 < l.length) : getL (l.set i x) 0 = if i = 0 then x else getL l 0 := by
  rw [getL_in ⟨Int.le_refl _, by rw [List.length_set]; omega⟩, getL_in ⟨Int.le_refl _, by omega⟩]
  simp only [List.getElem_set]
  rfl
theorem part_seen (t : Tree c l ss) {p i : Int} {S : Int} (hs : 0 ≤ S) (h : SeenQ S l) : SeenQ S (partI c l p i).2 := by
  have hp := t.pos
  unfold partI
  split
  · exact h
  · generalize i.toNat = j
    unfold partS
    split
    · exact h
    · rename_i h1
      split
      · exact h
      · split
        · exact h
        · rename_i h3
          split
          · exact h
          · rename_i h4
            have h3 : (cutP l p j).2.2.2 = true ∧ (adP l p j).2 = true := by
              constructor
              · cases h5 : (cutP l p j).2.2.2
                · exact absurd (.inl h5) h3
                · rfl
              · cases h5 : (adP l p j).2
                · exact absurd (.inr h5) h3
                · rfl
            obtain ⟨e1, e2⟩ := cleave_seen (n := getL l (kdN l p j)) (i := (l.length : Int)) h3.1
            obtain ⟨e3, _⟩ := adopt_eq (n := getL l p) h3.2
            have ha : (adP l p j).1.seen = (getL l p).seen := by
              show (adoptN (getL l p) j _ _).1.seen = _
              rw [e3]; rfl
            have hk := seenB_get h.1 hs (kdN l p j)
            have hq := seenB_get h.1 hs p
            have hin : ¬ (¬ (0 ≤ p ∧ p < l.length) ∨ (getL l p).kids.length ≤ j ∨ ¬ (0 ≤ kdN l p j ∧ kdN l p j < l.length)) := h1
            have hp2 : 0 ≤ p ∧ p < l.length := Classical.byContradiction fun e => hin (.inl e)
            have hk2 : 0 ≤ kdN l p j ∧ kdN l p j < l.length := Classical.byContradiction fun e => hin (.inr (.inr e))
            have hcs := (cut_slots h3.1).1
            have hks := (getL_slot t.slot hk2).1
            unfold lstP
            refine ⟨seenB_snoc (seenB_set (seenB_set h.1 ?_) ?_) ?_, ?_⟩
            · show (cleaveN _ _).1.seen ≤ S; rw [e1]; exact hk
            · rw [ha]; exact hq
            · show (cleaveN _ _).2.1.seen ≤ S; rw [e2]; exact hk
            · have hl1 : 0 < (l.set (cutP l p j).1.slot.toNat (cutP l p j).1).length := by rw [List.length_set]; exact hp
              rw [getL_snoc, if_neg (by simp only [List.length_set]; omega), set_root hl1, set_root hp]
              split
              · rename_i e
                have : p = 0 := by omega
                rw [ha, this]; exact h.2
              · split
                · rename_i e
                  rw [hcs, hks] at e
                  have : kdN l p j = 0 := by omega
                  show (cleaveN _ _).1.seen = S
                  rw [e1, this]; exact h.2
                · exact h.2
theorem pour_seen (t : Tree c l ss) {a i : Int} {P : Seat} (s : StepAt c l ss a i P) (h4 : 0 < countN c.leaf c.bud (getL l a) (kidAt l a i) i) {S : Int} (hs : 0 ≤ S) (h : SeenQ S l) :
    SeenQ S (pourL l (pourN c.leaf c.bud (getL l a) (kidAt l a i) i).1 (pourN c.leaf c.bud (getL l a) (kidAt l a i) i).2.1) := by
  obtain ⟨T, p⟩ := s.pour t h4
  have hp := t.pos
  have hn := s.n
  have tk := takes_of p.may p.po
  obtain ⟨⟨xl, hxl, exl⟩, _⟩ := last_of tk.rst p.po.ne
  have hm : xl ∈ clips (kidSt l P i.toNat).s P.n.msgs := by rw [p.hcl]; exact List.mem_append_left _ hxl
  obtain ⟨m, hm, e⟩ := clips_stamp hm
  obtain ⟨j, hj, rfl⟩ := List.getElem_of_mem hm
  have h5 := (p.pin.2.2.2.2.2.2 j hj).1
  have h6 := seenB_get h.1 hs a
  rw [← hn] at h6
  have h7 := p.al.2.2.2.2.2.2.2.1
  have h8 := p.po.seen
  have hx : 0 ≤ (pourN c.leaf c.bud (getL l a) (kidAt l a i) i).1.slot ∧ (pourN c.leaf c.bud (getL l a) (kidAt l a i) i).1.slot < l.length := by rw [p.al.1]; exact p.sin p.mem
  have hk0 := (kid_low t s).1
  have hy : (pourN c.leaf c.bud (getL l a) (kidAt l a i) i).2.1.slot = (kidAt l a i).slot := p.bl.1.trans (by rw [s.kid])
  have hy2 : 0 ≤ (pourN c.leaf c.bud (getL l a) (kidAt l a i) i).2.1.slot := by rw [p.bl.1]; exact (p.sin p.km.1).1
  unfold pourL
  refine ⟨seenB_set (seenB_set h.1 (by rw [h7]; exact h6)) (by rw [h8, exl, e]; exact Int.le_trans h5 h6), ?_⟩
  rw [set_root (by rw [List.length_set]; exact hp), if_neg (by omega), set_root hp]
  split
  · rename_i e0
    rw [h7]
    have e1 := p.al.1
    have : P.n.slot = 0 := by omega
    have e2 : P.n = getL l 0 := by have := (t.nd p.mem).2.1; rw [‹P.n.slot = 0›] at this; exact this
    rw [e2]; exact h.2
  · exact h.2
theorem step_seen (t : Tree c l ss) {a : Int} (ha : 0 ≤ a ∧ a < l.length) (k : Str) {S : Int} (hs : 0 ≤ S) (h : SeenQ S l) : SeenQ S (stepN c l a k).2 := by
  rcases choose_cases c (getL l a) k with h1 | h1 | ⟨h1, _⟩
  · rw [step_0 h1]; exact h
  · have hl := lift_seen t hs h
    by_cases h3 : (liftS c l).1 = 0
    · rw [step_1 h1 h3]; exact hl
    · rw [step_e h1 h3]; exact hl
  · obtain ⟨h0, hi⟩ := choose_in t ha h1
    obtain ⟨P, s⟩ := step_at t ha h0 hi
    rw [step_2 h1]
    generalize (chooseN c (getL l a) k).2 = i at *
    rcases decide_cases c (getL l a) (kidAt l a i) i with hd | hd | ⟨hd, hd2⟩ | hd
    · rw [kid_0 hd]; exact h
    · have hl := part_seen t (p := a) (i := i) hs h
      by_cases h3 : (partI c l a i).1 = 0
      · rw [kid_3 hd h3]; exact hl
      · rw [kid_e hd h3]; exact hl
    · rw [kid_4 hd]; exact pour_seen t s hd2 hs h
    · rw [kid_5 hd]; exact h
theorem cyc_seen {k : Str} {S : Int} (hs : 0 ≤ S) : ∀ (m : Nat) {l : List Nd} {ss : List Seat} {a n : Int} {r : Int × Int × List Nd}, Tree c l ss → 0 ≤ a ∧ a < l.length → SeenQ S l → cycF c k m l a n = some r → SeenQ S r.2.2
  | 0, _, _, _, _, _, _, _, _, h => by cases h
  | m + 1, l, ss, a, n, r, t, ha, hq, h => by
    obtain ⟨T, hT, _⟩ := step_tree t ha k
    have hnx := step_next t ha k
    have hq2 := step_seen t ha k hs hq
    by_cases h1 : (stepN c l a k).1.1 = 0
    · rw [cyc_end h1] at h
      cases h
      exact hq2
    · by_cases h2 : (stepN c l a k).1.1 = 5
      · rw [cyc_down h2] at h; exact cyc_seen hs m hT hnx hq2 h
      · rw [cyc_did h1 h2] at h; exact cyc_seen hs m hT hnx hq2 h
theorem Grown.q {k : Int} (h : Grown c k l) : SeenQ (getL l 0).seen l := ⟨h.all, rfl⟩
theorem Grown.of {k S : Int} (h : SeenQ S l) (h1 : S ≤ k) (h0 : 0 ≤ S) (hv : (valL c l : Int) ≤ 1 + k) : Grown c k l := ⟨by rw [h.2]; exact h.1, by rw [h.2]; exact h1, by rw [h.2]; exact h0, hv⟩
theorem Grown.lift {k : Int} (t : Tree c l ss) (h : Grown c k l) (hl : (getL l 0).level = 0 → c.leaf ≤ ((getL l 0).rows.length : Int)) : Grown c k (liftS c l).2 := Grown.of (lift_seen t h.pos h.q) h.le h.pos (by have := lift_val t hl; have := h.val; omega)
theorem Grown.cyc {k : Int} {q : Str} {m : Nat} {r : Int × Int × List Nd} (t : Tree c l ss) (h : Grown c k l) (hr : cycF c q m l 0 0 = some r) : Grown c k r.2.2 := Grown.of (cyc_seen h.pos m t ⟨Int.le_refl _, by have := t.pos; omega⟩ h.q hr) h.le h.pos (by have := cyc_val m t ⟨Int.le_refl _, by have := t.pos; omega⟩ hr; have := h.val; omega)

/-! ### What goes down -/
def bigW : Nat := 9000 ^ 12
noncomputable def wtL (c : Cfg) (n : Nd) : Nat := if n.level = 0 then 0 else wtN c n * 9000 ^ n.level.toNat
noncomputable def potM (c : Cfg) (l : List Nd) : Nat := (l.map (wtL c)).sum
noncomputable def muL (c : Cfg) (l : List Nd) : Nat := (c.slots.toNat - l.length) * (4097 * bigW) + potM c l
theorem Tree.low (t : Tree c l ss) : ∀ x ∈ ss, x.n.level ≤ 11 := by
  have h : ∀ x ∈ ss, x.n.level ≤ 11 := t.ind t.height fun x hx h0 hl j hj => by
    have := (t.at hx h0 hj).2.2.2
    omega
  exact h
theorem Tree.wt_lt (t : Tree c l ss) {n : Nd} (hn : n ∈ l) : wtL c n < bigW := by
  have := (t.perm.mem_iff).2 hn
  obtain ⟨x, hx, rfl⟩ := List.mem_map.1 this
  unfold wtL
  split
  · exact Nat.pow_pos (by omega)
  · rename_i h0
    have h1 := wtN_le t.cfg (t.inner hx h0)
    have h2 := t.low x hx
    have h3 : 9000 ^ x.n.level.toNat ≤ 9000 ^ 11 := Nat.pow_le_pow_right (by omega) (by omega)
    have h4 : wtN c x.n * 9000 ^ x.n.level.toNat ≤ 8256 * 9000 ^ 11 := Nat.mul_le_mul h1 h3
    have h5 : (8256 : Nat) * 9000 ^ 11 < bigW := by unfold bigW; decide
    exact Nat.lt_of_le_of_lt h4 h5
theorem sum_ltN {f : Nd → Nat} {b : Nat} : ∀ {l : List Nd}, (∀ n ∈ l, f n < b) → (l.map f).sum ≤ l.length * b
  | [], _ => by simp
  | n :: l, h => by
    have h1 := h n (by simp)
    have h2 := sum_ltN (l := l) fun x hx => h x (List.mem_cons_of_mem _ hx)
    rw [List.map_cons, List.sum_cons, List.length_cons, Nat.add_mul]
    omega
theorem Tree.pot_lt (t : Tree c l ss) : potM c l < 4097 * bigW := by
  have h1 := sum_ltN (f := wtL c) (b := bigW) (l := l) fun n hn => t.wt_lt hn
  have h2 := t.sml.1
  have h3 : l.length * bigW ≤ 4096 * bigW := Nat.mul_le_mul_right _ h2
  have h4 : 0 < bigW := Nat.pow_pos (by omega)
  unfold potM
  have h5 : 4097 * bigW = 4096 * bigW + bigW := by rw [← Nat.succ_mul]
  omega
theorem mu_grow {l' : List Nd} {T : List Seat} (t' : Tree c l' T) (h : l.length < l'.length) : muL c l' < muL c l := by
  have h1 := t'.pot_lt
  have h2 := t'.q.1.2.2
  unfold muL
  have h3 : (c.slots.toNat - l'.length + 1) * (4097 * bigW) ≤ (c.slots.toNat - l.length) * (4097 * bigW) := Nat.mul_le_mul_right _ (by omega)
  rw [Nat.add_mul] at h3
  omega
theorem pour_mu (t : Tree c l ss) {a i : Int} {P : Seat} (s : StepAt c l ss a i P) (h4 : 0 < countN c.leaf c.bud (getL l a) (kidAt l a i) i) :
    muL c (pourL l (pourN c.leaf c.bud (getL l a) (kidAt l a i) i).1 (pourN c.leaf c.bud (getL l a) (kidAt l a i) i).2.1) < muL c l := by
  obtain ⟨T, p⟩ := s.pour t h4
  have hf : i.toNat < c.fan.toNat := by
    have h1 := s.hi
    have h2 := p.pin.1.2.2
    omega
  have hlt := Poured.lighter p.po p.rt.1 hf
  have hm := (pour_may p.may p.po).1
  generalize (pourN c.leaf c.bud (getL l a) (kidAt l a i) i).1 = x at *
  generalize (pourN c.leaf c.bud (getL l a) (kidAt l a i) i).2.1 = y at *
  have hx : 0 ≤ x.slot ∧ x.slot < l.length := by rw [p.al.1]; exact p.sin p.mem
  have hy : 0 ≤ y.slot ∧ y.slot < l.length := by rw [p.bl.1]; exact p.sin p.km.1
  have hne : x.slot.toNat ≠ y.slot.toNat := by
    have := p.ksl
    rw [← p.al.1, ← p.bl.1] at this
    omega
  have hxl : x.slot.toNat < l.length := by omega
  have hyl : y.slot.toNat < (l.set x.slot.toNat x).length := by rw [List.length_set]; omega
  have e1 := sum_set (f := wtL c) hxl x
  have e2 := sum_set (f := wtL c) hyl y
  have gx : l[x.slot.toNat] = P.n := by
    have h := (t.nd p.mem).2.1
    rw [getL_in (p.sin p.mem)] at h
    have h2 := p.al.1
    simp only [h2]
    exact h.symm
  have gy : (l.set x.slot.toNat x)[y.slot.toNat] = (kidSt l P i.toNat).n := by
    rw [List.getElem_set_ne hne]
    have h := (t.nd p.km.1).2.1
    rw [getL_in (p.sin p.km.1)] at h
    have h2 := p.bl.1
    simp only [h2]
    exact h.symm
  rw [gx] at e1
  rw [gy] at e2
  have w1 : wtL c x + 9000 ^ P.n.level.toNat ≤ wtL c P.n := by
    unfold wtL
    rw [p.al.2.1, if_neg p.h0, if_neg p.h0]
    have := Nat.mul_le_mul_right (9000 ^ P.n.level.toNat) hlt
    rw [Nat.add_mul, Nat.one_mul] at this
    exact this
  have w2 : wtL c y < 9000 ^ P.n.level.toNat := by
    unfold wtL
    split
    · exact Nat.pow_pos (by omega)
    · rename_i h0
      have hI : y.innerR c.fan c.bud := by have h := hm.1.2.1.2.2.2; rwa [if_neg h0] at h
      have h1 := wtN_le t.cfg hI
      have h2 := p.km.2
      have h3 := p.bl.2.1
      have h5 := t.lvl p.km.1
      have h6 := t.lvl p.mem
      have h7 : P.n.level.toNat = y.level.toNat + 1 := by omega
      rw [h7, Nat.pow_succ]
      have h8 : 0 < 9000 ^ y.level.toNat := Nat.pow_pos (by omega)
      have h9 := Nat.mul_le_mul_right (9000 ^ y.level.toNat) h1
      omega
  have hlen : (pourL l x y).length = l.length := p.len
  unfold muL
  rw [hlen]
  have : potM c (pourL l x y) < potM c l := by
    unfold potM pourL
    omega
  omega
theorem step_mu (t : Tree c l ss) {a : Int} (ha : 0 ≤ a ∧ a < l.length) (k : Str) (h1 : ¬ (stepN c l a k).1.1 = 0) (h2 : ¬ (stepN c l a k).1.1 = 5) : muL c (stepN c l a k).2 < muL c l := by
  obtain ⟨T, hT, _⟩ := step_tree t ha k
  rcases choose_cases c (getL l a) k with h | h | ⟨h, _⟩
  · rw [step_0 h] at h1; exact absurd rfl h1
  · by_cases h3 : (liftS c l).1 = 0
    · rw [step_1 h h3] at hT ⊢
      refine mu_grow hT ?_
      unfold liftS at h3 ⊢
      split at h3
      · cases h3
      · rename_i h4
        rw [if_neg h4]
        split at h3
        · cases h3
        · rename_i h5
          rw [if_neg h5]
          unfold liftL
          simp
    · rw [step_e h h3] at h1; exact absurd rfl h1
  · obtain ⟨h0, hi⟩ := choose_in t ha h
    obtain ⟨P, s⟩ := step_at t ha h0 hi
    rw [step_2 h] at h1 h2 hT ⊢
    generalize (chooseN c (getL l a) k).2 = i at *
    rcases decide_cases c (getL l a) (kidAt l a i) i with hd | hd | ⟨hd, hd2⟩ | hd
    · rw [kid_0 hd] at h1; exact absurd rfl h1
    · by_cases h3 : (partI c l a i).1 = 0
      · rw [kid_3 hd h3] at hT ⊢
        refine mu_grow hT ?_
        unfold partI at h3 ⊢
        split at h3
        · cases h3
        · rename_i h4
          rw [if_neg h4]
          unfold partS at h3 ⊢
          split at h3
          · cases h3
          · rename_i h5
            rw [if_neg h5]
            split at h3
            · cases h3
            · rename_i h6
              rw [if_neg h6]
              split at h3
              · cases h3
              · rename_i h7
                rw [if_neg h7]
                split at h3
                · cases h3
                · rename_i h8
                  rw [if_neg h8]
                  unfold lstP
                  simp
      · rw [kid_e hd h3] at h1; exact absurd rfl h1
    · rw [kid_4 hd]; exact pour_mu t s hd2
    · rw [kid_5 hd] at h2; exact absurd rfl h2
theorem part_stays {p i : Int} (h : ¬ (partI c l p i).1 = 0) : (partI c l p i).2 = l := by
  unfold partI at h ⊢
  split at h
  · rename_i h4; rw [if_pos h4]
  · rename_i h4
    rw [if_neg h4]
    unfold partS at h ⊢
    split at h
    · rename_i h5; rw [if_pos h5]
    · rename_i h5
      rw [if_neg h5]
      split at h
      · rename_i h6; rw [if_pos h6]
      · rename_i h6
        rw [if_neg h6]
        split at h
        · rename_i h7; rw [if_pos h7]
        · rename_i h7
          rw [if_neg h7]
          split at h
          · rename_i h8; rw [if_pos h8]
          · exact absurd rfl h
theorem lift_stays (h : ¬ (liftS c l).1 = 0) : (liftS c l).2 = l := by
  unfold liftS at h ⊢
  split at h
  · rename_i h4; rw [if_pos h4]
  · rename_i h4
    rw [if_neg h4]
    split at h
    · rename_i h5; rw [if_pos h5]
    · exact absurd rfl h
theorem step_stays (t : Tree c l ss) {a : Int} (ha : 0 ≤ a ∧ a < l.length) {k : Str} (h1 : (stepN c l a k).1.1 = 0) : (stepN c l a k).2 = l := by
  rcases choose_cases c (getL l a) k with h | h | ⟨h, _⟩
  · rw [step_0 h]
  · by_cases h3 : (liftS c l).1 = 0
    · rw [step_1 h h3] at h1; cases h1
    · rw [step_e h h3]; exact lift_stays h3
  · rw [step_2 h] at h1 ⊢
    generalize (chooseN c (getL l a) k).2 = i at *
    rcases decide_cases c (getL l a) (kidAt l a i) i with hd | hd | ⟨hd, hd2⟩ | hd
    · rw [kid_0 hd]
    · by_cases h3 : (partI c l a i).1 = 0
      · rw [kid_3 hd h3] at h1; cases h1
      · rw [kid_e hd h3]; exact part_stays h3
    · rw [kid_4 hd] at h1; cases h1
    · rw [kid_5 hd]
theorem step_down (t : Tree c l ss) {a : Int} (ha : 0 ≤ a ∧ a < l.length) {k : Str} (h1 : (stepN c l a k).1.1 = 5) : (stepN c l a k).2 = l := by
  rcases choose_cases c (getL l a) k with h | h | ⟨h, _⟩
  · rw [step_0 h]
  · by_cases h3 : (liftS c l).1 = 0
    · rw [step_1 h h3] at h1; cases h1
    · rw [step_e h h3]; exact lift_stays h3
  · rw [step_2 h] at h1 ⊢
    generalize (chooseN c (getL l a) k).2 = i at *
    rcases decide_cases c (getL l a) (kidAt l a i) i with hd | hd | ⟨hd, hd2⟩ | hd
    · rw [kid_0 hd]
    · by_cases h3 : (partI c l a i).1 = 0
      · rw [kid_3 hd h3] at h1; cases h1
      · rw [kid_e hd h3]; exact part_stays h3
    · rw [kid_4 hd] at h1; cases h1
    · rw [kid_5 hd]
theorem cyc_mu {k : Str} : ∀ (m : Nat) {l : List Nd} {ss : List Seat} {a n : Int} {r : Int × Int × List Nd}, Tree c l ss → 0 ≤ a ∧ a < l.length → cycF c k m l a n = some r → (n < r.1 → muL c r.2.2 < muL c l) ∧ (r.1 ≤ n → r.2.2 = l)
  | 0, _, _, _, _, _, _, _, h => by cases h
  | m + 1, l, ss, a, n, r, t, ha, h => by
    obtain ⟨T, hT, _⟩ := step_tree t ha k
    have hnx := step_next t ha k
    by_cases h1 : (stepN c l a k).1.1 = 0
    · rw [cyc_end h1] at h
      cases h
      refine ⟨fun e => absurd e (Int.lt_irrefl _), fun _ => ?_⟩
      exact step_stays t ha h1
    · by_cases h2 : (stepN c l a k).1.1 = 5
      · have hst := step_down t ha h2
        rw [cyc_down h2] at h
        rw [hst] at h hT hnx
        exact cyc_mu m hT hnx h
      · have hmu := step_mu t ha k h1 h2
        rw [cyc_did h1 h2] at h
        have ih := cyc_mu m hT hnx h
        have hmo := cyc_mono m h
        refine ⟨fun _ => ?_, fun e => by omega⟩
        by_cases h3 : n + 1 < r.1
        · exact Nat.lt_trans (ih.1 h3) hmu
        · rw [ih.2 (by omega)]; exact hmu
end
noncomputable def wthN (c : Cfg) (l : List Nd) (o : Opr) : Nd :=
  if (getL l 0).level = 0 then { getL l 0 with rows := (leafTakeN (getL l 0).rows (o.msg ((getL l 0).seen + 1)) c.leaf).1, seen := (getL l 0).seen + (if (injN c l o).2.1 = 0 then 1 else 0) }
  else { getL l 0 with msgs := (addN c.bud (getL l 0).msgs (o.msg ((getL l 0).seen + 1))).1, seen := (getL l 0).seen + (if (injN c l o).2.1 = 0 then 1 else 0) }
section
variable {c : Cfg} {l : List Nd} {ss : List Seat} {o : Opr}
end
def BtR (te tB ti tb TS TT bt bs : Nat) (c : Cfg) (G : GH) (X : List Nd × Str) (M : MH) : Prop := ∃ Ms, M = (bt, .cells (List.toArray [.pointer (some ⟨bs, 0, none⟩), .string X.2.b]) TT (0, 0)) :: Ms ∧ StR te tB ti tb TS bs c G X.1 Ms
theorem BtR.mono {te tB ti tb TS TT bt bs : Nat} {c : Cfg} {G G' : GH} {X : List Nd × Str} {M : MH} (hl : Le G G') (h : BtR te tB ti tb TS TT bt bs c G X M) : BtR te tB ti tb TS TT bt bs c G' X M := by
  obtain ⟨Ms, h1, h2⟩ := h; exact ⟨Ms, h1, h2.mono hl⟩
theorem BtR.to {te tB ti tb TS TT bt bs : Nat} {c : Cfg} {G : GH} {X X' : List Nd × Str} {M : MH} (h : BtR te tB ti tb TS TT bt bs c G X M) (e : X = X') : BtR te tB ti tb TS TT bt bs c G X' M := e ▸ h
section
variable {c : Cfg} {l l' : List Nd} {ss : List Seat} {o : Opr} {k : Int} {q : Str} {e : Int}
def isM (n : Nd) : Bool := decide ((0 : Int) < (n.msgs.length : Int))
def quietB (l : List Nd) : Bool := l.all fun n => !isM n
theorem quiet_no {l : List Nd} (h : ∀ j (h : j < l.length), (l[j]).msgs.length = 0) : quietB l = true := List.all_eq_true.2 fun x hx => by
  obtain ⟨j, hj, rfl⟩ := List.getElem_of_mem hx
  unfold isM
  rw [h j hj]; rfl
theorem quiet_at {l : List Nd} {j : Nat} (hj : j < l.length) (h : 0 < (l[j]).msgs.length) : quietB l = false := Bool.eq_false_iff.2 fun hq => by
  have := List.all_eq_true.1 hq l[j] (List.getElem_mem hj)
  unfold isM at this
  rw [decide_eq_true (by omega)] at this; cases this
def RoomP (c : Cfg) (l : List Nd) (q : Str) (e : Int) (l' : List Nd) : Prop :=
  ((getL l 0).level = 0 ∧ e = (liftS c l).1 ∧ l' = (liftS c l).2) ∨
  (¬ (getL l 0).level = 0 ∧ ∃ N r, cycF c q N l 0 0 = some r ∧ l' = r.2.2 ∧ e = (if 0 < r.1 then 0 else if r.2.1 = 0 then 4 else r.2.1))
theorem lift_len (h : (liftS c l).1 = 0) : l.length < (liftS c l).2.length := by
  unfold liftS at h ⊢
  split at h
  · cases h
  · rename_i h4
    rw [if_neg h4]
    split at h
    · cases h
    · rename_i h5
      rw [if_neg h5]
      unfold liftL
      simp
theorem room_all (t : Tree c l ss) (ho : o.R) (h4 : o.kind ≤ 4) (hg : Grown c k l) (hf : ¬ (injN c l o).2.1 = 0) (h : RoomP c l q e l') :
    (∃ T, Tree c l' T) ∧ mapN l' = mapN l ∧ Grown c k l' ∧ (e = 0 → muL c l' < muL c l) ∧ (¬ e = 0 → e = 4 ∧ c.slots - (l'.length : Int) < 2) := by
  obtain ⟨_, hl, hi⟩ := inj_full t ho h4 hg hf
  rcases h with ⟨h0, rfl, rfl⟩ | ⟨h0, N, r, hr, rfl, rfl⟩
  · obtain ⟨T, hT, hm⟩ := lift_all t
    refine ⟨⟨T, hT⟩, hm, hg.lift t hl, fun h1 => mu_grow hT (lift_len h1), fun h1 => ?_⟩
    rcases lift_res t (lift_may (k := q) t (.inr ⟨h0, by have h8 := hl h0; have h9 := t.cfg.2.1.1; omega⟩)) with h2 | ⟨h2, h3⟩
    · exact absurd h2 h1
    · rw [h2]; exact ⟨rfl, h3⟩
  · have ha : (0 : Int) ≤ 0 ∧ (0 : Int) < l.length := ⟨Int.le_refl _, by have := t.pos; omega⟩
    obtain ⟨T, hT, hm⟩ := cyc_tree N t ha hr
    have hmu := cyc_mu N t ha hr
    have her := cyc_err N t ha hr
    refine ⟨⟨T, hT⟩, hm, hg.cyc t hr, fun h1 => ?_, fun h1 => ?_⟩
    · by_cases h2 : 0 < r.1
      · exact hmu.1 h2
      · rw [if_neg h2] at h1
        split at h1
        · cases h1
        · rename_i h3; exact absurd h1 h3
    · by_cases h2 : 0 < r.1
      · rw [if_pos h2] at h1; exact absurd rfl h1
      · rw [if_neg h2]
        rcases prog_root t (hi h0) hr with h3 | h3
        · exact absurd h3 h2
        · rw [if_neg (by omega)]
          rcases her with h5 | ⟨h5, h6⟩
          · omega
          · exact ⟨h5, h6⟩
structure WrP (c : Cfg) (k : Int) (o : Opr) (l : List Nd) (e : Int) (l' : List Nd) : Prop where
  t : ∃ T, Tree c l' T
  g : Grown c (k + 1) l'
  r : (e = 0 ∧ mapN l' = takeN (mapN l) (o.msg 1)) ∨ (e = 4 ∧ mapN l' = mapN l ∧ c.slots - (l'.length : Int) < 2)
  x : (injN c l o).2.1 = 0 → l' = (injN c l o).2.2 ∧ e = 0
theorem Grown.up {k' : Int} (h : Grown c k l) (hk : k ≤ k') : Grown c k' l := ⟨h.all, by have := h.le; omega, h.pos, by have := h.val; omega⟩
theorem WrP.ok {l0 : List Nd} (t : Tree c l ss) (ho : o.R) (h4 : o.kind ≤ 4) (hg : Grown c k l) (hk : k < 1099511627776) (hm : mapN l = mapN l0) (hx : l = l0 ∨ ¬ (injN c l0 o).2.1 = 0) (h : (injN c l o).2.1 = 0) : WrP c k o l0 0 (injN c l o).2.2 := by
  obtain ⟨h1, h2, h3, _, _⟩ := inj_ok t ho h4 hg hk h
  exact ⟨h1, h3, .inl ⟨rfl, by rw [h2, hm]⟩, fun h0 => hx.elim (fun e => by subst e; exact ⟨rfl, rfl⟩) fun hn => absurd h0 hn⟩
theorem WrP.no {l0 : List Nd} (t : Tree c l ss) (ho : o.R) (h4 : o.kind ≤ 4) (hg : Grown c k l) (hm : mapN l = mapN l0) (hx : l = l0 ∨ ¬ (injN c l0 o).2.1 = 0) (hf : ¬ (injN c l o).2.1 = 0) (h : RoomP c l q e l') (he : ¬ e = 0) : WrP c k o l0 e l' := by
  obtain ⟨h1, h2, h3, _, h5⟩ := room_all t ho h4 hg hf h
  exact ⟨h1, h3.up (by omega), .inr ⟨(h5 he).1, by rw [h2, hm], (h5 he).2⟩, fun h0 => hx.elim (fun e => absurd (e ▸ h0) hf) fun hn => absurd h0 hn⟩
structure DoP (c : Cfg) (k : Int) (o : Opr) (l : List Nd) (a : Ans) (l' : List Nd) : Prop where
  t : ∃ T, Tree c l' T
  g : Grown c (k + 1) l'
  r : (a = (doN (mapN l) o).2 ∧ mapN l' = (doN (mapN l) o).1) ∨ (a = ⟨4, false, Str.nil, []⟩ ∧ mapN l' = mapN l ∧ o.kind ≤ 4 ∧ (doN (mapN l) o).2.err = 0 ∧ c.slots - (l'.length : Int) < 2)
  x : o.R → o.kind ≤ 4 → (injN c l o).2.1 = 0 → l' = (injN c l o).2.2 ∧ a = ⟨0, false, Str.nil, []⟩
  z : 4 < o.kind → l' = l
theorem DoP.get (t : Tree c l ss) (hg : Grown c k l) (h : o.R) (h5 : o.kind = 5) : DoP c k o l ⟨0, (getN (mapN l) o.key).isSome, (getN (mapN l) o.key).getD Str.nil, []⟩ l := ⟨⟨_, t⟩, hg.up (by omega), .inl (by rw [doN_5 h h5]; exact ⟨rfl, rfl⟩), fun _ h4 => absurd h4 (by omega), fun _ => rfl⟩
end
structure Act32 where
  o : Opr
  fl : Int
instance : Inhabited Act32 := ⟨⟨default, 0⟩⟩
def ActC32 (cs : List Value) (x : Act32) : Prop := cs = [.int .i64 x.o.kind, .string x.o.key.b, .string x.o.hi.b, .bool x.o.opn, .string x.o.val.b, .int .i64 x.o.lim, .int .i64 x.fl] ∧ x.o.Ok ∧ i64 x.fl
def eAct32 : Enc Act32 where
  k := 7
  w := 80
  R := fun _ cs x => ActC32 cs x
  mono := fun _ h => h
  len := fun h => by rw [h.1]; rfl
  one := fun h u hu => by rw [h.1] at hu; simp at hu; rcases hu with rfl | rfl | rfl | rfl | rfl | rfl | rfl <;> rfl
def flsN (l : List Act32) : Int := (l.map fun a => max 0 a.fl).sum
def FewR (l : List Act32) : Prop := l.length ≤ 100 ∧ (∀ a ∈ l, (a.o.key.b.size : Int) ≤ 300 ∧ (a.o.hi.b.size : Int) ≤ 300 ∧ (a.o.val.b.size : Int) ≤ 300 ∧ a.fl ≤ 20) ∧ flsN l ≤ 200
section
variable {c : Cfg} {l l' : List Nd} {ss : List Seat} {o : Opr} {k : Int} {q : Str} {a : Ans}
theorem doN_err (m : List Pair) (o : Opr) : (doN m o).2.err = 0 ∨ (doN m o).2.err = 3 := by
  unfold doN
  split
  · exact .inr rfl
  · split
    · exact .inl rfl
    · split <;> exact .inl rfl
theorem DoP.full (h : DoP c k o l a l') (e : a.err = 4) : a = ⟨4, false, Str.nil, []⟩ ∧ mapN l' = mapN l ∧ o.kind ≤ 4 ∧ (doN (mapN l) o).2.err = 0 ∧ c.slots - (l'.length : Int) < 2 := by
  rcases h.r with ⟨h1, _⟩ | h1
  · rw [h1] at e
    have := doN_err (mapN l) o
    omega
  · exact h1
theorem DoP.fine (h : DoP c k o l a l') (e : ¬ a.err = 4) : a = (doN (mapN l) o).2 ∧ mapN l' = (doN (mapN l) o).1 := by
  rcases h.r with h1 | ⟨h1, _⟩
  · exact h1
  · exact absurd (by rw [h1]) e
theorem root_eq (t : Tree c l ss) : getL l 0 = l[0]'(t.pos) := getL_in ⟨Int.le_refl _, by have := t.pos; omega⟩
theorem root_lvl (t : Tree c l ss) : 0 ≤ (l[0]'(t.pos)).level ∧ (l[0]'(t.pos)).level ≤ 11 := by
  have h1 := t.height
  have h2 := (t.seat t.root).1.1.2.1
  rw [t.rootn, root_eq t] at h1 h2
  exact ⟨h2, h1⟩
end
section
variable {c : Cfg} {l : List Nd} {ss : List Seat} {k : Str}
def CleanTo (ss : List Seat) (cur : Str) : Prop := ∀ x ∈ ss, x.s.lo.lt cur = true → x.n.msgs = []
end
section
variable {c : Cfg} {l l' : List Nd} {ss : List Seat} {k cur : Str}
noncomputable def spL (l : List Nd) : List Span := (leavesS ((seatsN l 0).getD [])).map fun x => x.s
theorem Tree.sp (t : Tree c l ss) : spL l = (leavesS ss).map fun x => x.s := by unfold spL; rw [t.sts]; rfl
noncomputable def posL (l : List Nd) (cur : Str) : Nat := ((spL l).filter fun s => !s.opn && !cur.lt s.hi).length
noncomputable def rgtL (l : List Nd) (cur : Str) : Nat := ((spL l).filter fun s => !s.opn && cur.lt s.hi).length
end
section
variable {c : Cfg} {l0 l : List Nd} {ss : List Seat} {k cur : Str} {did : Int}
noncomputable def nextK (l : List Nd) (cur : Str) : Str := if (leafS l cur).s.opn = true then Str.nil else (leafS l cur).s.hi
noncomputable def posQ (l : List Nd) (cur : Str) : Int := if cur = Str.nil then 4097 else (posL l cur : Nat)
structure DrI (c : Cfg) (l0 l : List Nd) (cur : Str) (did : Int) : Prop where
  t : ∃ T, Tree c l T
  m : mapN l = mapN l0
  g : ∀ k, Grown c k l0 → Grown c k l
  d0 : 0 ≤ did
  db : did ≤ 200001 * ((l.length : Int) * 5000 + posQ l cur + 1)
  cl : did = 0 → c.slots - (l.length : Int) < 2 ∨ ∀ ss, Tree c l ss → if cur = Str.nil then ∀ x ∈ ss, x.n.msgs = [] else CleanTo ss cur
noncomputable def muD (c : Cfg) (l : List Nd) (cur : Str) (did : Int) : Nat := muL c l * 20000 + (if did = 0 then 0 else 10000) + (if cur = Str.nil then 0 else 1 + rgtL l cur)
structure DrP (c : Cfg) (l : List Nd) (e : Int) (l' : List Nd) : Prop where
  t : ∃ T, Tree c l' T
  m : mapN l' = mapN l
  g : ∀ k, Grown c k l → Grown c k l'
  r : (e = 0 ∧ quietB l' = true) ∨ (e = 4 ∧ quietB l' = false ∧ c.slots - (l'.length : Int) < 2)
end
section
variable {c : Cfg} {l : List Nd} {ss : List Seat}
def rowsS (T : List Seat) : List Pair := T.flatMap fun x => x.n.rows
theorem rowsS_succ {T : List Seat} {k : Nat} (hk : k < T.length) : rowsS (T.take (k + 1)) = rowsS (T.take k) ++ T[k].n.rows := by
  unfold rowsS
  rw [List.take_succ_eq_append_getElem hk, List.flatMap_append]
  simp
theorem Tree.norows (t : Tree c l ss) {x : Seat} (hx : x ∈ ss) (h0 : ¬ x.n.level = 0) : x.n.rows = [] := List.eq_nil_of_length_eq_zero (t.inner hx h0).1.1
theorem quiet_msgs (t : Tree c l ss) (h : quietB l = true) : ∀ x ∈ ss, x.n.msgs = [] := fun x hx => by
  have h1 := List.all_eq_true.1 h x.n (t.nd hx).2.2
  unfold isM at h1
  cases hm : x.n.msgs with
  | nil => rfl
  | cons m L =>
    rw [hm] at h1
    rw [decide_eq_true (by simp)] at h1
    cases h1
theorem quiet_ms (t : Tree c l ss) (h : quietB l = true) : ∀ x ∈ ss, x.ms = [] := t.ind rfl fun x hx h0 hm j hj => by
  have hk := (t.kid_ms hx (t.rst x hx) j).1
  rw [hk, quiet_msgs t h x hx, hm]; rfl
theorem rows_map (t : Tree c l ss) (h : quietB l = true) : rowsS ss = mapN l := by
  rw [mapN_t t.sts]
  have key : ∀ T : List Seat, (∀ x ∈ T, x ∈ ss) → rowsS T = (leavesS T).flatMap viewS := by
    intro T
    induction T with
    | nil => intro _; rfl
    | cons x T ih =>
      intro hT
      have hx := hT x (by simp)
      have i := ih fun y hy => hT y (List.mem_cons_of_mem _ hy)
      unfold rowsS leavesS at i ⊢
      rw [List.flatMap_cons, List.filter_cons, i]
      by_cases h0 : x.n.level = 0
      · rw [if_pos (decide_eq_true h0), List.flatMap_cons]
        congr 1
        rw [t.view hx, quiet_ms t h x hx]
        refine (List.filter_eq_self.2 fun p hp => ?_).symm
        obtain ⟨j, hj, rfl⟩ := List.getElem_of_mem hp
        exact (t.seat hx).2.1.2.1 j hj
      · rw [if_neg (by simpa using h0), t.norows hx h0]; rfl
  exact key ss fun x hx => hx
theorem rowsS_len (t : Tree c l ss) (k : Nat) : (rowsS (ss.take k)).length ≤ 64 * k := by
  induction k with
  | zero => exact Nat.le_refl _
  | succ k ih =>
    by_cases hk : k < ss.length
    · rw [rowsS_succ hk, List.length_append]
      have := t.rows_len (List.getElem_mem hk)
      omega
    · rw [List.take_of_length_le (by omega)] at ih ⊢
      omega
end
end Go.Fw
