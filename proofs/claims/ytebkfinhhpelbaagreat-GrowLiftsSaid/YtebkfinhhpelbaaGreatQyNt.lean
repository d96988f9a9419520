/- What makes seats a tree's. Plain Lean; nothing of the program is named here. No condition. -/
import Derived.Test.YtebkfinhhpelbaaGreatQyNr
set_option linter.unusedVariables false
set_option linter.unusedSimpArgs false
set_option linter.unnecessarySimpa false
namespace Go.Fw
open Go Go.RowKit
theorem kidsD_some {l : List Nd} {x : Seat} (h : (kidsO l x).isSome = true) : kidsO l x = some (kidsD l x) := by
  unfold kidsD
  cases e : kidsO l x with
  | none => rw [e] at h; cases h
  | some y => rfl
theorem kids_low {l : List Nd} {x y : Seat} (h : (kidsO l x).isSome = true) (hy : y ∈ kidsD l x) : y.n.level < x.n.level := by
  by_cases h0 : x.n.level = 0
  · rw [kids_leaf h0] at hy; cases hy
  · obtain ⟨h1, h2, h3, h4⟩ := kids_all h h0
    rw [h1] at hy
    obtain ⟨j, hj, rfl⟩ := List.mem_map.1 hy
    have := h4 j (List.mem_range.1 hj)
    unfold kidOk at this
    rw [Bool.and_eq_true, decide_eq_true_eq] at this
    have e : (kidSt l x j).n.level = x.n.level - 1 := this.2
    omega
theorem seats_of {l : List Nd} {root : Int} {T : List Seat} (h1 : (findN l root).2 = true) (h2 : T = rootS l root :: T.flatMap (kidsD l)) (h3 : ∀ x ∈ T, (kidsO l x).isSome = true) (h4 : T.length ≤ l.length) : seatsN l root = some T := by
  have key : ∀ (d i f : Nat), i + d = T.length → d < f → i ≤ (rootS l root :: (T.take i).flatMap (kidsD l)).length → seatsF l f i (rootS l root :: (T.take i).flatMap (kidsD l)) = some T := by
    intro d
    induction d with
    | zero =>
      intro i f hi hf hl
      rw [List.take_of_length_le (by omega), ← h2]
      obtain ⟨f, rfl⟩ : ∃ q, f = q + 1 := ⟨f - 1, by omega⟩
      exact seatsF_done (by omega)
    | succ d ih =>
      intro i f hi hf hl
      obtain ⟨f, rfl⟩ : ∃ q, f = q + 1 := ⟨f - 1, by omega⟩
      have hT : T = (rootS l root :: (T.take i).flatMap (kidsD l)) ++ (T.drop i).flatMap (kidsD l) := by
        rw [List.cons_append, ← List.flatMap_append, List.take_append_drop]; exact h2
      obtain ⟨O, hO⟩ : ∃ O, O = rootS l root :: (T.take i).flatMap (kidsD l) := ⟨_, rfl⟩
      rw [← hO] at hl hT ⊢
      have hTl := congrArg List.length hT
      rw [List.length_append] at hTl
      by_cases hlt : i < O.length
      · have e : O[i] = T[i]'(by omega) := by
          have h5 := List.getElem_of_eq hT (show i < T.length by omega)
          rw [h5, List.getElem_append_left hlt]
        have hk : kidsO l O[i] = some (kidsD l (T[i]'(by omega))) := by rw [e]; exact kidsD_some (h3 _ (List.getElem_mem _))
        rw [seatsF_some hlt (by omega) hk]
        have e2 : O ++ kidsD l (T[i]'(by omega)) = rootS l root :: (T.take (i + 1)).flatMap (kidsD l) := by
          rw [hO, List.take_succ_eq_append_getElem (by omega), List.flatMap_append]; simp
        rw [e2]
        exact ih (i + 1) f (by omega) (by omega) (by rw [← e2, List.length_append]; omega)
      · exfalso
        have hd : T.drop i = (T.drop i).flatMap (kidsD l) := by
          have h5 := congrArg (List.drop i) hT
          rw [List.drop_append, List.drop_of_length_le (l := O) (by omega), List.nil_append, show i - O.length = 0 by omega, List.drop_zero] at h5
          exact h5
        have h6 := fix_nil2 hd fun x hx y hy => kids_low (h3 x (List.mem_of_mem_drop hx)) hy
        have h7 := congrArg List.length h6
        rw [List.length_drop] at h7
        simp at h7
        omega
  unfold seatsN
  rw [if_pos h1]
  have := key T.length 0 (l.length + 2) (by omega) (by omega) (Nat.zero_le _)
  simpa using this
/-! ## Links to the right -/
abbrev Key9 := Int × Int × Int
def Seat.key (x : Seat) : Key9 := (x.n.slot, x.n.level, x.n.right)
def LkK : List Key9 → Prop
  | [] => True
  | [x] => x.2.2 = -1
  | x :: y :: T => x.2.2 = (if y.2.1 = x.2.1 then y.1 else -1) ∧ LkK (y :: T)
theorem want_succ (x : Seat) (L : List Seat) (i : Nat) : wantN (x :: L) (i + 1) = wantN L i := by
  unfold wantN
  simp
theorem linked_iff : ∀ ss, LinkedP ss ↔ LkK (ss.map Seat.key)
  | [] => ⟨fun _ => trivial, fun _ i h => absurd h (Nat.not_lt_zero _)⟩
  | [x] => by
    constructor
    · intro h
      have := h 0 (by simp)
      rw [wantN_f (by simp)] at this
      exact this
    · intro h i hi
      have : i = 0 := by simp at hi; exact hi
      subst this
      rw [wantN_f (by simp)]
      exact h
  | x :: y :: T => by
    have ih := linked_iff (y :: T)
    have e : wantN (x :: y :: T) 0 = if y.n.level = x.n.level then y.n.slot else -1 := by
      unfold wantN
      simp
    constructor
    · intro h
      refine ⟨?_, ih.1 fun i hi => ?_⟩
      · have := h 0 (by simp)
        rw [e] at this
        exact this
      · have := h (i + 1) (by simpa using hi)
        rw [want_succ] at this
        exact this
    · intro h i hi
      cases i with
      | zero => rw [e]; exact h.1
      | succ i => rw [want_succ]; exact ih.2 h.2 i (by simpa using hi)
theorem lk_part {s v r y : Int} : ∀ (P S : List Key9), LkK (P ++ (s, v, r) :: S) → LkK (P ++ (s, v, y) :: (y, v, r) :: S)
  | [], [], h => ⟨(if_pos rfl).symm, h⟩
  | [], q :: S, h => ⟨(if_pos rfl).symm, h.1, h.2⟩
  | [p], S, h => by
    have h : p.2.2 = (if v = p.2.1 then s else -1) ∧ LkK ([] ++ (s, v, r) :: S) := h
    exact ⟨h.1, lk_part [] S h.2⟩
  | p :: q :: P, S, h => by
    have h : p.2.2 = (if q.2.1 = p.2.1 then q.1 else -1) ∧ LkK ((q :: P) ++ (s, v, r) :: S) := h
    exact ⟨h.1, lk_part (q :: P) S h.2⟩
theorem lk_head {s s' v r : Int} : ∀ (S : List Key9), LkK ((s, v, r) :: S) → LkK ((s', v, r) :: S)
  | [], h => h
  | q :: S, h => ⟨h.1, h.2⟩
theorem lk_lift {s v x y : Int} {S : List Key9} (h : LkK ((s, v, -1) :: S)) : LkK ((s, v + 1, -1) :: (x, v, y) :: (y, v, -1) :: S) :=
  ⟨(if_neg (by show ¬ v = v + 1; omega)).symm, (if_pos rfl).symm, lk_head S h⟩
/-! ## Slots -/
theorem once_of {l : List Nd} {T : List Seat} (hs : SlotsP l) (hp : (T.map fun x : Seat => x.n.slot).Perm (l.map fun n : Nd => n.slot)) : OnceP l T := by
  refine ⟨by simpa using hp.length_eq.symm, fun i h => ?_⟩
  have h1 := (List.Perm.filter (fun q : Int => decide (q = l[i].slot)) hp).length_eq
  rw [filter_map9, filter_map9, List.length_map, List.length_map] at h1
  have h2 : (l.filter fun n => decide (n.slot = l[i].slot)).length = 1 := by
    have := atS_all hs l[i].slot
    unfold atS at this
    rw [this, (hs i h).1, dif_pos ⟨by omega, by omega, by omega⟩]
    rfl
  rw [← h2, ← h1]; rfl
theorem slots_nd {l : List Nd} (hs : SlotsP l) : (l.map fun n : Nd => n.slot).Nodup := by
  refine List.pairwise_iff_getElem.2 fun i j hi hj hij he => ?_
  rw [List.getElem_map, List.getElem_map] at he
  have h3 := (hs i (by simpa using hi)).1
  have h4 := (hs j (by simpa using hj)).1
  omega
variable {c : Cfg} {l : List Nd} {ss : List Seat}
theorem Tree.perm_s (t : Tree c l ss) : (ss.map fun x : Seat => x.n.slot).Perm (l.map fun n : Nd => n.slot) := by
  have := t.perm.map fun n : Nd => n.slot
  rwa [List.map_map] at this
theorem Tree.nodup_s (t : Tree c l ss) : (ss.map fun x : Seat => x.n.slot).Nodup := (t.perm_s.nodup_iff).2 (slots_nd t.slot)
theorem uniq_of : ∀ {L : List Seat}, (L.map fun x : Seat => x.n.slot).Nodup → ∀ {x y : Seat}, x ∈ L → y ∈ L → x.n.slot = y.n.slot → x = y
  | [], _, _, _, hx, _, _ => by cases hx
  | a :: L, h, x, y, hx, hy, e => by
    rw [List.map_cons, List.nodup_cons] at h
    rcases List.mem_cons.1 hx with e1 | h1
    · rcases List.mem_cons.1 hy with e2 | h2
      · rw [e1, e2]
      · exact absurd (List.mem_map.2 ⟨y, h2, by rw [← e1]; exact e.symm⟩) h.1
    · rcases List.mem_cons.1 hy with e2 | h2
      · exact absurd (List.mem_map.2 ⟨x, h1, by rw [← e2]; exact e⟩) h.1
      · exact uniq_of h.2 h1 h2 e
theorem Tree.uniq (t : Tree c l ss) {x y : Seat} (hx : x ∈ ss) (hy : y ∈ ss) (e : x.n.slot = y.n.slot) : x = y := uniq_of t.nodup_s hx hy e
theorem flat_uniq {f : Seat → List Seat} : ∀ {L : List Seat}, ((L.flatMap f).map fun x : Seat => x.n.slot).Nodup → ∀ {x z y y' : Seat}, x ∈ L → z ∈ L → y ∈ f x → y' ∈ f z → y.n.slot = y'.n.slot → x = z
  | [], _, _, _, _, _, hx, _, _, _, _ => by cases hx
  | a :: L, h, x, z, y, y', hx, hz, hy, hy', e => by
    rw [List.flatMap_cons, List.map_append, List.nodup_append] at h
    obtain ⟨h1, h2, h3⟩ := h
    rcases List.mem_cons.1 hx with e1 | g1
    · rcases List.mem_cons.1 hz with e2 | g2
      · rw [e1, e2]
      · exact absurd e (h3 _ (List.mem_map.2 ⟨y, by rw [← e1]; exact hy, rfl⟩) _ (List.mem_map.2 ⟨y', List.mem_flatMap.2 ⟨z, g2, hy'⟩, rfl⟩))
    · rcases List.mem_cons.1 hz with e2 | g2
      · exact absurd e.symm (h3 _ (List.mem_map.2 ⟨y', by rw [← e2]; exact hy', rfl⟩) _ (List.mem_map.2 ⟨y, List.mem_flatMap.2 ⟨x, g1, hy⟩, rfl⟩))
      · exact flat_uniq h2 g1 g2 hy hy' e
theorem flat_nd {f : Seat → List Seat} : ∀ {L : List Seat}, ((L.flatMap f).map fun x : Seat => x.n.slot).Nodup → ∀ {x : Seat}, x ∈ L → ((f x).map fun x : Seat => x.n.slot).Nodup
  | [], _, _, hx => by cases hx
  | a :: L, h, x, hx => by
    rw [List.flatMap_cons, List.map_append, List.nodup_append] at h
    rcases List.mem_cons.1 hx with rfl | hx
    · exact h.1
    · exact flat_nd h.2.1 hx
theorem Tree.tail_nd (t : Tree c l ss) : ((ss.flatMap (kidsD l)).map fun x : Seat => x.n.slot).Nodup := by
  have h := t.nodup_s
  rw [t.fix, List.map_cons, List.nodup_cons] at h
  exact h.2
theorem Tree.root_kid (t : Tree c l ss) {x y : Seat} (hx : x ∈ ss) (hy : y ∈ kidsD l x) : y.n.slot ≠ (rootS l 0).n.slot := fun e => by
  have h := t.nodup_s
  rw [t.fix, List.map_cons, List.nodup_cons] at h
  exact h.1 (List.mem_map.2 ⟨y, List.mem_flatMap.2 ⟨x, hx, hy⟩, e⟩)
theorem Tree.parent (t : Tree c l ss) {x z y y' : Seat} (hx : x ∈ ss) (hz : z ∈ ss) (hy : y ∈ kidsD l x) (hy' : y' ∈ kidsD l z) (e : y.n.slot = y'.n.slot) : x = z := flat_uniq t.tail_nd hx hz hy hy' e
theorem Tree.kid_nd (t : Tree c l ss) {x : Seat} (hx : x ∈ ss) {i j : Nat} (hi : i < (kidsD l x).length) (hj : j < (kidsD l x).length) (e : (kidsD l x)[i].n.slot = (kidsD l x)[j].n.slot) : i = j := by
  have h := flat_nd t.tail_nd hx
  have h2 := List.pairwise_iff_getElem.1 h
  simp only [List.length_map, List.getElem_map] at h2
  rcases Nat.lt_trichotomy i j with h3 | h3 | h3
  · exact absurd e (h2 i j hi hj h3)
  · exact h3
  · exact absurd e.symm (h2 j i hj hi h3)
theorem tree_mk (hc : CfgR c) (hpos : 0 < l.length) (hsml : Sml l) (hs : SlotsP l) (hfix : ss = rootS l 0 :: ss.flatMap (kidsD l)) (hk : ∀ x ∈ ss, (kidsO l x).isSome = true)
    (hp : (ss.map fun x : Seat => x.n.slot).Perm (l.map fun n : Nd => n.slot)) (hlk : LkK (ss.map Seat.key)) (hlen : (l.length : Int) ≤ c.slots) (hseat : ∀ x ∈ ss, SeatP c x) : Tree c l ss :=
  ⟨hc, hpos, hsml, hs, seats_of (by have := find_at hs hpos; rw [show ((0 : Nat) : Int) = 0 from rfl] at this; rw [this]) hfix hk (by have := hp.length_eq; simp at this; omega),
    ⟨⟨once_of hs hp, (linked_iff ss).2 hlk, hlen⟩, fun i h => hseat _ (List.getElem_mem h)⟩⟩
theorem Tree.two (t : Tree c l ss) {x : Seat} (hx : x ∈ ss) (s : Span) : mergeN [clips s x.n.msgs, clips s x.ms] = clips s x.n.msgs ++ clips s x.ms ∧ Rst (clips s x.n.msgs ++ clips s x.ms) := by
  obtain ⟨h1, _, h3⟩ := t.msgs hx
  have hs := (t.seat hx).2.2.2
  refine merge_two (clips_rst h1) (clips_rst (t.rst x hx)) fun a ha b hb => ?_
  obtain ⟨a', ha', e1⟩ := clips_stamp ha
  obtain ⟨b', hb', e2⟩ := clips_stamp hb
  have := h3 a' ha'
  obtain ⟨i, hi, rfl⟩ := List.getElem_of_mem hb'
  have := hs i hi
  omega
theorem kidSt_ext {l l' : List Nd} {x y : Seat} {i j : Nat} (hn : (findN l (x.n.kids.getD i 0)).1 = (findN l' (y.n.kids.getD j 0)).1)
    (hs : ∀ q, (x.s.meet (rangeN x.n.pivots (i : Int))).has q = (y.s.meet (rangeN y.n.pivots (j : Int))).has q)
    (hm : ∀ s : Span, s = x.s.meet (rangeN x.n.pivots (i : Int)) → mergeN [clips s x.n.msgs, clips s x.ms] = mergeN [clips s y.n.msgs, clips s y.ms]) : kidSt l x i = kidSt l' y j := by
  have e : x.s.meet (rangeN x.n.pivots (i : Int)) = y.s.meet (rangeN y.n.pivots (j : Int)) := by
    rw [← meet_norm x.s, ← meet_norm y.s]
    exact norm_ext hs
  have h := hm _ rfl
  show (⟨_, _, _⟩ : Seat) = ⟨_, _, _⟩
  rw [hn, h, e]
end Go.Fw
