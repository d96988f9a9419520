/- The messages that wait in a sound tree, and the map that it stands for. Plain Lean; nothing of the program is named here. No condition. -/
import Derived.Test.YtemoalimclnfkaaGreatQjNl
set_option linter.unusedVariables false
set_option linter.unusedSimpArgs false
set_option linter.unnecessarySimpa false

namespace Go.Fw
open Go Go.RowKit
variable {c : Cfg} {l : List Nd} {ss : List Seat}
theorem Tree.from (t : Tree c l ss) {x : Seat} (hx : x ∈ ss) : x = rootS l 0 ∨ ∃ y ∈ ss, ∃ h0 : ¬ y.n.level = 0, ∃ j, j < y.n.kids.length ∧ x = kidSt l y j := by
 rw [t.fix] at hx
 rcases List.mem_cons.1 hx with rfl | hx
 ·exact .inl rfl
 ·obtain ⟨y, hy, hk⟩ := List.mem_flatMap.1 hx
  by_cases h0 : y.n.level = 0
  ·rw [kids_leaf h0] at hk; cases hk
  ·rw [(kids_all (t.kids hy) h0).1] at hk
   obtain ⟨j, hj, rfl⟩ := List.mem_map.1 hk
   exact .inr ⟨y, hy, h0, j, List.mem_range.1 hj, rfl⟩
theorem Tree.ind (t : Tree c l ss) {P : Seat → Prop} (h0 : P (rootS l 0)) (hk : ∀ x ∈ ss, ¬ x.n.level = 0 → P x → ∀ j, j < x.n.kids.length → P (kidSt l x j)) : ∀ x ∈ ss, P x := by
 intro x hx
 apply Classical.byContradiction
 intro hn
 have hT : (ss.filter fun y => @decide (¬ P y) (Classical.propDecidable _)) ≠ [] := by
  intro e
  have : x ∈ ss.filter fun y => @decide (¬ P y) (Classical.propDecidable _) := List.mem_filter.2 ⟨hx, by simpa using hn⟩
  rw [e] at this; cases this
 obtain ⟨m, hm, hmax⟩ := max_lvl _ hT
 obtain ⟨hm1, hm2⟩ := List.mem_filter.1 hm
 have hm2 : ¬ P m := by simpa using hm2
 rcases t.from hm1 with rfl | ⟨y, hy, hy0, j, hj, rfl⟩
 ·exact hm2 h0
 ·refine hm2 (hk y hy hy0 ?_ j hj)
  apply Classical.byContradiction
  intro hPy
  have := hmax y (List.mem_filter.2 ⟨hy, by simpa using hPy⟩)
  have := (t.at hy hy0 hj).2.2.2
  omega
theorem Tree.inner (t : Tree c l ss) {x : Seat} (hx : x ∈ ss) (h0 : ¬ x.n.level = 0) : x.n.innerR c.fan c.bud := by
 have := (t.seat hx).1.2.2.2
 rwa [if_neg h0] at this
theorem Tree.leaf (t : Tree c l ss) {x : Seat} (hx : x ∈ ss) (h0 : x.n.level = 0) : x.n.leafR c.leaf := by
 have := (t.seat hx).1.2.2.2
 rwa [if_pos h0] at this
theorem Tree.nomsgs (t : Tree c l ss) {x : Seat} (hx : x ∈ ss) (h0 : x.n.level = 0) : x.n.msgs = [] := by
 have := (t.leaf hx h0).1
 exact List.eq_nil_of_length_eq_zero om9
theorem Tree.msgs (t : Tree c l ss) {x : Seat} (hx : x ∈ ss) : Rst x.n.msgs ∧ (∀ m ∈ x.n.msgs, m.R) ∧ ∀ m ∈ x.n.msgs, m.stamp ≤ x.n.seen := by
 by_cases h0 : x.n.level = 0
 ·rw [t.nomsgs hx h0]; exact ⟨List.Pairwise.nil, (fun m hm => by cases hm), fun m hm => by cases hm⟩
 ·obtain ⟨_, _, h3, _, _, _, h7⟩ := t.inner hx h0
  refine ⟨(MsgsR.iff.1 h3).2, (MsgsR.iff.1 h3).1, fun m hm => ?_⟩
  obtain ⟨i, hi, rfl⟩ := List.getElem_of_mem hm
  exact (h7 i hi).1
theorem merge_two {A B : List Msg} (ha : Rst A) (hb : Rst B) (h : ∀ a ∈ A, ∀ b ∈ B, a.stamp < b.stamp) : mergeN [A, B] = A ++ B ∧ Rst (A ++ B) := by
 have hr : Rst (A ++ B) := List.pairwise_append.2 ⟨ha, hb, h⟩
 refine ⟨merge_sorted _ _ _ rfl ?_ (by simp) hr, hr⟩
 intro L hL
 simp only [List.mem_cons, List.not_mem_nil, or_false] at hL
 rcases hL with rfl | rfl
 ·exact ha
 ·exact hb
theorem clips_stamp {s : Span} {A : List Msg} {m : Msg} (h : m ∈ clips s A) : ∃ a ∈ A, m.stamp = a.stamp := by
 obtain ⟨a, ha, h1, rfl⟩ := clips_mem h
 exact ⟨a, ha, clip_stamp h1⟩
theorem Tree.kid_ms (t : Tree c l ss) {x : Seat} (hx : x ∈ ss) (hr : Rst x.ms) (j : Nat) :
  (kidSt l x j).ms = clips (kidSt l x j).s x.n.msgs ++ clips (kidSt l x j).s x.ms ∧ Rst (kidSt l x j).ms := by
 obtain ⟨h1, _, h3⟩ := t.msgs hx
 have hs := (t.seat hx).2.2.2
 have := merge_two (A := clips (kidSt l x j).s x.n.msgs) (B := clips (kidSt l x j).s x.ms) (clips_rst h1) (clips_rst hr) fun a ha b hb => by
  obtain ⟨a', ha', e1⟩ := clips_stamp ha
  obtain ⟨b', hb', e2⟩ := clips_stamp hb
  have := h3 a' ha'
  obtain ⟨i, hi, rfl⟩ := List.getElem_of_mem hb'
  have := hs i hi
  omega
 have e : (kidSt l x j).ms = mergeN [clips (kidSt l x j).s x.n.msgs, clips (kidSt l x j).s x.ms] := rfl
 exact ⟨by rw [e, this.1], by rw [e, this.1]; exact this.2⟩
theorem Tree.rst (t : Tree c l ss) : ∀ x ∈ ss, Rst x.ms := t.ind List.Pairwise.nil fun x hx _ hr j _ => (t.kid_ms hx hr j).2
theorem Tree.fits (t : Tree c l ss) : ∀ x ∈ ss, (x.s.lo.b.size ≤ 16 ∧ x.s.hi.b.size ≤ 16) ∧ ∀ m ∈ x.ms, m.R := by
 refine t.ind ⟨⟨by show Str.nil.b.size ≤ 16; decide, by show Str.nil.b.size ≤ 16; decide⟩, fun m hm => by cases hm⟩ fun x hx h0 ih j hj => ?_
 have hi := t.inner hx h0
 have hsp : (kidSt l x j).s.lo.b.size ≤ 16 ∧ (kidSt l x j).s.hi.b.size ≤ 16 := meet_sizes ih.1 (range_sizes fun k hk => by
  obtain ⟨i, hi2, rfl⟩ := List.getElem_of_mem hk
  exact (hi.2.2.2.2.2.1 i hi2).2.1)
 refine ⟨hsp, fun m hm => ?_⟩
 rw [(t.kid_ms hx (t.rst x hx) j).1, List.mem_append] at hm
 rcases hm with hm | hm <;> obtain ⟨a, ha, h1, rfl⟩ := clips_mem hm
 ·exact clip_R ((t.msgs hx).2.1 a ha) hsp.1 hsp.2 h1
 ·exact clip_R (ih.2 a ha) hsp.1 hsp.2 h1
theorem kid_sub {x : Seat} {j : Nat} (k : Str) (h : (kidSt l x j).s.has k = true) : x.s.has k = true := by
 have e : (kidSt l x j).s.has k = (x.s.has k && (rangeN x.n.pivots (j : Int)).has k) := meet_has _ _ _
 rw [e, Bool.and_eq_true] at h
 exact h.1
theorem Tree.path (t : Tree c l ss) {k : Str} : ∀ (n : Nat) (x : Seat) (P : List Seat), x ∈ ss → x.n.level.toNat = n → x.s.has k = true → x.ms.Perm ((P.map fun y => clips x.s y.n.msgs).flatten) →
  ∃ z, (P ++ wayF l k n x).getLast? = some z ∧ z ∈ ss ∧ z.n.level = 0 ∧ z.s.has k = true ∧ (∀ y ∈ wayF l k n x, y ∈ ss ∧ (y.n.level = 0 → y = z)) ∧ z.ms.Perm (((P ++ wayF l k n x).map fun y => clips z.s y.n.msgs).flatten) := by
 intro n
 induction n with
 | zero =>
  intro x P hx hn hk hp
  have h0 : x.n.level = 0 := by have := t.lvl hx; omega
  refine ⟨x, by simp [wayF], hx, h0, hk, fun y hy => by simp [wayF] at hy; subst hy; exact ⟨hx, fun _ => rfl⟩, ?_⟩
  rw [wayF, List.map_append, List.flatten_append]
  simp only [List.map_cons, List.map_nil, List.flatten_cons, List.flatten_nil, t.nomsgs hx h0]
  simpa [clips] using hp
 | succ n ih =>
  intro x P hx hn hk hp
  have h0 : ¬ x.n.level = 0 := om9
  have h3 := (kids_all (t.kids hx) h0).2.2.1
  have hj := route_lt h3 k
  have ha := t.at hx h0 hj
  have hy : (kidSt l x (routeN x.n.pivots k)).s.has k = true := by rw [kidSt_has h3 hj, hk]; simp
  have hms := (t.kid_ms hx (t.rst x hx) (routeN x.n.pivots k)).1
  rw [way_cons (stepW_1 h0)]
  obtain ⟨z, h1, h2, h4, h5, h6, h7⟩ := ih (kidSt l x (routeN x.n.pivots k)) (P ++ [x]) ha.1 om9 hy (by
   rw [hms, List.map_append, List.flatten_append]
   simp only [List.map_cons, List.map_nil, List.flatten_cons, List.flatten_nil, List.append_nil]
   refine List.perm_append_comm.trans (List.Perm.append_right _ ?_)
   refine (clips_perm hp).trans (List.Perm.of_eq ?_)
   rw [clips_flat, List.map_map]
   congr 1
   refine List.map_congr_left fun y _ => ?_
   exact clips_clips (fun q hq => kid_sub q hq) _)
  refine ⟨z, by simpa using h1, h2, h4, h5, fun y hy => ?_, by simpa using h7⟩
  rcases List.mem_cons.1 hy with rfl | hy
  ·exact ⟨hx, fun h => absurd h h0⟩
  ·exact h6 y hy
noncomputable def leafS (l : List Nd) (k : Str) : Seat := (wayN l k).getLast?.getD default
structure LeafOk (l : List Nd) (ss : List Seat) (k : Str) (z : Seat) : Prop where
 last : (wayN l k).getLast? = some z
 mem : z ∈ ss
 lvl : z.n.level = 0
 has : z.s.has k = true
 all : ∀ y ∈ wayN l k, y ∈ ss ∧ (y.n.level = 0 → y = z)
 perm : z.ms.Perm (((wayN l k).map fun y => clips z.s y.n.msgs).flatten)
theorem Tree.leafOk (t : Tree c l ss) (k : Str) : LeafOk l ss k (leafS l k) := by
 obtain ⟨z, h1, h2, h3, h4, h5, h6⟩ := t.path (k := k) _ (rootS l 0) [] t.root rfl (all_has k) (by exact List.Perm.refl _)
 have h1 : (wayN l k).getLast? = some z := h1
 have e : leafS l k = z := by unfold leafS; rw [h1]; rfl
 rw [e]
 exact ⟨h1, h2, h3, h4, h5, h6⟩
theorem Tree.leaf_eq (t : Tree c l ss) {k : Str} {x : Seat} (hx : x ∈ ss) (hk : x.s.has k = true) (h0 : x.n.level = 0) : x = leafS l k := by
 have : x ∈ wayN l k := by rw [← t.way k]; exact List.mem_filter.2 ⟨hx, hk⟩
 exact ((t.leafOk k).all x this).2 h0
theorem fix_nil2 {K : Seat → List Seat} {T : List Seat} (h : T = T.flatMap K) (hf : ∀ x ∈ T, ∀ y ∈ K x, y.n.level < x.n.level) : T = [] := by
 apply Classical.byContradiction
 intro hn
 obtain ⟨m, hm, hx⟩ := max_lvl T hn
 have hm2 := hm
 rw [h] at hm2
 obtain ⟨x, hx1, hx2⟩ := List.mem_flatMap.1 hm2
 have := hf x hx1 m hx2
 have := hx x hx1
 omega
theorem Tree.kid_lvl (t : Tree c l ss) {x y : Seat} (hx : x ∈ ss) (hy : y ∈ kidsD l x) : y ∈ ss ∧ y.n.level = x.n.level - 1 := by
 by_cases h0 : x.n.level = 0
 ·rw [kids_leaf h0] at hy; cases hy
 ·rw [(kids_all (t.kids hx) h0).1] at hy
  obtain ⟨j, hj, rfl⟩ := List.mem_map.1 hy
  have := t.at hx h0 (List.mem_range.1 hj)
  exact ⟨this.1, this.2.2.2⟩
noncomputable def preF (l : List Nd) : Nat → Seat → List Seat
 | 0, x => [x]
 | n + 1, x => x :: (kidsD l x).flatMap (preF l n)
theorem perm_flat {α β : Type} {f g h : α → List β} (e : ∀ x, f x = g x ++ h x) : ∀ (L : List α), (L.flatMap f).Perm (L.flatMap g ++ L.flatMap h)
 | [] => List.Perm.refl _
 | x :: L => by
  rw [List.flatMap_cons, List.flatMap_cons, List.flatMap_cons, e x, List.append_assoc, List.append_assoc]
  refine List.Perm.append_left _ ?_
  refine (List.Perm.append_left _ (perm_flat e L)).trans ?_
  rw [← List.append_assoc, ← List.append_assoc]
  exact List.perm_append_comm.append_right _
def viewS (x : Seat) : List Pair := foldN (x.n.rows.filter fun p => x.s.has p.key) (clips x.s x.ms)
def leavesS (ss : List Seat) : List Seat := ss.filter fun x => decide (x.n.level = 0)
noncomputable def mapN (l : List Nd) : List Pair := match seatsN l 0 with | none => [] | some ss => (leavesS ss).flatMap viewS
theorem mapN_t (h : seatsN l 0 = some ss) : mapN l = (leavesS ss).flatMap viewS := by rw [mapN, h]
theorem Tree.rows (t : Tree c l ss) {x : Seat} (hx : x ∈ ss) : PairsR x.n.rows := by
 by_cases h0 : x.n.level = 0
 ·exact (t.leaf hx h0).2.2.1
 ·have := (t.inner hx h0).1.1
  rw [List.eq_nil_of_length_eq_zero this]
  intro i hi; simp at hi
theorem msgR_key {m : Msg} (h : m.R) : m.key.b.size ≤ 16 ∧ m.val.b.size ≤ 16 := ⟨h.1.2.1, h.1.2.2.1⟩
theorem Tree.view (t : Tree c l ss) {x : Seat} (hx : x ∈ ss) : viewS x = (foldN x.n.rows x.ms).filter fun p => x.s.has p.key :=
 view_fold (t.rows hx).srt fun m hm => by have := (msgR_key ((t.fits x hx).2 m hm)).1; omega
theorem Tree.view_get (t : Tree c l ss) {x : Seat} (hx : x ∈ ss) (k : Str) : getN (viewS x) k = if x.s.has k = true then getN (foldN x.n.rows x.ms) k else none := by
 rw [t.view hx, getN_filter]
theorem getN_flat {k : Str} : ∀ (T : List Seat), (∀ x ∈ T, x.s.has k = false → getN (viewS x) k = none) → getN (T.flatMap viewS) k = getN ((hasS k T).flatMap viewS) k
 | [], _ => rfl
 | x :: T, h => by
  have ih := getN_flat T (fun y hy => h y (List.mem_cons_of_mem _ hy))
  unfold hasS at *
  rw [List.flatMap_cons, getN_append, ih, List.filter_cons]
  cases hk : x.s.has k
  ·rw [if_neg (by simp), h x (by simp) hk]; rfl
  ·rw [if_pos rfl, List.flatMap_cons, getN_append]
theorem way_leaves {k : Str} (t : Tree c l ss) : ∀ (n : Nat) (x : Seat), x ∈ ss → x.n.level.toNat = n → ∃ z, leavesS (wayF l k n x) = [z] ∧ (wayF l k n x).getLast? = some z := by
 intro n
 induction n with
 | zero =>
  intro x hx hn
  have h0 : x.n.level = 0 := by have := t.lvl hx; omega
  exact ⟨x, by simp [wayF, leavesS, h0], by simp [wayF]⟩
 | succ n ih =>
  intro x hx hn
  have h0 : ¬ x.n.level = 0 := om9
  have ha := t.step (k := k) hx (stepW_1 h0)
  obtain ⟨z, h1, h2⟩ := ih _ ha.1 om9
  rw [way_cons (stepW_1 h0)]
  refine ⟨z, ?_, ?_⟩
  ·unfold leavesS at *
   rw [List.filter_cons_of_neg (by simpa using h0)]; exact h1
  ·rw [List.getLast?_cons, h2]; rfl
theorem Tree.get (t : Tree c l ss) (k : Str) : getN (mapN l) k = getN (foldN (leafS l k).n.rows (leafS l k).ms) k := by
 have h := t.leafOk k
 rw [mapN_t t.sts, getN_flat _ (fun x hx hk => by rw [t.view_get (List.mem_filter.1 hx).1, hk]; rfl)]
 have e : hasS k (leavesS ss) = [leafS l k] := by
  have : hasS k (leavesS ss) = leavesS (hasS k ss) := by
   unfold hasS leavesS
   rw [List.filter_filter, List.filter_filter]
   exact List.filter_congr fun x _ => Bool.and_comm _ _
  rw [this, t.way k]
  obtain ⟨z, h1, h2⟩ := way_leaves (k := k) t _ (rootS l 0) t.root rfl
  have h3 : (wayN l k).getLast? = some z := h2
  rw [h.last] at h3
  cases h3
  exact h1
 rw [e, List.flatMap_cons, List.flatMap_nil, List.append_nil, t.view_get h.mem, if_pos h.has]
def cntN (k : Str) (A : List Msg) : Nat := (A.filter fun m => m.span.has k).length
theorem cnt_append (k : Str) (A B : List Msg) : cntN k (A ++ B) = cntN k A + cntN k B := by simp [cntN]
theorem cnt_perm {k : Str} {A B : List Msg} (h : A.Perm B) : cntN k A = cntN k B := (List.Perm.filter _ h).length_eq
theorem cnt_flat (k : Str) : ∀ (L : List (List Msg)), cntN k L.flatten = (L.map (cntN k)).sum
 | [] => rfl
 | A :: L => by rw [List.flatten_cons, cnt_append, cnt_flat k L]; simp
theorem cnt_clips {k : Str} {s : Span} (hk : s.has k = true) : ∀ (A : List Msg), cntN k (clips s A) = cntN k A
 | [] => rfl
 | m :: A => by
  have ih := cnt_clips hk A
  have ec : cntN k (m :: A) = (if m.span.has k = true then 1 else 0) + cntN k A := by
   unfold cntN; rw [List.filter_cons]; split <;> simp; omega
  rw [clips_cons, ec]
  cases h : (m.clip s).2
  ·rw [if_neg (by simp), ih]
   have := empty_iff.1 (clip_no.1 h) k
   rw [meet_has, hk, Bool.and_true] at this
   rw [this]; simp
  ·rw [if_pos rfl]
   have e2 : cntN k ((m.clip s).1 :: clips s A) = (if (m.clip s).1.span.has k = true then 1 else 0) + cntN k (clips s A) := by
    unfold cntN; rw [List.filter_cons]; split <;> simp; omega
   rw [e2, ih]
   congr 2
   by_cases h4 : m.kind = 4
   ·rw [clip_span h h4, meet_has, hk, Bool.and_true]
   ·rw [(clip_of h).2, if_neg h4]
theorem cnt_point {k : Str} (hk : k.b.size < 140737488355328) : ∀ (A : List Msg), (clips ⟨k, k.next, false⟩ A).length = cntN k A
 | [] => rfl
 | m :: A => by
  have ih := cnt_point hk A
  rw [clips_cons]
  have e : (m.clip ⟨k, k.next, false⟩).2 = m.span.has k := by
   cases h : (m.clip ⟨k, k.next, false⟩).2
   ·have := empty_iff.1 (clip_no.1 h) k
    rw [meet_has, point_has hk] at this
    simpa using this.symm
   ·cases h2 : m.span.has k
    ·exfalso
     have : (m.span.meet ⟨k, k.next, false⟩).empty = true := empty_iff.2 fun q => by
      rw [meet_has, point_has hk]
      by_cases e : q = k
      ·subst e; rw [h2]; rfl
      ·simp [e]
     rw [clip_no.2 this] at h; cases h
    ·rfl
  unfold cntN
  rw [List.filter_cons, e]
  split
  ·rw [List.length_cons, List.length_cons, ih]; rfl
  ·rw [ih]; rfl
def allN (k : Str) (l : List Nd) : Nat := (l.map fun n => cntN k n.msgs).sum
theorem Tree.depth (t : Tree c l ss) {k : Str} (hk : k.b.size < 140737488355328) : (clips ⟨k, k.next, false⟩ (leafS l k).ms).length = allN k l := by
 have h := t.leafOk k
 rw [cnt_point hk, cnt_perm h.perm, cnt_flat, List.map_map]
 have e1 : ((wayN l k).map (cntN k ∘ fun y => clips (leafS l k).s y.n.msgs)) = (wayN l k).map fun y => cntN k y.n.msgs :=
  List.map_congr_left fun y _ => cnt_clips h.has _
 rw [e1, ← t.way k]
 have e2 : ∀ (T : List Seat), (∀ x ∈ T, x ∈ ss) → ((hasS k T).map fun y => cntN k y.n.msgs).sum = (T.map fun y => cntN k y.n.msgs).sum := by
  intro T
  induction T with
  | nil => intro _; rfl
  | cons x T ih =>
   intro hT
   have ih := ih (fun y hy => hT y (List.mem_cons_of_mem _ hy))
   unfold hasS at *
   rw [List.filter_cons]
   cases hx : x.s.has k
   ·rw [if_neg (by simp), ih]
    have : cntN k x.n.msgs = 0 := by
     unfold cntN
     rw [List.length_eq_zero_iff, List.filter_eq_nil_iff]
     intro m hm
     obtain ⟨i, hi, rfl⟩ := List.getElem_of_mem hm
     have := (t.seat (hT x (by simp))).2.1.2.2.2 i hi
     have := congrArg (fun s : Span => s.has k) this
     simp only [meet_has, norm_has, hx, Bool.and_false] at this
     rw [← this]; simp
    simp [this]
   ·rw [if_pos rfl]; simp [ih]
 rw [e2 ss (fun x hx => hx)]
 unfold allN
 have := (t.perm.map fun n : Nd => cntN k n.msgs).sum_nat
 rw [← this, List.map_map]; rfl
variable {c : Cfg} {l : List Nd} {ss : List Seat}
structure At (l : List Nd) (ss : List Seat) (k : Str) (x : Seat) (P : List Seat) (lv : Int) : Prop where
 mem : x ∈ ss
 way : wayN l k = P ++ wayF l k x.n.level.toNat x
 lv : lv < 0 ∨ lv = x.n.level + 1
theorem At.last {k : Str} {x : Seat} {P : List Seat} {lv : Int} (h : At l ss k x P lv) (h0 : x.n.level ≤ 0) : wayN l k = P ++ [x] := by
 rw [h.way, show x.n.level.toNat = 0 by omega]; rfl
theorem Tree.right (t : Tree c l ss) {x : Seat} (hx : x ∈ ss) (h0 : ¬ x.n.level ≤ 0) : rightN x.n.pivots x.n.kids.length = true := (kids_all (t.kids hx) om9).2.2.1
theorem Tree.route (t : Tree c l ss) {x : Seat} (hx : x ∈ ss) (h0 : ¬ x.n.level ≤ 0) (k : Str) : routeN x.n.pivots k < x.n.kids.length := route_lt (t.right hx h0) k
theorem At.next (t : Tree c l ss) {k : Str} {x : Seat} {P : List Seat} {lv : Int} (h : At l ss k x P lv) (h0 : ¬ x.n.level ≤ 0) : At l ss k (kidSt l x (routeN x.n.pivots k)) (P ++ [x]) x.n.level := by
 have ha := t.at h.mem om9 (t.route h.mem h0 k)
 refine ⟨ha.1, ?_, .inr om9⟩
 rw [h.way, show x.n.level.toNat = (kidSt l x (routeN x.n.pivots k)).n.level.toNat + 1 by omega, way_cons (stepW_1 om9)]
 simp
theorem At.slot (t : Tree c l ss) {x : Seat} (hx : x ∈ ss) (h0 : ¬ x.n.level ≤ 0) (k : Str) : (kidSt l x (routeN x.n.pivots k)).n.slot = x.n.kids[routeN x.n.pivots k]'(t.route hx h0 k) := by
 have ha := t.at hx om9 (t.route hx h0 k)
 rw [ha.2.2.1]
 exact (getL_slot t.slot ha.2.1).1
theorem Tree.root0 (t : Tree c l ss) : (rootS l 0).n.slot = 0 := by
 rw [t.rootn]
 exact (getL_slot t.slot ⟨Int.le_refl 0, by have := t.pos; omega⟩).1
theorem sizes_len : ∀ {ms : List Msg}, (∀ m ∈ ms, m.R) → 4 * (ms.length : Int) ≤ sizesN ms
 | [], _ => by simp [sizesN]
 | m :: ms, h => by
  have h1 := sizes_len (ms := ms) (fun a ha => h a (List.mem_cons_of_mem _ ha))
  have h2 := size_36 (msgR_key (h m (by simp)))
  rw [sizes_cons, List.length_cons]; omega
theorem Tree.msgs_len (t : Tree c l ss) {x : Seat} (hx : x ∈ ss) : x.n.msgs.length ≤ 1024 := by
 by_cases h0 : x.n.level = 0
 ·rw [t.nomsgs hx h0]; exact Nat.zero_le _
 ·have h1 := (t.inner hx h0).2.2.2.1
  have h2 := sizes_len (t.msgs hx).2.1
  have h3 := t.cfg.2.2.1.2
  omega
theorem Tree.lookup (t : Tree c l ss) (k : Str) : Eff.apply (onsN (leafS l k).ms k) (getN (leafS l k).n.rows k) = getN (mapN l) k := by
 rw [t.get k, getN_fold]
 intro m hm
 have := (t.fits _ (t.leafOk k).mem).2 m hm
 have h4 := MsgsR.kinds (l := [m]) (MsgsR.iff.2 ⟨by intro a ha; simp at ha; subst ha; exact this, List.pairwise_singleton _ _⟩) m (by simp)
 exact ⟨by have := (msgR_key this).1; omega, h4.1, h4.2⟩
end Go.Fw

namespace Go.Fw
def cutN (l : List Pair) (n : Int) : Nat := (max 0 (min (l.length : Int) n)).toNat
def partN (l : List Pair) (s : Span) (ms : List Msg) (c : Str) (n : Int) : List Pair × Str × Bool :=
 if s.empty = true then ([], c, true) else ((foldN (l.filter fun p => Span.has s p.key) (clips s ms)).take (cutN (foldN (l.filter fun p => Span.has s p.key) (clips s ms)) n), (if s.opn = true then Str.nil else s.hi), s.opn || decide (n ≤ ((foldN (l.filter fun p => Span.has s p.key) (clips s ms)).length : Int)))
theorem partN_n {l : List Pair} {s : Span} {ms : List Msg} {c : Str} {n : Int} (h : s.empty = false) {x : Str} {b : Bool} (hx : x = if s.opn = true then Str.nil else s.hi) (hb : b = (s.opn || decide (n ≤ ((foldN (l.filter fun p => Span.has s p.key) (clips s ms)).length : Int)))) :
  partN l s ms c n = ((foldN (l.filter fun p => Span.has s p.key) (clips s ms)).take (cutN (foldN (l.filter fun p => Span.has s p.key) (clips s ms)) n), x, b) := by rw [partN, if_neg (by simp [h]), hx, hb]
end Go.Fw

namespace Go.Fw
open Go Go.RowKit
variable {c : Cfg} {l : List Nd} {ss : List Seat}
noncomputable def dfsF (l : List Nd) : Nat → Seat → List Seat
 | 0, x => [x]
 | n + 1, x => (kidsD l x).flatMap (dfsF l n)
theorem Tree.leaves_dfs (t : Tree c l ss) : ∀ (n : Nat) (R T : List Seat), T = R ++ T.flatMap (kidsD l) → (∀ x ∈ T, x ∈ ss) → (∀ x ∈ R, x.n.level.toNat = n) → leavesS T = R.flatMap (dfsF l n) := by
 intro n
 induction n with
 | zero =>
  intro R T hT hs hR
  have hRT : ∀ x ∈ R, x ∈ T := fun x hx => by rw [hT]; exact List.mem_append_left _ hx
  have h0 : ∀ x ∈ R, x.n.level = 0 := fun x hx => by have := t.lvl (hs x (hRT x hx)); have := hR x hx; omega
  have hK : R.flatMap (kidsD l) = [] := List.flatMap_eq_nil_iff.2 fun x hx => kids_leaf (h0 x hx)
  generalize hS : T.flatMap (kidsD l) = S at hT
  have hS2 : S = S.flatMap (kidsD l) := by
   conv => lhs; rw [← hS, hT]
   rw [List.flatMap_append, hK, List.nil_append]
  have hST : ∀ x ∈ S, x ∈ T := fun x hx => by rw [hT]; exact List.mem_append_right _ hx
  have hn := fix_nil2 hS2 fun x hx y hy => by have := (t.kid_lvl (hs x (hST x hx)) hy).2; omega
  rw [hT, hn, List.append_nil]
  unfold leavesS
  rw [List.filter_eq_self.2 fun x hx => decide_eq_true (h0 x hx)]
  exact (List.flatMap_singleton' R).symm
 | succ n ih =>
  intro R T hT hs hR
  have hRT : ∀ x ∈ R, x ∈ T := fun x hx => by rw [hT]; exact List.mem_append_left _ hx
  generalize hS : T.flatMap (kidsD l) = S at hT
  have hS2 : S = R.flatMap (kidsD l) ++ S.flatMap (kidsD l) := by
   conv => lhs; rw [← hS, hT]
   rw [List.flatMap_append]
  have hST : ∀ x ∈ S, x ∈ T := fun x hx => by rw [hT]; exact List.mem_append_right _ hx
  have h1 := ih (R.flatMap (kidsD l)) S hS2 (fun x hx => hs x (hST x hx)) fun y hy => by
   obtain ⟨x, hx, hyx⟩ := List.mem_flatMap.1 hy
   have := (t.kid_lvl (hs x (hRT x hx)) hyx).2
   have := hR x hx
   omega
  have h2 : leavesS R = [] := List.filter_eq_nil_iff.2 fun x hx => by have := hR x hx; simp; omega
  rw [hT]
  unfold leavesS at *
  rw [List.filter_append, h2, List.nil_append, h1, List.flatMap_assoc]
  rfl
theorem Tree.leaves (t : Tree c l ss) : leavesS ss = dfsF l (rootS l 0).n.level.toNat (rootS l 0) := by
 have := t.leaves_dfs (rootS l 0).n.level.toNat [rootS l 0] ss (by exact t.fix) (fun x hx => hx) (fun x hx => by simp at hx; rw [hx])
 simpa using this
def Bef (a b : Seat) : Prop := ∀ p q, a.s.has p = true → b.s.has q = true → p.lt q = true
theorem route_mono {P : List Str} {p q : Str} (h : p.lt q = false) : routeN P q ≤ routeN P p := by
 unfold routeN
 rw [← List.countP_eq_length_filter, ← List.countP_eq_length_filter]
 refine List.countP_mono_left fun x _ hx => ?_
 simp only [Bool.not_eq_true'] at hx ⊢
 exact Str.le_trans hx h
theorem kids_bef {x : Seat} (h : rightN x.n.pivots x.n.kids.length = true) : (kidsF l x x.n.kids.length).Pairwise Bef := by
 unfold kidsF
 rw [List.pairwise_map]
 refine List.Pairwise.imp_of_mem (fun {i j} hi hj hij => ?_) List.pairwise_lt_range
 intro p q hp hq
 rw [kidSt_has h (List.mem_range.1 hi), Bool.and_eq_true, decide_eq_true_eq] at hp
 rw [kidSt_has h (List.mem_range.1 hj), Bool.and_eq_true, decide_eq_true_eq] at hq
 cases hl : p.lt q
 ·have := route_mono (P := x.n.pivots) hl; omega
 ·rfl
theorem Tree.dfs (t : Tree c l ss) : ∀ (n : Nat) (x : Seat), x ∈ ss → x.n.level.toNat = n → (∀ y ∈ dfsF l n x, y ∈ ss ∧ y.n.level = 0 ∧ ∀ k, y.s.has k = true → x.s.has k = true) ∧ (dfsF l n x).Pairwise Bef := by
 intro n
 induction n with
 | zero =>
  intro x hx hn
  have h0 : x.n.level = 0 := by have := t.lvl hx; omega
  exact ⟨fun y hy => by simp [dfsF] at hy; subst hy; exact ⟨hx, h0, fun k h => h⟩, by simp [dfsF]⟩
 | succ n ih =>
  intro x hx hn
  have h0 : ¬ x.n.level = 0 := om9
  obtain ⟨h1, h2, h3, h4⟩ := kids_all (t.kids hx) h0
  have hk : ∀ y ∈ kidsD l x, y ∈ ss ∧ y.n.level.toNat = n ∧ ∀ k, y.s.has k = true → x.s.has k = true := fun y hy => by
   have := t.kid_lvl hx hy
   rw [h1] at hy
   obtain ⟨j, hj, rfl⟩ := List.mem_map.1 hy
   exact ⟨this.1, om9, fun k => kid_sub k⟩
  refine ⟨fun y hy => ?_, ?_⟩
  ·obtain ⟨z, hz, hyz⟩ := List.mem_flatMap.1 hy
   obtain ⟨a1, a2, a3⟩ := hk z hz
   obtain ⟨b1, b2, b3⟩ := (ih z a1 a2).1 y hyz
   exact ⟨b1, b2, fun k h => a3 k (b3 k h)⟩
  ·show ((kidsD l x).flatMap (dfsF l n)).Pairwise Bef
   rw [List.pairwise_flatMap]
   refine ⟨fun z hz => (ih z (hk z hz).1 (hk z hz).2.1).2, ?_⟩
   rw [h1]
   refine List.Pairwise.imp_of_mem (fun {a b} ha hb hab => ?_) (kids_bef h3)
   intro u hu v hv p q hp hq
   rw [← h1] at ha hb
   exact hab p q (((ih a (hk a ha).1 (hk a ha).2.1).1 u hu).2.2 p hp) (((ih b (hk b hb).1 (hk b hb).2.1).1 v hv).2.2 q hq)
theorem Tree.leaves_bef (t : Tree c l ss) : (leavesS ss).Pairwise Bef := by rw [t.leaves]; exact (t.dfs _ _ t.root rfl).2
theorem Tree.view_keys (t : Tree c l ss) {x : Seat} (hx : x ∈ ss) {p : Pair} (hp : p ∈ viewS x) : x.s.has p.key = true := by
 rw [t.view hx] at hp; exact (List.mem_filter.1 hp).2
theorem Tree.foldR (t : Tree c l ss) {x : Seat} (hx : x ∈ ss) : PairsR (foldN x.n.rows x.ms) := (t.rows hx).fold fun m hm => msgR_key ((t.fits x hx).2 m hm)
theorem Tree.srt (t : Tree c l ss) : Srt (mapN l) := by
 rw [mapN_t t.sts]
 unfold Srt
 rw [List.pairwise_flatMap]
 refine ⟨fun x hx => ?_, List.Pairwise.imp_of_mem (fun {a b} ha hb hab => ?_) t.leaves_bef⟩
 ·rw [t.view (List.mem_filter.1 hx).1]; exact (t.foldR (List.mem_filter.1 hx).1).srt.filter _
 ·intro p hp q hq
  exact hab _ _ (t.view_keys (List.mem_filter.1 ha).1 hp) (t.view_keys (List.mem_filter.1 hb).1 hq)
theorem Tree.map_view (t : Tree c l ss) {z : Seat} (hz : z ∈ ss) (h0 : z.n.level = 0) : (mapN l).filter (fun p => z.s.has p.key) = viewS z := by
 have hm : z ∈ leavesS ss := List.mem_filter.2 ⟨hz, decide_eq_true h0⟩
 obtain ⟨A, B, e⟩ := List.append_of_mem hm
 have ho := t.leaves_bef
 have hsub : ∀ x ∈ A ++ z :: B, x ∈ ss := fun x hx => by rw [← e] at hx; exact (List.mem_filter.1 hx).1
 rw [mapN_t t.sts, e]
 rw [e] at ho
 obtain ⟨h1, h2, h3⟩ := List.pairwise_append.1 ho
 have hA : (A.flatMap viewS).filter (fun p => z.s.has p.key) = [] := List.filter_eq_nil_iff.2 fun p hp hh => by
  obtain ⟨x, hx, hp⟩ := List.mem_flatMap.1 hp
  have := h3 x hx z (by simp) p.key p.key (t.view_keys (hsub x (List.mem_append_left _ hx)) hp) hh
  rw [Str.lt_irrefl] at this; cases this
 have hB : (B.flatMap viewS).filter (fun p => z.s.has p.key) = [] := List.filter_eq_nil_iff.2 fun p hp hh => by
  obtain ⟨x, hx, hp⟩ := List.mem_flatMap.1 hp
  have := (List.pairwise_cons.1 h2).1 x hx p.key p.key hh (t.view_keys (hsub x (List.mem_append_right _ (List.mem_cons_of_mem _ hx))) hp)
  rw [Str.lt_irrefl] at this; cases this
 have hV : (viewS z).filter (fun p => z.s.has p.key) = viewS z := List.filter_eq_self.2 fun p hp => t.view_keys hz hp
 rw [List.flatMap_append, List.flatMap_cons, List.filter_append, List.filter_append, hA, hB, hV, List.append_nil, List.nil_append]
def ptsN (A : List Msg) : Nat := (A.filter fun m => !decide (m.kind = 4)).length
def sumF (f : Nat → Nat) : Nat → Nat
 | 0 => 0
 | n + 1 => sumF f n + f n
theorem filter_split {M : List Pair} (hM : Srt M) (p : Str → Bool) (h : Str) : M.filter (fun a => p a.key) = M.filter (fun a => p a.key && a.key.lt h) ++ M.filter (fun a => p a.key && !a.key.lt h) := by
 induction M with
 | nil => rfl
 | cons a M ih =>
  have hp := List.pairwise_cons.1 hM
  rw [List.filter_cons, List.filter_cons, List.filter_cons, ih hp.2]
  cases hpa : p a.key
  ·simp
  ·cases hl : a.key.lt h
   ·have : M.filter (fun a => p a.key && a.key.lt h) = [] := List.filter_eq_nil_iff.2 fun b hb hh => by
     have hab := hp.1 b hb
     simp only [Bool.and_eq_true] at hh
     have := Str.lt_trans hab hh.2
     rw [hl] at this; cases this
    rw [this]; simp
   ·simp
structure SwOk (l : List Nd) (x : Span) (n : Int) (rest : Span) (out : List Pair) : Prop where
 eq : out ++ (mapN l).filter (fun p => rest.has p.key) = (mapN l).filter (fun p => x.has p.key)
 len : out = [] ∨ (out.length : Int) < n
theorem SwOk.empty {x rest : Span} {n : Int} {out : List Pair} (h : SwOk l x n rest out) (he : rest.empty = true) : out = scanN (mapN l) x n := by
 have h1 := h.eq
 rw [List.filter_eq_nil_iff.2 (fun p _ => by rw [empty_iff.1 he]; simp), List.append_nil] at h1
 unfold scanN
 rw [← h1]
 rcases h.len with h2 | h2
 ·rw [h2]; simp
 ·exact (List.take_of_length_le om9).symm
theorem SwOk.full {x rest : Span} {n : Int} {out : List Pair} (h : SwOk l x n rest out) (hn : n ≤ (out.length : Int)) : out = scanN (mapN l) x n := by
 have h2 : out = [] := h.len.resolve_right om9
 subst h2
 unfold scanN
 rw [show n.toNat = 0 by simp at hn; omega]; rfl
structure Leg (l : List Nd) (z : Seat) (rest s : Span) : Prop where
 se : s = rest.meet z.s
 lo : s.has rest.lo = true
theorem Leg.view (t : Tree c l ss) {z : Seat} (hz : z ∈ ss) (h0 : z.n.level = 0) {rest s : Span} (g : Leg l z rest s) : foldN (z.n.rows.filter fun p => s.has p.key) (clips s z.ms) = (mapN l).filter (fun p => s.has p.key) := by
 have hsz : ∀ k, s.has k = true → z.s.has k = true := fun k hk => by rw [g.se, meet_has, Bool.and_eq_true] at hk; exact hk.2
 have e : (mapN l).filter (fun p => s.has p.key) = ((mapN l).filter (fun p => z.s.has p.key)).filter (fun p => s.has p.key) := by
  rw [List.filter_filter]
  refine List.filter_congr fun p _ => ?_
  cases hs : s.has p.key
  ·rfl
  ·rw [hsz _ hs]; rfl
 rw [e, t.map_view hz h0, t.view hz, List.filter_filter, view_fold (t.rows hz).srt fun m hm => by have := (msgR_key ((t.fits z hz).2 m hm)).1; omega]
 refine List.filter_congr fun p _ => ?_
 cases hs : s.has p.key
 ·rfl
 ·rw [hsz _ hs]; rfl
theorem Leg.nonempty {z : Seat} {rest s : Span} (g : Leg l z rest s) : s.empty = false := by
 cases h : s.empty
 ·rfl
 ·have := empty_iff.1 h rest.lo; rw [g.lo] at this; cases this
theorem has_mid {s : Span} {a b k : Str} (ha : s.has a = true) (hb : s.has b = true) (h1 : k.lt a = false) (h2 : b.lt k = false) : s.has k = true := by
 unfold Span.has at *
 simp only [Bool.and_eq_true, Bool.not_eq_true', Bool.or_eq_true] at *
 refine ⟨Str.le_trans ha.1 h1, hb.2.imp id fun h => Str.lt_of_le_of_lt h2 h⟩
theorem Leg.fin {z : Seat} {rest s : Span} (g : Leg l z rest s) (ho : s.opn = false) : rest.lo.lt s.hi = true := by
 have h := g.lo
 unfold Span.has at h
 rw [ho] at h
 simp only [Bool.false_or, Bool.and_eq_true] at h
 exact h.2
theorem Leg.split (t : Tree c l ss) {z : Seat} {rest s : Span} (g : Leg l z rest s) (ho : s.opn = false) : (mapN l).filter (fun p => rest.has p.key) = (mapN l).filter (fun p => s.has p.key) ++ (mapN l).filter (fun p => (rest.meet ⟨s.hi, Str.nil, true⟩).has p.key) := by
 rw [filter_split t.srt (fun k => rest.has k) s.hi]
 congr 1
 ·refine List.filter_congr fun p _ => ?_
  have hr : s.has p.key = true → rest.has p.key = true := fun hk => by rw [g.se, meet_has, Bool.and_eq_true] at hk; exact hk.1
  have hl := g.lo
  cases hs : s.has p.key
  ·cases hrk : rest.has p.key
   ·rfl
   ·cases hlt : p.key.lt s.hi
    ·rfl
    ·exfalso
     have h3 : s.has p.key = true := by
      unfold Span.has at *
      rw [ho] at *
      simp only [Bool.false_or, Bool.and_eq_true, Bool.not_eq_true', Bool.or_eq_true] at *
      exact ⟨Str.le_trans hl.1 hrk.1, hlt⟩
     rw [hs] at h3; cases h3
  ·rw [hr hs]
   unfold Span.has at hs
   rw [ho] at hs
   simp only [Bool.false_or, Bool.and_eq_true] at hs
   rw [hs.2]; rfl
 ·refine List.filter_congr fun p _ => ?_
  rw [meet_has]
  congr 1
  show _ = (!p.key.lt s.hi && (true || _))
  simp
theorem Leg.open (t : Tree c l ss) {z : Seat} {rest s : Span} (g : Leg l z rest s) (ho : s.opn = true) : (mapN l).filter (fun p => rest.has p.key) = (mapN l).filter (fun p => s.has p.key) := by
 refine List.filter_congr fun p _ => ?_
 have hl := g.lo
 cases hs : s.has p.key
 ·cases hrk : rest.has p.key
  ·rfl
  ·exfalso
   have h3 : s.has p.key = true := by
    unfold Span.has at *
    rw [ho] at *
    simp only [Bool.true_or, Bool.and_true, Bool.and_eq_true, Bool.not_eq_true'] at *
    exact Str.le_trans hl hrk.1
   rw [hs] at h3; cases h3
 ·rw [g.se, meet_has, Bool.and_eq_true] at hs
  exact hs.1
theorem take_cut {A : List Pair} {n : Int} {k : Nat} (hn : 0 < n) : A.take (cutN A n) = A.take n.toNat := by
 unfold cutN
 by_cases h : (A.length : Int) ≤ n
 ·rw [List.take_of_length_le om9, List.take_of_length_le om9]
 ·congr 1; omega
theorem SwOk.last {x rest : Span} {n : Int} {out V R : List Pair} (h : SwOk l x n rest out) (hn : ¬ n ≤ (out.length : Int)) (hV : (mapN l).filter (fun p => rest.has p.key) = V ++ R) (hl : R = [] ∨ n - (out.length : Int) ≤ (V.length : Int)) :
  out ++ V.take (cutN V (n - (out.length : Int))) = scanN (mapN l) x n := by
 unfold scanN
 rw [← h.eq, hV, take_cut (k := 0) om9, List.take_append, List.take_of_length_le (by omega : out.length ≤ n.toNat), show (n - (out.length : Int)).toNat = n.toNat - out.length by omega]
 congr 1
 rcases hl with rfl | hl
 ·rw [List.append_nil]
 ·rw [List.take_append_of_le_length om9]
theorem SwOk.next {x rest r2 : Span} {n : Int} {out V : List Pair} (h : SwOk l x n rest out) (hn : ¬ n ≤ (out.length : Int)) (hV : (mapN l).filter (fun p => rest.has p.key) = V ++ (mapN l).filter (fun p => r2.has p.key)) (hl : ¬ n - (out.length : Int) ≤ (V.length : Int)) :
  SwOk l x n r2 (out ++ V) ∧ V.take (cutN V (n - (out.length : Int))) = V :=
 ⟨⟨by rw [List.append_assoc, ← hV]; exact h.eq, .inr (by rw [List.length_append]; omega)⟩, by rw [take_cut (k := 0) om9]; exact List.take_of_length_le om9⟩
def aheadN (ss : List Seat) (rest : Span) : Nat := if rest.empty = true then 0 else 1 + ((leavesS ss).filter fun y => y.s.opn || rest.lo.lt y.s.hi).length
theorem Leg.ahead {z : Seat} (hz : z ∈ ss) (h0 : z.n.level = 0) {rest s : Span} (he : rest.empty = false) (g : Leg l z rest s) (ho : s.opn = false) : aheadN ss (rest.meet ⟨s.hi, Str.nil, true⟩) < aheadN ss rest := by
 have hfin := g.fin ho
 unfold aheadN
 rw [he, if_neg (by simp : ¬ false = true)]
 split
 ·omega
 ·rename_i hne
  generalize hr : rest.meet ⟨s.hi, Str.nil, true⟩ = r2 at hne ⊢
  have hr2 : r2.has r2.lo = true := by have := Span.empty_eq r2; cases h : r2.empty; rw [h] at this; simpa using this; exact absurd h hne
  have hm : rest.has r2.lo = true ∧ r2.lo.lt s.hi = false := by
   have h1 : (rest.meet ⟨s.hi, Str.nil, true⟩).has r2.lo = true := by rw [hr]; exact hr2
   rw [meet_has, Bool.and_eq_true] at h1
   refine ⟨h1.1, ?_⟩
   have h2 := h1.2
   unfold Span.has at h2
   simp only [Bool.and_eq_true, Bool.not_eq_true'] at h2
   exact h2.1
  have hrl : rest.has rest.lo = true := by have := g.lo; rw [g.se, meet_has, Bool.and_eq_true] at this; exact this.1
  have hzl : z.s.has rest.lo = true := by have := g.lo; rw [g.se, meet_has, Bool.and_eq_true] at this; exact this.2
  have hlt : rest.lo.lt r2.lo = true := Str.lt_of_lt_of_le hfin hm.2
  have hzc : (z.s.opn || rest.lo.lt z.s.hi) = true := by
   unfold Span.has at hzl; rw [Bool.and_eq_true] at hzl; exact hzl.2
  have hzn : (z.s.opn || r2.lo.lt z.s.hi) = false := by
   cases h : (z.s.opn || r2.lo.lt z.s.hi)
   ·rfl
   ·exfalso
    have h1 : rest.has s.hi = true := has_mid hrl hm.1 (Str.lt_asymm hfin) hm.2
    have h2 : z.s.has s.hi = true := by
     have h5 := hzl
     unfold Span.has at h5 ⊢
     simp only [Bool.and_eq_true, Bool.not_eq_true', Bool.or_eq_true] at h5 h ⊢
     exact ⟨Str.le_trans h5.1 (Str.lt_asymm hfin), h.imp id fun h => Str.lt_of_le_of_lt hm.2 h⟩
    have h3 : s.has s.hi = true := by rw [g.se, meet_has, ← g.se, h1, h2]; rfl
    unfold Span.has at h3
    rw [ho, Str.lt_irrefl] at h3
    simp at h3
  have hmono : ∀ y : Seat, (y.s.opn || r2.lo.lt y.s.hi) = true → (y.s.opn || rest.lo.lt y.s.hi) = true := fun y h => by
   rw [Bool.or_eq_true] at h ⊢
   exact h.imp id fun h => Str.lt_trans hlt h
  have hzm : z ∈ leavesS ss := List.mem_filter.2 ⟨hz, decide_eq_true h0⟩
  have key : ∀ T : List Seat, z ∈ T → (T.filter fun y => y.s.opn || r2.lo.lt y.s.hi).length < (T.filter fun y => y.s.opn || rest.lo.lt y.s.hi).length := by
   intro T
   induction T with
   | nil => intro h; cases h
   | cons y T ih =>
    intro h
    have hle : (T.filter fun y => y.s.opn || r2.lo.lt y.s.hi).length ≤ (T.filter fun y => y.s.opn || rest.lo.lt y.s.hi).length := by
     rw [← List.countP_eq_length_filter, ← List.countP_eq_length_filter]
     exact List.countP_mono_left fun y _ h => hmono y h
    rw [List.filter_cons, List.filter_cons]
    rcases List.mem_cons.1 h with rfl | h
    ·rw [hzn, hzc]; simp; omega
    ·have ih := ih h
     cases ha : (y.s.opn || r2.lo.lt y.s.hi)
     ·simp only [Bool.false_eq_true, if_false]
      split
      ·simp; omega
      ·exact ih
     ·rw [hmono y ha]; simp; omega
  have := key _ hzm
  omega
theorem Leg.part (t : Tree c l ss) {z : Seat} (hz : z ∈ ss) (h0 : z.n.level = 0) {rest s : Span} (g : Leg l z rest s) (b : Str) (n : Int) :
  partN z.n.rows s z.ms b n = (((mapN l).filter (fun p => s.has p.key)).take (cutN ((mapN l).filter (fun p => s.has p.key)) n), (if s.opn = true then Str.nil else s.hi), s.opn || decide (n ≤ (((mapN l).filter (fun p => s.has p.key)).length : Int))) := by
 rw [partN_n g.nonempty rfl rfl, g.view t hz h0]
theorem SwOk.over (t : Tree c l ss) {x rest s : Span} {z : Seat} {n : Int} {out : List Pair} (h : SwOk l x n rest out) (hn : ¬ n ≤ (out.length : Int)) (g : Leg l z rest s) (ho : (s.opn || decide (n - (out.length : Int) ≤ (((mapN l).filter (fun p => s.has p.key)).length : Int))) = true) :
  out ++ ((mapN l).filter (fun p => s.has p.key)).take (cutN ((mapN l).filter (fun p => s.has p.key)) (n - (out.length : Int))) = scanN (mapN l) x n := by
 cases hs : s.opn
 ·rw [hs, Bool.false_or, decide_eq_true_eq] at ho
  exact h.last hn (g.split t hs) (.inr ho)
 ·exact h.last hn (R := []) (by rw [List.append_nil]; exact g.open t hs) (.inl rfl)
theorem SwOk.go (t : Tree c l ss) {x rest s : Span} {z : Seat} {n : Int} {out : List Pair} (h : SwOk l x n rest out) (hn : ¬ n ≤ (out.length : Int)) (g : Leg l z rest s) (ho : (s.opn || decide (n - (out.length : Int) ≤ (((mapN l).filter (fun p => s.has p.key)).length : Int))) = false) :
  s.opn = false ∧ SwOk l x n (rest.meet ⟨s.hi, Str.nil, true⟩) (out ++ (mapN l).filter (fun p => s.has p.key)) ∧ ((mapN l).filter (fun p => s.has p.key)).take (cutN ((mapN l).filter (fun p => s.has p.key)) (n - (out.length : Int))) = (mapN l).filter (fun p => s.has p.key) := by
 rw [Bool.or_eq_false_iff, decide_eq_false_iff_not] at ho
 exact ⟨ho.1, h.next hn (g.split t ho.1) ho.2⟩
theorem scan_all {M : List Pair} {n : Int} (h : (M.length : Int) ≤ n) : scanN M Span.all n = M := by
 unfold scanN
 rw [List.filter_eq_self.2 fun p _ => all_has p.key, List.take_of_length_le om9]
def oneS (n : Nd) : Seat := ⟨n, Span.all, []⟩
end Go.Fw
