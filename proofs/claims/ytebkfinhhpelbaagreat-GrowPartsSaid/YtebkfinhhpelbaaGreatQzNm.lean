/- The messages that wait in a sound tree, and the map that it stands for. Plain Lean; nothing of the program is named here. No condition. -/
import Derived.Test.YtebkfinhhpelbaaGreatQzNl
set_option linter.unusedVariables false
set_option linter.unusedSimpArgs false
set_option linter.unnecessarySimpa false
set_option maxRecDepth 100000
set_option maxHeartbeats 1600000

namespace Go.Fw
open Go Go.RowKit
variable {c : Cfg} {l : List Nd} {ss : List Seat}
theorem Tree.from (t : Tree c l ss) {x : Seat} (hx : x ∈ ss) : x = rootS l 0 ∨ ∃ y ∈ ss, ∃ h0 : ¬ y.n.level = 0, ∃ j, j < y.n.kids.length ∧ x = kidSt l y j := by
 rw [t.fix] at hx
 rcases List.mem_cons.1 hx with rfl | hx
 ·exact .inl rfl
 ·obtain ⟨y, hy, hk⟩ := List.mem_flatMap.1 hx
  by_cases h0 : y.n.level = 0
  ·rw [kids_leaf h0] at hk; cases hk
  ·rw [(kids_all (t.kids hy) h0).1] at hk
   obtain ⟨j, hj, rfl⟩ := List.mem_map.1 hk
   exact .inr ⟨y, hy, h0, j, List.mem_range.1 hj, rfl⟩
theorem Tree.ind (t : Tree c l ss) {P : Seat → Prop} (h0 : P (rootS l 0)) (hk : ∀ x ∈ ss, ¬ x.n.level = 0 → P x → ∀ j, j < x.n.kids.length → P (kidSt l x j)) : ∀ x ∈ ss, P x := by
 intro x hx
 apply Classical.byContradiction
 intro hn
 have hT : (ss.filter fun y => @decide (¬ P y) (Classical.propDecidable _)) ≠ [] := by
  intro e
  have : x ∈ ss.filter fun y => @decide (¬ P y) (Classical.propDecidable _) := List.mem_filter.2 ⟨hx, by simpa using hn⟩
  rw [e] at this; cases this
 obtain ⟨m, hm, hmax⟩ := max_lvl _ hT
 obtain ⟨hm1, hm2⟩ := List.mem_filter.1 hm
 have hm2 : ¬ P m := by simpa using hm2
 rcases t.from hm1 with rfl | ⟨y, hy, hy0, j, hj, rfl⟩
 ·exact hm2 h0
 ·refine hm2 (hk y hy hy0 ?_ j hj)
  apply Classical.byContradiction
  intro hPy
  have := hmax y (List.mem_filter.2 ⟨hy, by simpa using hPy⟩)
  have := (t.at hy hy0 hj).2.2.2
  omega
theorem Tree.inner (t : Tree c l ss) {x : Seat} (hx : x ∈ ss) (h0 : ¬ x.n.level = 0) : x.n.innerR c.fan c.bud := by
 have := (t.seat hx).1.2.2.2
 rwa [if_neg h0] at this
theorem Tree.leaf (t : Tree c l ss) {x : Seat} (hx : x ∈ ss) (h0 : x.n.level = 0) : x.n.leafR c.leaf := by
 have := (t.seat hx).1.2.2.2
 rwa [if_pos h0] at this
theorem Tree.nomsgs (t : Tree c l ss) {x : Seat} (hx : x ∈ ss) (h0 : x.n.level = 0) : x.n.msgs = [] := by
 have := (t.leaf hx h0).1
 exact List.eq_nil_of_length_eq_zero (by omega)
theorem Tree.msgs (t : Tree c l ss) {x : Seat} (hx : x ∈ ss) : Rst x.n.msgs ∧ (∀ m ∈ x.n.msgs, m.R) ∧ ∀ m ∈ x.n.msgs, m.stamp ≤ x.n.seen := by
 by_cases h0 : x.n.level = 0
 ·rw [t.nomsgs hx h0]; exact ⟨List.Pairwise.nil, (fun m hm => by cases hm), fun m hm => by cases hm⟩
 ·obtain ⟨_, _, h3, _, _, _, h7⟩ := t.inner hx h0
  refine ⟨(MsgsR.iff.1 h3).2, (MsgsR.iff.1 h3).1, fun m hm => ?_⟩
  obtain ⟨i, hi, rfl⟩ := List.getElem_of_mem hm
  exact (h7 i hi).1
theorem merge_two {A B : List Msg} (ha : Rst A) (hb : Rst B) (h : ∀ a ∈ A, ∀ b ∈ B, a.stamp < b.stamp) : mergeN [A, B] = A ++ B ∧ Rst (A ++ B) := by
 have hr : Rst (A ++ B) := List.pairwise_append.2 ⟨ha, hb, h⟩
 refine ⟨merge_sorted _ _ _ rfl ?_ (by simp) hr, hr⟩
 intro L hL
 simp only [List.mem_cons, List.not_mem_nil, or_false] at hL
 rcases hL with rfl | rfl
 ·exact ha
 ·exact hb
theorem clips_stamp {s : Span} {A : List Msg} {m : Msg} (h : m ∈ clips s A) : ∃ a ∈ A, m.stamp = a.stamp := by
 obtain ⟨a, ha, h1, rfl⟩ := clips_mem h
 exact ⟨a, ha, clip_stamp h1⟩
theorem Tree.kid_ms (t : Tree c l ss) {x : Seat} (hx : x ∈ ss) (hr : Rst x.ms) (j : Nat) :
  (kidSt l x j).ms = clips (kidSt l x j).s x.n.msgs ++ clips (kidSt l x j).s x.ms ∧ Rst (kidSt l x j).ms := by
 obtain ⟨h1, _, h3⟩ := t.msgs hx
 have hs := (t.seat hx).2.2.2
 have := merge_two (A := clips (kidSt l x j).s x.n.msgs) (B := clips (kidSt l x j).s x.ms) (clips_rst h1) (clips_rst hr) fun a ha b hb => by
  obtain ⟨a', ha', e1⟩ := clips_stamp ha
  obtain ⟨b', hb', e2⟩ := clips_stamp hb
  have := h3 a' ha'
  obtain ⟨i, hi, rfl⟩ := List.getElem_of_mem hb'
  have := hs i hi
  omega
 have e : (kidSt l x j).ms = mergeN [clips (kidSt l x j).s x.n.msgs, clips (kidSt l x j).s x.ms] := rfl
 exact ⟨by rw [e, this.1], by rw [e, this.1]; exact this.2⟩
theorem Tree.rst (t : Tree c l ss) : ∀ x ∈ ss, Rst x.ms := t.ind List.Pairwise.nil fun x hx _ hr j _ => (t.kid_ms hx hr j).2
theorem Tree.fits (t : Tree c l ss) : ∀ x ∈ ss, (x.s.lo.b.size ≤ 16 ∧ x.s.hi.b.size ≤ 16) ∧ ∀ m ∈ x.ms, m.R := by
 refine t.ind ⟨⟨by show Str.nil.b.size ≤ 16; decide, by show Str.nil.b.size ≤ 16; decide⟩, fun m hm => by cases hm⟩ fun x hx h0 ih j hj => ?_
 have hi := t.inner hx h0
 have hsp : (kidSt l x j).s.lo.b.size ≤ 16 ∧ (kidSt l x j).s.hi.b.size ≤ 16 := meet_sizes ih.1 (range_sizes fun k hk => by
  obtain ⟨i, hi2, rfl⟩ := List.getElem_of_mem hk
  exact (hi.2.2.2.2.2.1 i hi2).2.1)
 refine ⟨hsp, fun m hm => ?_⟩
 rw [(t.kid_ms hx (t.rst x hx) j).1, List.mem_append] at hm
 rcases hm with hm | hm <;> obtain ⟨a, ha, h1, rfl⟩ := clips_mem hm
 ·exact clip_R ((t.msgs hx).2.1 a ha) hsp.1 hsp.2 h1
 ·exact clip_R (ih.2 a ha) hsp.1 hsp.2 h1
theorem kid_sub {x : Seat} {j : Nat} (k : Str) (h : (kidSt l x j).s.has k = true) : x.s.has k = true := by
 have e : (kidSt l x j).s.has k = (x.s.has k && (rangeN x.n.pivots (j : Int)).has k) := meet_has _ _ _
 rw [e, Bool.and_eq_true] at h
 exact h.1
theorem Tree.path (t : Tree c l ss) {k : Str} : ∀ (n : Nat) (x : Seat) (P : List Seat), x ∈ ss → x.n.level.toNat = n → x.s.has k = true → x.ms.Perm ((P.map fun y => clips x.s y.n.msgs).flatten) →
  ∃ z, (P ++ wayF l k n x).getLast? = some z ∧ z ∈ ss ∧ z.n.level = 0 ∧ z.s.has k = true ∧ (∀ y ∈ wayF l k n x, y ∈ ss ∧ (y.n.level = 0 → y = z)) ∧ z.ms.Perm (((P ++ wayF l k n x).map fun y => clips z.s y.n.msgs).flatten) := by
 intro n
 induction n with
 | zero =>
  intro x P hx hn hk hp
  have h0 : x.n.level = 0 := by have := t.lvl hx; omega
  refine ⟨x, by simp [wayF], hx, h0, hk, fun y hy => by simp [wayF] at hy; subst hy; exact ⟨hx, fun _ => rfl⟩, ?_⟩
  rw [wayF, List.map_append, List.flatten_append]
  simp only [List.map_cons, List.map_nil, List.flatten_cons, List.flatten_nil, t.nomsgs hx h0]
  simpa [clips] using hp
 | succ n ih =>
  intro x P hx hn hk hp
  have h0 : ¬ x.n.level = 0 := by omega
  have h3 := (kids_all (t.kids hx) h0).2.2.1
  have hj := route_lt h3 k
  have ha := t.at hx h0 hj
  have hy : (kidSt l x (routeN x.n.pivots k)).s.has k = true := by rw [kidSt_has h3 hj, hk]; simp
  have hms := (t.kid_ms hx (t.rst x hx) (routeN x.n.pivots k)).1
  rw [way_cons (stepW_1 h0)]
  obtain ⟨z, h1, h2, h4, h5, h6, h7⟩ := ih (kidSt l x (routeN x.n.pivots k)) (P ++ [x]) ha.1 (by omega) hy (by
   rw [hms, List.map_append, List.flatten_append]
   simp only [List.map_cons, List.map_nil, List.flatten_cons, List.flatten_nil, List.append_nil]
   refine List.perm_append_comm.trans (List.Perm.append_right _ ?_)
   refine (clips_perm hp).trans (List.Perm.of_eq ?_)
   rw [clips_flat, List.map_map]
   congr 1
   refine List.map_congr_left fun y _ => ?_
   exact clips_clips (fun q hq => kid_sub q hq) _)
  refine ⟨z, by simpa using h1, h2, h4, h5, fun y hy => ?_, by simpa using h7⟩
  rcases List.mem_cons.1 hy with rfl | hy
  ·exact ⟨hx, fun h => absurd h h0⟩
  ·exact h6 y hy
noncomputable def leafS (l : List Nd) (k : Str) : Seat := (wayN l k).getLast?.getD default
structure LeafOk (l : List Nd) (ss : List Seat) (k : Str) (z : Seat) : Prop where
 last : (wayN l k).getLast? = some z
 mem : z ∈ ss
 lvl : z.n.level = 0
 has : z.s.has k = true
 all : ∀ y ∈ wayN l k, y ∈ ss ∧ (y.n.level = 0 → y = z)
 perm : z.ms.Perm (((wayN l k).map fun y => clips z.s y.n.msgs).flatten)
theorem Tree.leafOk (t : Tree c l ss) (k : Str) : LeafOk l ss k (leafS l k) := by
 obtain ⟨z, h1, h2, h3, h4, h5, h6⟩ := t.path (k := k) _ (rootS l 0) [] t.root rfl (all_has k) (by exact List.Perm.refl _)
 have h1 : (wayN l k).getLast? = some z := h1
 have e : leafS l k = z := by unfold leafS; rw [h1]; rfl
 rw [e]
 exact ⟨h1, h2, h3, h4, h5, h6⟩
theorem Tree.leaf_eq (t : Tree c l ss) {k : Str} {x : Seat} (hx : x ∈ ss) (hk : x.s.has k = true) (h0 : x.n.level = 0) : x = leafS l k := by
 have : x ∈ wayN l k := by rw [← t.way k]; exact List.mem_filter.2 ⟨hx, hk⟩
 exact ((t.leafOk k).all x this).2 h0
theorem Tree.way_len (t : Tree c l ss) (k : Str) : (wayN l k).length ≤ 100 := by
 rw [← t.way k]
 have h1 : (hasS k ss).length ≤ ss.length := List.length_filter_le _ _
 have h2 := t.len
 have h3 := t.sml.1
 omega
def viewS (x : Seat) : List Pair := foldN (x.n.rows.filter fun p => x.s.has p.key) (clips x.s x.ms)
def leavesS (ss : List Seat) : List Seat := ss.filter fun x => decide (x.n.level = 0)
noncomputable def mapN (l : List Nd) : List Pair := match seatsN l 0 with | none => [] | some ss => (leavesS ss).flatMap viewS
theorem mapN_t (h : seatsN l 0 = some ss) : mapN l = (leavesS ss).flatMap viewS := by rw [mapN, h]
theorem Tree.rows (t : Tree c l ss) {x : Seat} (hx : x ∈ ss) : PairsR x.n.rows := by
 by_cases h0 : x.n.level = 0
 ·exact (t.leaf hx h0).2.2.1
 ·have := (t.inner hx h0).1.1
  rw [List.eq_nil_of_length_eq_zero this]
  intro i hi; simp at hi
theorem msgR_key {m : Msg} (h : m.R) : m.key.b.size ≤ 16 ∧ m.val.b.size ≤ 16 := ⟨h.1.2.1, h.1.2.2.1⟩
theorem Tree.view (t : Tree c l ss) {x : Seat} (hx : x ∈ ss) : viewS x = (foldN x.n.rows x.ms).filter fun p => x.s.has p.key :=
 view_fold (t.rows hx).srt fun m hm => by have := (msgR_key ((t.fits x hx).2 m hm)).1; omega
theorem Tree.view_get (t : Tree c l ss) {x : Seat} (hx : x ∈ ss) (k : Str) : getN (viewS x) k = if x.s.has k = true then getN (foldN x.n.rows x.ms) k else none := by
 rw [t.view hx, getN_filter]
theorem getN_flat {k : Str} : ∀ (T : List Seat), (∀ x ∈ T, x.s.has k = false → getN (viewS x) k = none) → getN (T.flatMap viewS) k = getN ((hasS k T).flatMap viewS) k
 | [], _ => rfl
 | x :: T, h => by
  have ih := getN_flat T (fun y hy => h y (List.mem_cons_of_mem _ hy))
  unfold hasS at *
  rw [List.flatMap_cons, getN_append, ih, List.filter_cons]
  cases hk : x.s.has k
  ·rw [if_neg (by simp), h x (by simp) hk]; rfl
  ·rw [if_pos rfl, List.flatMap_cons, getN_append]
theorem way_leaves {k : Str} (t : Tree c l ss) : ∀ (n : Nat) (x : Seat), x ∈ ss → x.n.level.toNat = n → ∃ z, leavesS (wayF l k n x) = [z] ∧ (wayF l k n x).getLast? = some z := by
 intro n
 induction n with
 | zero =>
  intro x hx hn
  have h0 : x.n.level = 0 := by have := t.lvl hx; omega
  exact ⟨x, by simp [wayF, leavesS, h0], by simp [wayF]⟩
 | succ n ih =>
  intro x hx hn
  have h0 : ¬ x.n.level = 0 := by omega
  have ha := t.step (k := k) hx (stepW_1 h0)
  obtain ⟨z, h1, h2⟩ := ih _ ha.1 (by omega)
  rw [way_cons (stepW_1 h0)]
  refine ⟨z, ?_, ?_⟩
  ·unfold leavesS at *
   rw [List.filter_cons_of_neg (by simpa using h0)]; exact h1
  ·rw [List.getLast?_cons, h2]; rfl
theorem Tree.get (t : Tree c l ss) (k : Str) : getN (mapN l) k = getN (foldN (leafS l k).n.rows (leafS l k).ms) k := by
 have h := t.leafOk k
 rw [mapN_t t.sts, getN_flat _ (fun x hx hk => by rw [t.view_get (List.mem_filter.1 hx).1, hk]; rfl)]
 have e : hasS k (leavesS ss) = [leafS l k] := by
  have : hasS k (leavesS ss) = leavesS (hasS k ss) := by
   unfold hasS leavesS
   rw [List.filter_filter, List.filter_filter]
   exact List.filter_congr fun x _ => Bool.and_comm _ _
  rw [this, t.way k]
  obtain ⟨z, h1, h2⟩ := way_leaves (k := k) t _ (rootS l 0) t.root rfl
  have h3 : (wayN l k).getLast? = some z := h2
  rw [h.last] at h3
  cases h3
  exact h1
 rw [e, List.flatMap_cons, List.flatMap_nil, List.append_nil, t.view_get h.mem, if_pos h.has]
def cntN (k : Str) (A : List Msg) : Nat := (A.filter fun m => m.span.has k).length
theorem cnt_append (k : Str) (A B : List Msg) : cntN k (A ++ B) = cntN k A + cntN k B := by simp [cntN]
theorem cnt_perm {k : Str} {A B : List Msg} (h : A.Perm B) : cntN k A = cntN k B := (List.Perm.filter _ h).length_eq
theorem cnt_flat (k : Str) : ∀ (L : List (List Msg)), cntN k L.flatten = (L.map (cntN k)).sum
 | [] => rfl
 | A :: L => by rw [List.flatten_cons, cnt_append, cnt_flat k L]; simp
theorem cnt_clips {k : Str} {s : Span} (hk : s.has k = true) : ∀ (A : List Msg), cntN k (clips s A) = cntN k A
 | [] => rfl
 | m :: A => by
  have ih := cnt_clips hk A
  have ec : cntN k (m :: A) = (if m.span.has k = true then 1 else 0) + cntN k A := by
   unfold cntN; rw [List.filter_cons]; split <;> simp; omega
  rw [clips_cons, ec]
  cases h : (m.clip s).2
  ·rw [if_neg (by simp), ih]
   have := empty_iff.1 (clip_no.1 h) k
   rw [meet_has, hk, Bool.and_true] at this
   rw [this]; simp
  ·rw [if_pos rfl]
   have e2 : cntN k ((m.clip s).1 :: clips s A) = (if (m.clip s).1.span.has k = true then 1 else 0) + cntN k (clips s A) := by
    unfold cntN; rw [List.filter_cons]; split <;> simp; omega
   rw [e2, ih]
   congr 2
   by_cases h4 : m.kind = 4
   ·rw [clip_span h h4, meet_has, hk, Bool.and_true]
   ·rw [(clip_of h).2, if_neg h4]
theorem cnt_point {k : Str} (hk : k.b.size < 140737488355328) : ∀ (A : List Msg), (clips ⟨k, k.next, false⟩ A).length = cntN k A
 | [] => rfl
 | m :: A => by
  have ih := cnt_point hk A
  rw [clips_cons]
  have e : (m.clip ⟨k, k.next, false⟩).2 = m.span.has k := by
   cases h : (m.clip ⟨k, k.next, false⟩).2
   ·have := empty_iff.1 (clip_no.1 h) k
    rw [meet_has, point_has hk] at this
    simpa using this.symm
   ·cases h2 : m.span.has k
    ·exfalso
     have : (m.span.meet ⟨k, k.next, false⟩).empty = true := empty_iff.2 fun q => by
      rw [meet_has, point_has hk]
      by_cases e : q = k
      ·subst e; rw [h2]; rfl
      ·simp [e]
     rw [clip_no.2 this] at h; cases h
    ·rfl
  unfold cntN
  rw [List.filter_cons, e]
  split
  ·rw [List.length_cons, List.length_cons, ih]; rfl
  ·rw [ih]; rfl
def allN (k : Str) (l : List Nd) : Nat := (l.map fun n => cntN k n.msgs).sum
theorem Tree.depth (t : Tree c l ss) {k : Str} (hk : k.b.size < 140737488355328) : (clips ⟨k, k.next, false⟩ (leafS l k).ms).length = allN k l := by
 have h := t.leafOk k
 rw [cnt_point hk, cnt_perm h.perm, cnt_flat, List.map_map]
 have e1 : ((wayN l k).map (cntN k ∘ fun y => clips (leafS l k).s y.n.msgs)) = (wayN l k).map fun y => cntN k y.n.msgs :=
  List.map_congr_left fun y _ => cnt_clips h.has _
 rw [e1, ← t.way k]
 have e2 : ∀ (T : List Seat), (∀ x ∈ T, x ∈ ss) → ((hasS k T).map fun y => cntN k y.n.msgs).sum = (T.map fun y => cntN k y.n.msgs).sum := by
  intro T
  induction T with
  | nil => intro _; rfl
  | cons x T ih =>
   intro hT
   have ih := ih (fun y hy => hT y (List.mem_cons_of_mem _ hy))
   unfold hasS at *
   rw [List.filter_cons]
   cases hx : x.s.has k
   ·rw [if_neg (by simp), ih]
    have : cntN k x.n.msgs = 0 := by
     unfold cntN
     rw [List.length_eq_zero_iff, List.filter_eq_nil_iff]
     intro m hm
     obtain ⟨i, hi, rfl⟩ := List.getElem_of_mem hm
     have := (t.seat (hT x (by simp))).2.1.2.2.2 i hi
     have := congrArg (fun s : Span => s.has k) this
     simp only [meet_has, norm_has, hx, Bool.and_false] at this
     rw [← this]; simp
    simp [this]
   ·rw [if_pos rfl]; simp [ih]
 rw [e2 ss (fun x hx => hx)]
 unfold allN
 have := (t.perm.map fun n : Nd => cntN k n.msgs).sum_nat
 rw [← this, List.map_map]; rfl
end Go.Fw
namespace Go.Proofs.YtebkfinhhpelbaaGreat
open Go Go.Fw Go.RowKit
theorem rlists_fc {G : GH} {v_ls : Value} {ls : List (List Msg)} (h_ls : SlR (eSl eMsg) G v_ls ls) (ht : totN ls ≤ 1000000) (hln : ls.length ≤ 100000) :
    Fc Tryz.prog 129 [v_ls] G [] (fun v G' M' => M' = [] ∧ ∃ u0, v = u0 ∧ SlR eMsg G' u0 (mergeN ls)) := by
 obtain ⟨sa_ls, sc_ls, rfl⟩ := h_ls.form
 have hl := h_ls.len47
 refine Fc.intro (rs := [.tmp 2]) cl129 Tryz.func129 rfl Tryz.ntmps129 rfl rfl (fun w0 => ?_)
 refine WC.seq (WC.region (W.as (W.nil (thn_n (WC.seq (WC.region (W.mv (W.ok (ok_len sl187 h_ls rfl) (W.mkSl (e := eInt) (a0 := (0 : Int)) (n := (ls).length) sl44 ty3 zr3 rfl by3 (⟨rfl, by decide, by decide⟩) rfl rfl (by first | (show _ * 8 ≤ 140737488355328; omega) | (show _ * 1 ≤ 16777216; omega)) (by first | (show _ * 8 ≤ 140737488355328; omega) | (show _ * 1 ≤ 16777216; omega)) (fun v1 Ms2 ho3 => (W.as (W.nil (thn_n (WC.seq (WC.region (W.as ?_))))))))))))))))
 refine W.nil (thn_n (WC.block ?_))
 refine WC.loop (X := (List Nat × List Msg) × Value × MH × Value × MH) (fun x => [(0, .slice sa_ls ls.length sc_ls), (3, x.2.1), (4, x.2.2.2.1)]) (fun x G Ml => Ml = (x.2.2.1 ++ (x.2.2.2.2 ++ [])) ∧ OwnR eInt 3 G x.2.1 (nats x.1.1) x.2.2.1 ∧ OwnR eMsg 49 G x.2.2.2.1 (x.1.2) x.2.2.2.2 ∧ x.1.1.length = ls.length ∧ x.1.2 ++ mergeN (curN ls x.1.1) = mergeN ls) (fun x => totN (curN ls x.1.1)) (((List.replicate ls.length 0, []) : List Nat × List Msg), v1, Ms2, .slice none 0 0, ([] : MH)) ⟨eqv, eqv, eqv, trivial⟩ ?_ ?_
 ·exact ⟨rfl, (by simpa [nats] using ho3), (by simpa using OwnR.nil), by simp, by rw [curN_zero]; rfl⟩
 rintro ⟨⟨ps, out⟩, v_3, M_3, v_4, M_4⟩ gG4 G4 _ hG4 ⟨rfl, ho_3, ho_4, hpl, hm⟩
 try dsimp only at ho_3 ho_4 hpl hm
 have hcl := curN_len hpl
 have hml := congrArg List.length hm
 rw [List.length_append] at hml
 have hml2 := merge_len ls
 have hnl : (nats ps).length = ps.length := List.length_map ..
 refine WC.fr (f := setL gG4 [(0, .slice sa_ls ls.length sc_ls), (3, v_3), (4, v_4)]) rfl (WC.block (WC.seq (WC.region (W.as (W.nil (thn_n (WC.seq (WC.seq (WC.region (W.as (W.nil (thn_n (WC.block ?_)))))))))))))
 refine WC.loop (X := Nat × Int) (fun y => [(5, .int .i64 y.2), (6, .int .i64 ((y.1 : Nat) : Int)), (3, v_3), (4, v_4), (0, .slice sa_ls ls.length sc_ls)]) (fun y _ Ml => Ml = (M_3 ++ (M_4 ++ [])) ∧ y.1 ≤ ls.length ∧ BI (curN ls ps) y.1 y.2) (fun y => ls.length - y.1) ((0, -1) : Nat × Int) ⟨eqv, eqv, eqv, eqv, eqv, trivial⟩ ?_ ?_
 ·exact ⟨rfl, Nat.zero_le _, BI_nil _⟩
 rintro ⟨j, c⟩ gG5 G5 _ hG5 ⟨rfl, hj, hbi⟩
 dsimp only at hj hbi
 refine WC.fr (f := setL gG5 [(5, .int .i64 c), (6, .int .i64 ((j : Nat) : Int)), (3, v_3), (4, v_4), (0, .slice sa_ls ls.length sc_ls)]) rfl (WC.seq (WC.seq (WC.region (W.mv (W.mv (W.ok (ok_len sl187 (h_ls.mono (hG4.trans hG5)) rfl) (W.ok (ok_lss rfl rfl) (W.nil (thn_n ?_)))))))))
 refine WC.cond (b := _) rfl (fun h13 => ?_) (fun h13 => ?_)
 ·have p13 := of_decide_eq_true h13
  try dsimp only at p13
  refine WC.skip (thn_n (WC.seq (WC.block (WC.seq (WC.draw mix (by kernel_rfl) (W.mv (W.mv ?_)))))))
  have q9 := (ho_3.mono hG5).at (i := j) (by omega)
  refine match q9 with | ⟨_, he6, ⟨e_8, hi7⟩⟩ => ?_
  subst e_8
  refine W.ok (ok_indexAddrO (i := j) sl44 ty3 (ho_3.mono hG5) rfl rfl ⟨by omega, by omega⟩) (W.ok (ok_loadO (vs := [.int .i64 _]) ty3 he6 pr9 rfl rfl rfl (by simp)) (W.mv (W.mv ?_)))
  have q13 := (h_ls.mono (hG4.trans hG5)).at (i := j) (by omega)
  refine match q13 with | ⟨_, he10, ⟨_, e_12, hs11⟩⟩ => ?_
  subst e_12
  obtain ⟨sa_hs11, sc_hs11, rfl⟩ := hs11.form
  refine W.ok (ok_indexAddr (i := j) sl187 ty45 (h_ls.mono (hG4.trans hG5)) rfl rfl ⟨by omega, by omega⟩) (W.ok (ok_loadE (vs := [.slice _ _ _]) ty45 he10 rfl rfl rfl (by simp)) (W.ok (ok_len sl45 hs11 rfl) (W.ok (ok_lss rfl rfl) (W.mv ?_))))
  refine W.sp 26 rfl (fun h25 => ?_) (fun h25 => ?_)
  ·have p25 := of_decide_eq_true h25
   try dsimp only at p25
   have hpj : (nats ps)[j]'(by omega) = ((ps[j]'(by omega) : Nat) : Int) := by simp
   refine W.yes (dj := 26) rfl rfl h25 (W.mv (W.yes (dj := 26) rfl rfl h25 (W.ok (ok_lss rfl rfl) (W.yes (dj := 26) rfl rfl h25 (W.mv ?_)))))
   refine W.sp 29 rfl (fun h28 => ?_) (fun h28 => ?_)
   ·have p28 := of_decide_eq_true h28
    try dsimp only at p28
    refine W.no (dj := 29) rfl rfl h28 (W.no (dj := 29) rfl rfl h28 (W.no (dj := 29) rfl rfl h28 (W.no (dj := 29) rfl rfl h28 (W.no (dj := 29) rfl rfl h28 (W.no (dj := 29) rfl rfl h28 (W.no (dj := 29) rfl rfl h28 (W.no (dj := 29) rfl rfl h28 (W.no (dj := 29) rfl rfl h28 (W.no (dj := 29) rfl rfl h28 (W.no (dj := 29) rfl rfl h28 (W.no (dj := 29) rfl rfl h28 (W.no (dj := 29) rfl rfl h28 (W.no (dj := 29) rfl rfl h28 ?_)))))))))))))
    refine W.no (dj := 29) rfl rfl h28 (W.no (dj := 29) rfl rfl h28 (W.no (dj := 29) rfl rfl h28 (W.no (dj := 29) rfl rfl h28 (W.no (dj := 29) rfl rfl h28 (W.no (dj := 29) rfl rfl h28 (W.no (dj := 29) rfl rfl h28 (W.no (dj := 29) rfl rfl h28 (W.no (dj := 29) rfl rfl h28 (W.yes (dj := 26) rfl rfl h25 (W.ok (ok_pick_t rfl h28) (W.ok (ok_pick_t rfl h25) (W.nil (thn_n (WC.cond_t rfl rfl ?_))))))))))))))
    refine WC.region (W.mv (W.as (W.nil (blk_n (thn_n (WC.region (W.mv (W.ok (ok_add rfl rfl (by omega)) (W.as (W.nil (thn_n ?_)))))))))))
    exact ⟨Le.rfl, ((j + 1, (j : Int)) : Nat × Int), ⟨eqv, eqv, eqv, eqv, eqv, trivial⟩, ⟨rfl, by dsimp only; omega, BI_first hbi p28 (by omega) (by rw [curN_atlen (by omega) (by omega)]; omega)⟩, by dsimp only; omega⟩
   have p28 := of_decide_eq_false h28
   try dsimp only at p28
   obtain ⟨b, hbC, rfl, hbj, hbn⟩ := BI_best hbi p28
   have hpb : (nats ps)[b]'(by simp; omega) = ((ps[b]'(by omega) : Nat) : Int) := by simp
   rw [curN_atlen (by omega) (by omega)] at hbn
   refine W.yes (dj := 29) rfl rfl h28 (W.mv (W.yes (dj := 29) rfl rfl h28 (W.mv (W.yes (dj := 29) rfl rfl h28 ?_))))
   have q17 := (h_ls.mono (hG4.trans hG5)).at (i := j) (by omega)
   refine match q17 with | ⟨_, he14, ⟨_, e_16, hs15⟩⟩ => ?_
   subst e_16
   obtain ⟨sa_hs15, sc_hs15, rfl⟩ := hs15.form
   refine W.ok (ok_indexAddr (i := j) sl187 ty45 (h_ls.mono (hG4.trans hG5)) rfl rfl ⟨by omega, by omega⟩) (W.yes (dj := 29) rfl rfl h28 (W.ok (ok_loadE (vs := [.slice _ _ _]) ty45 he14 rfl rfl rfl (by simp)) (W.yes (dj := 29) rfl rfl h28 (W.mv (W.yes (dj := 29) rfl rfl h28 (W.mv (W.yes (dj := 29) rfl rfl h28 ?_)))))))
   have q21 := (ho_3.mono hG5).at (i := j) (by omega)
   refine match q21 with | ⟨_, he18, ⟨e_20, hi19⟩⟩ => ?_
   subst e_20
   refine W.ok (ok_indexAddrO (i := j) sl44 ty3 (ho_3.mono hG5) rfl rfl ⟨by omega, by omega⟩) (W.yes (dj := 29) rfl rfl h28 (W.ok (ok_loadO (vs := [.int .i64 _]) ty3 he18 pr9 rfl rfl rfl (by simp)) (W.yes (dj := 29) rfl rfl h28 ?_)))
   have q26 := hs15.at (i := ps[j]) (by omega)
   refine match q26 with | ⟨_, he22, ⟨e_25, hm23⟩⟩ => ?_
   subst e_25
   refine W.ok (ok_indexAddr (i := ps[j]) sl45 ty49 hs15 rfl rfl ⟨by omega, by omega⟩) (W.yes (dj := 29) rfl rfl h28 (W.ok (ok_fieldE fd49_0 rfl he22.form) (W.yes (dj := 29) rfl rfl h28 (W.ok (ok_loadE (vs := [.int .i64 _]) ty3 he22 rfl rfl rfl (by simp)) (W.yes (dj := 29) rfl rfl h28 (W.mv (W.yes (dj := 29) rfl rfl h28 (W.mv (W.yes (dj := 29) rfl rfl h28 ?_)))))))))
   have q30 := (h_ls.mono (hG4.trans hG5)).at (i := b) (by omega)
   refine match q30 with | ⟨_, he27, ⟨_, e_29, hs28⟩⟩ => ?_
   subst e_29
   obtain ⟨sa_hs28, sc_hs28, rfl⟩ := hs28.form
   refine W.ok (ok_indexAddr (i := b) sl187 ty45 (h_ls.mono (hG4.trans hG5)) rfl rfl ⟨by omega, by omega⟩) (W.yes (dj := 29) rfl rfl h28 (W.ok (ok_loadE (vs := [.slice _ _ _]) ty45 he27 rfl rfl rfl (by simp)) (W.yes (dj := 29) rfl rfl h28 (W.mv (W.yes (dj := 29) rfl rfl h28 (W.mv (W.yes (dj := 29) rfl rfl h28 ?_)))))))
   have q34 := (ho_3.mono hG5).at (i := b) (by omega)
   refine match q34 with | ⟨_, he31, ⟨e_33, hi32⟩⟩ => ?_
   subst e_33
   refine W.ok (ok_indexAddrO (i := b) sl44 ty3 (ho_3.mono hG5) rfl rfl ⟨by omega, by omega⟩) (W.yes (dj := 29) rfl rfl h28 (W.ok (ok_loadO (vs := [.int .i64 _]) ty3 he31 pr9 rfl rfl rfl (by simp)) (W.yes (dj := 29) rfl rfl h28 ?_)))
   have q39 := hs28.at (i := ps[b]) (by omega)
   refine match q39 with | ⟨_, he35, ⟨e_38, hm36⟩⟩ => ?_
   subst e_38
   refine W.ok (ok_indexAddr (i := ps[b]) sl45 ty49 hs28 rfl rfl ⟨by omega, by omega⟩) (W.yes (dj := 29) rfl rfl h28 (W.ok (ok_fieldE fd49_0 rfl he35.form) (W.yes (dj := 29) rfl rfl h28 (W.ok (ok_loadE (vs := [.int .i64 _]) ty3 he35 rfl rfl rfl (by simp)) (W.yes (dj := 29) rfl rfl h28 (W.ok (ok_lss rfl rfl) (W.yes (dj := 26) rfl rfl h25 (W.ok (ok_pick_f rfl h28) (W.ok (ok_pick_t rfl h25) (W.nil (thn_n ?_)))))))))))
   refine WC.cond (b := _) rfl (fun h52 => ?_) (fun h52 => ?_)
   ·have p52 := of_decide_eq_true h52
    try dsimp only at p52
    refine WC.region (W.mv (W.as (W.nil (blk_n (thn_n (WC.region (W.mv (W.ok (ok_add rfl rfl (by omega)) (W.as (W.nil (thn_n ?_)))))))))))
    exact ⟨Le.rfl, ((j + 1, (j : Int)) : Nat × Int), ⟨eqv, eqv, eqv, eqv, eqv, trivial⟩, ⟨rfl, by dsimp only; omega, BI_less hbi (by omega) (by omega) (by rw [curN_atlen (by omega) (by omega)]; omega) (by rw [curN_st (by omega) (by omega) (by omega) (by omega), curN_st (by omega) (by omega) (by omega) (by omega)]; exact p52)⟩, by dsimp only; omega⟩
   have p52 := of_decide_eq_false h52
   try dsimp only at p52
   refine WC.skip (blk_n (thn_n (WC.region (W.mv (W.ok (ok_add rfl rfl (by omega)) (W.as (W.nil (thn_n ?_))))))))
   exact ⟨Le.rfl, ((j + 1, (b : Int)) : Nat × Int), ⟨eqv, eqv, eqv, eqv, eqv, trivial⟩, ⟨rfl, by dsimp only; omega, BI_keep hbi (by omega) (by omega) (by rw [curN_st (by omega) (by omega) (by omega) (by omega), curN_st (by omega) (by omega) (by omega) (by omega)]; exact p52)⟩, by dsimp only; omega⟩
  have p25 := of_decide_eq_false h25
  try dsimp only at p25
  have hpj : (nats ps)[j]'(by omega) = ((ps[j]'(by omega) : Nat) : Int) := by simp
  refine W.no (dj := 26) rfl rfl h25 (W.no (dj := 26) rfl rfl h25 (W.no (dj := 26) rfl rfl h25 (W.nou (dj := 29) rfl rfl (W.nou (dj := 29) rfl rfl (W.nou (dj := 29) rfl rfl (W.nou (dj := 29) rfl rfl (W.nou (dj := 29) rfl rfl (W.nou (dj := 29) rfl rfl (W.nou (dj := 29) rfl rfl (W.nou (dj := 29) rfl rfl (W.nou (dj := 29) rfl rfl (W.nou (dj := 29) rfl rfl (W.nou (dj := 29) rfl rfl ?_)))))))))))))
  refine W.nou (dj := 29) rfl rfl (W.nou (dj := 29) rfl rfl (W.nou (dj := 29) rfl rfl (W.nou (dj := 29) rfl rfl (W.nou (dj := 29) rfl rfl (W.nou (dj := 29) rfl rfl (W.nou (dj := 29) rfl rfl (W.nou (dj := 29) rfl rfl (W.nou (dj := 29) rfl rfl (W.nou (dj := 29) rfl rfl (W.nou (dj := 29) rfl rfl (W.nou (dj := 29) rfl rfl (W.no (dj := 26) rfl rfl h25 (W.ok (ok_pick_f rfl h25) ?_)))))))))))))
  refine W.nil (thn_n (WC.cond_f rfl rfl (WC.skip (blk_n (thn_n (WC.region (W.mv (W.ok (ok_add rfl rfl (by omega)) (W.as (W.nil (thn_n ?_)))))))))))
  exact ⟨Le.rfl, ((j + 1, c) : Nat × Int), ⟨eqv, eqv, eqv, eqv, eqv, trivial⟩, ⟨rfl, by dsimp only; omega, BI_skip hbi (by omega) (by rw [curN_atlen (by omega) (by omega)]; omega)⟩, by dsimp only; omega⟩
 have p13 := of_decide_eq_false h13
 try dsimp only at p13
 refine WC.exit (thn_x (thn_x (blk_h (thn_n (WC.seq (WC.seq (WC.region (W.mv (W.ok (ok_lss rfl rfl) (W.nil (thn_n ?_)))))))))))
 refine WC.cond (b := _) rfl (fun h57 => ?_) (fun h57 => ?_)
 ·have p57 := of_decide_eq_true h57
  try dsimp only at p57
  refine WC.seq (WC.region (W.mv (W.as (W.nil (thn_n (WC.giveO (ho_4.mono hG5) (pmA pr9) (fun G40 hG40 hv40 => (WC.ret (thn_r (blk_r (thn_r (blk_r ?_))))))))))))
  refine ⟨.inr rfl, [_], ⟨rfl, trivial⟩, [], sn9, ?_⟩
  refine ⟨rfl, _, rfl, ?_⟩
  · exact SlR.cast hv40 (by rw [← hm, BI_end hbi (by omega) p57, List.append_nil])
 have p57 := of_decide_eq_false h57
 try dsimp only at p57
 obtain ⟨b, hbC, rfl, hbj, hbn⟩ := BI_best hbi p57
 have hpb : (nats ps)[b]'(by simp; omega) = ((ps[b]'(by omega) : Nat) : Int) := by simp
 rw [curN_atlen (by omega) (by omega)] at hbn
 have hlb := len_tot (ls := ls) (i := b) (by omega)
 have hB : Best (curN ls ps) b := BI_done hbi (by omega)
 refine WC.skip (thn_n (WC.seq (WC.drawW _ sn9 mix (by rintro _ _ _ _ ⟨h | h, _⟩ <;> cases h) (WD.tk 0 rfl (ok_mv) (WD.tk 1 rfl (ok_mv) (WD.tk 2 rfl (ok_mv) ?_))))))
 have q44 := (h_ls.mono (hG4.trans hG5)).at (i := b) (by omega)
 refine match q44 with | ⟨_, he41, ⟨_, e_43, hs42⟩⟩ => ?_
 subst e_43
 obtain ⟨sa_hs42, sc_hs42, rfl⟩ := hs42.form
 refine WD.tk 3 rfl (ok_indexAddr (i := b) sl187 ty45 (h_ls.mono (hG4.trans hG5)) rfl rfl ⟨by omega, by omega⟩) (WD.tk 4 rfl (ok_loadE (vs := [.slice _ _ _]) ty45 he41 rfl rfl rfl (by simp)) (WD.tk 5 rfl (ok_mv) (WD.tk 6 rfl (ok_mv) ?_)))
 have q48 := (ho_3.mono hG5).at (i := b) (by omega)
 refine match q48 with | ⟨_, he45, ⟨e_47, hi46⟩⟩ => ?_
 subst e_47
 refine WD.tk 7 rfl (ok_indexAddrO (i := b) sl44 ty3 (ho_3.mono hG5) rfl rfl ⟨by omega, by omega⟩) (WD.a1 8 rfl (W.ok (ok_loadO (vs := [.int .i64 _]) ty3 he45 pr9 rfl rfl rfl (by simp)) (W.nil (WD.n9 Le.rfl sn9 ?_))))
 have q53 := hs42.at (i := ps[b]) (by omega)
 refine match q53 with | ⟨_, he49, ⟨e_52, hm50⟩⟩ => ?_
 subst e_52
 refine WD.tk 9 rfl (ok_indexAddr (i := ps[b]) sl45 ty49 hs42 rfl rfl ⟨by omega, by omega⟩) (WD.tk 10 rfl (ok_loadE (vs := [.int .i64 _, .int .i64 _, .string _, .string _, .bool _, .string _]) ty49 he49 rfl rfl rfl (by simp)) (WD.a1 11 rfl (W.lit (e := eMsg) (l := [(((ls[b]))[ps[b]])]) (css := [[.int .i64 _, .int .i64 _, .string _, .string _, .bool _, .string _]]) sl45 ty49 zr49 rfl rfl rfl rfl rfl rfl ⟨⟨rfl, hm50⟩, trivial⟩ (fun bl54 G54 hG54 hv54 => (W.nil (WD.n9 hG54 sn9 (WD.a1 12 rfl (W.app (e := eMsg) sl45 ty49 zr49 rfl by49 rfl rfl ((ho_4.mono (hG5.trans hG54))) (hv54) (pmA pr9) (by show (_ + 1) * 72 ≤ _; omega) (fun v55 Ms56 ho57 => (W.nil (WD.n9 Le.rfl sn9 (WD.tk 13 rfl (ok_as) (WD.done (by kernel_rfl) (thn_n (WC.region (W.mv (W.mv ?_)))))))))))))))))
 have q61 := (ho_3.mono (hG5.trans hG54)).at (i := b) (by omega)
 refine match q61 with | ⟨_, he58, ⟨e_60, hi59⟩⟩ => ?_
 subst e_60
 refine W.ok (ok_indexAddrO (i := b) sl44 ty3 (ho_3.mono (hG5.trans hG54)) rfl rfl ⟨by omega, by omega⟩) (W.ok (ok_loadO (vs := [.int .i64 _]) ty3 he58 (pmA pr9) rfl rfl rfl (by simp)) (W.ok (Ok.int (n := ((ps[b] + 1 : Nat) : Int)) (ok_add rfl rfl (by omega)) (by omega)) ?_))
 have q65 := (ho_3.mono (hG5.trans hG54)).at (i := b) (by omega)
 refine match q65 with | ⟨_, he62, ⟨e_64, hi63⟩⟩ => ?_
 subst e_64
 refine W.ok (ok_indexAddrO (i := b) sl44 ty3 (ho_3.mono (hG5.trans hG54)) rfl rfl ⟨by omega, by omega⟩) (W.storeO (i := b) (o := 0) (vs := [.int .i64 _]) (a' := ((ps[b] + 1 : Nat) : Int)) ty3 rfl rfl rfl rfl rfl ((ho_3.mono (hG5.trans hG54))) (pmA pr9) (by omega) (by decide) (fun cs h => by rw [h.1]; exact ⟨rfl, by omega, by omega⟩) (fun Ms66 ho67 => (W.nil (blk_n (thn_n ?_)))))
 exact ⟨(hG5.trans hG54), (((ps.set b (ps[b] + 1), out ++ [(ls[b])[ps[b]]]) : List Nat × List Msg), v_3, Ms66, v55, Ms56), ⟨eqv, eqv, eqv, trivial⟩, ⟨rfl, (by have h := ho67; rw [show ((nats ps).set b ((ps[b] + 1 : Nat) : Int)) = nats (ps.set b (ps[b] + 1)) from (List.map_set ..).symm] at h; exact h), (by exact ho57), by dsimp only; rw [List.length_set]; exact hpl, by dsimp only; rw [← hm, merge_step hB, curN_set hpl (by omega) (by omega), curN_hd (by omega) (by omega) (by omega) (by omega), List.append_assoc]; rfl⟩, by dsimp only; rw [← curN_set hpl (by omega) (by omega) (by omega)]; have := totN_set hB; omega⟩

end Go.Proofs.YtebkfinhhpelbaaGreat
