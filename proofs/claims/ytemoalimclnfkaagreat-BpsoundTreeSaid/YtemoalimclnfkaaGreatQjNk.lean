/- The seats of nodes: all nodes that a root leads to, level by level. Plain Lean; nothing of the program is named here. No condition. -/
import Derived.Test.YtemoalimclnfkaaGreatQjNq
set_option linter.unusedVariables false
set_option linter.unusedSimpArgs false
set_option linter.unnecessarySimpa false

namespace Go.Fw
open Go Go.RowKit
structure Seat where
 n : Nd
 s : Span
 ms : List Msg
instance : Inhabited Seat := ⟨⟨Nd.zero, Span.zero, []⟩⟩
def SeatC (G : GH) (cs : List Value) (x : Seat) : Prop :=
 ∃ a1 c1 a2 c2 a3 c3 a4 c4 a5 c5, cs = [.int .i64 x.n.slot, .int .i64 x.n.level, .slice a1 x.n.pivots.length c1, .slice a2 x.n.kids.length c2, .string x.n.high.b, .bool x.n.top, .int .i64 x.n.right, .int .i64 x.n.seen, .slice a3 x.n.msgs.length c3, .slice a4 x.n.rows.length c4, .string x.s.lo.b, .string x.s.hi.b, .bool x.s.opn, .slice a5 x.ms.length c5] ∧
  SlR eStr G (.slice a1 x.n.pivots.length c1) x.n.pivots ∧ SlR eInt G (.slice a2 x.n.kids.length c2) x.n.kids ∧ SlR eMsg G (.slice a3 x.n.msgs.length c3) x.n.msgs ∧ SlR ePair G (.slice a4 x.n.rows.length c4) x.n.rows ∧ SlR eMsg G (.slice a5 x.ms.length c5) x.ms ∧ x.n.Ok
theorem SeatC.mono {G G' : GH} {cs x} (hl : Le G G') (h : SeatC G cs x) : SeatC G' cs x := by
 obtain ⟨a1, c1, a2, c2, a3, c3, a4, c4, a5, c5, h0, h1, h2, h3, h4, h5, h6⟩ := h
 exact ⟨a1, c1, a2, c2, a3, c3, a4, c4, a5, c5, h0, h1.mono hl, h2.mono hl, h3.mono hl, h4.mono hl, h5.mono hl, h6⟩
def eSeat : Enc Seat where
 k := 14
 w := 216
 R := SeatC
 mono := fun hl h => h.mono hl
 len := fun h => by obtain ⟨a1, c1, a2, c2, a3, c3, a4, c4, a5, c5, h0, _⟩ := h; rw [h0]; rfl
 one := fun h u hu => by
  obtain ⟨a1, c1, a2, c2, a3, c3, a4, c4, a5, c5, h0, _⟩ := h
  rw [h0] at hu
  simp at hu
  rcases hu with rfl | rfl | rfl | rfl | rfl | rfl | rfl | rfl | rfl | rfl | rfl | rfl | rfl | rfl <;> rfl
theorem WD.doneP {E : Env} {f : Fr} {G : GH} {M M1 M' Mk : MH} {ops : Array Oper} {K : Kt} {fuel : Nat} {listed : Array Bool} (hr : Region.ready .any ops listed = []) (hs : M1.Sublist M) (hp : M'.Perm M1) (h : K f G M') : WD E ops fuel listed f G M Mk K := fun _ a w Q hi hw _ hK =>
 wpAnyH_done hr (hK _ _ _ _ _ hi ⟨(hw.r.sub hs).perm hp, hw.le, hw.nw⟩ h) fuel
def atS (l : List Nd) (i : Int) : List Nd := l.filter fun n => decide (n.slot = i)
def findN (l : List Nd) (i : Int) : Nd × Bool := ((atS l i).getLast?.getD Nd.zero, decide ((atS l i).length = 1))
theorem atS_t {l : List Nd} {i : Int} {k : Nat} (hk : k < l.length) (h : l[k].slot = i) : atS (l.take (k + 1)) i = atS (l.take k) i ++ [l[k]] := filt_t hk (decide_eq_true h)
theorem atS_f {l : List Nd} {i : Int} {k : Nat} (hk : k < l.length) (h : ¬ l[k].slot = i) : atS (l.take (k + 1)) i = atS (l.take k) i := filt_f hk (decide_eq_false h)
theorem find_b {l : List Nd} {i : Int} {k : Nat} (h : l.length ≤ k) : decide ((((atS (l.take k) i).length : Nat) : Int) = 1) = (findN l i).2 := by
 rw [List.take_of_length_le h]; exact decide_eq_decide.2 om9
noncomputable def kidSt (l : List Nd) (x : Seat) (j : Nat) : Seat :=
 ⟨(findN l (x.n.kids.getD j 0)).1, x.s.meet (rangeN x.n.pivots (j : Int)), mergeN [clips (x.s.meet (rangeN x.n.pivots (j : Int))) x.n.msgs, clips (x.s.meet (rangeN x.n.pivots (j : Int))) x.ms]⟩
def kidOk (l : List Nd) (x : Seat) (j : Nat) : Bool := (findN l (x.n.kids.getD j 0)).2 && decide ((findN l (x.n.kids.getD j 0)).1.level = x.n.level - 1)
noncomputable def kidsF (l : List Nd) (x : Seat) (j : Nat) : List Seat := (List.range j).map (kidSt l x)
noncomputable def kidsO (l : List Nd) (x : Seat) : Option (List Seat) :=
 if x.n.level = 0 then some []
 else if x.n.level < 0 ∨ rightN x.n.pivots x.n.kids.length = false then none
 else if (List.range x.n.kids.length).all (kidOk l x) = true then some (kidsF l x x.n.kids.length) else none
noncomputable def kidsD (l : List Nd) (x : Seat) : List Seat := (kidsO l x).getD []
theorem kidsO_0 {l : List Nd} {x : Seat} (h : x.n.level = 0) : kidsO l x = some [] := if_pos h
theorem kidsO_t {l : List Nd} {x : Seat} (h0 : ¬ x.n.level = 0) (h1 : ¬ x.n.level < 0) (h2 : rightN x.n.pivots x.n.kids.length = true) (h : ∀ j, j < x.n.kids.length → kidOk l x j = true) : kidsO l x = some (kidsF l x x.n.kids.length) := by
 rw [kidsO, if_neg h0, if_neg (by rintro (h | h); exact h1 h; rw [h2] at h; cases h), if_pos]
 exact List.all_eq_true.2 fun j hj => h j (List.mem_range.1 hj)
theorem kidsF_succ (l : List Nd) (x : Seat) (j : Nat) : kidsF l x (j + 1) = kidsF l x j ++ [kidSt l x j] := by simp [kidsF, List.range_succ]
theorem kidsF_len (l : List Nd) (x : Seat) (j : Nat) : (kidsF l x j).length = j := by simp [kidsF]
noncomputable def seatsF (l : List Nd) : Nat → Nat → List Seat → Option (List Seat)
 | 0, _, _ => none
 | f + 1, i, out => if h : i < out.length then if l.length < out.length then none else match kidsO l out[i] with
   | none => none
   | some ks => seatsF l f (i + 1) (out ++ ks)
  else some out
noncomputable def rootS (l : List Nd) (root : Int) : Seat := ⟨(findN l root).1, Span.all, []⟩
noncomputable def seatsN (l : List Nd) (root : Int) : Option (List Seat) := if (findN l root).2 = true then seatsF l (l.length + 2) 0 [rootS l root] else none
theorem seatsF_done {l : List Nd} {f i : Nat} {out : List Seat} (h : ¬ i < out.length) : seatsF l (f + 1) i out = some out := by rw [seatsF, dif_neg h]
theorem seatsF_long {l : List Nd} {f i : Nat} {out : List Seat} (h : i < out.length) (hl : l.length < out.length) : seatsF l (f + 1) i out = none := by rw [seatsF, dif_pos h, if_pos hl]
theorem seatsF_none {l : List Nd} {f i : Nat} {out : List Seat} (h : i < out.length) (hk : kidsO l out[i] = none) : seatsF l (f + 1) i out = none := by
 rw [seatsF, dif_pos h]
 split
 ·rfl
 ·rw [hk]
theorem seatsF_some {l : List Nd} {f i : Nat} {out ks : List Seat} (h : i < out.length) (hl : ¬ l.length < out.length) (hk : kidsO l out[i] = some ks) : seatsF l (f + 1) i out = seatsF l f (i + 1) (out ++ ks) := by
 rw [seatsF, dif_pos h, if_neg hl, hk]
structure QOk (l : List Nd) (root : Int) (i : Nat) (out : List Seat) : Prop where
 le : i ≤ out.length
 pos : 0 < out.length
 len : i ≤ l.length
 eq : seatsN l root = seatsF l (l.length + 2 - i) i out
theorem fuel_succ {n i : Nat} (h : i ≤ n) : n + 2 - i = (n + 1 - i) + 1 := om9
theorem QOk.done {l : List Nd} {root : Int} {i : Nat} {out : List Seat} (h : QOk l root i out) (hi : ¬ i < out.length) : seatsN l root = some out := by
 rw [h.eq, fuel_succ h.len, seatsF_done hi]
theorem QOk.long {l : List Nd} {root : Int} {i : Nat} {out : List Seat} (h : QOk l root i out) (hi : i < out.length) (hl : l.length < out.length) : seatsN l root = none := by
 rw [h.eq, fuel_succ h.len, seatsF_long hi hl]
theorem QOk.none {l : List Nd} {root : Int} {i : Nat} {out : List Seat} (h : QOk l root i out) (hi : i < out.length) (hk : kidsO l out[i] = none) : seatsN l root = none := by
 rw [h.eq, fuel_succ h.len, seatsF_none hi hk]
theorem QOk.next {l : List Nd} {root : Int} {i : Nat} {out ks : List Seat} (h : QOk l root i out) (hi : i < out.length) (hl : ¬ l.length < out.length) (hk : kidsO l out[i] = some ks) : QOk l root (i + 1) (out ++ ks) :=
 ⟨by rw [List.length_append]; omega, by rw [List.length_append]; omega, om9, by rw [h.eq, fuel_succ h.len, seatsF_some hi hl hk]; congr 1; omega⟩
def Sml (l : List Nd) : Prop := l.length ≤ 4096 ∧ ∀ n ∈ l, n.kids.length ≤ 4000 ∧ n.pivots.length ≤ 4000 ∧ n.msgs.length ≤ 4000 ∧ n.rows.length ≤ 4000 ∧ n.high.b.size ≤ 4000 ∧ (∀ m ∈ n.msgs, m.key.b.size ≤ 4000 ∧ m.hi.b.size ≤ 4000 ∧ m.val.b.size ≤ 4000) ∧ (∀ p ∈ n.pivots, p.b.size ≤ 4000) ∧ ∀ p ∈ n.rows, p.key.b.size ≤ 4000 ∧ p.val.b.size ≤ 4000
theorem Sml.zero : (Nd.zero.kids.length ≤ 4000 ∧ Nd.zero.pivots.length ≤ 4000 ∧ Nd.zero.msgs.length ≤ 4000 ∧ Nd.zero.rows.length ≤ 4000 ∧ Nd.zero.high.b.size ≤ 4000 ∧ (∀ m ∈ Nd.zero.msgs, m.key.b.size ≤ 4000 ∧ m.hi.b.size ≤ 4000 ∧ m.val.b.size ≤ 4000) ∧ (∀ p ∈ Nd.zero.pivots, p.b.size ≤ 4000) ∧ ∀ p ∈ Nd.zero.rows, p.key.b.size ≤ 4000 ∧ p.val.b.size ≤ 4000) := by
 refine ⟨by decide, by decide, by decide, by decide, by decide, ?_, ?_, ?_⟩ <;> (intro m hm; cases hm)
theorem Sml.find {l : List Nd} (h : Sml l) (i : Int) : (findN l i).1 = Nd.zero ∨ (findN l i).1 ∈ l := by
 unfold findN
 cases e : (atS l i).getLast? with
 | none => exact .inl rfl
 | some n => exact .inr (List.mem_filter.1 (List.mem_of_getLast? e)).1
theorem best_or (C : Ls) : (∀ q (h : q < C.length), C[q].length = 0) ∨ ∃ b, Best C b := by
 have key : ∀ j, j ≤ C.length → ∃ c : Int, BI C j c := by
  intro j
  induction j with
  | zero => intro _; exact ⟨-1, BI_nil C⟩
  | succ j ih =>
   intro hj
   obtain ⟨c, hc⟩ := ih om9
   by_cases hz : C[j].length = 0
   ·exact ⟨c, BI_skip hc om9 hz⟩
   ·by_cases h0 : c < 0
    ·exact ⟨j, BI_first hc h0 om9 om9⟩
    ·obtain ⟨b, hb, rfl, hbj, _⟩ := BI_best hc h0
     by_cases hl : stN C[j] < stN C[b]
     ·exact ⟨j, BI_less hc hb om9 om9 hl⟩
     ·exact ⟨b, BI_keep hc hb om9 hl⟩
 obtain ⟨c, hc⟩ := key C.length (Nat.le_refl _)
 by_cases h0 : c < 0
 ·rcases hc with ⟨h1, h2⟩ | ⟨b, hb, h1, _⟩
  ·exact .inl fun q h => h2 q h h
  ·omega
 ·obtain ⟨b, hb, rfl, _, _⟩ := BI_best hc h0
  exact .inr ⟨b, BI_done hc (Nat.le_refl _)⟩
theorem flat_nil {C : Ls} (h : ∀ q (h : q < C.length), C[q].length = 0) : C.flatten = [] := by
 rw [List.flatten_eq_nil_iff]
 intro L hL
 obtain ⟨i, hi, rfl⟩ := List.getElem_of_mem hL
 exact List.eq_nil_of_length_eq_zero (h i hi)
theorem perm_hd {A R X : List Msg} (h : 0 < X.length) : (X[0] :: (A ++ (X.drop 1 ++ R))).Perm (A ++ (X ++ R)) := by
 cases X with
 | nil => simp at h
 | cons x X => exact List.perm_middle.symm
theorem flat_best {C : Ls} {b : Nat} (hb : Best C b) : ((C[b]'hb.lt)[0]'hb.ne :: (C.set b ((C[b]'hb.lt).drop 1)).flatten).Perm C.flatten := by
 have e1 : (C.set b ((C[b]'hb.lt).drop 1)).flatten = (C.take b).flatten ++ ((C[b]'hb.lt).drop 1 ++ (C.drop (b + 1)).flatten) := by
  rw [set_split hb.lt, List.flatten_append, List.flatten_cons]
 have e2 : C.flatten = (C.take b).flatten ++ (C[b]'hb.lt ++ (C.drop (b + 1)).flatten) := by
  conv => lhs; rw [at_split hb.lt]
  rw [List.flatten_append, List.flatten_cons]
 have h := perm_hd (A := (C.take b).flatten) (R := (C.drop (b + 1)).flatten) hb.ne
 rw [← e1, ← e2] at h
 exact h
theorem merge_perm : ∀ (n : Nat) (C : Ls), totN C = n → (mergeN C).Perm C.flatten := by
 intro n
 induction n with
 | zero =>
  intro C h
  rcases best_or C with h1 | ⟨b, hb⟩
  ·rw [merge_nil h1, flat_nil h1]
  ·have := totN_set hb; omega
 | succ n ih =>
  intro C h
  rcases best_or C with h1 | ⟨b, hb⟩
  ·rw [merge_nil h1, flat_nil h1]
  ·rw [merge_step hb]
   exact ((ih _ (by have := totN_set hb; omega)).cons _).trans (flat_best hb)
theorem merge_mem {C : Ls} {m : Msg} : m ∈ mergeN C ↔ ∃ L ∈ C, m ∈ L := by
 rw [(merge_perm _ C rfl).mem_iff, List.mem_flatten]
def Rst (l : List Msg) : Prop := l.Pairwise fun a b => a.stamp < b.stamp
theorem merge_sorted : ∀ (n : Nat) (C : Ls) (S : List Msg), totN C = n → (∀ L ∈ C, Rst L) → S.Perm C.flatten → Rst S → mergeN C = S := by
 intro n
 induction n with
 | zero =>
  intro C S h _ hp _
  rcases best_or C with h1 | ⟨b, hb⟩
  ·rw [flat_nil h1] at hp
   rw [merge_nil h1, List.Perm.eq_nil hp]
  ·have := totN_set hb; omega
 | succ n ih =>
  intro C S h hC hp hS
  rcases best_or C with h1 | ⟨b, hb⟩
  ·rw [flat_nil h1] at hp
   rw [merge_nil h1, List.Perm.eq_nil hp]
  ·have hf := flat_best hb
   rw [merge_step hb]
   cases S with
   | nil => have := (hp.trans hf.symm).length_eq; simp at this
   | cons s S =>
    have hp2 := hp.trans hf.symm
    have e : s = (C[b]'hb.lt)[0]'hb.ne := by
     have hs : s ∈ C.flatten := hp.mem_iff.1 (by simp)
     have hc : (C[b]'hb.lt)[0]'hb.ne ∈ s :: S := hp2.mem_iff.2 (by simp)
     rcases List.mem_cons.1 hc with h | h
     ·exact h.symm
     ·have h2 := (List.pairwise_cons.1 hS).1 _ h
      obtain ⟨L, hL, hsL⟩ := List.mem_flatten.1 hs
      obtain ⟨j, hj, rfl⟩ := List.getElem_of_mem hL
      obtain ⟨q, hq, rfl⟩ := List.getElem_of_mem hsL
      have h3 := (hb.min j hj om9).1
      rw [stN_at hb.ne, stN_at (show 0 < C[j].length by omega)] at h3
      have h4 : (C[j][0]'om9).stamp ≤ C[j][q].stamp := by
       by_cases e0 : q = 0
       ·subst e0; exact Int.le_refl _
       ·exact Int.le_of_lt (List.pairwise_iff_getElem.1 (hC _ (List.getElem_mem hj)) 0 q om9 hq om9)
      omega
    subst e
    congr 1
    refine ih _ S (by have := totN_set hb; omega) ?_ (List.Perm.cons_inv hp2) (List.pairwise_cons.1 hS).2
    intro L hL
    rcases List.mem_or_eq_of_mem_set hL with h | h
    ·exact hC _ h
    ·subst h; exact List.Pairwise.sublist (List.drop_sublist _ _) (hC _ (List.getElem_mem _))
theorem meet_sizes {a b : Span} {n : Nat} (ha : a.lo.b.size ≤ n ∧ a.hi.b.size ≤ n) (hb : b.lo.b.size ≤ n ∧ b.hi.b.size ≤ n) : (a.meet b).lo.b.size ≤ n ∧ (a.meet b).hi.b.size ≤ n := by
 unfold Span.meet
 refine norm_sizes ?_ ?_
 ·dsimp only; split; exact hb.1; exact ha.1
 ·dsimp only; split; exact hb.2; exact ha.2
theorem range_sizes {p : List Str} {i : Int} {n : Nat} (h : ∀ k ∈ p, k.b.size ≤ n) : (rangeN p i).lo.b.size ≤ n ∧ (rangeN p i).hi.b.size ≤ n := by
 have h0 : Str.nil.b.size = 0 := rfl
 have hg : ∀ j, (p.getD j Str.nil).b.size ≤ n := by
  intro j
  by_cases hj : j < p.length
  ·rw [getD_in hj]; exact h _ (List.getElem_mem _)
  ·rw [getD_out om9]; omega
 unfold rangeN
 split
 ·exact ⟨by show Str.nil.b.size ≤ n; omega, by show Str.nil.b.size ≤ n; omega⟩
 ·refine norm_sizes ?_ (hg _)
  dsimp only; split
  ·exact hg _
  ·omega
theorem clip_szs {m : Msg} {s : Span} {n : Nat} (hm : m.key.b.size ≤ n ∧ m.hi.b.size ≤ n ∧ m.val.b.size ≤ n) (hs : s.lo.b.size ≤ n ∧ s.hi.b.size ≤ n) (h : (m.clip s).2 = true) : (m.clip s).1.key.b.size ≤ n ∧ (m.clip s).1.hi.b.size ≤ n ∧ (m.clip s).1.val.b.size ≤ n := by
 rw [(clip_of h).2]
 by_cases h4 : m.kind = 4
 ·rw [if_pos h4]
  have e : m.span = ⟨m.key, m.hi, m.opn⟩ := by unfold Msg.span; rw [if_pos h4]
  have := meet_sizes (a := m.span) (b := s) (by rw [e]; exact ⟨hm.1, hm.2.1⟩) hs
  exact ⟨this.1, this.2, hm.2.2⟩
 ·rw [if_neg h4]; exact hm
theorem clips_szs {l : List Msg} {s : Span} {n : Nat} (hm : ∀ m ∈ l, m.key.b.size ≤ n ∧ m.hi.b.size ≤ n ∧ m.val.b.size ≤ n) (hs : s.lo.b.size ≤ n ∧ s.hi.b.size ≤ n) : ∀ m ∈ clips s l, m.key.b.size ≤ n ∧ m.hi.b.size ≤ n ∧ m.val.b.size ≤ n := fun m h => by
 obtain ⟨a, ha, h1, rfl⟩ := clips_mem h
 exact clip_szs (hm a ha) hs h1
structure SeatS (l : List Nd) (p : Nat) (x : Seat) : Prop where
 nd : x.n = Nd.zero ∨ x.n ∈ l
 ms : x.ms.length ≤ 4000 * p
 sp : x.s.lo.b.size ≤ 4000 ∧ x.s.hi.b.size ≤ 4000
 key : ∀ m ∈ x.ms, m.key.b.size ≤ 4000 ∧ m.hi.b.size ≤ 4000 ∧ m.val.b.size ≤ 4000
def NdS (n : Nd) : Prop := n.kids.length ≤ 4000 ∧ n.pivots.length ≤ 4000 ∧ n.msgs.length ≤ 4000 ∧ n.rows.length ≤ 4000 ∧ n.high.b.size ≤ 4000 ∧ (∀ m ∈ n.msgs, m.key.b.size ≤ 4000 ∧ m.hi.b.size ≤ 4000 ∧ m.val.b.size ≤ 4000) ∧ (∀ p ∈ n.pivots, p.b.size ≤ 4000) ∧ ∀ p ∈ n.rows, p.key.b.size ≤ 4000 ∧ p.val.b.size ≤ 4000
theorem Sml.at {l : List Nd} (h : Sml l) {n : Nd} (hn : n = Nd.zero ∨ n ∈ l) : NdS n := by
 rcases hn with rfl | hn
 ·exact Sml.zero
 ·exact h.2 n hn
theorem SeatS.root {l : List Nd} (h : Sml l) (root : Int) : SeatS l 0 (rootS l root) := ⟨h.find root, Nat.le_refl _, ⟨by show Str.nil.b.size ≤ 4000; decide, by show Str.nil.b.size ≤ 4000; decide⟩, fun m hm => by cases hm⟩
theorem kid_sp {l : List Nd} (h : Sml l) {p : Nat} {x : Seat} (hx : SeatS l p x) (j : Nat) : (x.s.meet (rangeN x.n.pivots (j : Int))).lo.b.size ≤ 4000 ∧ (x.s.meet (rangeN x.n.pivots (j : Int))).hi.b.size ≤ 4000 :=
 meet_sizes hx.sp (range_sizes (h.at hx.nd).2.2.2.2.2.2.1)
theorem kid_tot {l : List Nd} (h : Sml l) {p : Nat} {x : Seat} (hx : SeatS l p x) (s : Span) : totN [clips s x.n.msgs, clips s x.ms] ≤ 4000 * (p + 1) := by
 have h1 : (clips s x.n.msgs).length ≤ x.n.msgs.length := clips_le
 have h2 : (clips s x.ms).length ≤ x.ms.length := clips_le
 have h3 := (h.at hx.nd).2.2.1
 have h4 := hx.ms
 have h5 : totN [] = 0 := rfl
 rw [totN_cons, totN_cons, h5]
 omega
theorem SeatS.kid {l : List Nd} (h : Sml l) {p q : Nat} {x : Seat} (hx : SeatS l p x) (hq : p < q) (j : Nat) : SeatS l q (kidSt l x j) := by
 refine ⟨h.find _, ?_, kid_sp h hx j, ?_⟩
 ·have h1 := merge_len [clips (x.s.meet (rangeN x.n.pivots (j : Int))) x.n.msgs, clips (x.s.meet (rangeN x.n.pivots (j : Int))) x.ms]
  have h2 := kid_tot h hx (x.s.meet (rangeN x.n.pivots (j : Int)))
  show (mergeN _).length ≤ _
  omega
 ·intro m hm
  obtain ⟨L, hL, hmL⟩ := merge_mem.1 hm
  simp only [List.mem_cons, List.not_mem_nil, or_false] at hL
  rcases hL with rfl | rfl
  ·exact clips_szs (h.at hx.nd).2.2.2.2.2.1 (kid_sp h hx j) m hmL
  ·exact clips_szs hx.key (kid_sp h hx j) m hmL
def QS (l : List Nd) (out : List Seat) : Prop := ∀ p (h : p < out.length), SeatS l p out[p]
theorem QS.len47 {l : List Nd} {out : List Seat} (h : QS l out) : True := trivial
end Go.Fw

namespace Go.Fw
section
variable {α : Type} {q : α → Bool} {l m : List α}
def idxN (q : α → Bool) (l : List α) : Int := match l.findIdx? q with
 | some i => i
 | none => -1
theorem idxN_at {k : Nat} (hk : k < l.length) (h : q l[k] = true) (hj : ∀ j (h : j < l.length), j < k → q l[j] = false) : idxN q l = k := by
 have e : l.findIdx? q = some k := by
  rw [List.findIdx?_eq_some_iff_getElem]
  exact ⟨hk, h, fun j hji => by have := hj j om9 hji; simp [this]⟩
 unfold idxN; rw [e]
theorem idxN_no (h : ∀ j (h : j < l.length), q l[j] = false) : idxN q l = -1 := by
 have e : l.findIdx? q = none := by
  rw [List.findIdx?_eq_none_iff]
  intro x hx
  obtain ⟨j, hj, rfl⟩ := List.getElem_of_mem hx
  exact h j hj
 unfold idxN; rw [e]
theorem idxN_cases (q : α → Bool) (l : List α) : (idxN q l = -1 ∧ ∀ x ∈ l, q x = false) ∨ ∃ k, ∃ h : k < l.length, idxN q l = (k : Nat) ∧ q l[k] = true ∧ ∀ j (h : j < l.length), j < k → q l[j] = false := by
 cases e : l.findIdx? q with
 | none =>
  left
  refine ⟨by unfold idxN; rw [e], ?_⟩
  exact List.findIdx?_eq_none_iff.1 e
 | some k =>
  right
  obtain ⟨h1, h2, h3⟩ := List.findIdx?_eq_some_iff_getElem.1 e
  exact ⟨k, h1, by unfold idxN; rw [e], h2, fun j hj hji => by have := h3 j hji; simpa using this⟩
end
end Go.Fw

namespace Go.Fw
theorem isSome_getD {α : Type} {o : Option α} {d : α} (h : o.isSome = true) : o = some (o.getD d) := by cases o <;> simp_all
def effR (e : Eff) : Bool := if e.kind = 1 ∨ e.kind = 2 then decide (e.val.b.size ≤ 16) else (decide (e.kind = 0) || decide (e.kind = 3)) && decide (e.val = Str.nil)
def fitsN (l : List Pair) (k : Str) (e : Eff) (n : Int) : Bool := (getN l k).isSome || !(decide (e.kind = 1) || decide (e.kind = 2)) || decide ((l.length : Int) < n)
def rowWithN (l : List Pair) (k : Str) (e : Eff) (n : Int) : List Pair × Bool := if fitsN l k e n = true then (withN l k e, true) else ([], false)
def lfitsN (l : List Pair) (m : Msg) (n : Int) : Bool := decide (m.kind = 4) || fitsN l m.key (m.on m.key) n
def rfits20N (l : List Pair) (m : Msg) (n : Int) : Bool := decide (3 ≤ m.kind) || (getN l m.key).isSome || decide ((l.length : Int) < n)
def leafTakeN (l : List Pair) (m : Msg) (n : Int) : List Pair × Bool := if lfitsN l m n = true then (takeN l m, true) else ([], false)
def drainN (n : Int) : List Pair → List Msg → List Pair × Nat
 | l, [] => (l, 0)
 | l, m :: ms => if lfitsN l m n = true then ((drainN n (takeN l m) ms).1, (drainN n (takeN l m) ms).2 + 1) else (l, 0)
theorem drain_step {n : Int} {l : List Pair} {ms : List Msg} {k : Nat} (hk : k < ms.length) (h : lfitsN (foldN l (ms.take k)) ms[k] n = true) :
  drainN n (foldN l (ms.take k)) (ms.drop k) = ((drainN n (foldN l (ms.take (k + 1))) (ms.drop (k + 1))).1, (drainN n (foldN l (ms.take (k + 1))) (ms.drop (k + 1))).2 + 1) := by
 rw [List.drop_eq_getElem_cons hk, drainN, if_pos h, foldN_succ hk]
def DrainAt (n : Int) (l : List Pair) (ms : List Msg) (k : Nat) : Prop := drainN n l ms = ((drainN n (foldN l (ms.take k)) (ms.drop k)).1, k + (drainN n (foldN l (ms.take k)) (ms.drop k)).2)
theorem DrainAt.zero (n : Int) (l : List Pair) (ms : List Msg) : DrainAt n l ms 0 := by simp [DrainAt, foldN]
theorem DrainAt.succ {n : Int} {l : List Pair} {ms : List Msg} {k : Nat} (h : DrainAt n l ms k) (hk : k < ms.length) (hf : lfitsN (foldN l (ms.take k)) ms[k] n = true) : DrainAt n l ms (k + 1) := by
 unfold DrainAt at h ⊢
 rw [h, drain_step hk hf]
 simp only [Prod.mk.injEq, true_and]; omega
theorem DrainAt.all {n : Int} {l : List Pair} {ms : List Msg} {k : Nat} (h : DrainAt n l ms k) (hk : ms.length ≤ k) : drainN n l ms = (foldN l ms, k) := by
 unfold DrainAt at h
 rw [h, List.drop_eq_nil_of_le hk, List.take_of_length_le hk]; rfl
def Msg.fit (m : Msg) : Prop := m.key.b.size ≤ 1000 ∧ (m.kind = 4 ∨ m.key.b.size ≤ 16) ∧ m.val.b.size ≤ 16
theorem fit_of {m : Msg} (h : m.key.b.size ≤ 16 ∧ m.val.b.size ≤ 16) : m.fit := ⟨om9, .inr h.1, h.2⟩
theorem PairsR.takeF {l : List Pair} {m : Msg} (h : PairsR l) (hf : m.fit) : PairsR (takeN l m) := by
 unfold takeN
 split
 ·exact h.filter _
 ·rename_i h4
  exact h.with (hf.2.1.resolve_left h4) (on_val _ hf.2.2)
theorem meet_has (a b : Span) (k : Str) : (a.meet b).has k = (a.has k && b.has k) := by
 unfold Span.meet
 rw [norm_has]
 rw [Bool.eq_iff_iff]
 simp only [Span.has, Bool.and_eq_true, Bool.not_eq_true', Bool.or_eq_true]
 have hlo : (k.lt (if a.lo.lt b.lo = true then b.lo else a.lo) = false) ↔ (k.lt a.lo = false ∧ k.lt b.lo = false) := by
  by_cases h : a.lo.lt b.lo = true
  ·rw [if_pos h]
   refine ⟨fun h1 => ⟨?_, h1⟩, fun h1 => h1.2⟩
   cases h2 : k.lt a.lo
   ·rfl
   ·rw [Str.lt_trans h2 h] at h1; cases h1
  ·rw [if_neg h]
   refine ⟨fun h1 => ⟨h1, ?_⟩, fun h1 => h1.1⟩
   cases h2 : k.lt b.lo
   ·rfl
   ·rw [Str.lt_of_lt_of_le h2 (by simpa using h)] at h1; cases h1
 rw [hlo]
 cases ha : a.opn <;> cases hb : b.opn <;> simp
 ·by_cases h : b.hi.lt a.hi = true
  ·rw [if_pos h]
   grind [Str.lt_trans]
  ·rw [if_neg h]
   have h : b.hi.lt a.hi = false := by simpa using h
   have : ∀ {x : Str}, x.lt a.hi = true → x.lt b.hi = true := fun hx => Str.lt_of_lt_of_le hx h
   grind
 all_goals grind
theorem clips_cons (s : Span) (m : Msg) (ms : List Msg) : clips s (m :: ms) = if (m.clip s).2 = true then (m.clip s).1 :: clips s ms else clips s ms := by
 unfold clips; rw [List.filterMap_cons]; split <;> simp_all
theorem take_clip {l : List Pair} {m : Msg} {s : Span} (hr : Srt l) (hk : m.key.b.size < 140737488355328) : (if (m.clip s).2 = true then takeN (l.filter fun p => s.has p.key) (m.clip s).1 else l.filter fun p => s.has p.key) = (takeN l m).filter fun p => s.has p.key := by
 have hmh := fun k => meet_has m.span s k
 cases he : (m.span.meet s).empty
 ·by_cases h4 : m.kind = 4
  ·rw [clip_4 he h4, if_pos rfl]
   unfold takeN
   rw [if_pos h4, if_pos h4, List.filter_filter, List.filter_filter]
   congr 1
   funext p
   have e1 : Msg.span { m with key := (m.span.meet s).lo, hi := (m.span.meet s).hi, opn := (m.span.meet s).opn } = m.span.meet s := by rw [Msg.span, if_pos h4]
   rw [e1, hmh]
   cases s.has p.key <;> simp
  ·rw [clip_n he h4, if_pos rfl]
   unfold takeN
   rw [if_neg h4, if_neg h4]
   have hsp : ∀ x, m.span.has x = decide (x = m.key) := fun x => by rw [Msg.span, if_neg h4]; exact point_has hk
   have hin : s.has m.key = true := by
    have := Span.empty_eq (m.span.meet s)
    rw [he, hmh, hsp] at this
    simp only [Bool.not_eq_false', Bool.and_eq_true, decide_eq_true_eq] at this
    rw [← this.1]; exact this.2
   rw [withN_mid, withN_mid, getN_filter (fun k => s.has k), if_pos hin, List.filter_append, List.filter_append, List.filter_filter, List.filter_filter, List.filter_filter, List.filter_filter]
   congr 1
   ·congr 1
    ·congr 1; funext p; exact Bool.and_comm _ _
    ·cases Eff.apply (m.on m.key) (getN l m.key) <;> simp [midN, hin]
   ·congr 1; funext p; exact Bool.and_comm _ _
 ·rw [clip_e he]
  simp only [Bool.false_eq_true, if_false]
  have hno : ∀ k, m.span.has k = true → s.has k = false := fun k h1 => by
   have h2 := hmh k
   have h3 : (m.span.meet s).has k = false := by
    cases h : (m.span.meet s).has k
    ·rfl
    ·simp only [Span.empty, Bool.and_eq_true, Bool.not_eq_true'] at he
     simp only [Span.has, he.1, Bool.false_or, Bool.and_eq_true, Bool.not_eq_true'] at h
     rw [Str.lt_of_le_of_lt h.1 h.2] at he; cases he.2
   rw [h3, h1] at h2; simpa using h2.symm
  unfold takeN
  by_cases h4 : m.kind = 4
  ·rw [if_pos h4, List.filter_filter]
   refine List.filter_congr fun p _ => ?_
   cases h : m.span.has p.key
   ·simp
   ·rw [hno _ h]; rfl
  ·rw [if_neg h4]
   have hsp : ∀ x, m.span.has x = decide (x = m.key) := fun x => by rw [Msg.span, if_neg h4]; exact point_has hk
   have hout : s.has m.key = false := hno _ (by rw [hsp]; simp)
   rw [withN_mid, List.filter_append, List.filter_append]
   have e2 : (midN (Eff.apply (m.on m.key) (getN l m.key)) m.key).filter (fun p => s.has p.key) = [] := by
    cases Eff.apply (m.on m.key) (getN l m.key) <;> simp [midN, hout]
   rw [e2, List.append_nil, hr.front]
   cases hs : (getN l m.key).isSome
   ·rw [hr.back_no hs, ← List.filter_append, List.take_append_drop]
   ·have hh := hr.has m.key
    rw [hs] at hh
    obtain ⟨q1, q2⟩ := of_decide_eq_true hh.symm
    rw [hr.back_yes q1 q2]
    have e3 : l = l.take (fndN l m.key) ++ l[fndN l m.key] :: l.drop (fndN l m.key + 1) := by rw [← List.drop_eq_getElem_cons q1, List.take_append_drop]
    conv => lhs; rw [e3]
    rw [List.filter_append, List.filter_cons_of_neg (by rw [q2, hout]; simp)]
theorem view_fold {s : Span} : ∀ {ms : List Msg} {l : List Pair}, Srt l → (∀ m ∈ ms, m.key.b.size < 140737488355328) → foldN (l.filter fun p => s.has p.key) (clips s ms) = (foldN l ms).filter fun p => s.has p.key
 | [], l, _, _ => by simp [clips, foldN]
 | m :: ms, l, hr, hm => by
  have h1 := take_clip (s := s) hr (hm m (by simp))
  have hrt : Srt (takeN l m) := by
   unfold takeN; split
   ·exact hr.filter _
   ·exact hr.with _ _
  have h2 := view_fold (s := s) (ms := ms) hrt (fun m h => hm m (List.mem_cons_of_mem _ h))
  rw [clips_cons]
  show _ = (foldN (takeN l m) ms).filter _
  rw [← h2]
  split
  ·rename_i hc
   rw [if_pos hc] at h1
   rw [← h1]; rfl
  ·rename_i hc
   rw [if_neg hc] at h1
   rw [← h1]
end Go.Fw
