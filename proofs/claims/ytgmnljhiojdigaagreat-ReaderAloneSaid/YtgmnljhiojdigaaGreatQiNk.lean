/- The seats of nodes: all nodes that a root leads to, level by level. Plain Lean; nothing of the program is named here. No condition. -/
import Derived.Test.YtgmnljhiojdigaaGreatQiNc
set_option linter.unusedVariables false
set_option linter.unusedSimpArgs false
set_option linter.unnecessarySimpa false
set_option maxRecDepth 100000
set_option maxHeartbeats 1600000

namespace Go.Fw
open Go Go.RowKit
structure Seat where
 n : Nd
 s : Span
 ms : List Msg
instance : Inhabited Seat := ⟨⟨Nd.zero, Span.zero, []⟩⟩
def SeatC (G : GH) (cs : List Value) (x : Seat) : Prop :=
 ∃ a1 c1 a2 c2 a3 c3 a4 c4 a5 c5, cs = [.int .i64 x.n.slot, .int .i64 x.n.level, .slice a1 x.n.pivots.length c1, .slice a2 x.n.kids.length c2, .string x.n.high.b, .bool x.n.top, .int .i64 x.n.right, .int .i64 x.n.seen, .slice a3 x.n.msgs.length c3, .slice a4 x.n.rows.length c4, .string x.s.lo.b, .string x.s.hi.b, .bool x.s.opn, .slice a5 x.ms.length c5] ∧
  SlR eStr G (.slice a1 x.n.pivots.length c1) x.n.pivots ∧ SlR eInt G (.slice a2 x.n.kids.length c2) x.n.kids ∧ SlR eMsg G (.slice a3 x.n.msgs.length c3) x.n.msgs ∧ SlR ePair G (.slice a4 x.n.rows.length c4) x.n.rows ∧ SlR eMsg G (.slice a5 x.ms.length c5) x.ms ∧ x.n.Ok
theorem SeatC.mono {G G' : GH} {cs x} (hl : Le G G') (h : SeatC G cs x) : SeatC G' cs x := by
 obtain ⟨a1, c1, a2, c2, a3, c3, a4, c4, a5, c5, h0, h1, h2, h3, h4, h5, h6⟩ := h
 exact ⟨a1, c1, a2, c2, a3, c3, a4, c4, a5, c5, h0, h1.mono hl, h2.mono hl, h3.mono hl, h4.mono hl, h5.mono hl, h6⟩
def eSeat : Enc Seat where
 k := 14
 w := 216
 R := SeatC
 mono := fun hl h => h.mono hl
 len := fun h => by obtain ⟨a1, c1, a2, c2, a3, c3, a4, c4, a5, c5, h0, _⟩ := h; rw [h0]; rfl
 one := fun h u hu => by
  obtain ⟨a1, c1, a2, c2, a3, c3, a4, c4, a5, c5, h0, _⟩ := h
  rw [h0] at hu
  simp at hu
  rcases hu with rfl | rfl | rfl | rfl | rfl | rfl | rfl | rfl | rfl | rfl | rfl | rfl | rfl | rfl <;> rfl
theorem WD.doneP {E : Env} {f : Fr} {G : GH} {M M1 M' Mk : MH} {ops : Array Oper} {K : Kt} {fuel : Nat} {listed : Array Bool} (hr : Region.ready .any ops listed = []) (hs : M1.Sublist M) (hp : M'.Perm M1) (h : K f G M') : WD E ops fuel listed f G M Mk K := fun _ a w Q hi hw _ hK =>
 wpAnyH_done hr (hK _ _ _ _ _ hi ⟨(hw.r.sub hs).perm hp, hw.le, hw.nw⟩ h) fuel
def atS (l : List Nd) (i : Int) : List Nd := l.filter fun n => decide (n.slot = i)
def findN (l : List Nd) (i : Int) : Nd × Bool := ((atS l i).getLast?.getD Nd.zero, decide ((atS l i).length = 1))
theorem atS_t {l : List Nd} {i : Int} {k : Nat} (hk : k < l.length) (h : l[k].slot = i) : atS (l.take (k + 1)) i = atS (l.take k) i ++ [l[k]] := filt_t hk (decide_eq_true h)
theorem atS_f {l : List Nd} {i : Int} {k : Nat} (hk : k < l.length) (h : ¬ l[k].slot = i) : atS (l.take (k + 1)) i = atS (l.take k) i := filt_f hk (decide_eq_false h)
theorem atS_len (l : List Nd) (i : Int) (k : Nat) : (atS (l.take k) i).length ≤ l.length := filt_le _ l k
theorem SlR.nok {G : GH} {v : Value} {l : List Nd} (h : SlR eNode G v l) : ∀ n ∈ l, n.Ok := by
 intro n hn
 obtain ⟨i, hi, rfl⟩ := List.getElem_of_mem hn
 obtain ⟨cs, _, hr⟩ := h.at hi
 obtain ⟨_, _, _, _, _, _, _, _, _, _, _, _, _, hok⟩ := hr
 exact hok
theorem find_b {l : List Nd} {i : Int} {k : Nat} (h : l.length ≤ k) : decide ((((atS (l.take k) i).length : Nat) : Int) = 1) = (findN l i).2 := by
 rw [List.take_of_length_le h]; exact decide_eq_decide.2 om9
theorem find_n {l : List Nd} {i : Int} {k : Nat} (h : l.length ≤ k) : (atS (l.take k) i).getLast?.getD Nd.zero = (findN l i).1 := by
 rw [List.take_of_length_le h]; rfl
theorem last_snoc {l : List Nd} {x d : Nd} : (l ++ [x]).getLast?.getD d = x := by simp
noncomputable def kidSt (l : List Nd) (x : Seat) (j : Nat) : Seat :=
 ⟨(findN l (x.n.kids.getD j 0)).1, x.s.meet (rangeN x.n.pivots (j : Int)), mergeN [clips (x.s.meet (rangeN x.n.pivots (j : Int))) x.n.msgs, clips (x.s.meet (rangeN x.n.pivots (j : Int))) x.ms]⟩
def kidOk (l : List Nd) (x : Seat) (j : Nat) : Bool := (findN l (x.n.kids.getD j 0)).2 && decide ((findN l (x.n.kids.getD j 0)).1.level = x.n.level - 1)
noncomputable def kidsF (l : List Nd) (x : Seat) (j : Nat) : List Seat := (List.range j).map (kidSt l x)
noncomputable def kidsO (l : List Nd) (x : Seat) : Option (List Seat) :=
 if x.n.level = 0 then some []
 else if x.n.level < 0 ∨ rightN x.n.pivots x.n.kids.length = false then none
 else if (List.range x.n.kids.length).all (kidOk l x) = true then some (kidsF l x x.n.kids.length) else none
noncomputable def kidsD (l : List Nd) (x : Seat) : List Seat := (kidsO l x).getD []
theorem kidsO_0 {l : List Nd} {x : Seat} (h : x.n.level = 0) : kidsO l x = some [] := if_pos h
theorem kidsO_n {l : List Nd} {x : Seat} (h0 : ¬ x.n.level = 0) (h : x.n.level < 0 ∨ rightN x.n.pivots x.n.kids.length = false) : kidsO l x = none := by rw [kidsO, if_neg h0, if_pos h]
theorem kidsO_f {l : List Nd} {x : Seat} {j : Nat} (h0 : ¬ x.n.level = 0) (hj : j < x.n.kids.length) (hf : kidOk l x j = false) : kidsO l x = none := by
 rw [kidsO, if_neg h0]
 split
 ·rfl
 ·rw [if_neg]
  intro h
  have := List.all_eq_true.1 h j (List.mem_range.2 hj)
  rw [hf] at this; cases this
theorem kidsO_t {l : List Nd} {x : Seat} (h0 : ¬ x.n.level = 0) (h1 : ¬ x.n.level < 0) (h2 : rightN x.n.pivots x.n.kids.length = true) (h : ∀ j, j < x.n.kids.length → kidOk l x j = true) : kidsO l x = some (kidsF l x x.n.kids.length) := by
 rw [kidsO, if_neg h0, if_neg (by rintro (h | h); exact h1 h; rw [h2] at h; cases h), if_pos]
 exact List.all_eq_true.2 fun j hj => h j (List.mem_range.1 hj)
theorem kidsF_succ (l : List Nd) (x : Seat) (j : Nat) : kidsF l x (j + 1) = kidsF l x j ++ [kidSt l x j] := by simp [kidsF, List.range_succ]
theorem kidsF_len (l : List Nd) (x : Seat) (j : Nat) : (kidsF l x j).length = j := by simp [kidsF]
noncomputable def seatsF (l : List Nd) : Nat → Nat → List Seat → Option (List Seat)
 | 0, _, _ => none
 | f + 1, i, out => if h : i < out.length then if l.length < out.length then none else match kidsO l out[i] with
   | none => none
   | some ks => seatsF l f (i + 1) (out ++ ks)
  else some out
noncomputable def rootS (l : List Nd) (root : Int) : Seat := ⟨(findN l root).1, Span.all, []⟩
noncomputable def seatsN (l : List Nd) (root : Int) : Option (List Seat) := if (findN l root).2 = true then seatsF l (l.length + 2) 0 [rootS l root] else none
theorem seatsF_done {l : List Nd} {f i : Nat} {out : List Seat} (h : ¬ i < out.length) : seatsF l (f + 1) i out = some out := by rw [seatsF, dif_neg h]
theorem seatsF_long {l : List Nd} {f i : Nat} {out : List Seat} (h : i < out.length) (hl : l.length < out.length) : seatsF l (f + 1) i out = none := by rw [seatsF, dif_pos h, if_pos hl]
theorem seatsF_none {l : List Nd} {f i : Nat} {out : List Seat} (h : i < out.length) (hk : kidsO l out[i] = none) : seatsF l (f + 1) i out = none := by
 rw [seatsF, dif_pos h]
 split
 ·rfl
 ·rw [hk]
theorem seatsF_some {l : List Nd} {f i : Nat} {out ks : List Seat} (h : i < out.length) (hl : ¬ l.length < out.length) (hk : kidsO l out[i] = some ks) : seatsF l (f + 1) i out = seatsF l f (i + 1) (out ++ ks) := by
 rw [seatsF, dif_pos h, if_neg hl, hk]
structure QOk (l : List Nd) (root : Int) (i : Nat) (out : List Seat) : Prop where
 le : i ≤ out.length
 pos : 0 < out.length
 len : i ≤ l.length
 eq : seatsN l root = seatsF l (l.length + 2 - i) i out
theorem QOk.init {l : List Nd} {root : Int} (h : (findN l root).2 = true) : QOk l root 0 [rootS l root] := ⟨Nat.zero_le _, by simp, Nat.zero_le _, by rw [seatsN, if_pos h]; rfl⟩
theorem fuel_succ {n i : Nat} (h : i ≤ n) : n + 2 - i = (n + 1 - i) + 1 := om9
theorem QOk.done {l : List Nd} {root : Int} {i : Nat} {out : List Seat} (h : QOk l root i out) (hi : ¬ i < out.length) : seatsN l root = some out := by
 rw [h.eq, fuel_succ h.len, seatsF_done hi]
theorem QOk.long {l : List Nd} {root : Int} {i : Nat} {out : List Seat} (h : QOk l root i out) (hi : i < out.length) (hl : l.length < out.length) : seatsN l root = none := by
 rw [h.eq, fuel_succ h.len, seatsF_long hi hl]
theorem QOk.none {l : List Nd} {root : Int} {i : Nat} {out : List Seat} (h : QOk l root i out) (hi : i < out.length) (hk : kidsO l out[i] = none) : seatsN l root = none := by
 rw [h.eq, fuel_succ h.len, seatsF_none hi hk]
theorem QOk.next {l : List Nd} {root : Int} {i : Nat} {out ks : List Seat} (h : QOk l root i out) (hi : i < out.length) (hl : ¬ l.length < out.length) (hk : kidsO l out[i] = some ks) : QOk l root (i + 1) (out ++ ks) :=
 ⟨by rw [List.length_append]; omega, by rw [List.length_append]; omega, om9, by rw [h.eq, fuel_succ h.len, seatsF_some hi hl hk]; congr 1; omega⟩
def Sml (l : List Nd) : Prop := l.length ≤ 4096 ∧ ∀ n ∈ l, n.kids.length ≤ 4000 ∧ n.pivots.length ≤ 4000 ∧ n.msgs.length ≤ 4000 ∧ n.rows.length ≤ 4000 ∧ n.high.b.size ≤ 4000 ∧ (∀ m ∈ n.msgs, m.key.b.size ≤ 4000 ∧ m.hi.b.size ≤ 4000 ∧ m.val.b.size ≤ 4000) ∧ (∀ p ∈ n.pivots, p.b.size ≤ 4000) ∧ ∀ p ∈ n.rows, p.key.b.size ≤ 4000 ∧ p.val.b.size ≤ 4000
theorem Sml.zero : (Nd.zero.kids.length ≤ 4000 ∧ Nd.zero.pivots.length ≤ 4000 ∧ Nd.zero.msgs.length ≤ 4000 ∧ Nd.zero.rows.length ≤ 4000 ∧ Nd.zero.high.b.size ≤ 4000 ∧ (∀ m ∈ Nd.zero.msgs, m.key.b.size ≤ 4000 ∧ m.hi.b.size ≤ 4000 ∧ m.val.b.size ≤ 4000) ∧ (∀ p ∈ Nd.zero.pivots, p.b.size ≤ 4000) ∧ ∀ p ∈ Nd.zero.rows, p.key.b.size ≤ 4000 ∧ p.val.b.size ≤ 4000) := by
 refine ⟨by decide, by decide, by decide, by decide, by decide, ?_, ?_, ?_⟩ <;> (intro m hm; cases hm)
theorem Sml.find {l : List Nd} (h : Sml l) (i : Int) : (findN l i).1 = Nd.zero ∨ (findN l i).1 ∈ l := by
 unfold findN
 cases e : (atS l i).getLast? with
 | none => exact .inl rfl
 | some n => exact .inr (List.mem_filter.1 (List.mem_of_getLast? e)).1
theorem best_or (C : Ls) : (∀ q (h : q < C.length), C[q].length = 0) ∨ ∃ b, Best C b := by
 have key : ∀ j, j ≤ C.length → ∃ c : Int, BI C j c := by
  intro j
  induction j with
  | zero => intro _; exact ⟨-1, BI_nil C⟩
  | succ j ih =>
   intro hj
   obtain ⟨c, hc⟩ := ih om9
   by_cases hz : C[j].length = 0
   ·exact ⟨c, BI_skip hc om9 hz⟩
   ·by_cases h0 : c < 0
    ·exact ⟨j, BI_first hc h0 om9 om9⟩
    ·obtain ⟨b, hb, rfl, hbj, _⟩ := BI_best hc h0
     by_cases hl : stN C[j] < stN C[b]
     ·exact ⟨j, BI_less hc hb om9 om9 hl⟩
     ·exact ⟨b, BI_keep hc hb om9 hl⟩
 obtain ⟨c, hc⟩ := key C.length (Nat.le_refl _)
 by_cases h0 : c < 0
 ·rcases hc with ⟨h1, h2⟩ | ⟨b, hb, h1, _⟩
  ·exact .inl fun q h => h2 q h h
  ·omega
 ·obtain ⟨b, hb, rfl, _, _⟩ := BI_best hc h0
  exact .inr ⟨b, BI_done hc (Nat.le_refl _)⟩
theorem flat_nil {C : Ls} (h : ∀ q (h : q < C.length), C[q].length = 0) : C.flatten = [] := by
 rw [List.flatten_eq_nil_iff]
 intro L hL
 obtain ⟨i, hi, rfl⟩ := List.getElem_of_mem hL
 exact List.eq_nil_of_length_eq_zero (h i hi)
theorem perm_hd {A R X : List Msg} (h : 0 < X.length) : (X[0] :: (A ++ (X.drop 1 ++ R))).Perm (A ++ (X ++ R)) := by
 cases X with
 | nil => simp at h
 | cons x X => exact List.perm_middle.symm
theorem flat_best {C : Ls} {b : Nat} (hb : Best C b) : ((C[b]'hb.lt)[0]'hb.ne :: (C.set b ((C[b]'hb.lt).drop 1)).flatten).Perm C.flatten := by
 have e1 : (C.set b ((C[b]'hb.lt).drop 1)).flatten = (C.take b).flatten ++ ((C[b]'hb.lt).drop 1 ++ (C.drop (b + 1)).flatten) := by
  rw [set_split hb.lt, List.flatten_append, List.flatten_cons]
 have e2 : C.flatten = (C.take b).flatten ++ (C[b]'hb.lt ++ (C.drop (b + 1)).flatten) := by
  conv => lhs; rw [at_split hb.lt]
  rw [List.flatten_append, List.flatten_cons]
 have h := perm_hd (A := (C.take b).flatten) (R := (C.drop (b + 1)).flatten) hb.ne
 rw [← e1, ← e2] at h
 exact h
theorem merge_perm : ∀ (n : Nat) (C : Ls), totN C = n → (mergeN C).Perm C.flatten := by
 intro n
 induction n with
 | zero =>
  intro C h
  rcases best_or C with h1 | ⟨b, hb⟩
  ·rw [merge_nil h1, flat_nil h1]
  ·have := totN_set hb; omega
 | succ n ih =>
  intro C h
  rcases best_or C with h1 | ⟨b, hb⟩
  ·rw [merge_nil h1, flat_nil h1]
  ·rw [merge_step hb]
   exact ((ih _ (by have := totN_set hb; omega)).cons _).trans (flat_best hb)
theorem merge_mem {C : Ls} {m : Msg} : m ∈ mergeN C ↔ ∃ L ∈ C, m ∈ L := by
 rw [(merge_perm _ C rfl).mem_iff, List.mem_flatten]
def Rst (l : List Msg) : Prop := l.Pairwise fun a b => a.stamp < b.stamp
theorem merge_sorted : ∀ (n : Nat) (C : Ls) (S : List Msg), totN C = n → (∀ L ∈ C, Rst L) → S.Perm C.flatten → Rst S → mergeN C = S := by
 intro n
 induction n with
 | zero =>
  intro C S h _ hp _
  rcases best_or C with h1 | ⟨b, hb⟩
  ·rw [flat_nil h1] at hp
   rw [merge_nil h1, List.Perm.eq_nil hp]
  ·have := totN_set hb; omega
 | succ n ih =>
  intro C S h hC hp hS
  rcases best_or C with h1 | ⟨b, hb⟩
  ·rw [flat_nil h1] at hp
   rw [merge_nil h1, List.Perm.eq_nil hp]
  ·have hf := flat_best hb
   rw [merge_step hb]
   cases S with
   | nil => have := (hp.trans hf.symm).length_eq; simp at this
   | cons s S =>
    have hp2 := hp.trans hf.symm
    have e : s = (C[b]'hb.lt)[0]'hb.ne := by
     have hs : s ∈ C.flatten := hp.mem_iff.1 (by simp)
     have hc : (C[b]'hb.lt)[0]'hb.ne ∈ s :: S := hp2.mem_iff.2 (by simp)
     rcases List.mem_cons.1 hc with h | h
     ·exact h.symm
     ·have h2 := (List.pairwise_cons.1 hS).1 _ h
      obtain ⟨L, hL, hsL⟩ := List.mem_flatten.1 hs
      obtain ⟨j, hj, rfl⟩ := List.getElem_of_mem hL
      obtain ⟨q, hq, rfl⟩ := List.getElem_of_mem hsL
      have h3 := (hb.min j hj om9).1
      rw [stN_at hb.ne, stN_at (show 0 < C[j].length by omega)] at h3
      have h4 : (C[j][0]'om9).stamp ≤ C[j][q].stamp := by
       by_cases e0 : q = 0
       ·subst e0; exact Int.le_refl _
       ·exact Int.le_of_lt (List.pairwise_iff_getElem.1 (hC _ (List.getElem_mem hj)) 0 q om9 hq om9)
      omega
    subst e
    congr 1
    refine ih _ S (by have := totN_set hb; omega) ?_ (List.Perm.cons_inv hp2) (List.pairwise_cons.1 hS).2
    intro L hL
    rcases List.mem_or_eq_of_mem_set hL with h | h
    ·exact hC _ h
    ·subst h; exact List.Pairwise.sublist (List.drop_sublist _ _) (hC _ (List.getElem_mem _))
theorem meet_sizes {a b : Span} {n : Nat} (ha : a.lo.b.size ≤ n ∧ a.hi.b.size ≤ n) (hb : b.lo.b.size ≤ n ∧ b.hi.b.size ≤ n) : (a.meet b).lo.b.size ≤ n ∧ (a.meet b).hi.b.size ≤ n := by
 unfold Span.meet
 refine norm_sizes ?_ ?_
 ·dsimp only; split; exact hb.1; exact ha.1
 ·dsimp only; split; exact hb.2; exact ha.2
theorem range_sizes {p : List Str} {i : Int} {n : Nat} (h : ∀ k ∈ p, k.b.size ≤ n) : (rangeN p i).lo.b.size ≤ n ∧ (rangeN p i).hi.b.size ≤ n := by
 have h0 : Str.nil.b.size = 0 := rfl
 have hg : ∀ j, (p.getD j Str.nil).b.size ≤ n := by
  intro j
  by_cases hj : j < p.length
  ·rw [getD_in hj]; exact h _ (List.getElem_mem _)
  ·rw [getD_out om9]; omega
 unfold rangeN
 split
 ·exact ⟨by show Str.nil.b.size ≤ n; omega, by show Str.nil.b.size ≤ n; omega⟩
 ·refine norm_sizes ?_ (hg _)
  dsimp only; split
  ·exact hg _
  ·omega
theorem clip_szs {m : Msg} {s : Span} {n : Nat} (hm : m.key.b.size ≤ n ∧ m.hi.b.size ≤ n ∧ m.val.b.size ≤ n) (hs : s.lo.b.size ≤ n ∧ s.hi.b.size ≤ n) (h : (m.clip s).2 = true) : (m.clip s).1.key.b.size ≤ n ∧ (m.clip s).1.hi.b.size ≤ n ∧ (m.clip s).1.val.b.size ≤ n := by
 rw [(clip_of h).2]
 by_cases h4 : m.kind = 4
 ·rw [if_pos h4]
  have e : m.span = ⟨m.key, m.hi, m.opn⟩ := by unfold Msg.span; rw [if_pos h4]
  have := meet_sizes (a := m.span) (b := s) (by rw [e]; exact ⟨hm.1, hm.2.1⟩) hs
  exact ⟨this.1, this.2, hm.2.2⟩
 ·rw [if_neg h4]; exact hm
theorem clips_szs {l : List Msg} {s : Span} {n : Nat} (hm : ∀ m ∈ l, m.key.b.size ≤ n ∧ m.hi.b.size ≤ n ∧ m.val.b.size ≤ n) (hs : s.lo.b.size ≤ n ∧ s.hi.b.size ≤ n) : ∀ m ∈ clips s l, m.key.b.size ≤ n ∧ m.hi.b.size ≤ n ∧ m.val.b.size ≤ n := fun m h => by
 obtain ⟨a, ha, h1, rfl⟩ := clips_mem h
 exact clip_szs (hm a ha) hs h1
structure SeatS (l : List Nd) (p : Nat) (x : Seat) : Prop where
 nd : x.n = Nd.zero ∨ x.n ∈ l
 ms : x.ms.length ≤ 4000 * p
 sp : x.s.lo.b.size ≤ 4000 ∧ x.s.hi.b.size ≤ 4000
 key : ∀ m ∈ x.ms, m.key.b.size ≤ 4000 ∧ m.hi.b.size ≤ 4000 ∧ m.val.b.size ≤ 4000
def NdS (n : Nd) : Prop := n.kids.length ≤ 4000 ∧ n.pivots.length ≤ 4000 ∧ n.msgs.length ≤ 4000 ∧ n.rows.length ≤ 4000 ∧ n.high.b.size ≤ 4000 ∧ (∀ m ∈ n.msgs, m.key.b.size ≤ 4000 ∧ m.hi.b.size ≤ 4000 ∧ m.val.b.size ≤ 4000) ∧ (∀ p ∈ n.pivots, p.b.size ≤ 4000) ∧ ∀ p ∈ n.rows, p.key.b.size ≤ 4000 ∧ p.val.b.size ≤ 4000
theorem Sml.at {l : List Nd} (h : Sml l) {n : Nd} (hn : n = Nd.zero ∨ n ∈ l) : NdS n := by
 rcases hn with rfl | hn
 ·exact Sml.zero
 ·exact h.2 n hn
theorem SeatS.root {l : List Nd} (h : Sml l) (root : Int) : SeatS l 0 (rootS l root) := ⟨h.find root, Nat.le_refl _, ⟨by show Str.nil.b.size ≤ 4000; decide, by show Str.nil.b.size ≤ 4000; decide⟩, fun m hm => by cases hm⟩
theorem kid_sp {l : List Nd} (h : Sml l) {p : Nat} {x : Seat} (hx : SeatS l p x) (j : Nat) : (x.s.meet (rangeN x.n.pivots (j : Int))).lo.b.size ≤ 4000 ∧ (x.s.meet (rangeN x.n.pivots (j : Int))).hi.b.size ≤ 4000 :=
 meet_sizes hx.sp (range_sizes (h.at hx.nd).2.2.2.2.2.2.1)
theorem kid_tot {l : List Nd} (h : Sml l) {p : Nat} {x : Seat} (hx : SeatS l p x) (s : Span) : totN [clips s x.n.msgs, clips s x.ms] ≤ 4000 * (p + 1) := by
 have h1 : (clips s x.n.msgs).length ≤ x.n.msgs.length := clips_le
 have h2 : (clips s x.ms).length ≤ x.ms.length := clips_le
 have h3 := (h.at hx.nd).2.2.1
 have h4 := hx.ms
 have h5 : totN [] = 0 := rfl
 rw [totN_cons, totN_cons, h5]
 omega
theorem SeatS.kid {l : List Nd} (h : Sml l) {p q : Nat} {x : Seat} (hx : SeatS l p x) (hq : p < q) (j : Nat) : SeatS l q (kidSt l x j) := by
 refine ⟨h.find _, ?_, kid_sp h hx j, ?_⟩
 ·have h1 := merge_len [clips (x.s.meet (rangeN x.n.pivots (j : Int))) x.n.msgs, clips (x.s.meet (rangeN x.n.pivots (j : Int))) x.ms]
  have h2 := kid_tot h hx (x.s.meet (rangeN x.n.pivots (j : Int)))
  show (mergeN _).length ≤ _
  omega
 ·intro m hm
  obtain ⟨L, hL, hmL⟩ := merge_mem.1 hm
  simp only [List.mem_cons, List.not_mem_nil, or_false] at hL
  rcases hL with rfl | rfl
  ·exact clips_szs (h.at hx.nd).2.2.2.2.2.1 (kid_sp h hx j) m hmL
  ·exact clips_szs hx.key (kid_sp h hx j) m hmL
def QS (l : List Nd) (out : List Seat) : Prop := ∀ p (h : p < out.length), SeatS l p out[p]
theorem QS.init {l : List Nd} (h : Sml l) (root : Int) : QS l [rootS l root] := fun p hp => by
 have : p = 0 := by simp at hp; omega
 subst this; exact SeatS.root h root
theorem QS.snoc {l : List Nd} (h : Sml l) {out : List Seat} (ho : QS l out) {i : Nat} {x : Seat} (hx : SeatS l i x) (hi : i < out.length) (j : Nat) : QS l (out ++ [kidSt l x j]) := fun p hp => by
 rw [List.getElem_append]
 split
 ·exact ho p (by assumption)
 ·simp only [List.getElem_singleton]
  exact hx.kid h om9 j
theorem kidOk_a {l : List Nd} {x : Seat} {j : Nat} (hj : j < x.n.kids.length) (h : (findN l x.n.kids[j]).2 = false) : kidOk l x j = false := by
 unfold kidOk
 rw [List.getD_eq_getElem?_getD, List.getElem?_eq_getElem hj]
 show ((findN l x.n.kids[j]).2 && _) = false
 rw [h]; rfl
theorem kidOk_b {l : List Nd} {x : Seat} {j : Nat} (hj : j < x.n.kids.length) (h : ¬ (findN l x.n.kids[j]).1.level = x.n.level - 1) : kidOk l x j = false := by
 unfold kidOk
 rw [List.getD_eq_getElem?_getD, List.getElem?_eq_getElem hj]
 show (_ && decide ((findN l x.n.kids[j]).1.level = x.n.level - 1)) = false
 rw [decide_eq_false h, Bool.and_false]
theorem kidOk_all {l : List Nd} {x : Seat} {j : Nat} (hj : j < x.n.kids.length) (ha : ∀ j2, j2 < j → kidOk l x j2 = true) (h : (findN l x.n.kids[j]).2 = true) (h2 : (findN l x.n.kids[j]).1.level = x.n.level - 1) : ∀ j2, j2 < j + 1 → kidOk l x j2 = true := by
 intro j2 hj2
 by_cases e : j2 = j
 ·subst e
  unfold kidOk
  rw [List.getD_eq_getElem?_getD, List.getElem?_eq_getElem hj]
  show ((findN l x.n.kids[j2]).2 && decide ((findN l x.n.kids[j2]).1.level = x.n.level - 1)) = true
  rw [h, decide_eq_true h2]; rfl
 ·exact ha j2 om9
theorem kid_rel {G : GH} {cs : List Value} {l : List Nd} {x : Seat} {j : Nat} (hj : j < x.n.kids.length) (h : SeatC G cs ⟨(findN l x.n.kids[j]).1, x.s.meet (rangeN x.n.pivots (j : Int)), (kidSt l x j).ms⟩) : SeatC G cs (kidSt l x j) := by
 have e : kidSt l x j = ⟨(findN l x.n.kids[j]).1, x.s.meet (rangeN x.n.pivots (j : Int)), (kidSt l x j).ms⟩ := by
  unfold kidSt
  rw [List.getD_eq_getElem?_getD, List.getElem?_eq_getElem hj]; rfl
 rw [e]; exact h
theorem seats_none {l : List Nd} {i : Int} (h : (findN l i).2 = false) : seatsN l i = none := by unfold seatsN; rw [if_neg (by simp [h])]
end Go.Fw

namespace Go.Fw
section
variable {α : Type} {q : α → Bool} {l m : List α}
def idxN (q : α → Bool) (l : List α) : Int := match l.findIdx? q with
 | some i => i
 | none => -1
theorem idxN_at {k : Nat} (hk : k < l.length) (h : q l[k] = true) (hj : ∀ j (h : j < l.length), j < k → q l[j] = false) : idxN q l = k := by
 have e : l.findIdx? q = some k := by
  rw [List.findIdx?_eq_some_iff_getElem]
  exact ⟨hk, h, fun j hji => by have := hj j om9 hji; simp [this]⟩
 unfold idxN; rw [e]
theorem idxN_no (h : ∀ j (h : j < l.length), q l[j] = false) : idxN q l = -1 := by
 have e : l.findIdx? q = none := by
  rw [List.findIdx?_eq_none_iff]
  intro x hx
  obtain ⟨j, hj, rfl⟩ := List.getElem_of_mem hx
  exact h j hj
 unfold idxN; rw [e]
theorem idxN_cases (q : α → Bool) (l : List α) : (idxN q l = -1 ∧ ∀ x ∈ l, q x = false) ∨ ∃ k, ∃ h : k < l.length, idxN q l = (k : Nat) ∧ q l[k] = true ∧ ∀ j (h : j < l.length), j < k → q l[j] = false := by
 cases e : l.findIdx? q with
 | none =>
  left
  refine ⟨by unfold idxN; rw [e], ?_⟩
  exact List.findIdx?_eq_none_iff.1 e
 | some k =>
  right
  obtain ⟨h1, h2, h3⟩ := List.findIdx?_eq_some_iff_getElem.1 e
  exact ⟨k, h1, by unfold idxN; rw [e], h2, fun j hj hji => by have := h3 j hji; simpa using this⟩
theorem idxN_le (q : α → Bool) (l : List α) : -1 ≤ idxN q l ∧ idxN q l < (l.length : Nat) := by
 rcases idxN_cases q l with ⟨h, _⟩ | ⟨k, h1, h2, _⟩
 ·omega
 ·omega
theorem idx_none (h : idxN q l = -1) : l.filter (fun a => !q a) = l := by
 rcases idxN_cases q l with ⟨_, h2⟩ | ⟨k, h1, h2, _⟩
 ·exact List.filter_eq_self.2 fun a ha => by rw [h2 a ha]; rfl
 ·omega
theorem idx_first (h : ¬ idxN q l = -1) : l.take (idxN q l).toNat = (l.take ((idxN q l).toNat + 1)).filter (fun a => !q a) := by
 rcases idxN_cases q l with ⟨h1, _⟩ | ⟨k, h1, h2, h3, h4⟩
 ·exact absurd h1 h
 ·rw [h2]
  simp only [Int.toNat_natCast]
  rw [filt_f (p := fun a => !q a) h1 (by rw [h3]; rfl)]
  symm
  refine List.filter_eq_self.2 fun a ha => ?_
  obtain ⟨j, hj, rfl⟩ := List.getElem_of_mem ha
  simp only [List.length_take] at hj
  rw [List.getElem_take, h4 j om9 om9]; rfl
theorem drop_get {j : Nat} (hj : j < m.length) (hl : j < l.length) (h : m.drop j = l.drop j) : m[j] = l[j] := by
 rw [List.drop_eq_getElem_cons hj, List.drop_eq_getElem_cons hl] at h
 exact (List.cons.inj h).1
theorem drop_succ_of {j : Nat} (h : m.drop j = l.drop j) : m.drop (j + 1) = l.drop (j + 1) := by
 have := congrArg (List.drop 1) h
 rwa [List.drop_drop, List.drop_drop] at this
theorem del_keep {i j : Nat} {p : α → Bool} (hij : i < j) (hjl : j < l.length) (hml : m.length = l.length) (hmt : m.take i = (l.take j).filter p) (hmd : m.drop j = l.drop j) (hq : p l[j] = true) : (m.set i (m[j]'om9)).take (i + 1) = (l.take (j + 1)).filter p ∧ (m.set i (m[j]'om9)).drop (j + 1) = l.drop (j + 1) := by
 have e := drop_get om9 hjl hmd
 constructor
 ·rw [filt_t hjl hq, ← hmt, e, List.take_succ_eq_append_getElem (by simp; omega), List.take_set_of_le (Nat.le_refl _)]
  simp
 ·rw [List.drop_set_of_lt om9]
  exact drop_succ_of hmd
theorem del_skip {i j : Nat} {p : α → Bool} (hjl : j < l.length) (hmt : m.take i = (l.take j).filter p) (hmd : m.drop j = l.drop j) (hq : p l[j] = false) : m.take i = (l.take (j + 1)).filter p ∧ m.drop (j + 1) = l.drop (j + 1) :=
 ⟨by rw [filt_f hjl hq]; exact hmt, drop_succ_of hmd⟩
end
end Go.Fw

namespace Go.Fw
theorem scan_whole (l : List Pair) (s : Span) : scanN l s (l.length : Int) = l.filter fun p => s.has p.key := by
 unfold scanN
 exact List.take_of_length_le (by have := List.length_filter_le (fun p : Pair => s.has p.key) l; omega)
theorem norm_size {s : Span} {n : Nat} (h : s.lo.b.size ≤ n) : s.norm.lo.b.size ≤ n := by
 unfold Span.norm
 split
 ·show 0 ≤ n; omega
 ·split <;> exact h
def Msg.fit (m : Msg) : Prop := m.key.b.size ≤ 1000 ∧ (m.kind = 4 ∨ m.key.b.size ≤ 16) ∧ m.val.b.size ≤ 16
theorem fit_of {m : Msg} (h : m.key.b.size ≤ 16 ∧ m.val.b.size ≤ 16) : m.fit := ⟨om9, .inr h.1, h.2⟩
theorem PairsR.takeF {l : List Pair} {m : Msg} (h : PairsR l) (hf : m.fit) : PairsR (takeN l m) := by
 unfold takeN
 split
 ·exact h.filter _
 ·rename_i h4
  exact h.with (hf.2.1.resolve_left h4) (on_val _ hf.2.2)
theorem PairsR.foldF {ms : List Msg} : ∀ {l : List Pair}, PairsR l → (∀ m ∈ ms, m.fit) → PairsR (foldN l ms) := by
 induction ms with
 | nil => exact fun h _ => h
 | cons m ms ih => exact fun h hm => ih (h.takeF (hm m (by simp))) (fun m h => hm m (by simp [h]))
theorem fold_lenF {l : List Pair} {ms : List Msg} (h : PairsR l) (hm : ∀ m ∈ ms, m.fit) : (foldN l ms).length ≤ l.length + ms.length := by
 induction ms generalizing l with
 | nil => simp [foldN]
 | cons m ms ih =>
  have h1 := ih (h.takeF (hm m (by simp))) (fun m h => hm m (by simp [h]))
  have h2 := h.take_len m
  simp only [foldN, List.foldl_cons, List.length_cons] at h1 ⊢; omega
theorem clips_fit {s : Span} {ms : List Msg} (hs : s.lo.b.size ≤ 300) (hm : ∀ m ∈ ms, m.key.b.size ≤ 16 ∧ m.val.b.size ≤ 16) : ∀ m ∈ clips s ms, m.fit := by
 intro m hmm
 unfold clips at hmm
 obtain ⟨a, ha, he⟩ := List.mem_filterMap.1 hmm
 split at he
 ·cases he
  have h1 := hm a ha
  have h0 : ∀ x : Str, x = Str.nil → x.b.size ≤ 300 := fun x hx => by rw [hx]; show 0 ≤ 300; omega
  unfold Msg.clip
  split
  ·exact ⟨by show 0 ≤ 1000; omega, .inr (by show 0 ≤ 16; omega), by show 0 ≤ 16; omega⟩
  ·split
   ·rename_i h4
    refine ⟨?_, .inl h4, h1.2⟩
    show (a.span.meet s).lo.b.size ≤ 1000
    have hl : (if a.span.lo.lt s.lo = true then s.lo else a.span.lo).b.size ≤ 300 := by
     split
     ·exact hs
     ·rw [Msg.span, if_pos h4]; show a.key.b.size ≤ 300; omega
    unfold Span.meet
    exact Nat.le_trans (norm_size hl) om9
   ·exact fit_of h1
 ·cases he
theorem meet_has (a b : Span) (k : Str) : (a.meet b).has k = (a.has k && b.has k) := by
 unfold Span.meet
 rw [norm_has]
 rw [Bool.eq_iff_iff]
 simp only [Span.has, Bool.and_eq_true, Bool.not_eq_true', Bool.or_eq_true]
 have hlo : (k.lt (if a.lo.lt b.lo = true then b.lo else a.lo) = false) ↔ (k.lt a.lo = false ∧ k.lt b.lo = false) := by
  by_cases h : a.lo.lt b.lo = true
  ·rw [if_pos h]
   refine ⟨fun h1 => ⟨?_, h1⟩, fun h1 => h1.2⟩
   cases h2 : k.lt a.lo
   ·rfl
   ·rw [Str.lt_trans h2 h] at h1; cases h1
  ·rw [if_neg h]
   refine ⟨fun h1 => ⟨h1, ?_⟩, fun h1 => h1.1⟩
   cases h2 : k.lt b.lo
   ·rfl
   ·rw [Str.lt_of_lt_of_le h2 (by simpa using h)] at h1; cases h1
 rw [hlo]
 cases ha : a.opn <;> cases hb : b.opn <;> simp
 ·by_cases h : b.hi.lt a.hi = true
  ·rw [if_pos h]
   grind [Str.lt_trans]
  ·rw [if_neg h]
   have h : b.hi.lt a.hi = false := by simpa using h
   have : ∀ {x : Str}, x.lt a.hi = true → x.lt b.hi = true := fun hx => Str.lt_of_lt_of_le hx h
   grind
 all_goals grind
theorem clips_cons (s : Span) (m : Msg) (ms : List Msg) : clips s (m :: ms) = if (m.clip s).2 = true then (m.clip s).1 :: clips s ms else clips s ms := by
 unfold clips; rw [List.filterMap_cons]; split <;> simp_all
theorem take_clip {l : List Pair} {m : Msg} {s : Span} (hr : Srt l) (hk : m.key.b.size < 140737488355328) : (if (m.clip s).2 = true then takeN (l.filter fun p => s.has p.key) (m.clip s).1 else l.filter fun p => s.has p.key) = (takeN l m).filter fun p => s.has p.key := by
 have hmh := fun k => meet_has m.span s k
 cases he : (m.span.meet s).empty
 ·by_cases h4 : m.kind = 4
  ·rw [clip_4 he h4, if_pos rfl]
   unfold takeN
   rw [if_pos h4, if_pos h4, List.filter_filter, List.filter_filter]
   congr 1
   funext p
   have e1 : Msg.span { m with key := (m.span.meet s).lo, hi := (m.span.meet s).hi, opn := (m.span.meet s).opn } = m.span.meet s := by rw [Msg.span, if_pos h4]
   rw [e1, hmh]
   cases s.has p.key <;> simp
  ·rw [clip_n he h4, if_pos rfl]
   unfold takeN
   rw [if_neg h4, if_neg h4]
   have hsp : ∀ x, m.span.has x = decide (x = m.key) := fun x => by rw [Msg.span, if_neg h4]; exact point_has hk
   have hin : s.has m.key = true := by
    have := Span.empty_eq (m.span.meet s)
    rw [he, hmh, hsp] at this
    simp only [Bool.not_eq_false', Bool.and_eq_true, decide_eq_true_eq] at this
    rw [← this.1]; exact this.2
   rw [withN_mid, withN_mid, getN_filter (fun k => s.has k), if_pos hin, List.filter_append, List.filter_append, List.filter_filter, List.filter_filter, List.filter_filter, List.filter_filter]
   congr 1
   ·congr 1
    ·congr 1; funext p; exact Bool.and_comm _ _
    ·cases Eff.apply (m.on m.key) (getN l m.key) <;> simp [midN, hin]
   ·congr 1; funext p; exact Bool.and_comm _ _
 ·rw [clip_e he]
  simp only [Bool.false_eq_true, if_false]
  have hno : ∀ k, m.span.has k = true → s.has k = false := fun k h1 => by
   have h2 := hmh k
   have h3 : (m.span.meet s).has k = false := by
    cases h : (m.span.meet s).has k
    ·rfl
    ·simp only [Span.empty, Bool.and_eq_true, Bool.not_eq_true'] at he
     simp only [Span.has, he.1, Bool.false_or, Bool.and_eq_true, Bool.not_eq_true'] at h
     rw [Str.lt_of_le_of_lt h.1 h.2] at he; cases he.2
   rw [h3, h1] at h2; simpa using h2.symm
  unfold takeN
  by_cases h4 : m.kind = 4
  ·rw [if_pos h4, List.filter_filter]
   refine List.filter_congr fun p _ => ?_
   cases h : m.span.has p.key
   ·simp
   ·rw [hno _ h]; rfl
  ·rw [if_neg h4]
   have hsp : ∀ x, m.span.has x = decide (x = m.key) := fun x => by rw [Msg.span, if_neg h4]; exact point_has hk
   have hout : s.has m.key = false := hno _ (by rw [hsp]; simp)
   rw [withN_mid, List.filter_append, List.filter_append]
   have e2 : (midN (Eff.apply (m.on m.key) (getN l m.key)) m.key).filter (fun p => s.has p.key) = [] := by
    cases Eff.apply (m.on m.key) (getN l m.key) <;> simp [midN, hout]
   rw [e2, List.append_nil, hr.front]
   cases hs : (getN l m.key).isSome
   ·rw [hr.back_no hs, ← List.filter_append, List.take_append_drop]
   ·have hh := hr.has m.key
    rw [hs] at hh
    obtain ⟨q1, q2⟩ := of_decide_eq_true hh.symm
    rw [hr.back_yes q1 q2]
    have e3 : l = l.take (fndN l m.key) ++ l[fndN l m.key] :: l.drop (fndN l m.key + 1) := by rw [← List.drop_eq_getElem_cons q1, List.take_append_drop]
    conv => lhs; rw [e3]
    rw [List.filter_append, List.filter_cons_of_neg (by rw [q2, hout]; simp)]
theorem view_fold {s : Span} : ∀ {ms : List Msg} {l : List Pair}, Srt l → (∀ m ∈ ms, m.key.b.size < 140737488355328) → foldN (l.filter fun p => s.has p.key) (clips s ms) = (foldN l ms).filter fun p => s.has p.key
 | [], l, _, _ => by simp [clips, foldN]
 | m :: ms, l, hr, hm => by
  have h1 := take_clip (s := s) hr (hm m (by simp))
  have hrt : Srt (takeN l m) := by
   unfold takeN; split
   ·exact hr.filter _
   ·exact hr.with _ _
  have h2 := view_fold (s := s) (ms := ms) hrt (fun m h => hm m (List.mem_cons_of_mem _ h))
  rw [clips_cons]
  show _ = (foldN (takeN l m) ms).filter _
  rw [← h2]
  split
  ·rename_i hc
   rw [if_pos hc] at h1
   rw [← h1]; rfl
  ·rename_i hc
   rw [if_neg hc] at h1
   rw [← h1]
end Go.Fw

namespace Go.Fw
open Go Go.RowKit
def wantN (ss : List Seat) (i : Nat) : Int := if i + 1 < ss.length ∧ (ss.getD (i + 1) default).n.level = (ss.getD i default).n.level then (ss.getD (i + 1) default).n.slot else -1
def LinkedP (ss : List Seat) : Prop := ∀ i (h : i < ss.length), ss[i].n.right = wantN ss i
instance (ss : List Seat) : Decidable (LinkedP ss) := by unfold LinkedP; infer_instance
def PlacedP (x : Seat) : Prop := (x.n.top = x.s.opn ∧ x.n.high = x.s.hi) ∧ (∀ i (h : i < x.n.rows.length), x.s.has x.n.rows[i].key = true) ∧ (∀ i (h : i < x.n.pivots.length), x.s.has x.n.pivots[i] = true ∧ x.n.pivots[i] ≠ x.s.lo) ∧ ∀ i (h : i < x.n.msgs.length), x.n.msgs[i].span.meet x.s = x.n.msgs[i].span.norm
instance (x : Seat) : Decidable (PlacedP x) := by unfold PlacedP; infer_instance
def slotS (ss : List Seat) (i : Int) : List Seat := ss.filter fun x => decide (x.n.slot = i)
def OnceP (l : List Nd) (ss : List Seat) : Prop := l.length = ss.length ∧ ∀ i (h : i < l.length), (slotS ss l[i].slot).length = 1
instance (l : List Nd) (ss : List Seat) : Decidable (OnceP l ss) := by unfold OnceP; infer_instance
def StampP (x : Seat) : Prop := ∀ j (h : j < x.ms.length), x.n.seen < x.ms[j].stamp
instance (x : Seat) : Decidable (StampP x) := by unfold StampP; infer_instance
def SeatP (c : Cfg) (x : Seat) : Prop := x.n.R c.fan c.leaf c.bud ∧ PlacedP x ∧ x.n.slot < c.slots ∧ StampP x
instance (c : Cfg) (x : Seat) : Decidable (SeatP c x) := by unfold SeatP; infer_instance
def SoundQ (c : Cfg) (l : List Nd) (ss : List Seat) : Prop := (OnceP l ss ∧ LinkedP ss ∧ (l.length : Int) ≤ c.slots) ∧ ∀ i (h : i < ss.length), SeatP c ss[i]
instance (c : Cfg) (l : List Nd) (ss : List Seat) : Decidable (SoundQ c l ss) := by unfold SoundQ; infer_instance
noncomputable def soundN (c : Cfg) (l : List Nd) : Bool := match seatsN l 0 with | none => false | some ss => decide (SoundQ c l ss)
def SlotsP (l : List Nd) : Prop := ∀ i (h : i < l.length), l[i].slot = (i : Int) ∧ l[i].seen ≤ 1099511627776
instance (l : List Nd) : Decidable (SlotsP l) := by unfold SlotsP; infer_instance
noncomputable def treeN (c : Cfg) (l : List Nd) (most : Int) : Bool := decide (CfgR c ∧ 0 < l.length ∧ Light l most 2000 ∧ SlotsP l) && soundN c l
theorem soundN_t {c : Cfg} {l : List Nd} {ss : List Seat} (h : seatsN l 0 = some ss) : soundN c l = decide (SoundQ c l ss) := by rw [soundN, h]
theorem soundN_f {c : Cfg} {l : List Nd} (h : seatsN l 0 = none) : soundN c l = false := by rw [soundN, h]
theorem slotS_t {l : List Seat} {i : Int} {k : Nat} (hk : k < l.length) (h : l[k].n.slot = i) : slotS (l.take (k + 1)) i = slotS (l.take k) i ++ [l[k]] := filt_t hk (decide_eq_true h)
theorem slotS_f {l : List Seat} {i : Int} {k : Nat} (hk : k < l.length) (h : ¬ l[k].n.slot = i) : slotS (l.take (k + 1)) i = slotS (l.take k) i := filt_f hk (decide_eq_false h)
theorem slotS_len (l : List Seat) (i : Int) (k : Nat) : (slotS (l.take k) i).length ≤ l.length := filt_le _ l k
theorem wantN_t {ss : List Seat} {i : Nat} (h : i + 1 < ss.length) (e : (ss[i + 1]).n.level = (ss[i]).n.level) : wantN ss i = (ss[i + 1]).n.slot := by
 unfold wantN
 rw [List.getD_eq_getElem?_getD, List.getD_eq_getElem?_getD, List.getElem?_eq_getElem h, List.getElem?_eq_getElem om9]
 exact if_pos ⟨h, e⟩
theorem wantN_g {ss : List Seat} {i : Nat} (h : i + 1 < ss.length) (e : ¬ (ss[i + 1]).n.level = (ss[i]).n.level) : wantN ss i = -1 := by
 unfold wantN
 rw [List.getD_eq_getElem?_getD, List.getD_eq_getElem?_getD, List.getElem?_eq_getElem h, List.getElem?_eq_getElem om9]
 exact if_neg fun h => e h.2
theorem wantN_f {ss : List Seat} {i : Nat} (h : ¬ i + 1 < ss.length) : wantN ss i = -1 := by
 unfold wantN
 exact if_neg fun h2 => h h2.1
theorem treeN_f {c : Cfg} {l : List Nd} {most : Int} (h : ¬ (CfgR c ∧ 0 < l.length ∧ Light l most 2000 ∧ SlotsP l)) : treeN c l most = false := by unfold treeN; rw [decide_eq_false h]; rfl
theorem treeN_t {c : Cfg} {l : List Nd} {most : Int} (h1 : CfgR c) (h2 : 0 < l.length) (h3 : Light l most 2000) (h4 : SlotsP l) : treeN c l most = soundN c l := by unfold treeN; rw [decide_eq_true ⟨h1, h2, h3, h4⟩]; rfl
theorem longN_mem : ∀ {l : List Str} {n m : Int}, 0 ≤ n → longN l n m ≤ m → n ≤ m ∧ ∀ a ∈ l, (a.b.size : Int) ≤ m
 | [], n, m, h0, h => ⟨by simpa [longN] using h, fun a ha => by cases ha⟩
 | s :: l, n, m, h0, h => by
  rw [longN] at h
  split at h
  ·rename_i hc
   have h1 := longN_mem om9 h
   refine ⟨hc, fun a ha => ?_⟩
   rcases List.mem_cons.1 ha with rfl | ha
   ·have := h1.1; omega
   ·exact h1.2 a ha
  ·omega
theorem nds_light {n : Nd} (h : n.light 2000) : NdS n := by
 obtain ⟨h1, h2, h3, h4, h5⟩ := h
 have r1 := longG_len Pair.w_pos h1
 have r2 := longN_len h2
 have r4 := longG_len Msg.w_pos h4
 have m1 := (longG_mem (fun a => by have := Pair.w_pos a; omega) (Int.le_refl 0) h1).2
 have m2 := (longN_mem (Int.le_refl 0) h2).2
 have m4 := (longG_mem (fun a => by have := Msg.w_pos a; omega) (Int.le_refl 0) h4).2
 refine ⟨om9, om9, om9, om9, om9, fun m hm => ?_, fun p hp => ?_, fun p hp => ?_⟩
 ·have := m4 m hm; unfold Msg.w at this; omega
 ·have := m2 p hp; omega
 ·have := m1 p hp; unfold Pair.w at this; omega
theorem sml_light {l : List Nd} {most : Int} (h : Light l most 2000) (hm : most ≤ 4096) : Sml l := by
 refine ⟨by have := h.1; omega, fun n hn => ?_⟩
 obtain ⟨i, hi, rfl⟩ := List.getElem_of_mem hn
 exact nds_light (h.2 i hi)
theorem seatsF_fix {l : List Nd} {r : Seat} : ∀ (f i : Nat) (out ss : List Seat), seatsF l f i out = some ss → out = r :: (out.take i).flatMap (kidsD l) → (∀ x ∈ out.take i, (kidsO l x).isSome = true) →
  ss = r :: ss.flatMap (kidsD l) ∧ ∀ x ∈ ss, (kidsO l x).isSome = true := by
 intro f
 induction f with
 | zero => intro i out ss h; cases h
 | succ f ih =>
  intro i out ss h he hs
  by_cases hi : i < out.length
  ·by_cases hl : l.length < out.length
   ·rw [seatsF_long hi hl] at h; cases h
   ·cases hk : kidsO l out[i] with
    | none => rw [seatsF_none hi hk] at h; cases h
    | some ks =>
     rw [seatsF_some hi hl hk] at h
     have e : (out ++ ks).take (i + 1) = out.take i ++ [out[i]] := by
      rw [List.take_append_of_le_length om9, List.take_succ_eq_append_getElem hi]
     refine ih _ _ _ h ?_ ?_
     ·rw [e, List.flatMap_append, ← List.cons_append, ← he]
      congr 1
      simp [kidsD, hk]
     ·intro x hx
      rw [e, List.mem_append, List.mem_singleton] at hx
      rcases hx with hx | rfl
      ·exact hs x hx
      ·rw [hk]; rfl
  ·rw [seatsF_done hi] at h
   cases h
   rw [List.take_of_length_le om9] at he hs
   exact ⟨he, hs⟩
theorem seats_fix {l : List Nd} {root : Int} {ss : List Seat} (h : seatsN l root = some ss) : (findN l root).2 = true ∧ ss = rootS l root :: ss.flatMap (kidsD l) ∧ ∀ x ∈ ss, (kidsO l x).isSome = true := by
 unfold seatsN at h
 split at h
 ·rename_i hf
  exact ⟨hf, seatsF_fix _ _ _ _ h rfl (fun x hx => by simp at hx)⟩
 ·cases h
theorem kids_all {l : List Nd} {x : Seat} (h : (kidsO l x).isSome = true) (h0 : ¬ x.n.level = 0) : kidsD l x = kidsF l x x.n.kids.length ∧ 0 < x.n.level ∧ rightN x.n.pivots x.n.kids.length = true ∧ ∀ j, j < x.n.kids.length → kidOk l x j = true := by
 unfold kidsD kidsO at *
 rw [if_neg h0] at h ⊢
 split at h
 ·cases h
 ·rename_i h1
  rw [if_neg h1]
  split at h
  ·rename_i h2
   rw [if_pos h2]
   refine ⟨rfl, om9, by simpa using fun h => h1 (.inr h), fun j hj => List.all_eq_true.1 h2 j (List.mem_range.2 hj)⟩
  ·cases h
theorem kids_leaf {l : List Nd} {x : Seat} (h0 : x.n.level = 0) : kidsD l x = [] := by rw [kidsD, kidsO_0 h0]; rfl
theorem atS_take {l : List Nd} (h : SlotsP l) (i : Int) : ∀ k, k ≤ l.length → atS (l.take k) i = if h : 0 ≤ i ∧ i < k ∧ i.toNat < l.length then [l[i.toNat]] else []
 | 0, _ => by rw [dif_neg om9]; rfl
 | k + 1, hk => by
  have ih := atS_take h i k om9
  have hs := (h k om9).1
  by_cases e : l[k].slot = i
  ·rw [atS_t om9 e, ih, dif_neg om9, dif_pos ⟨om9, om9, om9⟩, List.nil_append]
   congr 2; omega
  ·rw [atS_f om9 e, ih]
   by_cases e2 : 0 ≤ i ∧ i < k ∧ i.toNat < l.length
   ·rw [dif_pos e2, dif_pos ⟨e2.1, om9, e2.2.2⟩]
   ·rw [dif_neg e2, dif_neg om9]
theorem atS_all {l : List Nd} (h : SlotsP l) (i : Int) : atS l i = if h : 0 ≤ i ∧ i < l.length ∧ i.toNat < l.length then [l[i.toNat]] else [] := by
 have := atS_take h i l.length (Nat.le_refl _)
 rwa [List.take_length] at this
theorem find_at {l : List Nd} (h : SlotsP l) {i : Nat} (hi : i < l.length) : findN l i = (l[i], true) := by
 unfold findN
 rw [atS_all h, dif_pos ⟨om9, om9, om9⟩]
 simp
theorem find_no {l : List Nd} (h : SlotsP l) {i : Int} (hi : ¬ (0 ≤ i ∧ i < l.length)) : findN l i = (Nd.zero, false) := by
 unfold findN
 rw [atS_all h, dif_neg om9]
 rfl
theorem find_eq {l : List Nd} (h : SlotsP l) (i : Int) : findN l i = (getL l i, decide (0 ≤ i ∧ i < l.length)) := by
 by_cases hi : 0 ≤ i ∧ i < l.length
 ·obtain ⟨k, rfl⟩ : ∃ k : Nat, i = k := ⟨i.toNat, om9⟩
  rw [find_at h om9, getL_at om9, decide_eq_true hi]
 ·rw [find_no h hi, decide_eq_false hi]
  congr 1
  unfold getL
  split
  ·rw [List.getD_eq_getElem?_getD, List.getElem?_eq_none om9]; rfl
  ·rfl
structure Tree (c : Cfg) (l : List Nd) (ss : List Seat) : Prop where
 cfg : CfgR c
 pos : 0 < l.length
 sml : Sml l
 slot : SlotsP l
 sts : seatsN l 0 = some ss
 q : SoundQ c l ss
theorem tree_of {c : Cfg} {l : List Nd} {most : Int} (h : treeN c l most = true) (hm : most ≤ 4096) : ∃ ss, Tree c l ss := by
 unfold treeN at h
 rw [Bool.and_eq_true, decide_eq_true_eq] at h
 obtain ⟨⟨h1, h2, h3, h4⟩, h5⟩ := h
 unfold soundN at h5
 split at h5
 ·cases h5
 ·rename_i ss e
  exact ⟨ss, h1, h2, sml_light h3 hm, h4, e, of_decide_eq_true h5⟩
variable {c : Cfg} {l : List Nd} {ss : List Seat}
theorem Tree.fix (t : Tree c l ss) : ss = rootS l 0 :: ss.flatMap (kidsD l) := (seats_fix t.sts).2.1
theorem Tree.root (t : Tree c l ss) : rootS l 0 ∈ ss := by rw [t.fix]; simp
theorem Tree.kids (t : Tree c l ss) {x : Seat} (hx : x ∈ ss) : (kidsO l x).isSome = true := (seats_fix t.sts).2.2 x hx
theorem Tree.kid (t : Tree c l ss) {x y : Seat} (hx : x ∈ ss) (hy : y ∈ kidsD l x) : y ∈ ss := by rw [t.fix]; exact List.mem_cons_of_mem _ (List.mem_flatMap.2 ⟨x, hx, hy⟩)
theorem Tree.seat (t : Tree c l ss) {x : Seat} (hx : x ∈ ss) : SeatP c x := by
 obtain ⟨i, hi, rfl⟩ := List.getElem_of_mem hx
 exact t.q.2 i hi
theorem Tree.lvl (t : Tree c l ss) {x : Seat} (hx : x ∈ ss) : 0 ≤ x.n.level := (t.seat hx).1.1.2.1
theorem Tree.rootn (t : Tree c l ss) : (rootS l 0).n = getL l 0 := by
 show (findN l 0).1 = _
 rw [find_eq t.slot]
theorem Tree.at (t : Tree c l ss) {x : Seat} (hx : x ∈ ss) (h0 : ¬ x.n.level = 0) {j : Nat} (hj : j < x.n.kids.length) :
  kidSt l x j ∈ ss ∧ (0 ≤ x.n.kids[j] ∧ x.n.kids[j] < l.length) ∧ (kidSt l x j).n = getL l x.n.kids[j] ∧ (kidSt l x j).n.level = x.n.level - 1 := by
 obtain ⟨h1, h2, h3, h4⟩ := kids_all (t.kids hx) h0
 have hk := h4 j hj
 unfold kidOk at hk
 have ej : x.n.kids.getD j 0 = x.n.kids[j] := by rw [List.getD_eq_getElem?_getD, List.getElem?_eq_getElem hj]; rfl
 rw [ej, find_eq t.slot, Bool.and_eq_true, decide_eq_true_eq, decide_eq_true_eq] at hk
 have en : (kidSt l x j).n = getL l x.n.kids[j] := by
  show (findN l (x.n.kids.getD j 0)).1 = _
  rw [ej, find_eq t.slot]
 refine ⟨t.kid hx ?_, hk.1, en, by rw [en]; exact hk.2⟩
 rw [h1]
 exact List.mem_map.2 ⟨j, List.mem_range.2 hj, rfl⟩
theorem getL_slot (h : SlotsP l) {i : Int} (hi : 0 ≤ i ∧ i < l.length) : (getL l i).slot = i ∧ getL l i ∈ l := by
 obtain ⟨k, rfl⟩ : ∃ k : Nat, i = k := ⟨i.toNat, om9⟩
 rw [getL_at om9]
 exact ⟨(h k om9).1, List.getElem_mem _⟩
theorem Tree.nd (t : Tree c l ss) {x : Seat} (hx : x ∈ ss) : ∃ h : 0 ≤ x.n.slot ∧ x.n.slot < l.length, x.n = getL l x.n.slot ∧ x.n ∈ l := by
 have key : ∃ i : Int, (0 ≤ i ∧ i < l.length) ∧ x.n = getL l i := by
  rw [t.fix] at hx
  rcases List.mem_cons.1 hx with rfl | hx
  ·exact ⟨0, ⟨om9, by have := t.pos; omega⟩, t.rootn⟩
  ·obtain ⟨y, hy, hk⟩ := List.mem_flatMap.1 hx
   by_cases h0 : y.n.level = 0
   ·rw [kids_leaf h0] at hk; cases hk
   ·rw [(kids_all (t.kids hy) h0).1] at hk
    obtain ⟨j, hj, rfl⟩ := List.mem_map.1 hk
    have := t.at hy h0 (List.mem_range.1 hj)
    exact ⟨_, this.2.1, this.2.2.1⟩
 obtain ⟨i, hi, e⟩ := key
 obtain ⟨h1, h2⟩ := getL_slot t.slot hi
 have hs : x.n.slot = i := by rw [e]; exact h1
 exact ⟨om9, by rw [hs]; exact e, by rw [e]; exact h2⟩
theorem Tree.len (t : Tree c l ss) : ss.length = l.length := t.q.1.1.1.symm
theorem placed_of {l : List Nd} (h : SlotsP l) : placedF 0 l = true := placed_iff.2 fun k hk => by rw [(h k hk).1]; omega
theorem all_has (k : Str) : Span.all.has k = true := by
 show (!k.lt Str.nil && (true || _)) = true
 rw [Str.nil_le]; rfl
theorem kidSt_has {x : Seat} (h : rightN x.n.pivots x.n.kids.length = true) {j : Nat} (hj : j < x.n.kids.length) (k : Str) : (kidSt l x j).s.has k = (x.s.has k && decide (j = routeN x.n.pivots k)) := by
 obtain ⟨h1, h2⟩ := rightN_spec h
 show (Span.meet _ _).has k = _
 rw [meet_has, range_has h1 k om9]
theorem route_lt {x : Seat} (h : rightN x.n.pivots x.n.kids.length = true) (k : Str) : routeN x.n.pivots k < x.n.kids.length := by
 have := (rightN_spec h).2
 have h2 : routeN x.n.pivots k ≤ x.n.pivots.length := List.length_filter_le _ _
 omega
theorem filter_one (b : Bool) (r : Nat) : ∀ n, (List.range n).filter (fun j => b && decide (j = r)) = if b = true ∧ r < n then [r] else []
 | 0 => by simp
 | n + 1 => by
  rw [List.range_succ, List.filter_append, filter_one b r n]
  cases b
  ·simp
  ·by_cases h : r < n
   ·rw [if_pos ⟨rfl, h⟩, if_pos ⟨rfl, om9⟩, List.filter_cons_of_neg (by simp; omega)]; simp
   ·rw [if_neg (by simp; omega)]
    by_cases h2 : r = n
    ·subst h2; rw [if_pos ⟨rfl, om9⟩, List.filter_cons_of_pos (by simp)]; simp
    ·rw [if_neg (by simp; omega), List.filter_cons_of_neg (by simp; omega)]; simp
noncomputable def stepW (l : List Nd) (k : Str) (x : Seat) : Option Seat := if x.n.level = 0 then none else some (kidSt l x (routeN x.n.pivots k))
theorem stepW_0 {k : Str} {x : Seat} (h : x.n.level = 0) : stepW l k x = none := if_pos h
theorem stepW_1 {k : Str} {x : Seat} (h : ¬ x.n.level = 0) : stepW l k x = some (kidSt l x (routeN x.n.pivots k)) := if_neg h
theorem filter_map9 {α β : Type} (p : β → Bool) (f : α → β) : ∀ (l : List α), (l.map f).filter p = (l.filter fun a => p (f a)).map f
 | [] => rfl
 | a :: l => by
  rw [List.map_cons, List.filter_cons, List.filter_cons, filter_map9 p f l]
  split <;> simp_all
theorem filter_congr9 {α : Type} {p q : α → Bool} {l : List α} (h : ∀ a ∈ l, p a = q a) : l.filter p = l.filter q := List.filter_congr h
theorem Tree.filt (t : Tree c l ss) (k : Str) {x : Seat} (hx : x ∈ ss) : ((kidsD l x).filter fun y => y.s.has k) = if x.s.has k = true then (stepW l k x).toList else [] := by
 by_cases h0 : x.n.level = 0
 ·rw [kids_leaf h0, stepW_0 h0]; simp
 ·obtain ⟨h1, h2, h3, h4⟩ := kids_all (t.kids hx) h0
  rw [h1, stepW_1 h0]
  unfold kidsF
  rw [filter_map9, filter_congr9 (q := fun j => x.s.has k && decide (j = routeN x.n.pivots k)) (fun j hj => kidSt_has h3 (List.mem_range.1 hj) k), filter_one]
  have := route_lt h3 k
  by_cases hk : x.s.has k = true
  ·rw [if_pos ⟨hk, this⟩, if_pos hk]; rfl
  ·rw [if_neg (fun h => hk h.1), if_neg hk]; rfl
def hasS (k : Str) (ss : List Seat) : List Seat := ss.filter fun y => y.s.has k
theorem Tree.has_fix (t : Tree c l ss) (k : Str) : hasS k ss = rootS l 0 :: (hasS k ss).filterMap (stepW l k) := by
 have key : ∀ (ts : List Seat), (∀ x ∈ ts, x ∈ ss) → hasS k (ts.flatMap (kidsD l)) = (hasS k ts).filterMap (stepW l k) := by
  intro ts
  induction ts with
  | nil => intro _; rfl
  | cons x ts ih =>
   intro h
   unfold hasS at *
   rw [List.flatMap_cons, List.filter_append, ih (fun y hy => h y (List.mem_cons_of_mem _ hy)), t.filt k (h x (by simp)), List.filter_cons]
   split
   ·rw [List.filterMap_cons]
    cases stepW l k x <;> rfl
   ·rfl
 have e := key ss (fun x hx => hx)
 rw [← e]
 conv => lhs; rw [t.fix]
 unfold hasS
 rw [List.filter_cons_of_pos (by exact all_has k)]
noncomputable def wayF (l : List Nd) (k : Str) : Nat → Seat → List Seat
 | 0, x => [x]
 | f + 1, x => x :: match stepW l k x with
  | none => []
  | some y => wayF l k f y
theorem max_lvl : ∀ (T : List Seat), T ≠ [] → ∃ m ∈ T, ∀ x ∈ T, x.n.level ≤ m.n.level
 | [], h => absurd rfl h
 | [x], _ => ⟨x, by simp, fun y hy => by simp at hy; subst hy; exact Int.le_refl _⟩
 | x :: y :: T, _ => by
  obtain ⟨m, hm, hx⟩ := max_lvl (y :: T) (by simp)
  by_cases h : m.n.level ≤ x.n.level
  ·exact ⟨x, by simp, fun z hz => by
    rcases List.mem_cons.1 hz with rfl | hz
    ·exact Int.le_refl _
    ·exact Int.le_trans (hx z hz) h⟩
  ·exact ⟨m, List.mem_cons_of_mem _ hm, fun z hz => by
    rcases List.mem_cons.1 hz with rfl | hz
    ·omega
    ·exact hx z hz⟩
theorem fix_nil {f : Seat → Option Seat} {T : List Seat} (h : T = T.filterMap f) (hf : ∀ x ∈ T, ∀ y, f x = some y → y.n.level < x.n.level) : T = [] := by
 apply Classical.byContradiction
 intro hn
 obtain ⟨m, hm, hx⟩ := max_lvl T hn
 have hm2 := hm
 rw [h] at hm2
 obtain ⟨x, hx1, hx2⟩ := List.mem_filterMap.1 hm2
 have := hf x hx1 m hx2
 have := hx x hx1
 omega
theorem fix_way {k : Str} : ∀ (n : Nat) (z : Seat) (T : List Seat), z.n.level.toNat = n → T = z :: T.filterMap (stepW l k) → (∀ x ∈ T, 0 ≤ x.n.level ∧ ∀ y, stepW l k x = some y → y.n.level = x.n.level - 1) → T = wayF l k n z := by
 intro n
 induction n with
 | zero =>
  intro z T hz h hf
  have hzT : z ∈ T := by rw [h]; simp
  have h0 : z.n.level = 0 := by have := (hf z hzT).1; omega
  cases T with
  | nil => cases hzT
  | cons a R =>
   have ea : a = z := (List.cons.inj h).1
   subst ea
   have hR : R = R.filterMap (stepW l k) := by
    have := (List.cons.inj h).2
    rw [List.filterMap_cons, stepW_0 h0] at this
    exact this
   rw [fix_nil hR (fun x hx y hy => by have := (hf x (List.mem_cons_of_mem _ hx)).2 y hy; omega)]
   rfl
 | succ n ih =>
  intro z T hz h hf
  have h0 : ¬ z.n.level = 0 := om9
  cases T with
  | nil => simp at h
  | cons a R =>
   have ea : a = z := (List.cons.inj h).1
   subst ea
   have hR := (List.cons.inj h).2
   rw [List.filterMap_cons, stepW_1 h0] at hR
   dsimp only at hR
   have hl := (hf a (by simp)).2 _ (stepW_1 h0)
   rw [wayF, stepW_1 h0]
   dsimp only
   rw [← ih _ R om9 hR (fun x hx => hf x (List.mem_cons_of_mem _ hx))]
noncomputable def wayN (l : List Nd) (k : Str) : List Seat := wayF l k (rootS l 0).n.level.toNat (rootS l 0)
theorem Tree.step (t : Tree c l ss) {k : Str} {x y : Seat} (hx : x ∈ ss) (h : stepW l k x = some y) : y ∈ ss ∧ y.n.level = x.n.level - 1 := by
 by_cases h0 : x.n.level = 0
 ·rw [stepW_0 h0] at h; cases h
 ·rw [stepW_1 h0] at h
  cases h
  have h3 := (kids_all (t.kids hx) h0).2.2.1
  have := t.at hx h0 (route_lt h3 k)
  exact ⟨this.1, this.2.2.2⟩
theorem Tree.way (t : Tree c l ss) (k : Str) : hasS k ss = wayN l k := by
 refine fix_way _ _ _ rfl (t.has_fix k) fun x hx => ?_
 have hx := (List.mem_filter.1 hx).1
 exact ⟨t.lvl hx, fun y hy => (t.step hx hy).2⟩
theorem way_cons {k : Str} {f : Nat} {x y : Seat} (h : stepW l k x = some y) : wayF l k (f + 1) x = x :: wayF l k f y := by rw [wayF, h]
theorem empty_iff {s : Span} : s.empty = true ↔ ∀ k, s.has k = false := by
 constructor
 ·intro h k
  have h1 : s.opn = false ∧ s.lo.lt s.hi = false := by simpa [Span.empty] using h
  unfold Span.has
  rw [h1.1, Bool.false_or, Bool.and_eq_false_iff]
  cases h2 : k.lt s.hi
  ·exact .inr rfl
  ·left
   cases h3 : k.lt s.lo
   ·have := Str.lt_of_le_of_lt h3 h2
    rw [h1.2] at this; cases this
   ·rfl
 ·intro h
  rw [← Span.empty_eq, h]; rfl
theorem norm_ext {a b : Span} (h : ∀ k, a.has k = b.has k) : a.norm = b.norm := by
 have he : a.empty = b.empty := by
  rw [Bool.eq_iff_iff, empty_iff, empty_iff]
  exact ⟨fun h1 k => by rw [← h k]; exact h1 k, fun h1 k => by rw [h k]; exact h1 k⟩
 unfold Span.norm
 rw [← he]
 cases ea : a.empty
 ·have eb : b.empty = false := he ▸ ea
  simp only [Bool.false_eq_true, if_false]
  have la : a.has a.lo = true := by have := Span.empty_eq a; rw [ea] at this; simpa using this
  have lb : b.has b.lo = true := by have := Span.empty_eq b; rw [eb] at this; simpa using this
  have l1 : a.lo.lt b.lo = false := by
   have := h a.lo; rw [la] at this
   unfold Span.has at this
   simp only [Bool.true_eq, Bool.and_eq_true, Bool.not_eq_true'] at this
   exact this.1
  have l2 : b.lo.lt a.lo = false := by
   have := h b.lo; rw [lb] at this
   unfold Span.has at this
   simp only [Bool.and_eq_true, Bool.not_eq_true'] at this
   exact this.1
  have hlo : a.lo = b.lo := Str.lt_total l1 l2
  have hop : ∀ {x y : Span}, x.lo = y.lo → (∀ k, x.has k = y.has k) → x.empty = false → y.empty = false → x.opn = true → y.opn = true := by
   intro x y hxy hk hx hy ho
   cases hyo : y.opn
   ·exfalso
    have h1 : y.lo.lt y.hi = true := by simpa [Span.empty, hyo] using hy
    have h2 : y.has y.hi = false := by unfold Span.has; rw [hyo, Str.lt_irrefl]; simp
    have h3 : x.has y.hi = true := by unfold Span.has; rw [ho, hxy, Str.lt_asymm h1]; rfl
    rw [hk, h2] at h3; cases h3
   ·rfl
  cases oa : a.opn
  ·have ob : b.opn = false := by
    cases ob : b.opn
    ·rfl
    ·have := hop hlo.symm (fun k => (h k).symm) eb ea ob; rw [oa] at this; cases this
   have hhi : ∀ {x y : Span}, x.lo = y.lo → (∀ k, x.has k = y.has k) → x.empty = false → x.opn = false → y.opn = false → x.hi.lt y.hi = false := by
    intro x y hxy hk hx ho hyo
    cases hl : x.hi.lt y.hi
    ·rfl
    ·exfalso
     have h1 : x.lo.lt x.hi = true := by simpa [Span.empty, ho] using hx
     have h2 : x.has x.hi = false := by unfold Span.has; rw [ho, Str.lt_irrefl]; simp
     have h3 : y.has x.hi = true := by unfold Span.has; rw [hyo, ← hxy, Str.lt_asymm h1, hl]; rfl
     rw [← hk, h2] at h3; cases h3
   have e : a.hi = b.hi := Str.lt_total (hhi hlo h ea oa ob) (hhi hlo.symm (fun k => (h k).symm) eb ob oa)
   rw [if_neg (by simp), if_neg (by simp [ob])]
   cases a; cases b; simp_all
  ·have ob := hop hlo h ea eb oa
   rw [if_pos rfl, if_pos ob, ob]
   cases a; cases b; simp_all
 ·simp
theorem norm_norm (s : Span) : s.norm.norm = s.norm := norm_ext fun k => norm_has s k
theorem meet_norm (a b : Span) : (a.meet b).norm = a.meet b := norm_norm _
theorem meet_ext {a b a' b' : Span} (h : ∀ k, (a.has k && b.has k) = (a'.has k && b'.has k)) : a.meet b = a'.meet b' := by
 rw [← meet_norm a b, ← meet_norm a' b']
 exact norm_ext fun k => by rw [meet_has, meet_has]; exact h k
theorem clip_no {m : Msg} {s : Span} : (m.clip s).2 = false ↔ (m.span.meet s).empty = true := by
 cases h : (m.span.meet s).empty
 ·by_cases k : m.kind = 4
  ·rw [clip_4 h k]; simp
  ·rw [clip_n h k]; simp
 ·rw [clip_e h]; simp
theorem clip_span {m : Msg} {s : Span} (h : (m.clip s).2 = true) (k : m.kind = 4) : (m.clip s).1.span = m.span.meet s := by
 rw [(clip_of h).2, if_pos k]
 show Msg.span { m with key := (m.span.meet s).lo, hi := (m.span.meet s).hi, opn := (m.span.meet s).opn } = _
 generalize m.span.meet s = z
 unfold Msg.span
 rw [if_pos k]
theorem clip_clip {m : Msg} {s t : Span} (hst : ∀ k, s.has k = true → t.has k = true) : (if (m.clip t).2 = true then (m.clip t).1.clip s else (⟨0, 0, Str.nil, Str.nil, false, Str.nil⟩, false)) = m.clip s := by
 cases h : (m.clip t).2
 ·rw [if_neg (by simp)]
  have h1 := clip_no.1 h
  have h2 : (m.span.meet s).empty = true := empty_iff.2 fun k => by
   have := empty_iff.1 h1 k
   rw [meet_has, Bool.and_eq_false_iff] at this ⊢
   rcases this with h | h
   ·exact .inl h
   ·right
    cases hs : s.has k
    ·rfl
    ·rw [hst k hs] at h; cases h
  rw [clip_e h2]
 ·rw [if_pos rfl]
  by_cases k : m.kind = 4
  ·have hs := clip_span h k
   have k2 : (m.clip t).1.kind = 4 := by rw [(clip_of h).2, if_pos k]; exact k
   have e : (m.span.meet t).meet s = m.span.meet s := meet_ext fun q => by
    rw [meet_has]
    cases hs : s.has q
    ·simp
    ·rw [hst q hs]; simp
   cases he : (m.span.meet s).empty
   ·rw [clip_4 (by rw [hs, e]; exact he) k2, clip_4 he k, hs, e, (clip_of h).2, if_pos k]
   ·rw [clip_e (by rw [hs, e]; exact he), clip_e he]
  ·rw [(clip_of h).2, if_neg k]
theorem clips_clips {s t : Span} (hst : ∀ k, s.has k = true → t.has k = true) : ∀ (L : List Msg), clips s (clips t L) = clips s L
 | [] => rfl
 | m :: L => by
  have e := clip_clip (m := m) hst
  rw [clips_cons t m L, clips_cons s m L, ← clips_clips hst L]
  cases h : (m.clip t).2
  ·rw [if_neg (by simp)]
   rw [h, if_neg (by simp)] at e
   rw [← e, if_neg (by simp)]
  ·rw [if_pos rfl, clips_cons]
   rw [h, if_pos rfl] at e
   rw [e]
theorem clips_append (s : Span) (A B : List Msg) : clips s (A ++ B) = clips s A ++ clips s B := List.filterMap_append
theorem clips_perm {s : Span} {A B : List Msg} (h : A.Perm B) : (clips s A).Perm (clips s B) := List.Perm.filterMap _ h
theorem clips_flat (s : Span) : ∀ (L : List (List Msg)), clips s L.flatten = (L.map (clips s)).flatten
 | [] => rfl
 | A :: L => by rw [List.flatten_cons, clips_append, clips_flat s L]; rfl
theorem clips_rst {s : Span} {A : List Msg} (h : Rst A) : Rst (clips s A) := by
 unfold Rst clips
 rw [List.pairwise_filterMap]
 refine List.Pairwise.imp (fun {a b} hab x hx y hy => ?_) h
 split at hx
 ·split at hy
  ·rename_i h1 h2
   cases hx; cases hy
   rw [clip_stamp h1, clip_stamp h2]; exact hab
  ·cases hy
 ·cases hx
variable {c : Cfg} {l : List Nd} {ss : List Seat}
theorem Tree.from (t : Tree c l ss) {x : Seat} (hx : x ∈ ss) : x = rootS l 0 ∨ ∃ y ∈ ss, ∃ h0 : ¬ y.n.level = 0, ∃ j, j < y.n.kids.length ∧ x = kidSt l y j := by
 rw [t.fix] at hx
 rcases List.mem_cons.1 hx with rfl | hx
 ·exact .inl rfl
 ·obtain ⟨y, hy, hk⟩ := List.mem_flatMap.1 hx
  by_cases h0 : y.n.level = 0
  ·rw [kids_leaf h0] at hk; cases hk
  ·rw [(kids_all (t.kids hy) h0).1] at hk
   obtain ⟨j, hj, rfl⟩ := List.mem_map.1 hk
   exact .inr ⟨y, hy, h0, j, List.mem_range.1 hj, rfl⟩
theorem Tree.ind (t : Tree c l ss) {P : Seat → Prop} (h0 : P (rootS l 0)) (hk : ∀ x ∈ ss, ¬ x.n.level = 0 → P x → ∀ j, j < x.n.kids.length → P (kidSt l x j)) : ∀ x ∈ ss, P x := by
 intro x hx
 apply Classical.byContradiction
 intro hn
 have hT : (ss.filter fun y => @decide (¬ P y) (Classical.propDecidable _)) ≠ [] := by
  intro e
  have : x ∈ ss.filter fun y => @decide (¬ P y) (Classical.propDecidable _) := List.mem_filter.2 ⟨hx, by simpa using hn⟩
  rw [e] at this; cases this
 obtain ⟨m, hm, hmax⟩ := max_lvl _ hT
 obtain ⟨hm1, hm2⟩ := List.mem_filter.1 hm
 have hm2 : ¬ P m := by simpa using hm2
 rcases t.from hm1 with rfl | ⟨y, hy, hy0, j, hj, rfl⟩
 ·exact hm2 h0
 ·refine hm2 (hk y hy hy0 ?_ j hj)
  apply Classical.byContradiction
  intro hPy
  have := hmax y (List.mem_filter.2 ⟨hy, by simpa using hPy⟩)
  have := (t.at hy hy0 hj).2.2.2
  omega
theorem Tree.inner (t : Tree c l ss) {x : Seat} (hx : x ∈ ss) (h0 : ¬ x.n.level = 0) : x.n.innerR c.fan c.bud := by
 have := (t.seat hx).1.2.2.2
 rwa [if_neg h0] at this
theorem Tree.leaf (t : Tree c l ss) {x : Seat} (hx : x ∈ ss) (h0 : x.n.level = 0) : x.n.leafR c.leaf := by
 have := (t.seat hx).1.2.2.2
 rwa [if_pos h0] at this
theorem Tree.nomsgs (t : Tree c l ss) {x : Seat} (hx : x ∈ ss) (h0 : x.n.level = 0) : x.n.msgs = [] := by
 have := (t.leaf hx h0).1
 exact List.eq_nil_of_length_eq_zero om9
theorem Tree.msgs (t : Tree c l ss) {x : Seat} (hx : x ∈ ss) : Rst x.n.msgs ∧ (∀ m ∈ x.n.msgs, m.R) ∧ ∀ m ∈ x.n.msgs, m.stamp ≤ x.n.seen := by
 by_cases h0 : x.n.level = 0
 ·rw [t.nomsgs hx h0]; exact ⟨List.Pairwise.nil, (fun m hm => by cases hm), fun m hm => by cases hm⟩
 ·obtain ⟨_, _, h3, _, _, _, h7⟩ := t.inner hx h0
  refine ⟨(MsgsR.iff.1 h3).2, (MsgsR.iff.1 h3).1, fun m hm => ?_⟩
  obtain ⟨i, hi, rfl⟩ := List.getElem_of_mem hm
  exact (h7 i hi).1
theorem merge_two {A B : List Msg} (ha : Rst A) (hb : Rst B) (h : ∀ a ∈ A, ∀ b ∈ B, a.stamp < b.stamp) : mergeN [A, B] = A ++ B ∧ Rst (A ++ B) := by
 have hr : Rst (A ++ B) := List.pairwise_append.2 ⟨ha, hb, h⟩
 refine ⟨merge_sorted _ _ _ rfl ?_ (by simp) hr, hr⟩
 intro L hL
 simp only [List.mem_cons, List.not_mem_nil, or_false] at hL
 rcases hL with rfl | rfl
 ·exact ha
 ·exact hb
theorem clips_stamp {s : Span} {A : List Msg} {m : Msg} (h : m ∈ clips s A) : ∃ a ∈ A, m.stamp = a.stamp := by
 obtain ⟨a, ha, h1, rfl⟩ := clips_mem h
 exact ⟨a, ha, clip_stamp h1⟩
theorem Tree.kid_ms (t : Tree c l ss) {x : Seat} (hx : x ∈ ss) (hr : Rst x.ms) (j : Nat) :
  (kidSt l x j).ms = clips (kidSt l x j).s x.n.msgs ++ clips (kidSt l x j).s x.ms ∧ Rst (kidSt l x j).ms := by
 obtain ⟨h1, _, h3⟩ := t.msgs hx
 have hs := (t.seat hx).2.2.2
 have := merge_two (A := clips (kidSt l x j).s x.n.msgs) (B := clips (kidSt l x j).s x.ms) (clips_rst h1) (clips_rst hr) fun a ha b hb => by
  obtain ⟨a', ha', e1⟩ := clips_stamp ha
  obtain ⟨b', hb', e2⟩ := clips_stamp hb
  have := h3 a' ha'
  obtain ⟨i, hi, rfl⟩ := List.getElem_of_mem hb'
  have := hs i hi
  omega
 have e : (kidSt l x j).ms = mergeN [clips (kidSt l x j).s x.n.msgs, clips (kidSt l x j).s x.ms] := rfl
 exact ⟨by rw [e, this.1], by rw [e, this.1]; exact this.2⟩
theorem Tree.rst (t : Tree c l ss) : ∀ x ∈ ss, Rst x.ms := t.ind List.Pairwise.nil fun x hx _ hr j _ => (t.kid_ms hx hr j).2
theorem Tree.fits (t : Tree c l ss) : ∀ x ∈ ss, (x.s.lo.b.size ≤ 16 ∧ x.s.hi.b.size ≤ 16) ∧ ∀ m ∈ x.ms, m.R := by
 refine t.ind ⟨⟨by show Str.nil.b.size ≤ 16; decide, by show Str.nil.b.size ≤ 16; decide⟩, fun m hm => by cases hm⟩ fun x hx h0 ih j hj => ?_
 have hi := t.inner hx h0
 have hsp : (kidSt l x j).s.lo.b.size ≤ 16 ∧ (kidSt l x j).s.hi.b.size ≤ 16 := meet_sizes ih.1 (range_sizes fun k hk => by
  obtain ⟨i, hi2, rfl⟩ := List.getElem_of_mem hk
  exact (hi.2.2.2.2.2.1 i hi2).2.1)
 refine ⟨hsp, fun m hm => ?_⟩
 rw [(t.kid_ms hx (t.rst x hx) j).1, List.mem_append] at hm
 rcases hm with hm | hm <;> obtain ⟨a, ha, h1, rfl⟩ := clips_mem hm
 ·exact clip_R ((t.msgs hx).2.1 a ha) hsp.1 hsp.2 h1
 ·exact clip_R (ih.2 a ha) hsp.1 hsp.2 h1
theorem kid_sub {x : Seat} {j : Nat} (k : Str) (h : (kidSt l x j).s.has k = true) : x.s.has k = true := by
 have e : (kidSt l x j).s.has k = (x.s.has k && (rangeN x.n.pivots (j : Int)).has k) := meet_has _ _ _
 rw [e, Bool.and_eq_true] at h
 exact h.1
theorem Tree.path (t : Tree c l ss) {k : Str} : ∀ (n : Nat) (x : Seat) (P : List Seat), x ∈ ss → x.n.level.toNat = n → x.s.has k = true → x.ms.Perm ((P.map fun y => clips x.s y.n.msgs).flatten) →
  ∃ z, (P ++ wayF l k n x).getLast? = some z ∧ z ∈ ss ∧ z.n.level = 0 ∧ z.s.has k = true ∧ (∀ y ∈ wayF l k n x, y ∈ ss ∧ (y.n.level = 0 → y = z)) ∧ z.ms.Perm (((P ++ wayF l k n x).map fun y => clips z.s y.n.msgs).flatten) := by
 intro n
 induction n with
 | zero =>
  intro x P hx hn hk hp
  have h0 : x.n.level = 0 := by have := t.lvl hx; omega
  refine ⟨x, by simp [wayF], hx, h0, hk, fun y hy => by simp [wayF] at hy; subst hy; exact ⟨hx, fun _ => rfl⟩, ?_⟩
  rw [wayF, List.map_append, List.flatten_append]
  simp only [List.map_cons, List.map_nil, List.flatten_cons, List.flatten_nil, t.nomsgs hx h0]
  simpa [clips] using hp
 | succ n ih =>
  intro x P hx hn hk hp
  have h0 : ¬ x.n.level = 0 := om9
  have h3 := (kids_all (t.kids hx) h0).2.2.1
  have hj := route_lt h3 k
  have ha := t.at hx h0 hj
  have hy : (kidSt l x (routeN x.n.pivots k)).s.has k = true := by rw [kidSt_has h3 hj, hk]; simp
  have hms := (t.kid_ms hx (t.rst x hx) (routeN x.n.pivots k)).1
  rw [way_cons (stepW_1 h0)]
  obtain ⟨z, h1, h2, h4, h5, h6, h7⟩ := ih (kidSt l x (routeN x.n.pivots k)) (P ++ [x]) ha.1 om9 hy (by
   rw [hms, List.map_append, List.flatten_append]
   simp only [List.map_cons, List.map_nil, List.flatten_cons, List.flatten_nil, List.append_nil]
   refine List.perm_append_comm.trans (List.Perm.append_right _ ?_)
   refine (clips_perm hp).trans (List.Perm.of_eq ?_)
   rw [clips_flat, List.map_map]
   congr 1
   refine List.map_congr_left fun y _ => ?_
   exact clips_clips (fun q hq => kid_sub q hq) _)
  refine ⟨z, by simpa using h1, h2, h4, h5, fun y hy => ?_, by simpa using h7⟩
  rcases List.mem_cons.1 hy with rfl | hy
  ·exact ⟨hx, fun h => absurd h h0⟩
  ·exact h6 y hy
noncomputable def leafS (l : List Nd) (k : Str) : Seat := (wayN l k).getLast?.getD default
structure LeafOk (l : List Nd) (ss : List Seat) (k : Str) (z : Seat) : Prop where
 last : (wayN l k).getLast? = some z
 mem : z ∈ ss
 lvl : z.n.level = 0
 has : z.s.has k = true
 all : ∀ y ∈ wayN l k, y ∈ ss ∧ (y.n.level = 0 → y = z)
 perm : z.ms.Perm (((wayN l k).map fun y => clips z.s y.n.msgs).flatten)
theorem Tree.leafOk (t : Tree c l ss) (k : Str) : LeafOk l ss k (leafS l k) := by
 obtain ⟨z, h1, h2, h3, h4, h5, h6⟩ := t.path (k := k) _ (rootS l 0) [] t.root rfl (all_has k) (by exact List.Perm.refl _)
 have h1 : (wayN l k).getLast? = some z := h1
 have e : leafS l k = z := by unfold leafS; rw [h1]; rfl
 rw [e]
 exact ⟨h1, h2, h3, h4, h5, h6⟩
theorem Tree.leaf_eq (t : Tree c l ss) {k : Str} {x : Seat} (hx : x ∈ ss) (hk : x.s.has k = true) (h0 : x.n.level = 0) : x = leafS l k := by
 have : x ∈ wayN l k := by rw [← t.way k]; exact List.mem_filter.2 ⟨hx, hk⟩
 exact ((t.leafOk k).all x this).2 h0
theorem fix_nil2 {K : Seat → List Seat} {T : List Seat} (h : T = T.flatMap K) (hf : ∀ x ∈ T, ∀ y ∈ K x, y.n.level < x.n.level) : T = [] := by
 apply Classical.byContradiction
 intro hn
 obtain ⟨m, hm, hx⟩ := max_lvl T hn
 have hm2 := hm
 rw [h] at hm2
 obtain ⟨x, hx1, hx2⟩ := List.mem_flatMap.1 hm2
 have := hf x hx1 m hx2
 have := hx x hx1
 omega
theorem Tree.kid_lvl (t : Tree c l ss) {x y : Seat} (hx : x ∈ ss) (hy : y ∈ kidsD l x) : y ∈ ss ∧ y.n.level = x.n.level - 1 := by
 by_cases h0 : x.n.level = 0
 ·rw [kids_leaf h0] at hy; cases hy
 ·rw [(kids_all (t.kids hx) h0).1] at hy
  obtain ⟨j, hj, rfl⟩ := List.mem_map.1 hy
  have := t.at hx h0 (List.mem_range.1 hj)
  exact ⟨this.1, this.2.2.2⟩
noncomputable def preF (l : List Nd) : Nat → Seat → List Seat
 | 0, x => [x]
 | n + 1, x => x :: (kidsD l x).flatMap (preF l n)
theorem perm_flat {α β : Type} {f g h : α → List β} (e : ∀ x, f x = g x ++ h x) : ∀ (L : List α), (L.flatMap f).Perm (L.flatMap g ++ L.flatMap h)
 | [] => List.Perm.refl _
 | x :: L => by
  rw [List.flatMap_cons, List.flatMap_cons, List.flatMap_cons, e x, List.append_assoc, List.append_assoc]
  refine List.Perm.append_left _ ?_
  refine (List.Perm.append_left _ (perm_flat e L)).trans ?_
  rw [← List.append_assoc, ← List.append_assoc]
  exact List.perm_append_comm.append_right _
theorem Tree.pre_perm (t : Tree c l ss) : ∀ (n : Nat) (R T : List Seat), T = R ++ T.flatMap (kidsD l) → (∀ x ∈ T, x ∈ ss) → (∀ x ∈ R, x.n.level.toNat = n) → T.Perm (R.flatMap (preF l n)) := by
 intro n
 induction n with
 | zero =>
  intro R T hT hs hR
  have hRT : ∀ x ∈ R, x ∈ T := fun x hx => by rw [hT]; exact List.mem_append_left _ hx
  have h0 : ∀ x ∈ R, x.n.level = 0 := fun x hx => by have := t.lvl (hs x (hRT x hx)); have := hR x hx; omega
  have hK : R.flatMap (kidsD l) = [] := List.flatMap_eq_nil_iff.2 fun x hx => kids_leaf (h0 x hx)
  generalize hS : T.flatMap (kidsD l) = S at hT
  have hS2 : S = S.flatMap (kidsD l) := by
   conv => lhs; rw [← hS, hT]
   rw [List.flatMap_append, hK, List.nil_append]
  have hST : ∀ x ∈ S, x ∈ T := fun x hx => by rw [hT]; exact List.mem_append_right _ hx
  have hn := fix_nil2 hS2 fun x hx y hy => by have := (t.kid_lvl (hs x (hST x hx)) hy).2; omega
  rw [hT, hn, List.append_nil]
  exact List.Perm.of_eq (List.flatMap_singleton' R).symm
 | succ n ih =>
  intro R T hT hs hR
  have hRT : ∀ x ∈ R, x ∈ T := fun x hx => by rw [hT]; exact List.mem_append_left _ hx
  generalize hS : T.flatMap (kidsD l) = S at hT
  have hS2 : S = R.flatMap (kidsD l) ++ S.flatMap (kidsD l) := by
   conv => lhs; rw [← hS, hT]
   rw [List.flatMap_append]
  have hST : ∀ x ∈ S, x ∈ T := fun x hx => by rw [hT]; exact List.mem_append_right _ hx
  have h1 := ih (R.flatMap (kidsD l)) S hS2 (fun x hx => hs x (hST x hx)) fun y hy => by
   obtain ⟨x, hx, hyx⟩ := List.mem_flatMap.1 hy
   have := (t.kid_lvl (hs x (hRT x hx)) hyx).2
   have := hR x hx
   omega
  rw [hT]
  refine (List.Perm.append_left R h1).trans ?_
  have h2 := perm_flat (f := preF l (n + 1)) (g := fun x => [x]) (h := fun x => (kidsD l x).flatMap (preF l n)) (fun x => rfl) R
  rw [List.flatMap_singleton' R] at h2
  refine List.Perm.trans ?_ h2.symm
  rw [List.flatMap_assoc]
theorem Tree.pre_len (t : Tree c l ss) : ∀ (n : Nat) (x : Seat), x ∈ ss → x.n.level.toNat = n → 2 ^ (n + 1) ≤ (preF l n x).length + 1 := by
 intro n
 induction n with
 | zero => intro x _ _; simp [preF]
 | succ n ih =>
  intro x hx hn
  have h0 : ¬ x.n.level = 0 := om9
  have hk := (t.inner hx h0).1.2.1
  have h1 := (kids_all (t.kids hx) h0).1
  have hl : (kidsD l x).length = x.n.kids.length := by rw [h1, kidsF_len]
  have key : ∀ y ∈ kidsD l x, 2 ^ (n + 1) ≤ (preF l n y).length + 1 := fun y hy => by
   have := t.kid_lvl hx hy
   exact ih y this.1 om9
  rw [preF, List.length_cons]
  match hL : kidsD l x with
  | [] => rw [hL] at hl; simp at hl; omega
  | [a] => rw [hL] at hl; simp at hl; omega
  | a :: b :: R =>
   rw [hL] at key
   have ha := key a (by simp)
   have hb := key b (by simp)
   rw [List.flatMap_cons, List.flatMap_cons, List.length_append, List.length_append]
   have : 2 ^ (n + 1 + 1) = 2 ^ (n + 1) + 2 ^ (n + 1) := by rw [Nat.pow_succ]; omega
   omega
theorem Tree.height (t : Tree c l ss) : (rootS l 0).n.level ≤ 11 := by
 have h1 := t.pre_perm (rootS l 0).n.level.toNat [rootS l 0] ss (by exact t.fix) (fun x hx => hx) (fun x hx => by simp at hx; rw [hx])
 rw [List.flatMap_cons, List.flatMap_nil, List.append_nil] at h1
 have h2 := t.pre_len _ _ t.root rfl
 rw [← h1.length_eq, t.len] at h2
 have h3 := t.sml.1
 apply Classical.byContradiction
 intro hn
 have h4 : 2 ^ 13 ≤ 2 ^ ((rootS l 0).n.level.toNat + 1) := Nat.pow_le_pow_right om9 om9
 omega
def viewS (x : Seat) : List Pair := foldN (x.n.rows.filter fun p => x.s.has p.key) (clips x.s x.ms)
def leavesS (ss : List Seat) : List Seat := ss.filter fun x => decide (x.n.level = 0)
noncomputable def mapN (l : List Nd) : List Pair := match seatsN l 0 with | none => [] | some ss => (leavesS ss).flatMap viewS
theorem mapN_t (h : seatsN l 0 = some ss) : mapN l = (leavesS ss).flatMap viewS := by rw [mapN, h]
theorem Tree.rows (t : Tree c l ss) {x : Seat} (hx : x ∈ ss) : PairsR x.n.rows := by
 by_cases h0 : x.n.level = 0
 ·exact (t.leaf hx h0).2.2.1
 ·have := (t.inner hx h0).1.1
  rw [List.eq_nil_of_length_eq_zero this]
  intro i hi; simp at hi
theorem msgR_key {m : Msg} (h : m.R) : m.key.b.size ≤ 16 ∧ m.val.b.size ≤ 16 := ⟨h.1.2.1, h.1.2.2.1⟩
theorem Tree.view (t : Tree c l ss) {x : Seat} (hx : x ∈ ss) : viewS x = (foldN x.n.rows x.ms).filter fun p => x.s.has p.key :=
 view_fold (t.rows hx).srt fun m hm => by have := (msgR_key ((t.fits x hx).2 m hm)).1; omega
theorem Tree.view_get (t : Tree c l ss) {x : Seat} (hx : x ∈ ss) (k : Str) : getN (viewS x) k = if x.s.has k = true then getN (foldN x.n.rows x.ms) k else none := by
 rw [t.view hx, getN_filter]
theorem getN_flat {k : Str} : ∀ (T : List Seat), (∀ x ∈ T, x.s.has k = false → getN (viewS x) k = none) → getN (T.flatMap viewS) k = getN ((hasS k T).flatMap viewS) k
 | [], _ => rfl
 | x :: T, h => by
  have ih := getN_flat T (fun y hy => h y (List.mem_cons_of_mem _ hy))
  unfold hasS at *
  rw [List.flatMap_cons, getN_append, ih, List.filter_cons]
  cases hk : x.s.has k
  ·rw [if_neg (by simp), h x (by simp) hk]; rfl
  ·rw [if_pos rfl, List.flatMap_cons, getN_append]
theorem way_leaves {k : Str} (t : Tree c l ss) : ∀ (n : Nat) (x : Seat), x ∈ ss → x.n.level.toNat = n → ∃ z, leavesS (wayF l k n x) = [z] ∧ (wayF l k n x).getLast? = some z := by
 intro n
 induction n with
 | zero =>
  intro x hx hn
  have h0 : x.n.level = 0 := by have := t.lvl hx; omega
  exact ⟨x, by simp [wayF, leavesS, h0], by simp [wayF]⟩
 | succ n ih =>
  intro x hx hn
  have h0 : ¬ x.n.level = 0 := om9
  have ha := t.step (k := k) hx (stepW_1 h0)
  obtain ⟨z, h1, h2⟩ := ih _ ha.1 om9
  rw [way_cons (stepW_1 h0)]
  refine ⟨z, ?_, ?_⟩
  ·unfold leavesS at *
   rw [List.filter_cons_of_neg (by simpa using h0)]; exact h1
  ·rw [List.getLast?_cons, h2]; rfl
theorem Tree.get (t : Tree c l ss) (k : Str) : getN (mapN l) k = getN (foldN (leafS l k).n.rows (leafS l k).ms) k := by
 have h := t.leafOk k
 rw [mapN_t t.sts, getN_flat _ (fun x hx hk => by rw [t.view_get (List.mem_filter.1 hx).1, hk]; rfl)]
 have e : hasS k (leavesS ss) = [leafS l k] := by
  have : hasS k (leavesS ss) = leavesS (hasS k ss) := by
   unfold hasS leavesS
   rw [List.filter_filter, List.filter_filter]
   exact List.filter_congr fun x _ => Bool.and_comm _ _
  rw [this, t.way k]
  obtain ⟨z, h1, h2⟩ := way_leaves (k := k) t _ (rootS l 0) t.root rfl
  have h3 : (wayN l k).getLast? = some z := h2
  rw [h.last] at h3
  cases h3
  exact h1
 rw [e, List.flatMap_cons, List.flatMap_nil, List.append_nil, t.view_get h.mem, if_pos h.has]
variable {c : Cfg} {l : List Nd} {ss : List Seat}
structure At (l : List Nd) (ss : List Seat) (k : Str) (x : Seat) (P : List Seat) (lv : Int) : Prop where
 mem : x ∈ ss
 way : wayN l k = P ++ wayF l k x.n.level.toNat x
 lv : lv < 0 ∨ lv = x.n.level + 1
theorem At.init (t : Tree c l ss) (k : Str) : At l ss k (rootS l 0) [] (-1) := ⟨t.root, rfl, .inl om9⟩
theorem At.last {k : Str} {x : Seat} {P : List Seat} {lv : Int} (h : At l ss k x P lv) (h0 : x.n.level ≤ 0) : wayN l k = P ++ [x] := by
 rw [h.way, show x.n.level.toNat = 0 by omega]; rfl
theorem Tree.right (t : Tree c l ss) {x : Seat} (hx : x ∈ ss) (h0 : ¬ x.n.level ≤ 0) : rightN x.n.pivots x.n.kids.length = true := (kids_all (t.kids hx) om9).2.2.1
theorem Tree.route (t : Tree c l ss) {x : Seat} (hx : x ∈ ss) (h0 : ¬ x.n.level ≤ 0) (k : Str) : routeN x.n.pivots k < x.n.kids.length := route_lt (t.right hx h0) k
theorem At.next (t : Tree c l ss) {k : Str} {x : Seat} {P : List Seat} {lv : Int} (h : At l ss k x P lv) (h0 : ¬ x.n.level ≤ 0) : At l ss k (kidSt l x (routeN x.n.pivots k)) (P ++ [x]) x.n.level := by
 have ha := t.at h.mem om9 (t.route h.mem h0 k)
 refine ⟨ha.1, ?_, .inr om9⟩
 rw [h.way, show x.n.level.toNat = (kidSt l x (routeN x.n.pivots k)).n.level.toNat + 1 by omega, way_cons (stepW_1 om9)]
 simp
theorem At.slot (t : Tree c l ss) {x : Seat} (hx : x ∈ ss) (h0 : ¬ x.n.level ≤ 0) (k : Str) : (kidSt l x (routeN x.n.pivots k)).n.slot = x.n.kids[routeN x.n.pivots k]'(t.route hx h0 k) := by
 have ha := t.at hx om9 (t.route hx h0 k)
 rw [ha.2.2.1]
 exact (getL_slot t.slot ha.2.1).1
theorem Tree.root0 (t : Tree c l ss) : (rootS l 0).n.slot = 0 := by
 rw [t.rootn]
 exact (getL_slot t.slot ⟨Int.le_refl 0, by have := t.pos; omega⟩).1
theorem leaves_t {i : Nat} (h : i < ss.length) (h0 : (ss[i]).n.level = 0) : leavesS (ss.take (i + 1)) = leavesS (ss.take i) ++ [ss[i]] := filt_t (p := fun y : Seat => decide (y.n.level = 0)) h (decide_eq_true h0)
theorem leaves_f {i : Nat} (h : i < ss.length) (h0 : ¬ (ss[i]).n.level = 0) : leavesS (ss.take (i + 1)) = leavesS (ss.take i) := filt_f (p := fun y : Seat => decide (y.n.level = 0)) h (decide_eq_false h0)
theorem sizes_len : ∀ {ms : List Msg}, (∀ m ∈ ms, m.R) → 4 * (ms.length : Int) ≤ sizesN ms
 | [], _ => by simp [sizesN]
 | m :: ms, h => by
  have h1 := sizes_len (ms := ms) (fun a ha => h a (List.mem_cons_of_mem _ ha))
  have h2 := size_36 (msgR_key (h m (by simp)))
  rw [sizes_cons, List.length_cons]; omega
theorem Tree.msgs_len (t : Tree c l ss) {x : Seat} (hx : x ∈ ss) : x.n.msgs.length ≤ 1024 := by
 by_cases h0 : x.n.level = 0
 ·rw [t.nomsgs hx h0]; exact Nat.zero_le _
 ·have h1 := (t.inner hx h0).2.2.2.1
  have h2 := sizes_len (t.msgs hx).2.1
  have h3 := t.cfg.2.2.1.2
  omega
theorem Tree.rows_len (t : Tree c l ss) {x : Seat} (hx : x ∈ ss) : x.n.rows.length ≤ 64 := by
 by_cases h0 : x.n.level = 0
 ·have h1 := (t.leaf hx h0).2.1
  have h3 := t.cfg.2.1.2
  omega
 ·have := (t.inner hx h0).1.1
  omega
theorem Tree.ms_len (t : Tree c l ss) : ∀ x ∈ ss, x.ms.length ≤ 1024 * (100 - x.n.level.toNat) ∧ x.n.level ≤ 99 := by
 have hr := t.height
 refine t.ind ⟨Nat.zero_le _, om9⟩ fun x hx h0 ih j hj => ?_
 have ha := t.at hx h0 hj
 have hlx := t.lvl hx
 have hly := t.lvl ha.1
 have hms := congrArg List.length (t.kid_ms hx (t.rst x hx) j).1
 rw [List.length_append] at hms
 have c1 : (clips (kidSt l x j).s x.n.msgs).length ≤ x.n.msgs.length := clips_le
 have c2 : (clips (kidSt l x j).s x.ms).length ≤ x.ms.length := clips_le
 have c3 := t.msgs_len hx
 refine ⟨?_, om9⟩
 have : 100 - (kidSt l x j).n.level.toNat = 100 - x.n.level.toNat + 1 := om9
 rw [this]
 omega
theorem Tree.view_len (t : Tree c l ss) {x : Seat} (hx : x ∈ ss) : (viewS x).length ≤ 102464 := by
 have h1 := t.rows hx
 have h2 : (x.n.rows.filter fun p => x.s.has p.key).length ≤ x.n.rows.length := List.length_filter_le _ _
 have h3 := t.rows_len hx
 have h4 := (t.ms_len x hx).1
 have h5 : (clips x.s x.ms).length ≤ x.ms.length := clips_le
 have h6 := fold_lenF (l := x.n.rows.filter fun p => x.s.has p.key) (ms := clips x.s x.ms) (h1.filter _) (clips_fit (by have := (t.fits x hx).1.1; omega) fun m hm => msgR_key ((t.fits x hx).2 m hm))
 unfold viewS
 omega
theorem flatv_len {b : Nat} {f : Seat → List Pair} : ∀ {T : List Seat}, (∀ x ∈ T, (f x).length ≤ b) → (T.flatMap f).length ≤ T.length * b
 | [], _ => Nat.zero_le _
 | x :: T, h => by
  have h1 := h x (by simp)
  have h2 := flatv_len (b := b) (f := f) (T := T) (fun y hy => h y (List.mem_cons_of_mem _ hy))
  rw [List.flatMap_cons, List.length_append, List.length_cons, Nat.succ_mul]; omega
theorem Tree.views_len (t : Tree c l ss) (i : Nat) : ((leavesS (ss.take i)).flatMap viewS).length ≤ 4096 * 102464 := by
 have h1 := flatv_len (b := 102464) (f := viewS) (T := leavesS (ss.take i)) fun x hx => t.view_len (List.mem_of_mem_take (List.mem_filter.1 hx).1)
 have h2 : (leavesS (ss.take i)).length ≤ (ss.take i).length := List.length_filter_le _ _
 have h3 : (ss.take i).length ≤ ss.length := by rw [List.length_take]; omega
 have h4 := t.len
 have h5 := t.sml.1
 exact Nat.le_trans h1 (Nat.mul_le_mul_right 102464 om9)
theorem Tree.lookup (t : Tree c l ss) (k : Str) : Eff.apply (onsN (leafS l k).ms k) (getN (leafS l k).n.rows k) = getN (mapN l) k := by
 rw [t.get k, getN_fold]
 intro m hm
 have := (t.fits _ (t.leafOk k).mem).2 m hm
 have h4 := MsgsR.kinds (l := [m]) (MsgsR.iff.2 ⟨by intro a ha; simp at ha; subst ha; exact this, List.pairwise_singleton _ _⟩) m (by simp)
 exact ⟨by have := (msgR_key this).1; omega, h4.1, h4.2⟩
variable {c : Cfg} {l : List Nd} {ss : List Seat}
structure SwOk (l : List Nd) (x : Span) (n : Int) (rest : Span) (out : List Pair) : Prop where
 eq : out ++ (mapN l).filter (fun p => rest.has p.key) = (mapN l).filter (fun p => x.has p.key)
 len : out = [] ∨ (out.length : Int) < n
structure Leg (l : List Nd) (z : Seat) (rest s : Span) : Prop where
 se : s = rest.meet z.s
 lo : s.has rest.lo = true
def oneS (n : Nd) : Seat := ⟨n, Span.all, []⟩
theorem one_slot {n : Nd} (hs : n.slot = 0) (hseen : n.seen ≤ 1099511627776) : SlotsP [n] := fun i h => by
 have : i = 0 := by simp at h; omega
 subst this
 exact ⟨by simpa using hs, hseen⟩
theorem one_seats {n : Nd} (h0 : n.level = 0) (hs : n.slot = 0) (hseen : n.seen ≤ 1099511627776) : seatsN [n] 0 = some [oneS n] := by
 have hf : findN [n] 0 = (n, true) := find_at (one_slot hs hseen) (i := 0) (by simp)
 unfold seatsN
 rw [if_pos (by rw [hf])]
 have hr : rootS [n] 0 = oneS n := by unfold rootS oneS; rw [hf]
 rw [hr]
 show seatsF [n] (2 + 1) 0 [oneS n] = _
 rw [seatsF_some (l := [n]) (f := 2) (i := 0) (out := [oneS n]) (ks := []) (by simp) (by simp) (kidsO_0 h0)]
 exact seatsF_done (l := [n]) (f := 1) (i := 1) (out := [oneS n]) (by simp)
theorem tree_one {c : Cfg} {n : Nd} (hc : CfgR c) (h0 : n.level = 0) (hs : n.slot = 0) (hseen : n.seen ≤ 1099511627776) (hR : n.R c.fan c.leaf c.bud) (ht : n.top = true) (hS : NdS n) : Tree c [n] [oneS n] := by
 have hl := hR.2.2.2
 rw [if_pos h0] at hl
 have ht2 := hR.2.1 ht
 have hz := hl.1
 have hk := hc.2.2.2.1
 refine ⟨hc, by simp, ⟨by simp, fun m hm => by simp at hm; subst hm; exact hS⟩, one_slot hs hseen, one_seats h0 hs hseen, ⟨⟨rfl, fun i h => ?_⟩, fun i h => ?_, by simp; omega⟩, fun i h => ?_⟩
 ·have : i = 0 := by simp at h; omega
  subst this
  simp [slotS, oneS]
 ·have : i = 0 := by simp at h; omega
  subst this
  rw [wantN_f (by simp)]
  exact ht2.2
 ·have : i = 0 := by simp at h; omega
  subst this
  refine ⟨hR, ⟨⟨ht, ht2.1⟩, fun i h => all_has _, fun i h => ?_, fun i h => ?_⟩, by show n.slot < c.slots; omega, fun j h => ?_⟩
  ·have h : i < n.pivots.length := h
   omega
  ·have h : i < n.msgs.length := h
   omega
  ·have h : j < ([] : List Msg).length := h
   simp at h
theorem map_one {n : Nd} (h0 : n.level = 0) (hs : n.slot = 0) (hseen : n.seen ≤ 1099511627776) : mapN [n] = n.rows := by
 rw [mapN_t (one_seats h0 hs hseen)]
 have e : leavesS [oneS n] = [oneS n] := List.filter_eq_self.2 fun x hx => by simp at hx; subst hx; exact decide_eq_true h0
 rw [e, List.flatMap_cons, List.flatMap_nil, List.append_nil]
 show foldN (n.rows.filter fun p => Span.all.has p.key) (clips Span.all []) = n.rows
 rw [List.filter_eq_self.2 fun p _ => all_has p.key]; rfl
section
variable {c : Cfg} {l : List Nd} {ss : List Seat}
structure Free (l : List Nd) (n : Nat) (x : Seat) (mt : List (Int × Bool)) : Prop where
 none : ∀ y ∈ preF l n x, getM mt y.n.slot = none
 nd : ((preF l n x).map fun y : Seat => y.n.slot).Nodup
structure FreeK (l : List Nd) (n : Nat) (x : Seat) (j : Nat) (mt : List (Int × Bool)) : Prop where
 none : ∀ y ∈ ((kidsD l x).drop j).flatMap (preF l n), getM mt y.n.slot = none
 nd : ((((kidsD l x).drop j).flatMap (preF l n)).map fun y : Seat => y.n.slot).Nodup
end
section
variable {α : Type} {E : Env} {f : Fr} {G : GH} {M Mk Ms Mr : MH} {ops rest : List Oper} {q : Bool} {K : Kt} {d : Nat} {ty : TypeId} {pos : String} {aft : Array Edge} {t et : TypeId} {x y kk : Operand} {b : Nat} {k : Int} {m : List (Int × α)} {V : VEnc α}
theorem W.lookO {z0 : Value} {z : α} (ht : mapIK E.P t = some et) (hz : zvK E.P et = some z0) (hzz : V.R G z0 z) (hx : ev f x = .map (some b)) (hk : ev f kk = .int .i64 k) (hm : MpR V b G m Ms) (hp : (Ms ++ Mr).Perm M)
  (h : ∀ v, V.R G v ((getM m k).getD z) → W E ops.toArray q rest (upd f d v) G M K) (hd : Nat.blt d E.n = true := by rfl) :
  W E ops.toArray q (⟨some d, .lookup t x kk false, ty, pos, aft, none⟩ :: rest) f G M K := by
 obtain ⟨v, h1, h2⟩ := look_own (E := E) (f := f) (M := M) (d := d) (ty := ty) (pos := pos) (aft := aft) (ok := false) ht hz hzz hx hk hm hp
 exact W.ok h2 (h v h1) hd
theorem W.callV {g : FuncId} {fst caps : List Value} {args : List Operand} {at' : Array TypeId} {vs : List Value} {Mp Mr : MH} {Q : Value → GH → MH → Prop} (hx : ev f x = .func (.func g) fst.toArray caps.toArray) (hc : Fc E.P g vs G Mp Q) (ha : fst ++ (args.map (ev f) ++ caps) = vs) (hM : (Mp ++ Mr).Perm M)
  (k : ∀ v G' M', Le G G' → Q v G' M' → W E ops.toArray false rest (upd f d v) G' (M' ++ Mr) K) (hd : Nat.blt d E.n = true := by rfl) :
  W E ops.toArray false (⟨some d, .call { callee := .value x, args := args.toArray, argTypes := at' }, ty, pos, aft, none⟩ :: rest) f G M K := by
 intro a w Q' hi hr hK
 refine wpList_plain rfl fun K' hK' => ?_
 unfold Oper.wp
 rw [hi.eval, run_callV hc.1 hx ha]
 have hr' := hr.r.perm hM
 have hw : Real w (fun b => b ∈ (Mp.map (·.1))) G Mp w := by
  have hs := hr'.sub (M' := Mp) (List.sublist_append_left _ _)
  exact ⟨rfl, rfl, rfl, Nat.le_refl _, fun _ _ _ => rfl, hr.r.ro, hs.mu, hs.dis, hs.nd, fun p hp => .inr (List.mem_map_of_mem hp)⟩
 refine (hc.2 w hw).mono ?_
 rintro e w' ⟨v', G', M', rfl, h2, h3, h4, h5⟩
 have h6 := Real.call hr' h2 h4
 refine hK' _ _ (k v' G' M' h3 h5 _ w' Q' (hi.put hd v') ⟨h6, hr.le.trans h3, ?_⟩ hK)
 intro b hb hb'
 cases hg : G b with
 | none =>
  rcases h4 b hg hb' with h7 | h7
  ·exact .inl (Nat.le_trans hr.r.size h7)
  ·obtain ⟨p, hp, e⟩ := List.mem_map.1 h7
   rcases hr'.lo p (by simp [hp]) with h8 | h8
   ·exact .inl (e ▸ h8)
   ·exact .inr (e ▸ h8)
 | some o => exact hr.nw b hb (by simp [hg])
end
def isW (m : Msg) : Bool := decide (m.kind = 4)
def frontN (l : List Msg) : List Msg := if idxN isW l = -1 then l else if idxN isW l = 0 then l.take 1 else l.take (idxN isW l).toNat
def forF (P : List Str) (i : Int) (m : Msg) : Option Msg := if ((routeN P m.key : Nat) : Int) = i ∧ (m.clip (rangeN P i)).2 = true then some (m.clip (rangeN P i)).1 else none
def forN (P : List Str) (l : List Msg) (i : Int) : List Msg := (frontN l).filterMap (forF P i)
def Msg.zero : Msg := ⟨0, 0, Str.nil, Str.nil, false, Str.nil⟩
def withoutN (m : Msg) (s : Span) : Msg × Bool := if s.opn = true then (Msg.zero, false) else m.clip ⟨s.hi, Str.nil, true⟩
def leftN (P : List Str) (i : Int) (T : List Msg) (m : Msg) : Option Msg :=
 if m.stamp ∈ T.map Msg.stamp then (if m.kind = 4 ∧ (withoutN m (rangeN P i)).2 = true then some (withoutN m (rangeN P i)).1 else none) else some m
def restN (P : List Str) (i : Int) (T : List Msg) (l : List Msg) : List Msg := l.filterMap (leftN P i T)
inductive Moved (P : List Str) (i : Nat) (l T : List Msg) : Prop
 | none (hT : T = []) : Moved P i l T
 | wipe (w : Msg) (R : List Msg) (hl : l = w :: R) (hk : w.kind = 4) (hr : routeN P w.key = i) (hc : (w.clip (rangeN P i)).2 = true) (hT : T = [(w.clip (rangeN P i)).1])
   (hA : restN P i T l = (if (withoutN w (rangeN P i)).2 = true then [(withoutN w (rangeN P i)).1] else []) ++ R) : Moved P i l T
 | points (F R : List Msg) (hl : l = F ++ R) (hF : ∀ m ∈ F, ¬ m.kind = 4) (hT : T = F.filter fun m => decide (routeN P m.key = i)) (hA : restN P i T l = (F.filter fun m => !decide (routeN P m.key = i)) ++ R) : Moved P i l T
section
variable {P : List Str} {i : Nat} {l T : List Msg} (hP : rising P = true) (hi : i ≤ P.length) (hm : MsgsR l) (h : Moved P i l T)
include hP hi hm h
end
variable {c : Cfg} {l : List Nd} {ss : List Seat}
def Wst (l : List Msg) : Prop := l.Pairwise fun a b => a.stamp ≤ b.stamp
theorem Rst.wst {l : List Msg} (h : Rst l) : Wst l := h.imp fun h => Int.le_of_lt h
theorem merge_wst : ∀ (n : Nat) (C : Ls), totN C = n → (∀ L ∈ C, Wst L) → Wst (mergeN C) := by
 intro n
 induction n with
 | zero =>
  intro C h _
  rcases best_or C with h1 | ⟨b, hb⟩
  ·rw [merge_nil h1]; exact List.Pairwise.nil
  ·have := totN_set hb; omega
 | succ n ih =>
  intro C h hC
  rcases best_or C with h1 | ⟨b, hb⟩
  ·rw [merge_nil h1]; exact List.Pairwise.nil
  ·rw [merge_step hb]
   refine List.pairwise_cons.2 ⟨fun m hm => ?_, ih _ (by have := totN_set hb; omega) ?_⟩
   ·have hm2 : m ∈ C.flatten := (flat_best hb).mem_iff.1 (List.mem_cons_of_mem _ ((merge_perm _ _ rfl).mem_iff.1 hm))
    obtain ⟨L, hL, hmL⟩ := List.mem_flatten.1 hm2
    obtain ⟨j, hj, rfl⟩ := List.getElem_of_mem hL
    obtain ⟨q, hq, rfl⟩ := List.getElem_of_mem hmL
    have h3 := (hb.min j hj om9).1
    rw [stN_at hb.ne, stN_at (show 0 < C[j].length by omega)] at h3
    have h4 : (C[j][0]'om9).stamp ≤ C[j][q].stamp := by
     by_cases e0 : q = 0
     ·subst e0; exact Int.le_refl _
     ·exact List.pairwise_iff_getElem.1 (hC _ (List.getElem_mem hj)) 0 q om9 hq om9
    omega
   ·intro L hL
    rcases List.mem_or_eq_of_mem_set hL with h | h
    ·exact hC _ h
    ·subst h; exact List.Pairwise.sublist (List.drop_sublist _ _) (hC _ (List.getElem_mem _))
theorem clips_wst {s : Span} {A : List Msg} (h : Wst A) : Wst (clips s A) := by
 unfold Wst clips
 rw [List.pairwise_filterMap]
 refine List.Pairwise.imp (fun {a b} hab x hx y hy => ?_) h
 split at hx
 ·split at hy
  ·rename_i h1 h2
   cases hx; cases hy
   rw [clip_stamp h1, clip_stamp h2]; exact hab
  ·cases hy
 ·cases hx
theorem wst_eq : ∀ {A B : List Msg}, Wst A → Rst B → A.Perm B → A = B
 | [], B, _, _, h => h.symm.eq_nil.symm ▸ rfl
 | a :: A, [], _, _, h => absurd h.length_eq (by simp)
 | a :: A, b :: B, ha, hb, h => by
  have h1 := List.pairwise_cons.1 ha
  have h2 := List.pairwise_cons.1 hb
  have e : a = b := by
   have m1 : a ∈ b :: B := h.mem_iff.1 (by simp)
   have m2 : b ∈ a :: A := h.mem_iff.2 (by simp)
   rcases List.mem_cons.1 m1 with e | m1
   ·exact e
   ·rcases List.mem_cons.1 m2 with e | m2
    ·exact e.symm
    ·have := h2.1 a m1; have := h1.1 b m2; omega
  subst e
  rw [wst_eq h1.2 h2.2 (List.Perm.cons_inv h)]
theorem on_clip {m : Msg} {s : Span} {k : Str} (hk : s.has k = true) : (m.clip s).2 = true → (m.clip s).1.on k = m.on k := fun h => by
 by_cases h4 : m.kind = 4
 ·have h5 := clip_span h h4
  have k2 : (m.clip s).1.kind = 4 := by rw [(clip_of h).2, if_pos h4]; exact h4
  unfold Msg.on
  rw [h5, meet_has, hk, Bool.and_true, k2, h4]; rfl
 ·rw [(clip_of h).2, if_neg h4]
theorem ons_clips {s : Span} {k : Str} (hk : s.has k = true) : ∀ (A : List Msg) (o : Option Str), (clips s A).foldl (fun o m => (m.on k).apply o) o = A.foldl (fun o m => (m.on k).apply o) o
 | [], o => rfl
 | m :: A, o => by
  rw [clips_cons, List.foldl_cons]
  cases h : (m.clip s).2
  ·rw [if_neg (by simp), ons_clips hk A]
   have := empty_iff.1 (clip_no.1 h) k
   rw [meet_has, hk, Bool.and_true] at this
   have e : m.on k = Eff.zero := by unfold Msg.on; rw [if_pos (.inl this)]
   rw [e]; rfl
  ·rw [if_pos rfl, List.foldl_cons, on_clip hk h, ons_clips hk A]
theorem ons_clips' {s : Span} {k : Str} (hk : s.has k = true) (A : List Msg) (o : Option Str) : (onsN (clips s A) k).apply o = (onsN A k).apply o := by
 rw [onsN_apply, onsN_apply, ons_clips hk]
def ptS (k : Str) : Span := ⟨k, k.next, false⟩
theorem pt_in {k : Str} (hk : k.b.size < 140737488355328) {s : Span} (h : s.has k = true) : ∀ q, (ptS k).has q = true → s.has q = true := fun q hq => by
 rw [show (ptS k).has q = decide (q = k) from point_has hk] at hq
 rw [of_decide_eq_true hq]; exact h
structure Gp (l : List Nd) (ss : List Seat) (k : Str) (x : Seat) (W : List Msg) : Prop where
 mem : x ∈ ss
 has : x.s.has k = true
 wst : Wst W
 eq : clips (ptS k) W = clips (ptS k) x.ms
 fit : ∀ m ∈ W, m.R
 len : W.length ≤ 1024 * ((rootS l 0).n.level - x.n.level).toNat
section
variable {α : Type} {E : Env} {f : Fr} {G : GH} {M Mk Ms Mr : MH} {ops rest : List Oper} {q : Bool} {K : Kt} {d : Nat} {ty : TypeId} {pos : String} {aft : Array Edge} {t et : TypeId} {x y kk : Operand} {b : Nat} {k : Int} {m : List (Int × α)} {V : VEnc α}
end
def KidOf (p k : Nd) (i : Int) : Prop := 1 ≤ p.level ∧ k.level = p.level - 1 ∧ 0 ≤ i ∧ i < (p.kids.length : Int)
instance (p k : Nd) (i : Int) : Decidable (KidOf p k i) := by unfold KidOf; infer_instance
def Nd.spanN (n : Nd) : Span := if n.top = true then Span.all else Span.norm ⟨Str.nil, n.high, false⟩
def kidS (p : Nd) (i : Int) : Span := p.spanN.meet (rangeN p.pivots i)
def MayP (c : Cfg) (p k : Nd) (i : Int) : Prop := (p.R c.fan c.leaf c.bud ∧ k.R c.fan c.leaf c.bud ∧ KidOf p k i) ∧ (k.top = (kidS p i).opn ∧ k.high = (kidS p i).hi) ∧ ∀ j (h : j < p.msgs.length), (p.msgs[j].span.meet (kidS p i)).empty = false → k.seen < p.msgs[j].stamp
instance (c : Cfg) (p k : Nd) (i : Int) : Decidable (MayP c p k i) := by unfold MayP; infer_instance
structure Poured (c : Cfg) (p k : Nd) (i : Int) (a b : Nd) (T : List Msg) : Prop where
 ne : 0 < T.length
 ea : a = { p with msgs := restN p.pivots i T p.msgs }
 eb : b = { k with rows := b.rows, msgs := b.msgs, seen := b.seen }
 leaf : k.level = 0 → b.msgs = k.msgs ∧ b.rows = foldN k.rows T ∧ (PairsR k.rows → (∀ m ∈ forN p.pivots p.msgs i, m.R) → (k.rows.length : Int) ≤ c.leaf → (b.rows.length : Int) ≤ c.leaf)
 inner : ¬ k.level = 0 → b.rows = k.rows ∧ b.msgs = k.msgs ++ T ∧ (sizesN k.msgs ≤ c.bud → sizesN b.msgs ≤ c.bud)
 seen : b.seen = (T.getLast?.getD Msg.zero).stamp
 take : ∃ n, 0 < n ∧ n ≤ (forN p.pivots p.msgs i).length ∧ T = (forN p.pivots p.msgs i).take n
structure Takes (c : Cfg) (p k : Nd) (i : Int) (T : List Msg) : Prop where
 R : ∀ m ∈ T, m.R
 up : ∀ m ∈ T, k.seen < m.stamp
 sp : ∀ m ∈ T, ∀ q, m.span.has q = true → (kidS p i).has q = true
 rst : Rst T
 late : ∀ m ∈ restN p.pivots i T p.msgs, (m.span.meet (kidS p i)).empty = false → ∀ x ∈ T, x.stamp < m.stamp
 clip : clips (kidS p i) p.msgs = T ++ clips (kidS p i) (restN p.pivots i T p.msgs)
structure PourPre (cb : Int) (p k : Nd) : Prop where
 hb : 0 ≤ cb ∧ cb ≤ 9223372036854775807
 hr : rising p.pivots = true
 hpv : ∀ q ∈ p.pivots, q.b.size ≤ 16
 hpm : ∀ m ∈ p.msgs, m.R
 hkm : ∀ m ∈ k.msgs, m.key.b.size ≤ 16 ∧ m.val.b.size ≤ 16
 hkr : PairsR k.rows
 hsz : k.msgs.length + p.msgs.length ≤ 100000 ∧ k.rows.length ≤ 100000
variable {c : Cfg} {l : List Nd} {ss : List Seat}
structure Halves (n a b : Nd) (k : Str) (h : Nat) : Prop where
 la : a.level = n.level
 lb : b.level = n.level
 aend : a.high = k ∧ a.top = false
 bend : b.high = n.high ∧ b.top = n.top ∧ b.right = n.right
 aright : a.right = b.slot
 leaf : n.level = 0 → 1 ≤ h ∧ h < n.rows.length ∧ a.rows = n.rows.take h ∧ b.rows = n.rows.drop h ∧ a.pivots = n.pivots ∧ b.pivots = n.pivots ∧ (∀ i (hi : i < n.rows.length), i < h → n.rows[i].key.lt k = true) ∧ ∀ i (hi : i < n.rows.length), h ≤ i → n.rows[i].key.lt k = false
 inner : ¬ n.level = 0 → a.rows = n.rows ∧ b.rows = n.rows ∧ ∃ hh : h < n.pivots.length, k = n.pivots[h] ∧ a.pivots = n.pivots.take h ∧ a.kids = n.kids.take (h + 1) ∧ b.pivots = n.pivots.drop (h + 1) ∧ b.kids = n.kids.drop (h + 1)
 size : k ≠ Str.nil ∧ k.b.size ≤ 16
structure HSeat (K A B : Seat) (k : Str) (h : Nat) : Prop where
 hv : Halves K.n A.n B.n k h
 ha : ∀ q, A.s.has q = (K.s.has q && q.lt k)
 hb : ∀ q, B.s.has q = (K.s.has q && !q.lt k)
 na : A.s.norm = A.s
 nb : B.s.norm = B.s
 ma : ∀ s : Span, (∀ q, s.has q = true → A.s.has q = true) → mergeN [clips s A.n.msgs, clips s A.ms] = mergeN [clips s K.n.msgs, clips s K.ms]
 mb : ∀ s : Span, (∀ q, s.has q = true → B.s.has q = true) → mergeN [clips s B.n.msgs, clips s B.ms] = mergeN [clips s K.n.msgs, clips s K.ms]
theorem nds_R {c : Cfg} {n : Nd} (hc : CfgR c) (hR : n.R c.fan c.leaf c.bud) : NdS n := by
 obtain ⟨⟨q1, q2, q3⟩, q4, q5, q6⟩ := hR
 obtain ⟨c1, c2, c3, c4, c5⟩ := hc
 have hh : n.high.b.size ≤ 4000 := by
  cases e : n.top
  ·have := (q5 e).2.1; omega
  ·rw [(q4 e).1]; decide
 by_cases h0 : n.level = 0
 ·rw [if_pos h0] at q6
  obtain ⟨r1, r2, r3, r4⟩ := q6
  have e1 : n.msgs = [] := List.eq_nil_of_length_eq_zero om9
  have e2 : n.pivots = [] := List.eq_nil_of_length_eq_zero om9
  refine ⟨om9, om9, om9, om9, hh, (by rw [e1]; intro m hm; cases hm), (by rw [e2]; intro m hm; cases hm), fun p hp => ?_⟩
  have := (pairsR_iff.1 r3).1 p hp
  exact ⟨by have := this.1; omega, by have := this.2; omega⟩
 ·rw [if_neg h0] at q6
  obtain ⟨⟨r1, r2, r3⟩, r4, r5, r6, r7, r8, r9⟩ := q6
  have e1 : n.rows = [] := List.eq_nil_of_length_eq_zero r1
  have hp := (rightN_spec r4).2
  have hm : ∀ m ∈ n.msgs, m.R := (MsgsR.iff.1 r5).1
  have hl := sizes_len hm
  refine ⟨om9, om9, om9, om9, hh, fun m h => ?_, fun p h => ?_, (by rw [e1]; intro m hm; cases hm)⟩
  ·have := (hm m h).1
   exact ⟨om9, om9, om9⟩
  ·obtain ⟨i, hi, rfl⟩ := List.getElem_of_mem h
   have := (r8 i hi).2.1; omega
structure PartOf (c : Cfg) (l : List Nd) (ss : List Seat) (P : Seat) (i : Nat) (a b : Nd) (k : Str) (h : Nat) : Prop where
 t : Tree c l ss
 mem : P ∈ ss
 h0 : ¬ P.n.level = 0
 hi : i < P.n.kids.length
 hv : Halves (kidSt l P i).n a b k h
 sa : a.slot = (kidSt l P i).n.slot
 sb : b.slot = l.length
 ea : a.seen = (kidSt l P i).n.seen
 eb : b.seen = (kidSt l P i).n.seen
 m0 : (kidSt l P i).n.level = 0 → a.msgs = (kidSt l P i).n.msgs ∧ b.msgs = (kidSt l P i).n.msgs
 m1 : ¬ (kidSt l P i).n.level = 0 → a.msgs = clips ⟨Str.nil, k, false⟩ (kidSt l P i).n.msgs ∧ b.msgs = clips ⟨k, Str.nil, true⟩ (kidSt l P i).n.msgs
 nk : (kidSt l P i).n.has k = true
 aR : a.R c.fan c.leaf c.bud
 bR : b.R c.fan c.leaf c.bud
 kin : (rangeN P.n.pivots (i : Int)).has k = true
 klo : ¬ k = (rangeN P.n.pivots (i : Int)).lo
 full : (P.n.kids.length : Int) < c.fan
 room : (l.length : Int) < c.slots
 few : l.length < 4096
namespace PartOf
variable {c : Cfg} {l : List Nd} {ss : List Seat} {P : Seat} {i : Nat} {a b : Nd} {k : Str} {h : Nat}
end PartOf
structure LiftOf (c : Cfg) (l : List Nd) (ss : List Seat) (a0 b0 : Nd) (k : Str) (h : Nat) : Prop where
 t : Tree c l ss
 hv : Halves (rootS l 0).n a0 b0 k h
 sb : b0.slot = (l.length : Int) + 1
 ea : a0.seen = (rootS l 0).n.seen
 eb : b0.seen = (rootS l 0).n.seen
 nk : (rootS l 0).n.has k = true
 aR : a0.R c.fan c.leaf c.bud
 bR : b0.R c.fan c.leaf c.bud
 room : (l.length : Int) + 1 < c.slots
 few : l.length + 2 ≤ 4096
namespace LiftOf
variable {c : Cfg} {l : List Nd} {ss : List Seat} {a0 b0 : Nd} {k : Str} {h : Nat}
end LiftOf
structure Opr where
 kind : Int
 key : Str
 hi : Str
 opn : Bool
 val : Str
 lim : Int
 deriving DecidableEq
instance : Inhabited Opr := ⟨⟨0, Str.nil, Str.nil, false, Str.nil, 0⟩⟩
def Opr.Ok (o : Opr) : Prop := i64 o.kind ∧ i64 o.lim
def eOp : Enc Opr where
 k := 6
 w := 72
 R := fun _ cs o => cs = [.int .i64 o.kind, .string o.key.b, .string o.hi.b, .bool o.opn, .string o.val.b, .int .i64 o.lim] ∧ o.Ok
 mono := fun _ h => h
 len := fun h => by rw [h.1]; rfl
 one := fun h u hu => by rw [h.1] at hu; simp at hu; rcases hu with rfl | rfl | rfl | rfl | rfl | rfl <;> rfl
instance : EqP eOp (fun o => [.int .i64 o.kind, .string o.key.b, .string o.hi.b, .bool o.opn, .string o.val.b, .int .i64 o.lim]) Opr.Ok := ⟨fun _ _ _ h => h⟩
def Opr.span (o : Opr) : Span := if o.kind = 4 ∨ o.kind = 6 then ⟨o.key, o.hi, o.opn⟩ else ⟨o.key, o.key.next, false⟩
def Opr.R (o : Opr) : Prop := (1 ≤ o.kind ∧ o.kind ≤ 6 ∧ o.key.b.size ≤ 16 ∧ o.hi.b.size ≤ 16 ∧ o.val.b.size ≤ 16) ∧
 (2 < o.kind → o.val = Str.nil) ∧ (o.kind ≠ 6 → o.lim = 0) ∧ (o.kind = 6 → 1 ≤ o.lim ∧ o.lim ≤ 64) ∧
 if o.kind = 4 ∨ o.kind = 6 then o.span.empty = false ∧ (o.opn = false ∨ o.hi = Str.nil) else o.hi = Str.nil ∧ o.opn = false
instance (o : Opr) : Decidable o.R := by unfold Opr.R; infer_instance
structure Ans where
 err : Int
 has : Bool
 val : Str
 rows : List Pair
 deriving DecidableEq
instance : Inhabited Ans := ⟨⟨0, false, Str.nil, []⟩⟩
def AnsC (G : GH) (cs : List Value) (a : Ans) : Prop :=
 ∃ p c, cs = [.int .i64 a.err, .bool a.has, .string a.val.b, .slice p a.rows.length c] ∧ SlR ePair G (.slice p a.rows.length c) a.rows ∧ i64 a.err
structure Drow where
 key : Str
 a : Str
 b : Str
 inA : Bool
 inB : Bool
 deriving DecidableEq
instance : Inhabited Drow := ⟨⟨Str.nil, Str.nil, Str.nil, false, false⟩⟩
def BT : Nat → Type
  | 0 => Int × List Pair
  | k + 1 => Int × List Str × List (BT k)
def mkL (s : Int) (r : List Pair) : BT 0 := (s, r)
def mkN {k : Nat} (s : Int) (p : List Str) (c : List (BT k)) : BT (k + 1) := (s, p, c)
instance : (k : Nat) → Inhabited (BT k)
  | 0 => ⟨mkL 0 []⟩
  | k + 1 => ⟨mkN 0 [] []⟩
section
variable {fan leaf : Int} {k : Nat} {lo hi : Int} {s : Span}
/-! ## Rows side by side -/
end
section
variable {fan leaf : Int} {key : Str} {e : Eff}
theorem getD_lt {α : Type} {d : α} {l : List α} {i : Nat} (h : i < l.length) : l.getD i d = l[i] := by rw [List.getD_eq_getElem?_getD, List.getElem?_eq_getElem h]; rfl
end
/-! ## Lending -/
theorem putAll_in : ∀ {M : MH} {G : GH} {b : Nat} {o : Obj}, (∀ p ∈ M, p.1 ≠ b) → putAll G M b = G b
  | [], _, _, _, _ => rfl
  | p :: M, G, b, o, h => by
    have h1 : ¬ b = p.1 := fun e => h p (by simp) e.symm
    show (if b = p.1 then some p.2 else putAll G M b) = _
    rw [if_neg h1]
    exact putAll_in (o := o) fun q hq => h q (by simp [hq])
theorem putAll_mem : ∀ {M : MH} {G : GH}, (M.map (·.1)).Nodup → ∀ p ∈ M, putAll G M p.1 = some p.2
  | q :: M, G, hn, p, hp => by
    rw [List.map_cons, List.nodup_cons] at hn
    show (if p.1 = q.1 then some q.2 else putAll G M p.1) = _
    rcases List.mem_cons.1 hp with rfl | hp
    · rw [if_pos rfl]
    · rw [if_neg fun e : p.1 = q.1 => hn.1 (e ▸ List.mem_map_of_mem (f := Prod.fst) hp)]
      exact putAll_mem hn.2 p hp
theorem putAll_le {M : MH} {G : GH} (h : ∀ p ∈ M, G p.1 = none) : Le G (putAll G M) := fun b o hb => by
  rw [putAll_in (o := o) fun p hp e => by rw [← e, h p hp] at hb; cases hb]
  exact hb
theorem putAll_or : ∀ {M : MH} {G : GH} {b : Nat} {o : Obj}, putAll G M b = some o → G b = some o ∨ ∃ p ∈ M, p.1 = b ∧ p.2 = o
  | [], _, _, _, h => .inl h
  | q :: M, G, b, o, h => by
    have h : (if b = q.1 then some q.2 else putAll G M b) = some o := h
    by_cases e : b = q.1
    · rw [if_pos e] at h; cases h
      exact .inr ⟨q, by simp, e.symm, rfl⟩
    · rw [if_neg e] at h
      rcases putAll_or h with h | ⟨p, hp, h1, h2⟩
      · exact .inl h
      · exact .inr ⟨p, by simp [hp], h1, h2⟩
theorem putAll_none {M : MH} {G : GH} {b : Nat} (h : G b = none) (hb : ∀ p ∈ M, p.1 ≠ b) : putAll G M b = none := by
  cases hg : putAll G M b with
  | none => rfl
  | some o =>
    rcases putAll_or hg with h2 | ⟨p, hp, h1, _⟩
    · rw [h] at h2; cases h2
    · exact absurd h1 (hb p hp)
theorem Fc.lend {P : Program} {g : FuncId} {vs : List Value} {G : GH} {Ml Mp : MH} {Q : Value → MH → Prop}
    (hn : Callable P g) (hc : ∀ G1, Le G G1 → (∀ p ∈ Ml, G1 p.1 = some p.2) → Fc P g vs G1 Mp (fun v _ M' => Q v M')) :
    Fc P g vs G (Ml ++ Mp) (fun v _ M' => ∃ Mq, M' = Ml ++ Mq ∧ Q v Mq) := by
  refine ⟨hn, fun w hw => ?_⟩
  have hnd := hw.nd
  simp only [List.map_append, List.nodup_append] at hnd
  obtain ⟨n1, n2, n3⟩ := hnd
  have hle : Le G (putAll G Ml) := putAll_le fun p hp => hw.dis p (by simp [hp])
  have hmem := putAll_mem (G := G) n1
  have hw2 : Real w (fun b => b ∈ Mp.map (·.1)) (putAll G Ml) Mp w := by
    refine ⟨rfl, rfl, rfl, Nat.le_refl _, fun _ _ _ => rfl, fun b o hb => ?_, fun p hp => hw.mu p (by simp [hp]), fun p hp => ?_, n2, fun p hp => .inr (List.mem_map_of_mem hp)⟩
    · rcases putAll_or hb with h | ⟨p, hp, rfl, rfl⟩
      · exact hw.ro b o h
      · exact hw.mu p (by simp [hp])
    · exact putAll_none (hw.dis p (by simp [hp])) fun q hq e => n3 q.1 (List.mem_map_of_mem hq) p.1 (List.mem_map_of_mem hp) e
  refine ((hc _ hle hmem).2 w hw2).mono ?_
  rintro e w' ⟨v, G', M', rfl, h2, h3, h4, h5⟩
  have hlo : ∀ p ∈ M', w.heap.size ≤ p.1 ∨ p.1 ∈ Mp.map (·.1) := h2.lo
  refine ⟨v, G, Ml ++ M', rfl, ⟨h2.os, h2.tape, h2.output, h2.size, ?_, ?_, ?_, ?_, ?_, ?_⟩, Le.rfl, fun b h1 h => absurd h1 h, M', rfl, h5⟩
  · intro b hb ho
    exact h2.keep b hb fun hm => ho (by rw [List.map_append]; exact List.mem_append_right _ hm)
  · intro b o hb; exact h2.ro b o (h3 b o (hle b o hb))
  · intro p hp
    rcases List.mem_append.1 hp with hp | hp
    · exact h2.ro _ _ (h3 _ _ (hmem p hp))
    · exact h2.mu p hp
  · intro p hp
    rcases List.mem_append.1 hp with hp | hp
    · exact hw.dis p (by simp [hp])
    · have := h2.dis p hp
      cases hg : G p.1 with
      | none => rfl
      | some o => rw [h3 _ _ (hle _ _ hg)] at this; cases this
  · rw [List.map_append, List.nodup_append]
    refine ⟨n1, h2.nd, fun a ha b hb e => ?_⟩
    subst e
    obtain ⟨p, hp, rfl⟩ := List.mem_map.1 ha
    obtain ⟨q, hq, e⟩ := List.mem_map.1 hb
    have h6 := h2.dis q hq
    rw [e, h3 _ _ (hmem p hp)] at h6; cases h6
  · intro p hp
    rcases List.mem_append.1 hp with hp | hp
    · exact .inr (List.mem_map_of_mem (by simp [hp]))
    · rcases hlo p hp with h | h
      · exact .inl h
      · right; rw [List.map_append]; exact List.mem_append_right _ h
theorem OwnR.lent {α : Type} {e : Enc α} {T : TypeId} {G G1 : GH} {v : Value} {l : List α} {Ms : MH} (ho : OwnR e T G v l Ms) (hl : Le G G1) (hm : ∀ p ∈ Ms, G1 p.1 = some p.2) : SlR e G1 v l := by
  obtain ⟨css, h1, ⟨h2, h3⟩, h4⟩ := ho
  rcases h3 with ⟨rfl, hn, rfl⟩ | ⟨b, cap, cur, rfl, h5, h6, h7, h8, rfl⟩
  · have : l = [] := List.eq_nil_of_length_eq_zero hn
    subst this
    exact SlR.nil
  · refine SlR.of_block (hm (b, .cells cur T (0, 0)) (by simp)) (fun i hi => ?_) (h1.mono hl) rfl h5 h6 h4
    rw [h2] at hi
    rw [← h8, List.getElem?_take, if_pos hi]
    simp
theorem cellsG_at {G : GH} {b : Nat} {L : List Value} {T : TypeId} {fr : Nat × Nat} (h : G b = some (.cells L.toArray T fr)) : CellsG G b 0 L := ⟨_, _, _, h, fun j hj => by simp⟩
theorem in_of {M : MH} {G : GH} {i b : Nat} {o : Obj} (h : ∀ p ∈ M, G p.1 = some p.2) (hm : nthM M i = some (b, o)) : G b = some o := h _ (nthM_mem hm)
theorem sub_of {A M : MH} {G : GH} (hs : A.Sublist M) (h : ∀ p ∈ M, G p.1 = some p.2) : ∀ p ∈ A, G p.1 = some p.2 := fun p hp => h p (hs.subset hp)
section
variable {E : Env} {Q : Exit → Kt} {f : Fr} {G : GH} {M : MH} {ops rest : List Oper} {q : Bool} {K : Kt} {d : Nat} {ty : TypeId} {pos : String} {aft : Array Edge}
theorem W.lendQ {g : FuncId} {args : List Operand} {at' : Array TypeId} {vs : List Value} {v : Value} (hc : ∀ G1, Le G G1 → (∀ p ∈ M, G1 p.1 = some p.2) → Fc E.P g vs G1 [] (fun v' _ _ => v' = v)) (hn : Callable E.P g) (ha : args.map (ev f) = vs)
    (k : W E ops.toArray q rest (upd f d v) G M K) (hd : Nat.blt d E.n = true := by rfl) :
    W E ops.toArray q (⟨some d, .call { callee := .value (.func g), args := args.toArray, argTypes := at' }, ty, pos, aft, none⟩ :: rest) f G M K := by
  have hL : Fc E.P g vs G (M ++ []) (fun v' _ M' => ∃ Mq, M' = M ++ Mq ∧ (v' = v ∧ Mq = [])) := Fc.lend (Q := fun v' M' => v' = v ∧ M' = []) hn fun G1 h1 h2 => by
    obtain ⟨c1, c2⟩ := hc G1 h1 h2
    refine ⟨c1, fun w hw => (c2 w hw).mono ?_⟩
    rintro e w' ⟨v', G', M', a1, a2, a3, a4, a5⟩
    exact ⟨v', G', [], a1, a2.sub (List.nil_sublist _), a3, a4, a5, rfl⟩
  rw [List.append_nil] at hL
  have hrun : ∀ w, (execOp (ev f) ⟨some d, .call { callee := .value (.func g), args := args.toArray, argTypes := at' }, ty, pos, aft, none⟩).run E.P w = .ok (.enter g vs.toArray) w := fun w => by
    simp [execOp, resolve, invoke, ev, Deferred.ofValue, ha, hn _ w]
  have hcall : ∀ w, E.real G M w → Calls E.P g vs.toArray w fun e w' => e = .returned v ∧ E.real G M w' := fun w hr => by
    have hw : Real w (fun b => b ∈ M.map (·.1)) G M w := ⟨rfl, rfl, rfl, Nat.le_refl _, fun _ _ _ => rfl, hr.r.ro, hr.r.mu, hr.r.dis, hr.r.nd, fun p hp => .inr (List.mem_map_of_mem hp)⟩
    refine (hL.2 w hw).mono ?_
    rintro e w' ⟨v', G', M', rfl, h2, h3, h4, Mq, e5, rfl, rfl⟩
    rw [List.append_nil] at e5; subst e5
    have h5 := Real.call (Mp := M') (Mr := []) (by rw [List.append_nil]; exact hr.r) h2 h4
    rw [List.append_nil] at h5
    refine ⟨rfl, Env.real.anti (G' := G') ⟨h5, hr.le.trans h3, ?_⟩ h3 hr.le⟩
    intro b hb hb'
    cases hg : G b with
    | none =>
      rcases h4 b hg hb' with h7 | h7
      · exact .inl (Nat.le_trans hr.r.size h7)
      · obtain ⟨p, hp, e⟩ := List.mem_map.1 h7
        rcases hr.r.lo p hp with h8 | h8
        · exact .inl (e ▸ h8)
        · exact .inr (e ▸ h8)
    | some o => exact hr.nw b hb (by simp [hg])
  cases q
  · intro a w Q hi hr hK
    refine wpList_plain rfl fun K' hK' => ?_
    unfold Oper.wp
    rw [hi.eval, hrun w]
    refine (hcall w hr).mono ?_
    rintro e w' ⟨rfl, h⟩
    exact hK' _ _ (k _ w' Q (hi.put hd v) h hK)
  · intro a hi
    refine wpQuiet_step fun K' hK' => ?_
    rw [if_pos (by rfl)]
    refine ⟨v, fun w hr => ?_, hK' _ (k _ (hi.put hd v))⟩
    unfold Oper.quietAt
    rw [hi.eval, hrun w]
    exact ⟨rfl, hcall w hr⟩
end
/-! ## Pointers -/
def ePt : Enc (Option Nat) where
  k := 1
  w := 8
  R := fun _ cs o => cs = [.pointer (o.map fun b => ⟨b, 0, none⟩)]
  mono := fun _ h => h
  len := fun h => by rw [h]; rfl
  one := fun h u hu => by rw [h] at hu; simp at hu; subst hu; rfl
instance : EqE ePt (fun o => [.pointer (o.map fun b => ⟨b, 0, none⟩)]) := ⟨fun _ _ _ h => h⟩
/-! ## Nodes in boxes -/
structure BNd where
  slot : Int
  lvl : Int
  P : List Str
  K : List Int
  R : List Pair
section
variable {Tn Ts : TypeId} {cells cells' : List (Option Nat)} {G G' : GH}
end
abbrev Lat := List (List Int × Int)
def lowI (l : List Int) (k : Int) : Nat := (l.filter fun x => decide (x < k)).length
def SrtI (l : List Int) : Prop := l.Pairwise (· < ·)
theorem lowI_le (l : List Int) (k : Int) : lowI l k ≤ l.length := List.length_filter_le _ _
theorem lowI_split {l : List Int} {k : Int} {i : Nat} (hi : i ≤ l.length) (h1 : ∀ q (h : q < l.length), q < i → l[q] < k) (h2 : ∀ q (h : q < l.length), i ≤ q → ¬ l[q] < k) : lowI l k = i := by
  unfold lowI
  conv => lhs; rw [← List.take_append_drop i l]
  rw [List.filter_append, List.filter_eq_self.2 fun x hx => ?_, List.filter_eq_nil_iff.2 fun x hx => ?_, List.append_nil, List.length_take]
  · omega
  · obtain ⟨q, hq, rfl⟩ := List.getElem_of_mem hx
    rw [List.length_drop] at hq
    rw [List.getElem_drop]
    simpa using h2 (i + q) (by omega) (by omega)
  · obtain ⟨q, hq, rfl⟩ := List.getElem_of_mem hx
    rw [List.length_take] at hq
    rw [List.getElem_take]
    simpa using h1 q (by omega) (by omega)
theorem srt_lt {l : List Int} (h : SrtI l) {i j : Nat} (hij : i < j) (hj : j < l.length) : l[i] < l[j] := List.pairwise_iff_getElem.1 h i j (by omega) hj hij
theorem srt_below {l : List Int} (h : SrtI l) {k : Int} {i : Nat} (hi : i < l.length) (hk : l[i] < k) : ∀ q (h : q < l.length), q < i + 1 → l[q] < k := fun q hq hqi => by
  rcases Nat.lt_or_ge q i with h9 | h9
  · exact Int.lt_trans (srt_lt h h9 hi) hk
  · have : q = i := by omega
    subst this; exact hk
theorem srt_above {l : List Int} (h : SrtI l) {k : Int} {i : Nat} (hi : i < l.length) (hk : ¬ l[i] < k) : ∀ q (h : q < l.length), i ≤ q → ¬ l[q] < k := fun q hq hqi => by
  rcases Nat.lt_or_ge i q with h9 | h9
  · have := srt_lt h h9 hq; omega
  · have : q = i := by omega
    subst this; exact hk
theorem low_mem {l : List Int} {k : Int} {i : Nat} (hi : i ≤ l.length) (h1 : ∀ q (h : q < l.length), q < i → l[q] < k) (h2 : ∀ q (h : q < l.length), i ≤ q → ¬ l[q] < k) (hs : SrtI l) : k ∈ l ↔ ∃ h : i < l.length, l[i] = k := by
  constructor
  · intro h
    obtain ⟨q, hq, e⟩ := List.getElem_of_mem h
    have h3 : i ≤ q := by
      rcases Nat.lt_or_ge q i with h9 | h9
      · have := h1 q hq h9; omega
      · exact h9
    refine ⟨by omega, ?_⟩
    rcases Nat.lt_or_ge i q with h9 | h9
    · have h4 := srt_lt hs h9 hq
      have h5 := h2 i (by omega) (Nat.le_refl _)
      omega
    · have : q = i := by omega
      subst this; exact e
  · rintro ⟨h, e⟩
    rw [← e]; exact List.getElem_mem h
def insI (t : Int) (l : List Int) : List Int := (l.take (lowI l t) ++ [t]) ++ l.drop (lowI l t)
def atL (W : Lat) (s : Int) : List Int × Int := W.getD s.toNat ([], 0)
def inL (W : Lat) (s : Int) : Prop := 0 ≤ s ∧ s < (W.length : Int)
instance (W : Lat) (s : Int) : Decidable (inL W s) := by unfold inL; infer_instance
def lhasN (W : Lat) (t s : Int) : Bool := decide (inL W s) && decide (t ∈ (atL W s).1)
def ltoN (W : Lat) (t s : Int) : Bool := lhasN W t s && decide ((atL W s).2 = 2)
def ltakeN (W : Lat) (t s how : Int) : Int × Lat :=
  if t < 0 ∨ ¬ inL W s then (2, W)
  else if t ∈ (atL W s).1 then (2, W)
  else if (atL W s).2 = 2 ∨ (how = 2 ∧ (atL W s).2 ≠ 0) then (7, W)
  else (0, W.set s.toNat (insI t (atL W s).1, how))
def outI (t : Int) (l : List Int) : List Int := l.filter fun x => !decide (x = t)
def lrelN (W : Lat) (t s : Int) : Int × Lat :=
  if lhasN W t s = true then (0, W.set s.toNat (outI t (atL W s).1, if (outI t (atL W s).1).length = 0 then 0 else (atL W s).2)) else (8, W)
structure Hld where
  thread : Int
  slot : Int
  write : Bool
  deriving DecidableEq
def inS (s : Int) (p : List Int × Int) : List Hld := p.1.map fun t => ⟨t, s, decide (p.2 = 2)⟩
def heldK (W : Lat) (k : Nat) : List Hld := (List.range k).flatMap fun i : Nat => inS (i : Int) (W.getD i ([], 0))
def lpickN (f : Hld → Bool) (W : Lat) : List Hld := (heldK W W.length).filter f
def lofN (W : Lat) (t : Int) : List Hld := lpickN (fun h => decide (h.thread = t)) W
def lrelsN (t : Int) (l : List Hld) (W : Lat) : Lat := l.foldl (fun W h => (lrelN W t h.slot).2) W
def ldropN (W : Lat) (t : Int) : Lat := lrelsN t (lofN W t) W
def LatOk (Th : List Int) (W : Lat) : Prop := (∀ p ∈ W, SrtI p.1 ∧ (∀ x ∈ p.1, x ∈ Th) ∧ i64 p.2) ∧ W.length ≤ 4096 ∧ (∀ x ∈ Th, i64 x) ∧ Th.length ≤ 1000
theorem heldK_succ (W : Lat) {k : Nat} (h : k < W.length) : heldK W (k + 1) = heldK W k ++ inS k W[k] := by
  unfold heldK
  rw [List.range_succ, List.flatMap_append, List.flatMap_cons, List.flatMap_nil, List.append_nil, getD_lt h]
theorem srt_low {t : Int} : ∀ {l : List Int}, SrtI l → (∀ q (h : q < l.length), q < lowI l t → l[q] < t) ∧ ∀ q (h : q < l.length), lowI l t ≤ q → ¬ l[q] < t := by
  have key : ∀ {l : List Int}, SrtI l → ∃ i, i ≤ l.length ∧ (∀ q (h : q < l.length), q < i → l[q] < t) ∧ ∀ q (h : q < l.length), i ≤ q → ¬ l[q] < t := by
    intro l
    induction l with
    | nil => exact fun _ => ⟨0, Nat.le_refl _, fun q h => absurd h (Nat.not_lt_zero _), fun q h => absurd h (Nat.not_lt_zero _)⟩
    | cons a l ih =>
      intro hs
      by_cases ha : a < t
      · obtain ⟨i, h1, h2, h3⟩ := ih (List.pairwise_cons.1 hs).2
        refine ⟨i + 1, by simpa using h1, fun q hq hqi => ?_, fun q hq hqi => ?_⟩
        · cases q with
          | zero => exact ha
          | succ q => exact h2 q (by simpa using hq) (by omega)
        · cases q with
          | zero => omega
          | succ q => exact h3 q (by simpa using hq) (by omega)
      · exact ⟨0, Nat.zero_le _, fun q _ h => absurd h (Nat.not_lt_zero _), fun q hq _ => srt_above hs (i := 0) (by simp) ha q hq (Nat.zero_le _)⟩
  intro l hs
  obtain ⟨i, h1, h2, h3⟩ := key hs
  rw [lowI_split h1 h2 h3]
  exact ⟨h2, h3⟩
theorem srt_ins {t : Int} {l : List Int} (h : SrtI l) (ht : t ∉ l) : SrtI (insI t l) := by
  obtain ⟨k1, k2⟩ := srt_low (t := t) h
  have h1 : ∀ x ∈ l.take (lowI l t), x < t := fun x hx => by
    obtain ⟨q, hq, rfl⟩ := List.getElem_of_mem hx
    rw [List.length_take] at hq
    rw [List.getElem_take]
    exact k1 q (by omega) (by omega)
  have h2 : ∀ x ∈ l.drop (lowI l t), t < x := fun x hx => by
    obtain ⟨q, hq, rfl⟩ := List.getElem_of_mem hx
    rw [List.length_drop] at hq
    rw [List.getElem_drop]
    have h9 := k2 (lowI l t + q) (by omega) (by omega)
    have hne : l[lowI l t + q] ≠ t := fun e => ht (by rw [← e]; exact List.getElem_mem _)
    omega
  unfold insI SrtI
  refine List.pairwise_append.2 ⟨List.pairwise_append.2 ⟨h.take, List.pairwise_singleton .., fun a ha b hb => ?_⟩, h.drop, fun a ha b hb => ?_⟩
  · rw [List.mem_singleton.1 hb]; exact h1 a ha
  · rcases List.mem_append.1 ha with h9 | h9
    · exact Int.lt_trans (h1 a h9) (h2 b hb)
    · rw [List.mem_singleton.1 h9]; exact h2 b hb
theorem mem_ins {t x : Int} {l : List Int} : x ∈ insI t l ↔ x = t ∨ x ∈ l := by
  unfold insI
  rw [List.mem_append, List.mem_append, List.mem_singleton]
  conv => rhs; rhs; rw [← List.take_append_drop (lowI l t) l, List.mem_append]
  constructor
  · rintro ((h | h) | h)
    · exact .inr (.inl h)
    · exact .inl h
    · exact .inr (.inr h)
  · rintro (h | h | h)
    · exact .inl (.inr h)
    · exact .inl (.inl h)
    · exact .inr h
/-! ## In memory -/
def eOne : Enc (Value × Int) where
  k := 2
  w := 32
  R := fun _ cs p => cs = [p.1, .int .i64 p.2] ∧ (∃ a n c, p.1 = .slice a n c) ∧ i64 p.2
  mono := fun _ h => h
  len := fun h => by rw [h.1]; rfl
  one := fun h u hu => by
    obtain ⟨rfl, ⟨a, n, c, e⟩, _⟩ := h
    simp at hu
    rcases hu with rfl | rfl
    · rw [e]; rfl
    · rfl
def WhoR (TI : TypeId) : List (Value × Int) → Lat → GH → MH → Prop
  | [], [], _, Ms => Ms = []
  | p :: L, q :: W, G, Ms => p.2 = q.2 ∧ ∃ A B, Ms = A ++ B ∧ OwnR eInt TI G p.1 q.1 A ∧ WhoR TI L W G B
  | [], _ :: _, _, _ => False
  | _ :: _, [], _, _ => False
section
variable {TI : TypeId} {G G' : GH}
theorem WhoR.mono (hl : Le G G') : ∀ {L : List (Value × Int)} {W : Lat} {Ms : MH}, WhoR TI L W G Ms → WhoR TI L W G' Ms
  | [], [], _, h => h
  | p :: L, q :: W, Ms, ⟨h1, A, B, h2, h3, h4⟩ => ⟨h1, A, B, h2, h3.mono hl, h4.mono hl⟩
theorem WhoR.len : ∀ {L : List (Value × Int)} {W : Lat} {Ms : MH}, WhoR TI L W G Ms → L.length = W.length
  | [], [], _, _ => rfl
  | p :: L, q :: W, Ms, ⟨_, A, B, _, _, h4⟩ => by rw [List.length_cons, List.length_cons, h4.len]
theorem WhoR.el : ∀ {L : List (Value × Int)} {W : Lat} {Ms : MH}, WhoR TI L W G Ms → ∀ {i : Nat} (hi : i < L.length) (hj : i < W.length), L[i].2 = W[i].2 ∧ ∃ Mi, (∀ p ∈ Mi, p ∈ Ms) ∧ OwnR eInt TI G L[i].1 W[i].1 Mi
  | p :: L, q :: W, _, ⟨h1, A, B, rfl, h3, h4⟩, 0, _, _ => ⟨h1, A, fun p hp => List.mem_append_left _ hp, h3⟩
  | p :: L, q :: W, _, ⟨h1, A, B, rfl, h3, h4⟩, i + 1, hi, hj => by
    obtain ⟨a, Mi, b, c⟩ := h4.el (i := i) (by simpa using hi) (by simpa using hj)
    exact ⟨a, Mi, fun p hp => List.mem_append_right _ (b p hp), c⟩
theorem WhoR.split : ∀ {L : List (Value × Int)} {W : Lat} {Ms : MH}, WhoR TI L W G Ms → ∀ {i : Nat} (hi : i < L.length) (hj : i < W.length), L[i].2 = W[i].2 ∧ ∃ A Mi B, Ms = A ++ (Mi ++ B) ∧ OwnR eInt TI G L[i].1 W[i].1 Mi ∧
    ∀ (G' : GH) (v : Value) (w : List Int) (h : Int) (Mj : MH), Le G G' → OwnR eInt TI G' v w Mj → WhoR TI (L.set i (v, h)) (W.set i (w, h)) G' (A ++ (Mj ++ B))
  | p :: L, q :: W, _, ⟨h1, A, B, rfl, h3, h4⟩, 0, _, _ => ⟨h1, [], A, B, rfl, h3, fun G' v w h Mj hl ho => ⟨rfl, Mj, B, rfl, ho, h4.mono hl⟩⟩
  | p :: L, q :: W, _, ⟨h1, A, B, rfl, h3, h4⟩, i + 1, hi, hj => by
    obtain ⟨a, A', Mi, B', rfl, c, d⟩ := h4.split (i := i) (by simpa using hi) (by simpa using hj)
    exact ⟨a, A ++ A', Mi, B', by rw [List.append_assoc], c, fun G' v w h Mj hl ho => ⟨h1, A, A' ++ (Mj ++ B'), by rw [List.append_assoc], h3.mono hl, d G' v w h Mj hl ho⟩⟩
end
def TabR (Tt To TI : TypeId) (Th : List Int) (b : Nat) (G : GH) (W : Lat) (Ms : MH) : Prop := ∃ vl L Ml Mw, Ms = (b, .cells (List.toArray [vl]) Tt (0, 0)) :: (Ml ++ Mw) ∧ OwnR eOne To G vl L Ml ∧ WhoR TI L W G Mw ∧ LatOk Th W
theorem TabR.cast {Tt To TI : TypeId} {Th : List Int} {b : Nat} {G : GH} {W W' : Lat} {Ms : MH} (e : W' = W) (h : TabR Tt To TI Th b G W Ms) : TabR Tt To TI Th b G W' Ms := e ▸ h
theorem TabR.mono {Tt To TI : TypeId} {Th : List Int} {b : Nat} {G G' : GH} {W : Lat} {Ms : MH} (hl : Le G G') (h : TabR Tt To TI Th b G W Ms) : TabR Tt To TI Th b G' W Ms := by
  obtain ⟨vl, L, Ml, Mw, h1, h2, h3, h4⟩ := h
  exact ⟨vl, L, Ml, Mw, h1, h2.mono hl, h3.mono hl, h4⟩
end Go.Fw
namespace Go.Proofs.YtgmnljhiojdigaaGreat
open Go Go.Fw Go.RowKit
attribute [local irreducible] Ok W WC
theorem rmeet_fc {G : GH} (alo : Str) (ahi : Str) (ao : Bool) (blo : Str) (bhi : Str) (bo : Bool) :
    Fc Tryz.prog 39 [.agg #[sV alo.b, sV ahi.b, .bool ao], .agg #[sV blo.b, sV bhi.b, .bool bo]] G [] (fun v _ _ => v = .agg (List.toArray ((Span.meet ⟨alo, ahi, ao⟩ ⟨blo, bhi, bo⟩ : Span).cells))) := by
 refine Fc.go [.cell 4 45] Tryz.func39 Tryz.ntmps39 rfl (fun w0 => (g9 2 ?_))
 refine W.box (L := [sV _, sV _, .bool _]) rfl rfl (fun b1 => (W.box (L := [sV _, sV _, .bool _]) rfl rfl (fun b2 => (W.alloc zr45 (fun b3 => (g9 5 ?_))))))
 refine W.alloc zr45 (fun b4 => (g9 10 ?_))
 refine W.qcall (less_fc _ _) rfl (g9 2 ?_)
 refine WC.cond rfl (fun h11 => ?_) (fun h11 => ?_)
 ·refine g9 14 ?_
  refine W.sp 18 rfl (fun h17 => ?_) (fun h17 => ?_)
  ·refine g9 6 ?_
   refine W.sp 21 rfl (fun ha_ao => ?_) (fun ha_ao => ?_)
   ·refine g9 27 ?_
    refine W.qcall (norm_fc _ _ _) rfl (g9 5 ?_)
    refine congrArg (fun l => Value.agg (List.toArray l)) ?_
    show [Value.string _, Value.string _, Value.bool _] = _
    simp_all [Span.meet, setAt] <;> rfl
   refine g9 9 ?_
   refine W.qcall (less_fc _ _) rfl (g9 5 ?_)
   refine WC.cond rfl (fun h26 => ?_) (fun h26 => ?_)
   ·refine g9 16 ?_
    refine W.qcall (norm_fc _ _ _) rfl (g9 5 ?_)
    refine congrArg (fun l => Value.agg (List.toArray l)) ?_
    show [Value.string _, Value.string _, Value.bool _] = _
    simp_all [Span.meet, setAt] <;> rfl
   refine g9 5 ?_
   refine W.qcall (norm_fc _ _ _) rfl (g9 5 ?_)
   refine congrArg (fun l => Value.agg (List.toArray l)) ?_
   show [Value.string _, Value.string _, Value.bool _] = _
   simp_all [Span.meet, setAt] <;> rfl
  refine g9 18 ?_
  refine W.qcall (norm_fc _ _ _) rfl (g9 5 ?_)
  refine congrArg (fun l => Value.agg (List.toArray l)) ?_
  show [Value.string _, Value.string _, Value.bool _] = _
  simp_all [Span.meet, setAt] <;> rfl
 refine g9 9 ?_
 refine W.sp 18 rfl (fun h17 => ?_) (fun h17 => ?_)
 ·refine g9 6 ?_
  refine W.sp 21 rfl (fun ha_ao => ?_) (fun ha_ao => ?_)
  ·refine g9 27 ?_
   refine W.qcall (norm_fc _ _ _) rfl (g9 5 ?_)
   refine congrArg (fun l => Value.agg (List.toArray l)) ?_
   show [Value.string _, Value.string _, Value.bool _] = _
   simp_all [Span.meet, setAt] <;> rfl
  refine g9 9 ?_
  refine W.qcall (less_fc _ _) rfl (g9 5 ?_)
  refine WC.cond rfl (fun h26 => ?_) (fun h26 => ?_)
  ·refine g9 16 ?_
   refine W.qcall (norm_fc _ _ _) rfl (g9 5 ?_)
   refine congrArg (fun l => Value.agg (List.toArray l)) ?_
   show [Value.string _, Value.string _, Value.bool _] = _
   simp_all [Span.meet, setAt] <;> rfl
  refine g9 5 ?_
  refine W.qcall (norm_fc _ _ _) rfl (g9 5 ?_)
  refine congrArg (fun l => Value.agg (List.toArray l)) ?_
  show [Value.string _, Value.string _, Value.bool _] = _
  simp_all [Span.meet, setAt] <;> rfl
 refine g9 18 ?_
 refine W.qcall (norm_fc _ _ _) rfl (g9 5 ?_)
 refine congrArg (fun l => Value.agg (List.toArray l)) ?_
 show [Value.string _, Value.string _, Value.bool _] = _
 simp_all [Span.meet, setAt] <;> rfl

theorem smeet_fc {G : GH} (alo : Str) (ahi : Str) (ao : Bool) (blo : Str) (bhi : Str) (bo : Bool) :
    Fc Tryz.prog 151 [.agg #[sV alo.b, sV ahi.b, .bool ao], .agg #[sV blo.b, sV bhi.b, .bool bo]] G [] (fun v _ _ => v = .agg (List.toArray ((Span.meet ⟨alo, ahi, ao⟩ ⟨blo, bhi, bo⟩ : Span).cells))) := by
 refine Fc.go [.cell 4 45] Tryz.func151 Tryz.ntmps151 rfl (fun w0 => (g9 2 ?_))
 refine W.box (L := [sV _, sV _, .bool _]) rfl rfl (fun b5 => (W.box (L := [sV _, sV _, .bool _]) rfl rfl (fun b6 => (W.alloc zr45 (fun b7 => (g9 8 ?_))))))
 refine W.ok (ok_maxS rfl rfl) (g9 3 ?_)
 refine W.sp 13 rfl (fun ha_ao => ?_) (fun ha_ao => ?_)
 ·refine g9 5 ?_
  refine W.ok (ok_build (L := [sV _, sV _, .bool _]) pl45 zr45 rfl rfl rfl) (W.alloc zr45 (fun b8 => (g9 24 ?_)))
  refine W.qcall (spannorm_fc _ _ _) rfl (g9 5 ?_)
  refine congrArg (fun l => Value.agg (List.toArray l)) ?_
  show [Value.string _, Value.string _, Value.bool _] = _
  rw [← smeet_eq]
  simp_all [setAt] <;> rfl
 refine g9 3 ?_
 refine W.ok (ok_build (L := [sV _, sV _, .bool _]) pl45 zr45 rfl rfl rfl) (W.alloc zr45 (fun b9 => (g9 20 ?_)))
 refine WC.cond rfl (fun ha_bo => ?_) (fun ha_bo => ?_)
 ·refine g9 11 ?_
  refine W.qcall (spannorm_fc _ _ _) rfl (g9 5 ?_)
  refine congrArg (fun l => Value.agg (List.toArray l)) ?_
  show [Value.string _, Value.string _, Value.bool _] = _
  rw [← smeet_eq]
  simp_all [setAt] <;> rfl
 refine g9 5 ?_
 refine W.ok (ok_minS rfl rfl) (g9 8 ?_)
 refine W.qcall (spannorm_fc _ _ _) rfl (g9 5 ?_)
 refine congrArg (fun l => Value.agg (List.toArray l)) ?_
 show [Value.string _, Value.string _, Value.bool _] = _
 rw [← smeet_eq]
 simp_all [setAt] <;> rfl

theorem knext_fc {G : GH} (k : Str) (hk : k.b.size < 140737488355328) :
    Fc Tryz.prog 124 [sV k.b] G [] (fun v _ _ => v = sV (Str.b (k.next))) := by
 refine Fc.go [.tmp 2] Tryz.func124 Tryz.ntmps124 rfl (fun w0 => (g9 8 ?_))
 refine W.ok (ok_addS rfl rfl (by show _ + 1 ≤ _; omega)) (g9 5 ?_)
 refine congrArg Value.string ?_
 exact (Str.next_b hk).symm

theorem point_fc {G : GH} (k : Str) (hk : k.b.size < 140737488355328) :
    Fc Tryz.prog 99 [sV k.b] G [] (fun v _ _ => v = .agg (List.toArray ((⟨k, k.next, false⟩ : Span).cells))) := by
 refine Fc.go [.cell 2 45] Tryz.func99 Tryz.ntmps99 rfl (fun w0 => (g9 2 ?_))
 refine W.alloc zr45 (fun b10 => (g9 6 ?_))
 refine W.qcall (knext_fc _ (by first | assumption | omega | (dsimp only; omega))) rfl (W.ok (ok_build (L := [sV _, sV _, .bool _]) pl45 zr45 rfl rfl rfl) (g9 5 ?_))
 rfl

theorem mspan_fc {G : GH} (ms : Int) (mk : Int) (mkey : Str) (mhi : Str) (mo : Bool) (mv : Str) (hk : mkey.b.size < 140737488355328) :
    Fc Tryz.prog 152 [.agg #[iV ms, iV mk, sV mkey.b, sV mhi.b, .bool mo, sV mv.b]] G [] (fun v _ _ => v = .agg (List.toArray ((Msg.span (⟨ms, mk, mkey, mhi, mo, mv⟩ : Msg) : Span).cells))) := by
 refine Fc.go [.cell 2 45] Tryz.func152 Tryz.ntmps152 rfl (fun w0 => (g9 2 ?_))
 refine W.box (L := [iV _, iV _, sV _, sV _, .bool _, sV _]) rfl rfl (fun b11 => (W.alloc zr45 (fun b12 => (g9 10 ?_))))
 refine WC.cd (fun h5 p5 => ?_) (fun h5 p5 => ?_)
 ·refine g9 8 ?_
  refine W.ok (ok_build (L := [sV _, sV _, .bool _]) pl45 zr45 rfl rfl rfl) (g9 6 ?_)
  refine congrArg (fun l => Value.agg (List.toArray l)) ?_
  rw [Msg.span, if_pos p5]; rfl
 refine g9 6 ?_
 refine W.qcall (point_fc _ (by first | assumption | omega | (dsimp only; omega))) rfl (g9 5 ?_)
 refine congrArg (fun l => Value.agg (List.toArray l)) ?_
 rw [Msg.span, if_neg p5] <;> simp [Span.cells, Str.next_b hk, setAt]

theorem rspan_fc {G : GH} (ms : Int) (mk : Int) (mkey : Str) (mhi : Str) (mo : Bool) (mv : Str) (hk : mkey.b.size < 140737488355328) :
    Fc Tryz.prog 84 [.agg #[iV ms, iV mk, sV mkey.b, sV mhi.b, .bool mo, sV mv.b]] G [] (fun v _ _ => v = .agg (List.toArray ((Msg.span (⟨ms, mk, mkey, mhi, mo, mv⟩ : Msg) : Span).cells))) := by
 refine Fc.go [.cell 2 45] Tryz.func84 Tryz.ntmps84 rfl (fun w0 => (g9 2 ?_))
 refine W.box (L := [iV _, iV _, sV _, sV _, .bool _, sV _]) rfl rfl (fun b13 => (W.alloc zr45 (fun b14 => (g9 10 ?_))))
 refine WC.cd (fun h5 p5 => ?_) (fun h5 p5 => ?_)
 ·refine g9 8 ?_
  refine W.ok (ok_build (L := [sV _, sV _, .bool _]) pl45 zr45 rfl rfl rfl) (g9 6 ?_)
  refine congrArg (fun l => Value.agg (List.toArray l)) ?_
  rw [Msg.span, if_pos p5]; rfl
 refine g9 8 ?_
 refine W.ok (ok_addS rfl rfl (by show _ + 1 ≤ _; omega)) (W.ok (ok_build (L := [sV _, sV _, .bool _]) pl45 zr45 rfl rfl rfl) (g9 5 ?_))
 refine congrArg (fun l => Value.agg (List.toArray l)) ?_
 rw [Msg.span, if_neg p5] <;> simp [Span.cells, Str.next_b hk, setAt]

theorem touch_fc {G : GH} (alo : Str) (ahi : Str) (ao : Bool) (blo : Str) (bhi : Str) (bo : Bool) :
    Fc Tryz.prog 159 [.agg #[sV alo.b, sV ahi.b, .bool ao], .agg #[sV blo.b, sV bhi.b, .bool bo]] G [] (fun v _ _ => v = .bool (!(Span.meet ⟨alo, ahi, ao⟩ ⟨blo, bhi, bo⟩).empty)) := by
 refine Fc.go [.tmp 4] Tryz.func159 Tryz.ntmps159 rfl (fun w0 => (g9 2 ?_))
 refine W.box (L := [sV _, sV _, .bool _]) rfl rfl (fun b15 => (W.box (L := [sV _, sV _, .bool _]) rfl rfl (fun b16 => (g9 7 ?_))))
 refine W.qcall (smeet_fc _ _ _ _ _ _) rfl (W.qcall (spanempty_fc _ _ _) rfl (g9 6 ?_))
 rfl

theorem touches_fc {G : GH} (ms : Int) (mk : Int) (mkey : Str) (mhi : Str) (mo : Bool) (mv : Str) (alo : Str) (ahi : Str) (ao : Bool) (hk : mkey.b.size < 140737488355328) :
    Fc Tryz.prog 150 [.agg #[iV ms, iV mk, sV mkey.b, sV mhi.b, .bool mo, sV mv.b], .agg #[sV alo.b, sV ahi.b, .bool ao]] G [] (fun v _ _ => v = .bool (!((Msg.span (⟨ms, mk, mkey, mhi, mo, mv⟩ : Msg)).meet ⟨alo, ahi, ao⟩).empty)) := by
 refine Fc.go [.tmp 4] Tryz.func150 Tryz.ntmps150 rfl (fun w0 => (g9 2 ?_))
 refine W.box (L := [iV _, iV _, sV _, sV _, .bool _, sV _]) rfl rfl (fun b17 => (W.box (L := [sV _, sV _, .bool _]) rfl rfl (fun b18 => (g9 6 ?_))))
 refine W.qcall (mspan_fc _ _ _ _ _ _ (by first | assumption | omega | (dsimp only; omega))) rfl (g9 1 ?_)
 refine W.qcall (touch_fc _ _ _ _ _ _) rfl (g9 5 ?_)
 rfl

theorem msize_fc {G : GH} (ms : Int) (mk : Int) (mkey : Str) (mhi : Str) (mo : Bool) (mv : Str) :
    Fc Tryz.prog 129 [.agg #[iV ms, iV mk, sV mkey.b, sV mhi.b, .bool mo, sV mv.b]] G [] (fun v _ _ => v = iV (Msg.size (⟨ms, mk, mkey, mhi, mo, mv⟩ : Msg))) := by
 have h1 := mkey.le
 have h2 := mv.le
 refine Fc.go [.tmp 2] Tryz.func129 Tryz.ntmps129 rfl (fun w0 => (g9 2 ?_))
 refine W.box (L := [iV _, iV _, sV _, sV _, .bool _, sV _]) rfl rfl (fun b19 => (g9 11 ?_))
 refine WC.cd (fun h5 p5 => ?_) (fun h5 p5 => ?_)
 ·refine g9 8 ?_
  refine congrArg (Value.int .i64) ?_
  rw [Msg.size, if_pos p5]
 refine g9 17 ?_
 refine congrArg (Value.int .i64) ?_
 rw [Msg.size, if_neg p5]

theorem rclip_fc {G : GH} (ms : Int) (mk : Int) (mkey : Str) (mhi : Str) (mo : Bool) (mv : Str) (alo : Str) (ahi : Str) (ao : Bool) (hk : mkey.b.size < 140737488355328) :
    Fc Tryz.prog 69 [.agg #[iV ms, iV mk, sV mkey.b, sV mhi.b, .bool mo, sV mv.b], .agg #[sV alo.b, sV ahi.b, .bool ao]] G [] (fun v _ _ => v = .tuple #[.agg (List.toArray ((Msg.clip (⟨ms, mk, mkey, mhi, mo, mv⟩ : Msg) ⟨alo, ahi, ao⟩).1.cells)), .bool ((Msg.clip (⟨ms, mk, mkey, mhi, mo, mv⟩ : Msg) ⟨alo, ahi, ao⟩).2)]) := by
 refine Fc.go [.cell 4 118, .tmp 5] Tryz.func69 Tryz.ntmps69 rfl (fun w0 => (g9 2 ?_))
 refine W.box (L := [iV _, iV _, sV _, sV _, .bool _, sV _]) rfl rfl (fun b20 => (W.box (L := [sV _, sV _, .bool _]) rfl rfl (fun b21 => (W.alloc zr118 (fun b22 => (g9 4 ?_))))))
 refine WC.dw ((sr9.k9.k9).k9) (d9 [0, 2] ?_)
 refine WD.any [1, 4] (by kernel_rfl) rfl ⟨WD.ap ?_, WD.ap ?_, trivial⟩
 ·refine W.qcall (rspan_fc _ _ _ _ _ _ (by first | assumption | omega | (dsimp only; omega))) rfl (W.nn ?_)
  refine WD.any [3, 4] (by kernel_rfl) rfl ⟨WD.ap ?_, WD.ap ?_, trivial⟩
  ·refine W.qcall (rmeet_fc _ _ _ _ _ _) rfl (W.nn (WD.a1 4 rfl (W.alloc zr45 (fun b23 => (W.nn (d9 [5] ?_))))))
   refine g9 6 ?_
   refine W.qcall (empty_fc _ _ _) rfl (g9 2 ?_)
   refine WC.cond rfl (fun h12 => ?_) (fun h12 => ?_)
   ·refine g9 2 ?_
    refine W.ok (ok_build (L := [iV _, iV _, sV _, sV _, .bool _, sV _]) pl118 zr118 rfl rfl rfl) (g9 7 ?_)
    show Value.tuple #[Value.agg (List.toArray [_, _, _, _, _, _]), Value.bool _] = _
    rw [clip_e h12]; rfl
   refine g9 10 ?_
   refine WC.cd (fun h16 p16 => ?_) (fun h16 p16 => ?_)
   ·refine g9 32 ?_
    show Value.tuple #[Value.agg (List.toArray [_, _, _, _, _, _]), Value.bool _] = _
    rw [clip_4 h12 p16]; rfl
   refine g9 11 ?_
   show Value.tuple #[Value.agg (List.toArray [_, _, _, _, _, _]), Value.bool _] = _
   rw [clip_n h12 p16]; rfl
  refine W.alloc zr45 (fun b24 => (W.nn (WD.a1 3 rfl (W.qcall (rmeet_fc _ _ _ _ _ _) rfl (W.nn (d9 [5] ?_))))))
  refine g9 6 ?_
  refine W.qcall (empty_fc _ _ _) rfl (g9 2 ?_)
  refine WC.cond rfl (fun h12 => ?_) (fun h12 => ?_)
  ·refine g9 2 ?_
   refine W.ok (ok_build (L := [iV _, iV _, sV _, sV _, .bool _, sV _]) pl118 zr118 rfl rfl rfl) (g9 7 ?_)
   show Value.tuple #[Value.agg (List.toArray [_, _, _, _, _, _]), Value.bool _] = _
   rw [clip_e h12]; rfl
  refine g9 10 ?_
  refine WC.cd (fun h16 p16 => ?_) (fun h16 p16 => ?_)
  ·refine g9 32 ?_
   show Value.tuple #[Value.agg (List.toArray [_, _, _, _, _, _]), Value.bool _] = _
   rw [clip_4 h12 p16]; rfl
  refine g9 11 ?_
  show Value.tuple #[Value.agg (List.toArray [_, _, _, _, _, _]), Value.bool _] = _
  rw [clip_n h12 p16]; rfl
 refine W.alloc zr45 (fun b25 => (W.nn (WD.a1 1 rfl (W.qcall (rspan_fc _ _ _ _ _ _ (by first | assumption | omega | (dsimp only; omega))) rfl (W.nn (WD.a1 3 rfl (W.qcall (rmeet_fc _ _ _ _ _ _) rfl (W.nn (d9 [5] ?_)))))))))
 refine g9 6 ?_
 refine W.qcall (empty_fc _ _ _) rfl (g9 2 ?_)
 refine WC.cond rfl (fun h12 => ?_) (fun h12 => ?_)
 ·refine g9 2 ?_
  refine W.ok (ok_build (L := [iV _, iV _, sV _, sV _, .bool _, sV _]) pl118 zr118 rfl rfl rfl) (g9 7 ?_)
  show Value.tuple #[Value.agg (List.toArray [_, _, _, _, _, _]), Value.bool _] = _
  rw [clip_e h12]; rfl
 refine g9 10 ?_
 refine WC.cd (fun h16 p16 => ?_) (fun h16 p16 => ?_)
 ·refine g9 32 ?_
  show Value.tuple #[Value.agg (List.toArray [_, _, _, _, _, _]), Value.bool _] = _
  rw [clip_4 h12 p16]; rfl
 refine g9 11 ?_
 show Value.tuple #[Value.agg (List.toArray [_, _, _, _, _, _]), Value.bool _] = _
 rw [clip_n h12 p16]; rfl

theorem mclip_fc {G : GH} (ms : Int) (mk : Int) (mkey : Str) (mhi : Str) (mo : Bool) (mv : Str) (alo : Str) (ahi : Str) (ao : Bool) (hk : mkey.b.size < 140737488355328) :
    Fc Tryz.prog 139 [.agg #[iV ms, iV mk, sV mkey.b, sV mhi.b, .bool mo, sV mv.b], .agg #[sV alo.b, sV ahi.b, .bool ao]] G [] (fun v _ _ => v = .tuple #[.agg (List.toArray ((Msg.clip (⟨ms, mk, mkey, mhi, mo, mv⟩ : Msg) ⟨alo, ahi, ao⟩).1.cells)), .bool ((Msg.clip (⟨ms, mk, mkey, mhi, mo, mv⟩ : Msg) ⟨alo, ahi, ao⟩).2)]) := by
 refine Fc.go [.cell 4 118, .tmp 5] Tryz.func139 Tryz.ntmps139 rfl (fun w0 => (g9 2 ?_))
 refine W.box (L := [iV _, iV _, sV _, sV _, .bool _, sV _]) rfl rfl (fun b26 => (W.box (L := [sV _, sV _, .bool _]) rfl rfl (fun b27 => (W.alloc zr118 (fun b28 => (g9 8 ?_))))))
 refine W.qcall (touches_fc _ _ _ _ _ _ _ _ _ (by first | assumption | omega | (dsimp only; omega))) rfl (g9 3 ?_)
 refine WC.cond rfl (fun h10 => ?_) (fun h10 => ?_)
 ·refine g9 2 ?_
  refine W.ok (ok_build (L := [iV _, iV _, sV _, sV _, .bool _, sV _]) pl118 zr118 rfl rfl rfl) (g9 7 ?_)
  show Value.tuple #[Value.agg (List.toArray [_, _, _, _, _, _]), Value.bool _] = _
  rw [clip_e (by simpa using h10)]; rfl
 refine g9 10 ?_
 refine WC.cd (fun h14 p14 => ?_) (fun h14 p14 => ?_)
 ·refine WC.seq (WC.dw ((sr9.k9.k9).k9) (d9 [0, 2] ?_))
  refine WD.any [1, 4] (by kernel_rfl) rfl ⟨WD.ap ?_, WD.ap ?_, trivial⟩
  ·refine W.qcall (mspan_fc _ _ _ _ _ _ (by first | assumption | omega | (dsimp only; omega))) rfl (W.nn ?_)
   refine WD.any [3, 4] (by kernel_rfl) rfl ⟨WD.ap ?_, WD.ap ?_, trivial⟩
   ·refine W.qcall (smeet_fc _ _ _ _ _ _) rfl (W.nn (WD.a1 4 rfl (W.alloc zr45 (fun b29 => (W.nn (d9 [5] ?_))))))
    refine g9 2 ?_
    refine WC.dw ((((sr9.cons _).k9).k9).k9) (d9 [0, 1, 2, 3, 4, 5, 6, 7, 8, 9, 10, 11] ?_)
    refine g9 11 ?_
    show Value.tuple #[Value.agg (List.toArray [_, _, _, _, _, _]), Value.bool _] = _
    rw [clip_4 (by simpa using h10) p14]; rfl
   refine W.alloc zr45 (fun b30 => (W.nn (WD.a1 3 rfl (W.qcall (smeet_fc _ _ _ _ _ _) rfl (W.nn (d9 [5] ?_))))))
   refine g9 2 ?_
   refine WC.dw ((((sr9.cons _).k9).k9).k9) (d9 [0, 1, 2, 3, 4, 5, 6, 7, 8, 9, 10, 11] ?_)
   refine g9 11 ?_
   show Value.tuple #[Value.agg (List.toArray [_, _, _, _, _, _]), Value.bool _] = _
   rw [clip_4 (by simpa using h10) p14]; rfl
  refine W.alloc zr45 (fun b31 => (W.nn (WD.a1 1 rfl (W.qcall (mspan_fc _ _ _ _ _ _ (by first | assumption | omega | (dsimp only; omega))) rfl (W.nn (WD.a1 3 rfl (W.qcall (smeet_fc _ _ _ _ _ _) rfl (W.nn (d9 [5] ?_)))))))))
  refine g9 2 ?_
  refine WC.dw ((((sr9.cons _).k9).k9).k9) (d9 [0, 1, 2, 3, 4, 5, 6, 7, 8, 9, 10, 11] ?_)
  refine g9 11 ?_
  show Value.tuple #[Value.agg (List.toArray [_, _, _, _, _, _]), Value.bool _] = _
  rw [clip_4 (by simpa using h10) p14]; rfl
 refine g9 11 ?_
 show Value.tuple #[Value.agg (List.toArray [_, _, _, _, _, _]), Value.bool _] = _
 rw [clip_n (by simpa using h10) p14]; rfl

end Go.Proofs.YtgmnljhiojdigaaGreat
