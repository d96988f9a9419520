/- A sound tree behind messages that are moved on is sound, and stands for the same map. Plain Lean; nothing of the program is named here. No condition. -/
import Derived.Test.YtcngningbcaggaaQkOl
import Derived.Test.YtcngningbcaggaaQkNx
set_option linter.unusedVariables false
set_option linter.unusedSimpArgs false
set_option linter.unnecessarySimpa false

namespace Go.Fw
open Go Go.RowKit
structure PourOf (c : Cfg) (l : List Nd) (ss : List Seat) (P : Seat) (i : Nat) (a b : Nd) (T : List Msg) : Prop where
 t : Tree c l ss
 mem : P ∈ ss
 h0 : ¬ P.n.level = 0
 hi : i < P.n.kids.length
 po : Poured c P.n (kidSt l P i).n i a b T
def pourL (l : List Nd) (a b : Nd) : List Nd := (l.set a.slot.toNat a).set b.slot.toNat b
namespace PourOf
variable {c : Cfg} {l : List Nd} {ss : List Seat} {P : Seat} {i : Nat} {a b : Nd} {T : List Msg}
theorem km (p : PourOf c l ss P i a b T) : kidSt l P i ∈ ss ∧ (kidSt l P i).n.level = P.n.level - 1 := by
 have := p.t.at p.mem p.h0 p.hi
 exact ⟨this.1, this.2.2.2⟩
theorem ne (p : PourOf c l ss P i a b T) {x y : Seat} (hx : x ∈ ss) (hy : y ∈ ss) (hl : x.n.level ≠ y.n.level) : x.n.slot ≠ y.n.slot := fun e => hl (by rw [p.t.uniq hx hy e])
theorem ksl (p : PourOf c l ss P i a b T) : (kidSt l P i).n.slot ≠ P.n.slot := p.ne p.km.1 p.mem (by have := p.km.2; omega)
theorem sin (p : PourOf c l ss P i a b T) {x : Seat} (hx : x ∈ ss) : 0 ≤ x.n.slot ∧ x.n.slot < l.length := (p.t.nd hx).1
theorem lseen (p : PourOf c l ss P i a b T) {x : Seat} (hx : x ∈ ss) : x.n.seen ≤ 1099511627776 := by
 obtain ⟨j, hj, e⟩ := List.getElem_of_mem (p.t.nd hx).2.2
 rw [← e]; exact (p.t.slot j hj).2
theorem al (p : PourOf c l ss P i a b T) : a.slot = P.n.slot ∧ a.level = P.n.level ∧ a.pivots = P.n.pivots ∧ a.kids = P.n.kids ∧ a.high = P.n.high ∧ a.top = P.n.top ∧ a.right = P.n.right ∧ a.seen = P.n.seen ∧ a.rows = P.n.rows ∧ a.msgs = restN P.n.pivots i T P.n.msgs := by
 rw [p.po.ea]; exact ⟨rfl, rfl, rfl, rfl, rfl, rfl, rfl, rfl, rfl, rfl⟩
theorem bl (p : PourOf c l ss P i a b T) : b.slot = (kidSt l P i).n.slot ∧ b.level = (kidSt l P i).n.level ∧ b.pivots = (kidSt l P i).n.pivots ∧ b.kids = (kidSt l P i).n.kids ∧ b.high = (kidSt l P i).n.high ∧ b.top = (kidSt l P i).n.top ∧ b.right = (kidSt l P i).n.right := by
 rw [p.po.eb]; exact ⟨rfl, rfl, rfl, rfl, rfl, rfl, rfl⟩
theorem rt (p : PourOf c l ss P i a b T) : rising P.n.pivots = true ∧ P.n.kids.length = P.n.pivots.length + 1 := rightN_spec (kids_all (p.t.kids p.mem) p.h0).2.2.1
theorem pin (p : PourOf c l ss P i a b T) : P.n.innerR c.fan c.bud := p.t.inner p.mem p.h0
theorem kne (p : PourOf c l ss P i a b T) : (kidSt l P i).s.empty = false := by
 cases h : (kidSt l P i).s.empty
 ·rfl
 ·exfalso
  have hz : (kidSt l P i).s = Span.zero := by
   have := meet_norm P.s (rangeN P.n.pivots (i : Int))
   have e : (kidSt l P i).s = (kidSt l P i).s.norm := this.symm
   rw [e]; unfold Span.norm; rw [if_pos h]
  have sK := p.t.seat p.km.1
  obtain ⟨⟨p1, p2⟩, _⟩ := sK.2.1
  rw [hz] at p1 p2
  exact (sK.1.2.2.1 p1).1 p2
theorem sps (p : PourOf c l ss P i a b T) : (kidS P.n i).opn = (kidSt l P i).s.opn ∧ (kidS P.n i).hi = (kidSt l P i).s.hi ∧ ∀ q, (kidSt l P i).s.has q = true → (kidS P.n i).has q = true := by
 have hne := p.kne
 obtain ⟨⟨p1, p2⟩, _⟩ := (p.t.seat p.mem).2.1
 have hP : ∀ q, P.s.has q = (P.n.has q && !q.lt P.s.lo) := fun q => by
  unfold Nd.has Span.has
  rw [p1, p2, Bool.and_comm]
 have hA : ∀ q, (kidSt l P i).s.has q = ((kidS P.n i).has q && !q.lt P.s.lo) := fun q => by
  show (P.s.meet (rangeN P.n.pivots (i : Int))).has q = _
  rw [meet_has, kidS_has, hP]
  cases P.n.has q <;> cases (rangeN P.n.pivots (i : Int)).has q <;> simp
 have hlo : (kidSt l P i).s.has (kidSt l P i).s.lo = true := by have := Span.empty_eq (kidSt l P i).s; rw [hne] at this; simpa using this
 have hlo2 : (kidS P.n i).has (kidSt l P i).s.lo = true := by rw [hA, Bool.and_eq_true] at hlo; exact hlo.1
 have e := right_span (s := kidS P.n i) (a := (kidSt l P i).s) (k := (kidSt l P i).s.lo) (meet_norm _ _) (meet_norm _ _) hlo2 fun q => by
  cases h1 : (kidSt l P i).s.has q
  ·symm
   cases h2 : (kidS P.n i).has q
   ·rfl
   ·cases h3 : q.lt (kidSt l P i).s.lo
    ·exfalso
     have h4 := hlo
     rw [hA, Bool.and_eq_true] at h4
     have h5 : q.lt P.s.lo = false := Str.le_trans (by simpa using h4.2) h3
     rw [hA, h2, h5] at h1; cases h1
    ·rfl
  ·have h2 := h1
   rw [hA, Bool.and_eq_true] at h2
   rw [h2.1, (span_has.1 h1).1]; rfl
 exact ⟨by rw [e], by rw [e], fun q hq => by rw [hA, Bool.and_eq_true] at hq; exact hq.1⟩
theorem mspan (p : PourOf c l ss P i a b T) : ∀ m ∈ P.n.msgs, ∀ q, m.span.has q = true → P.s.has q = true := fun m hm q hq => by
 obtain ⟨_, _, _, p5⟩ := (p.t.seat p.mem).2.1
 obtain ⟨j, hj, rfl⟩ := List.getElem_of_mem hm
 have := congrArg (fun s : Span => s.has q) (p5 j hj)
 rw [meet_has, norm_has, hq, Bool.true_and] at this
 exact this
theorem khas (p : PourOf c l ss P i a b T) (q : Str) : (kidSt l P i).s.has q = (P.s.has q && (rangeN P.n.pivots (i : Int)).has q) := by
 show (P.s.meet (rangeN P.n.pivots (i : Int))).has q = _
 rw [meet_has]
theorem mv (p : PourOf c l ss P i a b T) : Moved P.n.pivots i P.n.msgs T := by
 obtain ⟨n, _, _, rfl⟩ := p.po.take
 exact moved_of p.rt.1 (by have := p.rt.2; have := p.hi; omega) p.pin.2.2.1 n
theorem hcl (p : PourOf c l ss P i a b T) : clips (kidSt l P i).s P.n.msgs = T ++ clips (kidSt l P i).s a.msgs := by
 rw [p.al.2.2.2.2.2.2.2.2.2]
 refine p.mv.clips_in p.rt.1 (by have := p.rt.2; have := p.hi; omega) p.pin.2.2.1 (fun q hq => ?_) fun m hm q h1 h2 => ?_
 ·rw [p.khas, Bool.and_eq_true] at hq; exact hq.2
 ·rw [p.khas, p.mspan m hm q h1, h2]; rfl
theorem hout (p : PourOf c l ss P i a b T) {t : Span} (ht : ∀ k, t.has k = true → (rangeN P.n.pivots (i : Int)).has k = false) : clips t a.msgs = clips t P.n.msgs := by
 rw [p.al.2.2.2.2.2.2.2.2.2]
 exact p.mv.clips_out p.rt.1 (by have := p.rt.2; have := p.hi; omega) p.pin.2.2.1 ht
theorem may (p : PourOf c l ss P i a b T) : MayP c P.n (kidSt l P i).n i := by
 have sK := p.t.seat p.km.1
 obtain ⟨⟨p1, p2⟩, _⟩ := sK.2.1
 have hl := p.t.lvl p.mem
 have h0 := p.h0
 have hi := p.hi
 obtain ⟨s1, s2, s3⟩ := p.sps
 refine ⟨⟨(p.t.seat p.mem).1, sK.1, om9, p.km.2, om9, om9⟩, ⟨by rw [s1]; exact p1, by rw [s2]; exact p2⟩, fun j hj he => ?_⟩
 have hm := List.getElem_mem hj
 have hsame : (P.n.msgs[j].span.meet (kidSt l P i).s).empty = false := by
  cases h1 : (P.n.msgs[j].span.meet (kidSt l P i).s).empty
  ·rfl
  ·have h2 : (P.n.msgs[j].span.meet (kidS P.n i)).empty = true := empty_iff.2 fun q => by
    have h3 := empty_iff.1 h1 q
    rw [meet_has] at h3 ⊢
    cases h4 : P.n.msgs[j].span.has q
    ·rfl
    ·rw [h4, Bool.true_and] at h3
     rw [Bool.true_and]
     cases h5 : (kidS P.n i).has q
     ·rfl
     ·rw [kidS_has, Bool.and_eq_true] at h5
      rw [p.khas, p.mspan _ hm q h4, h5.2] at h3; cases h3
   rw [h2] at he; cases he
 have hc : (P.n.msgs[j].clip (kidSt l P i).s).2 = true := by
  cases h1 : (P.n.msgs[j].clip (kidSt l P i).s).2
  ·rw [clip_no.1 h1] at hsame; cases hsame
  ·rfl
 have hmem : (P.n.msgs[j].clip (kidSt l P i).s).1 ∈ (kidSt l P i).ms := by
  rw [(p.t.kid_ms p.mem (p.t.rst P p.mem) i).1]
  exact List.mem_append_left _ (List.mem_filterMap.2 ⟨_, hm, if_pos hc⟩)
 obtain ⟨q, hq, e⟩ := List.getElem_of_mem hmem
 have := sK.2.2.2 q hq
 rw [e, clip_stamp hc] at this
 exact this
noncomputable def nP (P : Seat) (a : Nd) : Seat := ⟨a, P.s, P.ms⟩
noncomputable def nK (l : List Nd) (P : Seat) (i : Nat) (a b : Nd) : Seat := ⟨b, (kidSt l P i).s, clips (kidSt l P i).s a.msgs ++ clips (kidSt l P i).s P.ms⟩
noncomputable def gP (l : List Nd) (P : Seat) (i : Nat) (a b : Nd) (x : Seat) : Seat := if x.n.slot = (kidSt l P i).n.slot then nK l P i a b else if x.n.slot = P.n.slot then nP P a else x
theorem g_k : gP l P i a b (kidSt l P i) = nK l P i a b := if_pos rfl
theorem g_p (p : PourOf c l ss P i a b T) : gP l P i a b P = nP P a := by unfold gP; rw [if_neg p.ksl.symm, if_pos rfl]
theorem g_x {x : Seat} (h1 : x.n.slot ≠ P.n.slot) (h2 : x.n.slot ≠ (kidSt l P i).n.slot) : gP l P i a b x = x := by unfold gP; rw [if_neg h2, if_neg h1]
theorem three (p : PourOf c l ss P i a b T) {Q : Seat → Prop} (hk : Q (kidSt l P i)) (hp : Q P) (hx : ∀ x ∈ ss, x.n.slot ≠ P.n.slot → x.n.slot ≠ (kidSt l P i).n.slot → Q x) : ∀ x ∈ ss, Q x := fun x hm => by
 by_cases c1 : x.n.slot = (kidSt l P i).n.slot
 ·rw [p.t.uniq hm p.km.1 c1]; exact hk
 ·by_cases c2 : x.n.slot = P.n.slot
  ·rw [p.t.uniq hm p.mem c2]; exact hp
  ·exact hx x hm c2 c1
theorem g_same (p : PourOf c l ss P i a b T) : ∀ x ∈ ss, (gP l P i a b x).n.slot = x.n.slot ∧ (gP l P i a b x).n.level = x.n.level ∧ (gP l P i a b x).n.right = x.n.right ∧ (gP l P i a b x).n.pivots = x.n.pivots ∧ (gP l P i a b x).n.kids = x.n.kids ∧ (gP l P i a b x).s = x.s := by
 obtain ⟨a1, a2, a3, a4, a5, a6, a7, _⟩ := p.al
 obtain ⟨b1, b2, b3, b4, b5, b6, b7⟩ := p.bl
 refine p.three ?_ ?_ fun x hx h1 h2 => ?_
 ·rw [g_k]; exact ⟨b1, b2, b7, b3, b4, rfl⟩
 ·rw [p.g_p]; exact ⟨a1, a2, a7, a3, a4, rfl⟩
 ·rw [g_x h1 h2]; exact ⟨rfl, rfl, rfl, rfl, rfl, rfl⟩
theorem slots (p : PourOf c l ss P i a b T) : SlotsP (pourL l a b) := by
 have hk := p.sin p.km.1
 have hp := p.sin p.mem
 have tk := takes_of p.may p.po
 obtain ⟨⟨xl, hxl, exl⟩, _⟩ := last_of tk.rst p.po.ne
 have h1 := slots_set p.t.slot (x := a) (by rw [p.al.1]; exact hp) (by rw [p.al.2.2.2.2.2.2.2.1]; exact p.lseen p.mem)
 refine slots_set h1 (x := b) (by rw [List.length_set, p.bl.1]; exact hk) ?_
 rw [p.po.seen, exl]
 have hm : xl ∈ clips (kidSt l P i).s P.n.msgs := by rw [p.hcl]; exact List.mem_append_left _ hxl
 obtain ⟨m, hm, e⟩ := clips_stamp hm
 obtain ⟨j, hj, rfl⟩ := List.getElem_of_mem hm
 have := (p.pin.2.2.2.2.2.2 j hj).1
 have := p.lseen p.mem
 omega
theorem len (p : PourOf c l ss P i a b T) : (pourL l a b).length = l.length := by unfold pourL; rw [List.length_set, List.length_set]
theorem find (p : PourOf c l ss P i a b T) (s : Int) : findN (pourL l a b) s = (if s = (kidSt l P i).n.slot then b else if s = P.n.slot then a else getL l s, decide (0 ≤ s ∧ s < (l.length : Int))) := by
 have hk := p.sin p.km.1
 have hp := p.sin p.mem
 rw [find_eq p.slots, p.len]
 congr 1
 unfold pourL
 rw [getL_set (by rw [List.length_set, p.bl.1]; exact hk), p.bl.1, getL_set (by rw [p.al.1]; exact hp), p.al.1]
theorem find_g (p : PourOf c l ss P i a b T) {x : Seat} (hx : x ∈ ss) : findN (pourL l a b) x.n.slot = ((gP l P i a b x).n, true) := by
 have hs := p.sin hx
 rw [p.find, decide_eq_true ⟨hs.1, hs.2⟩]
 congr 1
 revert hs
 refine p.three (Q := fun x => 0 ≤ x.n.slot ∧ x.n.slot < (l.length : Int) → (if x.n.slot = (kidSt l P i).n.slot then b else if x.n.slot = P.n.slot then a else getL l x.n.slot) = (gP l P i a b x).n) (fun hs => ?_) (fun hs => ?_) (fun x hx h1 h2 hs => ?_) x hx
 ·rw [if_pos rfl, g_k]; rfl
 ·rw [if_neg p.ksl.symm, if_pos rfl, p.g_p]; rfl
 ·rw [if_neg h2, if_neg h1, g_x h1 h2]; exact (p.t.nd hx).2.1.symm
theorem slot_at (p : PourOf c l ss P i a b T) {x : Seat} (hx : x ∈ ss) (h0 : ¬ x.n.level = 0) {j : Nat} (hj : j < x.n.kids.length) : x.n.kids.getD j 0 = (kidSt l x j).n.slot := by
 have e := (p.t.at hx h0 hj)
 rw [List.getD_eq_getElem?_getD, List.getElem?_eq_getElem hj, e.2.2.1, (getL_slot p.t.slot e.2.1).1]; rfl
theorem kms (p : PourOf c l ss P i a b T) : (kidSt l P i).ms = T ++ (clips (kidSt l P i).s a.msgs ++ clips (kidSt l P i).s P.ms) := by
 rw [(p.t.kid_ms p.mem (p.t.rst P p.mem) i).1, p.hcl, List.append_assoc]
theorem kid_g (p : PourOf c l ss P i a b T) {x : Seat} (hx : x ∈ ss) (h0 : ¬ x.n.level = 0) {j : Nat} (hj : j < x.n.kids.length) : kidSt (pourL l a b) (gP l P i a b x) j = gP l P i a b (kidSt l x j) := by
 have hy := (p.t.at hx h0 hj).1
 obtain ⟨s1, s2, s3, s4, s5, s6⟩ := p.g_same x hx
 obtain ⟨y1, y2, y3, y4, y5, y6⟩ := p.g_same _ hy
 have en : (kidSt (pourL l a b) (gP l P i a b x) j).n = (gP l P i a b (kidSt l x j)).n := by
  show (findN _ ((gP l P i a b x).n.kids.getD j 0)).1 = _
  rw [s5, p.slot_at hx h0 hj, p.find_g hy]
 have es : (kidSt (pourL l a b) (gP l P i a b x) j).s = (kidSt l x j).s := by
  show (gP l P i a b x).s.meet (rangeN (gP l P i a b x).n.pivots (j : Int)) = _
  rw [s4, s6]; rfl
 have em : mergeN [clips (kidSt l x j).s (gP l P i a b x).n.msgs, clips (kidSt l x j).s (gP l P i a b x).ms] = (gP l P i a b (kidSt l x j)).ms := by
  have old : mergeN [clips (kidSt l x j).s x.n.msgs, clips (kidSt l x j).s x.ms] = (kidSt l x j).ms := rfl
  by_cases c1 : x.n.slot = (kidSt l P i).n.slot
  ·have ex := p.t.uniq hx p.km.1 c1
   have n1 : (kidSt l x j).n.slot ≠ P.n.slot := p.ne hy p.mem (by have := (p.t.at hx h0 hj).2.2.2; have := p.km.2; rw [ex] at *; omega)
   have n2 : (kidSt l x j).n.slot ≠ (kidSt l P i).n.slot := p.ne hy p.km.1 (by have := (p.t.at hx h0 hj).2.2.2; rw [ex] at *; omega)
   rw [g_x n1 n2, ← old, ex, g_k]
   have hI := p.po.inner (by rw [← ex]; exact h0)
   show mergeN [clips _ b.msgs, clips _ (clips (kidSt l P i).s a.msgs ++ clips (kidSt l P i).s P.ms)] = _
   have h2 := (p.t.two p.km.1 (kidSt l (kidSt l P i) j).s)
   rw [h2.1]
   have h3 := h2.2
   have e1 : clips (kidSt l (kidSt l P i) j).s (kidSt l P i).ms = clips (kidSt l (kidSt l P i) j).s T ++ clips (kidSt l (kidSt l P i) j).s (clips (kidSt l P i).s a.msgs ++ clips (kidSt l P i).s P.ms) := by rw [p.kms]; exact clips_append _ _ _
   have e2 : clips (kidSt l (kidSt l P i) j).s b.msgs = clips (kidSt l (kidSt l P i) j).s (kidSt l P i).n.msgs ++ clips (kidSt l (kidSt l P i) j).s T := by rw [hI.2.1]; exact clips_append _ _ _
   rw [e1, ← List.append_assoc, ← e2] at h3 ⊢
   obtain ⟨r1, r2, r3⟩ := rst_app h3
   exact (merge_two r1 r2 r3).1
  ·by_cases c2 : x.n.slot = P.n.slot
   ·have ex := p.t.uniq hx p.mem c2
    subst ex
    rw [p.g_p]
    show mergeN [clips _ a.msgs, clips _ x.ms] = _
    by_cases e : j = i
    ·subst e
     rw [g_k]
     have h3 := (p.t.two p.mem (kidSt l x j).s).2
     rw [p.hcl, List.append_assoc] at h3
     obtain ⟨r1, r2, r3⟩ := rst_app (rst_app h3).2.1
     exact (merge_two r1 r2 r3).1
    ·have hne : (kidSt l x j).n.slot ≠ (kidSt l x i).n.slot := fun e2 => e (by
      have hkl := (kids_all (p.t.kids p.mem) p.h0)
      exact p.t.kid_nd p.mem (i := j) (j := i) (by rw [hkl.1, kidsF_len]; exact hj) (by rw [hkl.1, kidsF_len]; exact p.hi) (by rw [(p.t.kidsD_at p.mem p.h0).2, (p.t.kidsD_at p.mem p.h0).2]; exact e2))
     have n1 : (kidSt l x j).n.slot ≠ x.n.slot := p.ne hy hx (by have := (p.t.at hx h0 hj).2.2.2; omega)
     rw [g_x n1 hne, ← old, p.hout fun q hq => ?_]
     have h1 := kidSt_has (l := l) (kids_all (p.t.kids p.mem) p.h0).2.2.1 hj q
     rw [hq] at h1
     have h2 := h1.symm
     rw [Bool.and_eq_true, decide_eq_true_eq] at h2
     rw [range_has p.rt.1 q (by have := p.rt.2; have := p.hi; omega), decide_eq_false om9]
   ·rw [g_x c2 c1, old]
    have hin : kidSt l x j ∈ kidsD l x := by rw [(kids_all (p.t.kids hx) h0).1]; exact List.mem_map.2 ⟨j, List.mem_range.2 hj, rfl⟩
    have hkin : kidSt l P i ∈ kidsD l P := by rw [(kids_all (p.t.kids p.mem) p.h0).1]; exact List.mem_map.2 ⟨i, List.mem_range.2 p.hi, rfl⟩
    have n2 : (kidSt l x j).n.slot ≠ (kidSt l P i).n.slot := fun e => c2 (by rw [p.t.parent hx p.mem hin hkin e])
    by_cases c3 : (kidSt l x j).n.slot = P.n.slot
    ·rw [p.t.uniq hy p.mem c3, p.g_p]; rfl
    ·rw [g_x c3 n2]
 have e3 : (kidSt (pourL l a b) (gP l P i a b x) j).ms = mergeN [clips (kidSt (pourL l a b) (gP l P i a b x) j).s (gP l P i a b x).n.msgs, clips (kidSt (pourL l a b) (gP l P i a b x) j).s (gP l P i a b x).ms] := rfl
 rw [es, em] at e3
 cases hA : kidSt (pourL l a b) (gP l P i a b x) j
 cases hB : gP l P i a b (kidSt l x j)
 rw [hA] at en es e3
 rw [hB] at en e3 y6
 simp only at en es e3 y6
 rw [en, es, e3, y6]
theorem each (p : PourOf c l ss P i a b T) {x : Seat} (hx : x ∈ ss) : (kidsO (pourL l a b) (gP l P i a b x)).isSome = true ∧ kidsD (pourL l a b) (gP l P i a b x) = (kidsD l x).map (gP l P i a b) := by
 obtain ⟨s1, s2, s3, s4, s5, s6⟩ := p.g_same x hx
 by_cases h0 : x.n.level = 0
 ·rw [kidsO_0 (by rw [s2]; exact h0), kids_leaf (by rw [s2]; exact h0), kids_leaf h0]; exact ⟨rfl, rfl⟩
 ·obtain ⟨h1, h2, h3, h4⟩ := kids_all (p.t.kids hx) h0
  obtain ⟨g1, g2⟩ := kids_mk (l := pourL l a b) (x := gP l P i a b x) (by rw [s2]; exact h2) (by rw [s4, s5]; exact h3) fun j hj => by
   rw [s5] at hj
   have e := p.t.at hx h0 hj
   unfold kidOk
   rw [s5, p.slot_at hx h0 hj, p.find_g e.1]
   simp only [Bool.true_and, decide_eq_true_eq]
   rw [(p.g_same _ e.1).2.1, s2]; exact e.2.2.2
  refine ⟨g1, ?_⟩
  rw [g2, h1, s5]
  unfold kidsF
  rw [List.map_map]
  exact List.map_congr_left fun j hj => p.kid_g hx h0 (List.mem_range.1 hj)
theorem froot (p : PourOf c l ss P i a b T) : gP l P i a b (rootS l 0) = rootS (pourL l a b) 0 := by
 have e0 := p.t.root0
 have hkin : kidSt l P i ∈ kidsD l P := by rw [(kids_all (p.t.kids p.mem) p.h0).1]; exact List.mem_map.2 ⟨i, List.mem_range.2 p.hi, rfl⟩
 have n2 : (rootS l 0).n.slot ≠ (kidSt l P i).n.slot := (p.t.root_kid p.mem hkin).symm
 have hf := p.find_g p.t.root
 rw [e0] at hf
 by_cases c1 : (rootS l 0).n.slot = P.n.slot
 ·have eP := p.t.uniq p.t.root p.mem c1
  have : rootS (pourL l a b) 0 = ⟨(gP l P i a b (rootS l 0)).n, Span.all, []⟩ := by unfold rootS at hf ⊢; rw [hf]
  rw [this, eP, p.g_p, ← eP]; rfl
 ·rw [g_x c1 n2] at hf ⊢
  show (⟨(findN l 0).1, _, _⟩ : Seat) = ⟨(findN _ 0).1, _, _⟩
  rw [hf]; rfl
theorem flat_map {g : Seat → Seat} {K K' : Seat → List Seat} : ∀ {L : List Seat}, (∀ x ∈ L, K' (g x) = (K x).map g) → (L.map g).flatMap K' = (L.flatMap K).map g
 | [], _ => rfl
 | x :: L, h => by
  rw [List.map_cons, List.flatMap_cons, List.flatMap_cons, List.map_append, h x (by simp), flat_map fun z hz => h z (List.mem_cons_of_mem _ hz)]
theorem fix (p : PourOf c l ss P i a b T) : ss.map (gP l P i a b) = rootS (pourL l a b) 0 :: (ss.map (gP l P i a b)).flatMap (kidsD (pourL l a b)) := by
 rw [flat_map fun x hx => (p.each hx).2]
 conv => lhs; rw [p.t.fix]
 rw [List.map_cons, p.froot]
theorem keys (p : PourOf c l ss P i a b T) : (ss.map (gP l P i a b)).map Seat.key = ss.map Seat.key := by
 rw [List.map_map]
 refine List.map_congr_left fun x hx => ?_
 obtain ⟨s1, s2, s3, _⟩ := p.g_same x hx
 show ((gP l P i a b x).n.slot, (gP l P i a b x).n.level, (gP l P i a b x).n.right) = _
 rw [s1, s2, s3]; rfl
theorem perm (p : PourOf c l ss P i a b T) : ((ss.map (gP l P i a b)).map fun x : Seat => x.n.slot).Perm ((pourL l a b).map fun n : Nd => n.slot) := by
 have h1 : (ss.map (gP l P i a b)).map (fun x : Seat => x.n.slot) = ss.map (fun x : Seat => x.n.slot) := by
  rw [List.map_map]
  exact List.map_congr_left fun x hx => (p.g_same x hx).1
 rw [h1]
 have h4 : ((pourL l a b).map fun n : Nd => n.slot) = (l.map fun n : Nd => n.slot) := by rw [slots_range p.slots, slots_range p.t.slot, p.len]
 rw [h4]; exact p.t.perm_s
theorem tin (p : PourOf c l ss P i a b T) : ∀ m ∈ T, ∀ q, m.span.has q = true → (kidSt l P i).s.has q = true := fun m hm q hq => by
 have hmR := (MsgsR.iff.1 p.pin.2.2.1).1
 obtain ⟨x, hx, h1, rfl⟩ := clips_mem (show m ∈ clips (kidSt l P i).s P.n.msgs by rw [p.hcl]; exact List.mem_append_left _ hm)
 exact (clip_in (hmR x hx) h1 hq).2
theorem norm_of {m : Msg} {s : Span} (h : ∀ q, m.span.has q = true → s.has q = true) : m.span.meet s = m.span.norm := by
 rw [← meet_norm]
 exact norm_ext fun q => by
  rw [meet_has]
  cases hq : m.span.has q
  ·rfl
  ·rw [h q hq]; rfl
theorem seats9 (p : PourOf c l ss P i a b T) : ∀ x ∈ ss, SeatP c (gP l P i a b x) := by
 have hm := (pour_may p.may p.po).1
 have sK := p.t.seat p.km.1
 have sP := p.t.seat p.mem
 have tk := takes_of p.may p.po
 obtain ⟨⟨xl, hxl, exl⟩, _⟩ := last_of tk.rst p.po.ne
 obtain ⟨a1, a2, a3, a4, a5, a6, a7, a8, a9, a10⟩ := p.al
 obtain ⟨b1, b2, b3, b4, b5, b6, b7⟩ := p.bl
 have hpR := (MsgsR.iff.1 p.pin.2.2.1).1
 refine p.three ?_ ?_ fun x hx h1 h2 => ?_
 ·rw [g_k]
  refine ⟨hm.1.2.1, ⟨⟨by show b.top = _; rw [b6]; exact sK.2.1.1.1, by show b.high = _; rw [b5]; exact sK.2.1.1.2⟩, fun j hj => ?_, fun j hj => ?_, fun j hj => ?_⟩, by show b.slot < _; rw [b1]; exact sK.2.2.1, fun j hj => ?_⟩
  ·have hmem := List.getElem_mem hj
   have all : ∀ y ∈ b.rows, (kidSt l P i).s.has y.key = true := by
    have old : ∀ y ∈ (kidSt l P i).n.rows, (kidSt l P i).s.has y.key = true := fun y hy => by obtain ⟨q, hq, rfl⟩ := List.getElem_of_mem hy; exact sK.2.1.2.1 q hq
    by_cases h0 : (kidSt l P i).n.level = 0
    ·rw [(p.po.leaf h0).2.1]
     exact rows_in (p.t.leaf p.km.1 h0).2.2.1 tk.R old p.tin
    ·rw [(p.po.inner h0).1]; exact old
   exact all _ hmem
  ·have all : ∀ y ∈ b.pivots, (kidSt l P i).s.has y = true ∧ y ≠ (kidSt l P i).s.lo := fun y hy => by
    rw [b3] at hy
    obtain ⟨q, hq, rfl⟩ := List.getElem_of_mem hy
    exact sK.2.1.2.2.1 q hq
   exact all _ (List.getElem_mem hj)
  ·have old : ∀ y ∈ (kidSt l P i).n.msgs, y.span.meet (kidSt l P i).s = y.span.norm := fun y hy => by obtain ⟨q, hq, rfl⟩ := List.getElem_of_mem hy; exact sK.2.1.2.2.2 q hq
   have all : ∀ y ∈ b.msgs, y.span.meet (kidSt l P i).s = y.span.norm := fun y hy => by
    by_cases h0 : (kidSt l P i).n.level = 0
    ·rw [(p.po.leaf h0).1] at hy; exact old y hy
    ·rw [(p.po.inner h0).2.1] at hy
     rcases List.mem_append.1 hy with hy | hy
     ·exact old y hy
     ·exact norm_of (p.tin y hy)
   exact all _ (List.getElem_mem hj)
  ·show b.seen < _
   rw [p.po.seen, exl]
   have hr := p.t.rst _ p.km.1
   rw [p.kms] at hr
   exact (rst_app hr).2.2 xl hxl _ (List.getElem_mem hj)
 ·rw [p.g_p]
  refine ⟨hm.1.1, ⟨⟨by show a.top = _; rw [a6]; exact sP.2.1.1.1, by show a.high = _; rw [a5]; exact sP.2.1.1.2⟩, fun j hj => ?_, fun j hj => ?_, fun j hj => ?_⟩, by show a.slot < _; rw [a1]; exact sP.2.2.1, fun j hj => ?_⟩
  ·have all : ∀ y ∈ a.rows, P.s.has y.key = true := fun y hy => by
    rw [a9] at hy
    obtain ⟨q, hq, rfl⟩ := List.getElem_of_mem hy
    exact sP.2.1.2.1 q hq
   exact all _ (List.getElem_mem hj)
  ·have all : ∀ y ∈ a.pivots, P.s.has y = true ∧ y ≠ P.s.lo := fun y hy => by
    rw [a3] at hy
    obtain ⟨q, hq, rfl⟩ := List.getElem_of_mem hy
    exact sP.2.1.2.2.1 q hq
   exact all _ (List.getElem_mem hj)
  ·have all : ∀ y ∈ a.msgs, y.span.meet P.s = y.span.norm := fun y hy => by
    rw [a10] at hy
    obtain ⟨_, m, hm, _, h3⟩ := rest_R (nd_pivots sP.1) hpR hy
    exact norm_of fun q hq => p.mspan m hm q (h3 q hq)
   exact all _ (List.getElem_mem hj)
  ·show a.seen < _
   rw [a8]; exact sP.2.2.2 j hj
 ·rw [g_x h1 h2]; exact p.t.seat hx
theorem tree (p : PourOf c l ss P i a b T) : Tree c (pourL l a b) (ss.map (gP l P i a b)) := by
 have hsm := p.t.sml
 have hm := (pour_may p.may p.po).1
 refine tree_mk p.t.cfg (by rw [p.len]; exact p.t.pos) (sml_R p.t.cfg (by rw [p.len]; exact hsm.1) fun n hn => ?_) p.slots p.fix (fun z hz => ?_) p.perm ?_ (by rw [p.len]; exact p.t.q.1.2.2) fun z hz => ?_
 ·have old : ∀ n ∈ l, n.R c.fan c.leaf c.bud := fun n hn => by
   have := (p.t.perm.mem_iff).2 hn
   obtain ⟨x, hx, rfl⟩ := List.mem_map.1 this
   exact (p.t.seat hx).1
  unfold pourL at hn
  rcases List.mem_or_eq_of_mem_set hn with hn | rfl
  ·rcases List.mem_or_eq_of_mem_set hn with hn | rfl
   ·exact old n hn
   ·exact hm.1.1
  ·exact hm.1.2.1
 ·obtain ⟨x, hx, rfl⟩ := List.mem_map.1 hz
  exact (p.each hx).1
 ·rw [p.keys]; exact (linked_iff ss).1 p.t.q.1.2.1
 ·obtain ⟨x, hx, rfl⟩ := List.mem_map.1 hz
  exact p.seats9 x hx
theorem view (p : PourOf c l ss P i a b T) (h0 : (kidSt l P i).n.level = 0) : viewS (nK l P i a b) = viewS (kidSt l P i) := by
 have hR := p.t.rows p.km.1
 have tk := takes_of p.may p.po
 unfold viewS
 show foldN (b.rows.filter fun p => (kidSt l P i).s.has p.key) (clips (kidSt l P i).s (clips (kidSt l P i).s a.msgs ++ clips (kidSt l P i).s P.ms)) = _
 rw [(p.po.leaf h0).2.1, ← view_fold hR.srt fun m hm => by have := (tk.R m hm).1.2.1; omega]
 conv => rhs; rw [p.kms, clips_append]
 unfold foldN
 rw [List.foldl_append]
theorem map (p : PourOf c l ss P i a b T) : mapN (pourL l a b) = mapN l := by
 rw [mapN_t p.tree.sts, mapN_t p.t.sts]
 rw [show ss.map (gP l P i a b) = ss.flatMap fun x => [gP l P i a b x] from List.map_eq_flatMap]
 refine leaves_flat (p.three ?_ ?_ fun x hx h1 h2 => ?_)
 ·rw [g_k]
  by_cases h0 : (kidSt l P i).n.level = 0
  ·have h1 : (nK l P i a b).n.level = 0 := by show b.level = 0; rw [p.bl.2.1]; exact h0
   simp [leavesS, List.filter_cons, h0, h1, p.view h0]
  ·have h1 : ¬ (nK l P i a b).n.level = 0 := by show ¬ b.level = 0; rw [p.bl.2.1]; exact h0
   simp [leavesS, List.filter_cons, h0, h1]
 ·rw [p.g_p]
  have h0 := p.h0
  have h1 : ¬ (nP P a).n.level = 0 := by show ¬ a.level = 0; rw [p.al.2.1]; exact h0
  simp [leavesS, List.filter_cons, h0, h1]
 ·rw [g_x h1 h2]
end PourOf
end Go.Fw
