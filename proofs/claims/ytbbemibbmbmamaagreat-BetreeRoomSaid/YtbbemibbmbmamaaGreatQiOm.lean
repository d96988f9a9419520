/- A sound tree behind messages that are moved on is sound, and stands for the same map. Plain Lean; nothing of the program is named here. No condition. -/
import Derived.Test.YtbbemibbmbmamaaGreatQiVj
set_option linter.unusedVariables false
set_option linter.unusedSimpArgs false
set_option linter.unnecessarySimpa false
set_option maxRecDepth 100000
set_option maxHeartbeats 1600000

namespace Go.Fw
open Go Go.RowKit
structure PourOf (c : Cfg) (l : List Nd) (ss : List Seat) (P : Seat) (i : Nat) (a b : Nd) (T : List Msg) : Prop where
 t : Tree c l ss
 mem : P ∈ ss
 h0 : ¬ P.n.level = 0
 hi : i < P.n.kids.length
 po : Poured c P.n (Zb l P i).n i a b T
def ZP (l : List Nd) (a b : Nd) : List Nd := (l.set a.slot.toNat a).set b.slot.toNat b
namespace PourOf
variable {c : Cfg} {l : List Nd} {ss : List Seat} {P : Seat} {i : Nat} {a b : Nd} {T : List Msg}
theorem km (p : PourOf c l ss P i a b T) : Zb l P i ∈ ss ∧ (Zb l P i).n.level = P.n.level - 1 := by
 have := p.t.at p.mem p.h0 p.hi
 exact ⟨this.1, this.2.2.2⟩
theorem ne (p : PourOf c l ss P i a b T) {x y : Seat} (hx : x ∈ ss) (hy : y ∈ ss) (hl : x.n.level ≠ y.n.level) : x.n.slot ≠ y.n.slot := fun e => hl (by rw [p.t.uniq hx hy e])
theorem ksl (p : PourOf c l ss P i a b T) : (Zb l P i).n.slot ≠ P.n.slot := p.ne p.km.1 p.mem (by have := p.km.2; omega)
theorem sin (p : PourOf c l ss P i a b T) {x : Seat} (hx : x ∈ ss) : 0 ≤ x.n.slot ∧ x.n.slot < l.length := (p.t.nd hx).1
theorem lseen (p : PourOf c l ss P i a b T) {x : Seat} (hx : x ∈ ss) : x.n.seen ≤ 1099511627776 := by
 obtain ⟨j, hj, e⟩ := List.getElem_of_mem (p.t.nd hx).2.2
 rw [← e]; exact (p.t.slot j hj).2
theorem al (p : PourOf c l ss P i a b T) : a.slot = P.n.slot ∧ a.level = P.n.level ∧ a.pivots = P.n.pivots ∧ a.kids = P.n.kids ∧ a.high = P.n.high ∧ a.top = P.n.top ∧ a.right = P.n.right ∧ a.seen = P.n.seen ∧ a.rows = P.n.rows ∧ a.msgs = ZJ P.n.pivots i T P.n.msgs := by
 rw [p.po.ea]; exact ⟨rfl, rfl, rfl, rfl, rfl, rfl, rfl, rfl, rfl, rfl⟩
theorem bl (p : PourOf c l ss P i a b T) : b.slot = (Zb l P i).n.slot ∧ b.level = (Zb l P i).n.level ∧ b.pivots = (Zb l P i).n.pivots ∧ b.kids = (Zb l P i).n.kids ∧ b.high = (Zb l P i).n.high ∧ b.top = (Zb l P i).n.top ∧ b.right = (Zb l P i).n.right := by
 rw [p.po.eb]; exact ⟨rfl, rfl, rfl, rfl, rfl, rfl, rfl⟩
theorem rt (p : PourOf c l ss P i a b T) : ZX P.n.pivots = true ∧ P.n.kids.length = P.n.pivots.length + 1 := YR (Z8 (p.t.kids p.mem) p.h0).2.2.1
theorem pin (p : PourOf c l ss P i a b T) : P.n.innerR c.fan c.bud := p.t.inner p.mem p.h0
theorem kne (p : PourOf c l ss P i a b T) : (Zb l P i).s.empty = false := by
 cases h : (Zb l P i).s.empty
 ·rfl
 ·exfalso
  have hz : (Zb l P i).s = Span.zero := by
   have := XR P.s (Zf P.n.pivots (i : Int))
   have e : (Zb l P i).s = (Zb l P i).s.norm := this.symm
   rw [e]; unfold Span.norm; rw [if_pos h]
  have sK := p.t.seat p.km.1
  obtain ⟨⟨p1, p2⟩, _⟩ := sK.2.1
  rw [hz] at p1 p2
  exact (sK.1.2.2.1 p1).1 p2
theorem sps (p : PourOf c l ss P i a b T) : (YH P.n i).opn = (Zb l P i).s.opn ∧ (YH P.n i).hi = (Zb l P i).s.hi ∧ ∀ q, (Zb l P i).s.has q = true → (YH P.n i).has q = true := by
 have hne := p.kne
 obtain ⟨⟨p1, p2⟩, _⟩ := (p.t.seat p.mem).2.1
 have hP : ∀ q, P.s.has q = (P.n.has q && !q.lt P.s.lo) := fun q => by
  unfold Nd.has Span.has
  rw [p1, p2, Bool.and_comm]
 have hA : ∀ q, (Zb l P i).s.has q = ((YH P.n i).has q && !q.lt P.s.lo) := fun q => by
  show (P.s.meet (Zf P.n.pivots (i : Int))).has q = _
  rw [ZI, Zdo, hP]
  cases P.n.has q <;> cases (Zf P.n.pivots (i : Int)).has q <;> simp
 have hlo : (Zb l P i).s.has (Zb l P i).s.lo = true := by have := Span.empty_eq (Zb l P i).s; rw [hne] at this; simpa using this
 have hlo2 : (YH P.n i).has (Zb l P i).s.lo = true := by rw [hA, Bool.and_eq_true] at hlo; exact hlo.1
 have e := ZiP (s := YH P.n i) (a := (Zb l P i).s) (k := (Zb l P i).s.lo) (XR _ _) (XR _ _) hlo2 fun q => by
  cases h1 : (Zb l P i).s.has q
  ·symm
   cases h2 : (YH P.n i).has q
   ·rfl
   ·cases h3 : q.lt (Zb l P i).s.lo
    ·exfalso
     have h4 := hlo
     rw [hA, Bool.and_eq_true] at h4
     have h5 : q.lt P.s.lo = false := Str.le_trans (by simpa using h4.2) h3
     rw [hA, h2, h5] at h1; cases h1
    ·rfl
  ·have h2 := h1
   rw [hA, Bool.and_eq_true] at h2
   rw [h2.1, (Yi.1 h1).1]; rfl
 exact ⟨by rw [e], by rw [e], fun q hq => by rw [hA, Bool.and_eq_true] at hq; exact hq.1⟩
theorem mspan (p : PourOf c l ss P i a b T) : ∀ m ∈ P.n.msgs, ∀ q, m.span.has q = true → P.s.has q = true := fun m hm q hq => by
 obtain ⟨_, _, _, p5⟩ := (p.t.seat p.mem).2.1
 obtain ⟨j, hj, rfl⟩ := List.getElem_of_mem hm
 have := congrArg (fun s : Span => s.has q) (p5 j hj)
 rw [ZI, ZaA, hq, Bool.true_and] at this
 exact this
theorem khas (p : PourOf c l ss P i a b T) (q : Str) : (Zb l P i).s.has q = (P.s.has q && (Zf P.n.pivots (i : Int)).has q) := by
 show (P.s.meet (Zf P.n.pivots (i : Int))).has q = _
 rw [ZI]
theorem mv (p : PourOf c l ss P i a b T) : Moved P.n.pivots i P.n.msgs T := by
 obtain ⟨n, _, _, rfl⟩ := p.po.take
 exact ZiW p.rt.1 (by have := p.rt.2; have := p.hi; omega) p.pin.2.2.1 n
theorem hcl (p : PourOf c l ss P i a b T) : Zc (Zb l P i).s P.n.msgs = T ++ Zc (Zb l P i).s a.msgs := by
 rw [p.al.2.2.2.2.2.2.2.2.2]
 refine p.mv.clips_in p.rt.1 (by have := p.rt.2; have := p.hi; omega) p.pin.2.2.1 (fun q hq => ?_) fun m hm q h1 h2 => ?_
 ·rw [p.khas, Bool.and_eq_true] at hq; exact hq.2
 ·rw [p.khas, p.mspan m hm q h1, h2]; rfl
theorem hout (p : PourOf c l ss P i a b T) {t : Span} (ht : ∀ k, t.has k = true → (Zf P.n.pivots (i : Int)).has k = false) : Zc t a.msgs = Zc t P.n.msgs := by
 rw [p.al.2.2.2.2.2.2.2.2.2]
 exact p.mv.clips_out p.rt.1 (by have := p.rt.2; have := p.hi; omega) p.pin.2.2.1 ht
theorem may (p : PourOf c l ss P i a b T) : MayP c P.n (Zb l P i).n i := by
 have sK := p.t.seat p.km.1
 obtain ⟨⟨p1, p2⟩, _⟩ := sK.2.1
 have hl := p.t.lvl p.mem
 have h0 := p.h0
 have hi := p.hi
 obtain ⟨s1, s2, s3⟩ := p.sps
 refine ⟨⟨(p.t.seat p.mem).1, sK.1, om9, p.km.2, om9, om9⟩, ⟨by rw [s1]; exact p1, by rw [s2]; exact p2⟩, fun j hj he => ?_⟩
 have hm := List.getElem_mem hj
 have hsame : (P.n.msgs[j].span.meet (Zb l P i).s).empty = false := by
  cases h1 : (P.n.msgs[j].span.meet (Zb l P i).s).empty
  ·rfl
  ·have h2 : (P.n.msgs[j].span.meet (YH P.n i)).empty = true := YN.2 fun q => by
    have h3 := YN.1 h1 q
    rw [ZI] at h3 ⊢
    cases h4 : P.n.msgs[j].span.has q
    ·rfl
    ·rw [h4, Bool.true_and] at h3
     rw [Bool.true_and]
     cases h5 : (YH P.n i).has q
     ·rfl
     ·rw [Zdo, Bool.and_eq_true] at h5
      rw [p.khas, p.mspan _ hm q h4, h5.2] at h3; cases h3
   rw [h2] at he; cases he
 have hc : (P.n.msgs[j].clip (Zb l P i).s).2 = true := by
  cases h1 : (P.n.msgs[j].clip (Zb l P i).s).2
  ·rw [Jt.1 h1] at hsame; cases hsame
  ·rfl
 have hmem : (P.n.msgs[j].clip (Zb l P i).s).1 ∈ (Zb l P i).ms := by
  rw [(p.t.kid_ms p.mem (p.t.rst P p.mem) i).1]
  exact List.mem_append_left _ (List.mem_filterMap.2 ⟨_, hm, if_pos hc⟩)
 obtain ⟨q, hq, e⟩ := List.getElem_of_mem hmem
 have := sK.2.2.2 q hq
 rw [e, X7 hc] at this
 exact this
noncomputable def nP (P : Seat) (a : Nd) : Seat := ⟨a, P.s, P.ms⟩
noncomputable def nK (l : List Nd) (P : Seat) (i : Nat) (a b : Nd) : Seat := ⟨b, (Zb l P i).s, Zc (Zb l P i).s a.msgs ++ Zc (Zb l P i).s P.ms⟩
noncomputable def gP (l : List Nd) (P : Seat) (i : Nat) (a b : Nd) (x : Seat) : Seat := if x.n.slot = (Zb l P i).n.slot then nK l P i a b else if x.n.slot = P.n.slot then nP P a else x
theorem g_k : gP l P i a b (Zb l P i) = nK l P i a b := if_pos rfl
theorem g_p (p : PourOf c l ss P i a b T) : gP l P i a b P = nP P a := by unfold gP; rw [if_neg p.ksl.symm, if_pos rfl]
theorem g_x {x : Seat} (h1 : x.n.slot ≠ P.n.slot) (h2 : x.n.slot ≠ (Zb l P i).n.slot) : gP l P i a b x = x := by unfold gP; rw [if_neg h2, if_neg h1]
theorem three (p : PourOf c l ss P i a b T) {Q : Seat → Prop} (hk : Q (Zb l P i)) (hp : Q P) (hx : ∀ x ∈ ss, x.n.slot ≠ P.n.slot → x.n.slot ≠ (Zb l P i).n.slot → Q x) : ∀ x ∈ ss, Q x := fun x hm => by
 by_cases c1 : x.n.slot = (Zb l P i).n.slot
 ·rw [p.t.uniq hm p.km.1 c1]; exact hk
 ·by_cases c2 : x.n.slot = P.n.slot
  ·rw [p.t.uniq hm p.mem c2]; exact hp
  ·exact hx x hm c2 c1
theorem g_same (p : PourOf c l ss P i a b T) : ∀ x ∈ ss, (gP l P i a b x).n.slot = x.n.slot ∧ (gP l P i a b x).n.level = x.n.level ∧ (gP l P i a b x).n.right = x.n.right ∧ (gP l P i a b x).n.pivots = x.n.pivots ∧ (gP l P i a b x).n.kids = x.n.kids ∧ (gP l P i a b x).s = x.s := by
 obtain ⟨a1, a2, a3, a4, a5, a6, a7, _⟩ := p.al
 obtain ⟨b1, b2, b3, b4, b5, b6, b7⟩ := p.bl
 refine p.three ?_ ?_ fun x hx h1 h2 => ?_
 ·rw [g_k]; exact ⟨b1, b2, b7, b3, b4, rfl⟩
 ·rw [p.g_p]; exact ⟨a1, a2, a7, a3, a4, rfl⟩
 ·rw [g_x h1 h2]; exact ⟨rfl, rfl, rfl, rfl, rfl, rfl⟩
theorem slots (p : PourOf c l ss P i a b T) : SlotsP (ZP l a b) := by
 have hk := p.sin p.km.1
 have hp := p.sin p.mem
 have tk := Zcy p.may p.po
 obtain ⟨⟨xl, hxl, exl⟩, _⟩ := Zdp tk.rst p.po.ne
 have h1 := ZbZ p.t.slot (x := a) (by rw [p.al.1]; exact hp) (by rw [p.al.2.2.2.2.2.2.2.1]; exact p.lseen p.mem)
 refine ZbZ h1 (x := b) (by rw [List.length_set, p.bl.1]; exact hk) ?_
 rw [p.po.seen, exl]
 have hm : xl ∈ Zc (Zb l P i).s P.n.msgs := by rw [p.hcl]; exact List.mem_append_left _ hxl
 obtain ⟨m, hm, e⟩ := JL hm
 obtain ⟨j, hj, rfl⟩ := List.getElem_of_mem hm
 have := (p.pin.2.2.2.2.2.2 j hj).1
 have := p.lseen p.mem
 omega
theorem len (p : PourOf c l ss P i a b T) : (ZP l a b).length = l.length := by unfold ZP; rw [List.length_set, List.length_set]
theorem find (p : PourOf c l ss P i a b T) (s : Int) : Zw (ZP l a b) s = (if s = (Zb l P i).n.slot then b else if s = P.n.slot then a else Za l s, decide (0 ≤ s ∧ s < (l.length : Int))) := by
 have hk := p.sin p.km.1
 have hp := p.sin p.mem
 rw [Zau p.slots, p.len]
 congr 1
 unfold ZP
 rw [Zay (by rw [List.length_set, p.bl.1]; exact hk), p.bl.1, Zay (by rw [p.al.1]; exact hp), p.al.1]
theorem find_g (p : PourOf c l ss P i a b T) {x : Seat} (hx : x ∈ ss) : Zw (ZP l a b) x.n.slot = ((gP l P i a b x).n, true) := by
 have hs := p.sin hx
 rw [p.find, decide_eq_true ⟨hs.1, hs.2⟩]
 congr 1
 revert hs
 refine p.three (Q := fun x => 0 ≤ x.n.slot ∧ x.n.slot < (l.length : Int) → (if x.n.slot = (Zb l P i).n.slot then b else if x.n.slot = P.n.slot then a else Za l x.n.slot) = (gP l P i a b x).n) (fun hs => ?_) (fun hs => ?_) (fun x hx h1 h2 hs => ?_) x hx
 ·rw [if_pos rfl, g_k]; rfl
 ·rw [if_neg p.ksl.symm, if_pos rfl, p.g_p]; rfl
 ·rw [if_neg h2, if_neg h1, g_x h1 h2]; exact (p.t.nd hx).2.1.symm
theorem slot_at (p : PourOf c l ss P i a b T) {x : Seat} (hx : x ∈ ss) (h0 : ¬ x.n.level = 0) {j : Nat} (hj : j < x.n.kids.length) : x.n.kids.getD j 0 = (Zb l x j).n.slot := by
 have e := (p.t.at hx h0 hj)
 rw [List.getD_eq_getElem?_getD, List.getElem?_eq_getElem hj, e.2.2.1, (YI p.t.slot e.2.1).1]; rfl
theorem kms (p : PourOf c l ss P i a b T) : (Zb l P i).ms = T ++ (Zc (Zb l P i).s a.msgs ++ Zc (Zb l P i).s P.ms) := by
 rw [(p.t.kid_ms p.mem (p.t.rst P p.mem) i).1, p.hcl, List.append_assoc]
theorem kid_g (p : PourOf c l ss P i a b T) {x : Seat} (hx : x ∈ ss) (h0 : ¬ x.n.level = 0) {j : Nat} (hj : j < x.n.kids.length) : Zb (ZP l a b) (gP l P i a b x) j = gP l P i a b (Zb l x j) := by
 have hy := (p.t.at hx h0 hj).1
 obtain ⟨s1, s2, s3, s4, s5, s6⟩ := p.g_same x hx
 obtain ⟨y1, y2, y3, y4, y5, y6⟩ := p.g_same _ hy
 have en : (Zb (ZP l a b) (gP l P i a b x) j).n = (gP l P i a b (Zb l x j)).n := by
  show (Zw _ ((gP l P i a b x).n.kids.getD j 0)).1 = _
  rw [s5, p.slot_at hx h0 hj, p.find_g hy]
 have es : (Zb (ZP l a b) (gP l P i a b x) j).s = (Zb l x j).s := by
  show (gP l P i a b x).s.meet (Zf (gP l P i a b x).n.pivots (j : Int)) = _
  rw [s4, s6]; rfl
 have em : ZQ [Zc (Zb l x j).s (gP l P i a b x).n.msgs, Zc (Zb l x j).s (gP l P i a b x).ms] = (gP l P i a b (Zb l x j)).ms := by
  have old : ZQ [Zc (Zb l x j).s x.n.msgs, Zc (Zb l x j).s x.ms] = (Zb l x j).ms := rfl
  by_cases c1 : x.n.slot = (Zb l P i).n.slot
  ·have ex := p.t.uniq hx p.km.1 c1
   have n1 : (Zb l x j).n.slot ≠ P.n.slot := p.ne hy p.mem (by have := (p.t.at hx h0 hj).2.2.2; have := p.km.2; rw [ex] at *; omega)
   have n2 : (Zb l x j).n.slot ≠ (Zb l P i).n.slot := p.ne hy p.km.1 (by have := (p.t.at hx h0 hj).2.2.2; rw [ex] at *; omega)
   rw [g_x n1 n2, ← old, ex, g_k]
   have hI := p.po.inner (by rw [← ex]; exact h0)
   show ZQ [Zc _ b.msgs, Zc _ (Zc (Zb l P i).s a.msgs ++ Zc (Zb l P i).s P.ms)] = _
   have h2 := (p.t.two p.km.1 (Zb l (Zb l P i) j).s)
   rw [h2.1]
   have h3 := h2.2
   have e1 : Zc (Zb l (Zb l P i) j).s (Zb l P i).ms = Zc (Zb l (Zb l P i) j).s T ++ Zc (Zb l (Zb l P i) j).s (Zc (Zb l P i).s a.msgs ++ Zc (Zb l P i).s P.ms) := by rw [p.kms]; exact Jj _ _ _
   have e2 : Zc (Zb l (Zb l P i) j).s b.msgs = Zc (Zb l (Zb l P i) j).s (Zb l P i).n.msgs ++ Zc (Zb l (Zb l P i) j).s T := by rw [hI.2.1]; exact Jj _ _ _
   rw [e1, ← List.append_assoc, ← e2] at h3 ⊢
   obtain ⟨r1, r2, r3⟩ := ZaH h3
   exact (ZaO r1 r2 r3).1
  ·by_cases c2 : x.n.slot = P.n.slot
   ·have ex := p.t.uniq hx p.mem c2
    subst ex
    rw [p.g_p]
    show ZQ [Zc _ a.msgs, Zc _ x.ms] = _
    by_cases e : j = i
    ·subst e
     rw [g_k]
     have h3 := (p.t.two p.mem (Zb l x j).s).2
     rw [p.hcl, List.append_assoc] at h3
     obtain ⟨r1, r2, r3⟩ := ZaH (ZaH h3).2.1
     exact (ZaO r1 r2 r3).1
    ·have hne : (Zb l x j).n.slot ≠ (Zb l x i).n.slot := fun e2 => e (by
      have hkl := (Z8 (p.t.kids p.mem) p.h0)
      exact p.t.kid_nd p.mem (i := j) (j := i) (by rw [hkl.1, Zac]; exact hj) (by rw [hkl.1, Zac]; exact p.hi) (by rw [(p.t.kidsD_at p.mem p.h0).2, (p.t.kidsD_at p.mem p.h0).2]; exact e2))
     have n1 : (Zb l x j).n.slot ≠ x.n.slot := p.ne hy hx (by have := (p.t.at hx h0 hj).2.2.2; omega)
     rw [g_x n1 hne, ← old, p.hout fun q hq => ?_]
     have h1 := Za9 (l := l) (Z8 (p.t.kids p.mem) p.h0).2.2.1 hj q
     rw [hq] at h1
     have h2 := h1.symm
     rw [Bool.and_eq_true, decide_eq_true_eq] at h2
     rw [Xu p.rt.1 q (by have := p.rt.2; have := p.hi; omega), decide_eq_false om9]
   ·rw [g_x c2 c1, old]
    have hin : Zb l x j ∈ Zk l x := by rw [(Z8 (p.t.kids hx) h0).1]; exact List.mem_map.2 ⟨j, List.mem_range.2 hj, rfl⟩
    have hkin : Zb l P i ∈ Zk l P := by rw [(Z8 (p.t.kids p.mem) p.h0).1]; exact List.mem_map.2 ⟨i, List.mem_range.2 p.hi, rfl⟩
    have n2 : (Zb l x j).n.slot ≠ (Zb l P i).n.slot := fun e => c2 (by rw [p.t.parent hx p.mem hin hkin e])
    by_cases c3 : (Zb l x j).n.slot = P.n.slot
    ·rw [p.t.uniq hy p.mem c3, p.g_p]; rfl
    ·rw [g_x c3 n2]
 have e3 : (Zb (ZP l a b) (gP l P i a b x) j).ms = ZQ [Zc (Zb (ZP l a b) (gP l P i a b x) j).s (gP l P i a b x).n.msgs, Zc (Zb (ZP l a b) (gP l P i a b x) j).s (gP l P i a b x).ms] := rfl
 rw [es, em] at e3
 cases hA : Zb (ZP l a b) (gP l P i a b x) j
 cases hB : gP l P i a b (Zb l x j)
 rw [hA] at en es e3
 rw [hB] at en e3 y6
 simp only at en es e3 y6
 rw [en, es, e3, y6]
theorem each (p : PourOf c l ss P i a b T) {x : Seat} (hx : x ∈ ss) : (Z7 (ZP l a b) (gP l P i a b x)).isSome = true ∧ Zk (ZP l a b) (gP l P i a b x) = (Zk l x).map (gP l P i a b) := by
 obtain ⟨s1, s2, s3, s4, s5, s6⟩ := p.g_same x hx
 by_cases h0 : x.n.level = 0
 ·rw [ZaM (by rw [s2]; exact h0), Xz (by rw [s2]; exact h0), Xz h0]; exact ⟨rfl, rfl⟩
 ·obtain ⟨h1, h2, h3, h4⟩ := Z8 (p.t.kids hx) h0
  obtain ⟨g1, g2⟩ := ZaG (l := ZP l a b) (x := gP l P i a b x) (by rw [s2]; exact h2) (by rw [s4, s5]; exact h3) fun j hj => by
   rw [s5] at hj
   have e := p.t.at hx h0 hj
   unfold XQ
   rw [s5, p.slot_at hx h0 hj, p.find_g e.1]
   simp only [Bool.true_and, decide_eq_true_eq]
   rw [(p.g_same _ e.1).2.1, s2]; exact e.2.2.2
  refine ⟨g1, ?_⟩
  rw [g2, h1, s5]
  unfold Xp
  rw [List.map_map]
  exact List.map_congr_left fun j hj => p.kid_g hx h0 (List.mem_range.1 hj)
theorem froot (p : PourOf c l ss P i a b T) : gP l P i a b (Zm l 0) = Zm (ZP l a b) 0 := by
 have e0 := p.t.root0
 have hkin : Zb l P i ∈ Zk l P := by rw [(Z8 (p.t.kids p.mem) p.h0).1]; exact List.mem_map.2 ⟨i, List.mem_range.2 p.hi, rfl⟩
 have n2 : (Zm l 0).n.slot ≠ (Zb l P i).n.slot := (p.t.root_kid p.mem hkin).symm
 have hf := p.find_g p.t.root
 rw [e0] at hf
 by_cases c1 : (Zm l 0).n.slot = P.n.slot
 ·have eP := p.t.uniq p.t.root p.mem c1
  have : Zm (ZP l a b) 0 = ⟨(gP l P i a b (Zm l 0)).n, Span.all, []⟩ := by unfold Zm at hf ⊢; rw [hf]
  rw [this, eP, p.g_p, ← eP]; rfl
 ·rw [g_x c1 n2] at hf ⊢
  show (⟨(Zw l 0).1, _, _⟩ : Seat) = ⟨(Zw _ 0).1, _, _⟩
  rw [hf]; rfl
theorem flat_map {g : Seat → Seat} {K K' : Seat → List Seat} : ∀ {L : List Seat}, (∀ x ∈ L, K' (g x) = (K x).map g) → (L.map g).flatMap K' = (L.flatMap K).map g
 | [], _ => rfl
 | x :: L, h => by
  rw [List.map_cons, List.flatMap_cons, List.flatMap_cons, List.map_append, h x (by simp), flat_map fun z hz => h z (List.mem_cons_of_mem _ hz)]
theorem fix (p : PourOf c l ss P i a b T) : ss.map (gP l P i a b) = Zm (ZP l a b) 0 :: (ss.map (gP l P i a b)).flatMap (Zk (ZP l a b)) := by
 rw [flat_map fun x hx => (p.each hx).2]
 conv => lhs; rw [p.t.fix]
 rw [List.map_cons, p.froot]
theorem keys (p : PourOf c l ss P i a b T) : (ss.map (gP l P i a b)).map Seat.key = ss.map Seat.key := by
 rw [List.map_map]
 refine List.map_congr_left fun x hx => ?_
 obtain ⟨s1, s2, s3, _⟩ := p.g_same x hx
 show ((gP l P i a b x).n.slot, (gP l P i a b x).n.level, (gP l P i a b x).n.right) = _
 rw [s1, s2, s3]; rfl
theorem perm (p : PourOf c l ss P i a b T) : ((ss.map (gP l P i a b)).map fun x : Seat => x.n.slot).Perm ((ZP l a b).map fun n : Nd => n.slot) := by
 have h1 : (ss.map (gP l P i a b)).map (fun x : Seat => x.n.slot) = ss.map (fun x : Seat => x.n.slot) := by
  rw [List.map_map]
  exact List.map_congr_left fun x hx => (p.g_same x hx).1
 rw [h1]
 have h4 : ((ZP l a b).map fun n : Nd => n.slot) = (l.map fun n : Nd => n.slot) := by rw [ZaQ p.slots, ZaQ p.t.slot, p.len]
 rw [h4]; exact p.t.perm_s
theorem tin (p : PourOf c l ss P i a b T) : ∀ m ∈ T, ∀ q, m.span.has q = true → (Zb l P i).s.has q = true := fun m hm q hq => by
 have hmR := (MsgsR.iff.1 p.pin.2.2.1).1
 obtain ⟨x, hx, h1, rfl⟩ := Zah (show m ∈ Zc (Zb l P i).s P.n.msgs by rw [p.hcl]; exact List.mem_append_left _ hm)
 exact (Zcx (hmR x hx) h1 hq).2
theorem norm_of {m : Msg} {s : Span} (h : ∀ q, m.span.has q = true → s.has q = true) : m.span.meet s = m.span.norm := by
 rw [← XR]
 exact Zba fun q => by
  rw [ZI]
  cases hq : m.span.has q
  ·rfl
  ·rw [h q hq]; rfl
theorem seats9 (p : PourOf c l ss P i a b T) : ∀ x ∈ ss, SeatP c (gP l P i a b x) := by
 have hm := (Zfm p.may p.po).1
 have sK := p.t.seat p.km.1
 have sP := p.t.seat p.mem
 have tk := Zcy p.may p.po
 obtain ⟨⟨xl, hxl, exl⟩, _⟩ := Zdp tk.rst p.po.ne
 obtain ⟨a1, a2, a3, a4, a5, a6, a7, a8, a9, a10⟩ := p.al
 obtain ⟨b1, b2, b3, b4, b5, b6, b7⟩ := p.bl
 have hpR := (MsgsR.iff.1 p.pin.2.2.1).1
 refine p.three ?_ ?_ fun x hx h1 h2 => ?_
 ·rw [g_k]
  refine ⟨hm.1.2.1, ⟨⟨by show b.top = _; rw [b6]; exact sK.2.1.1.1, by show b.high = _; rw [b5]; exact sK.2.1.1.2⟩, fun j hj => ?_, fun j hj => ?_, fun j hj => ?_⟩, by show b.slot < _; rw [b1]; exact sK.2.2.1, fun j hj => ?_⟩
  ·have hmem := List.getElem_mem hj
   have all : ∀ y ∈ b.rows, (Zb l P i).s.has y.key = true := by
    have old : ∀ y ∈ (Zb l P i).n.rows, (Zb l P i).s.has y.key = true := fun y hy => by obtain ⟨q, hq, rfl⟩ := List.getElem_of_mem hy; exact sK.2.1.2.1 q hq
    by_cases h0 : (Zb l P i).n.level = 0
    ·rw [(p.po.leaf h0).2.1]
     exact Zi4 (p.t.leaf p.km.1 h0).2.2.1 tk.R old p.tin
    ·rw [(p.po.inner h0).1]; exact old
   exact all _ hmem
  ·have all : ∀ y ∈ b.pivots, (Zb l P i).s.has y = true ∧ y ≠ (Zb l P i).s.lo := fun y hy => by
    rw [b3] at hy
    obtain ⟨q, hq, rfl⟩ := List.getElem_of_mem hy
    exact sK.2.1.2.2.1 q hq
   exact all _ (List.getElem_mem hj)
  ·have old : ∀ y ∈ (Zb l P i).n.msgs, y.span.meet (Zb l P i).s = y.span.norm := fun y hy => by obtain ⟨q, hq, rfl⟩ := List.getElem_of_mem hy; exact sK.2.1.2.2.2 q hq
   have all : ∀ y ∈ b.msgs, y.span.meet (Zb l P i).s = y.span.norm := fun y hy => by
    by_cases h0 : (Zb l P i).n.level = 0
    ·rw [(p.po.leaf h0).1] at hy; exact old y hy
    ·rw [(p.po.inner h0).2.1] at hy
     rcases List.mem_append.1 hy with hy | hy
     ·exact old y hy
     ·exact norm_of (p.tin y hy)
   exact all _ (List.getElem_mem hj)
  ·show b.seen < _
   rw [p.po.seen, exl]
   have hr := p.t.rst _ p.km.1
   rw [p.kms] at hr
   exact (ZaH hr).2.2 xl hxl _ (List.getElem_mem hj)
 ·rw [p.g_p]
  refine ⟨hm.1.1, ⟨⟨by show a.top = _; rw [a6]; exact sP.2.1.1.1, by show a.high = _; rw [a5]; exact sP.2.1.1.2⟩, fun j hj => ?_, fun j hj => ?_, fun j hj => ?_⟩, by show a.slot < _; rw [a1]; exact sP.2.2.1, fun j hj => ?_⟩
  ·have all : ∀ y ∈ a.rows, P.s.has y.key = true := fun y hy => by
    rw [a9] at hy
    obtain ⟨q, hq, rfl⟩ := List.getElem_of_mem hy
    exact sP.2.1.2.1 q hq
   exact all _ (List.getElem_mem hj)
  ·have all : ∀ y ∈ a.pivots, P.s.has y = true ∧ y ≠ P.s.lo := fun y hy => by
    rw [a3] at hy
    obtain ⟨q, hq, rfl⟩ := List.getElem_of_mem hy
    exact sP.2.1.2.2.1 q hq
   exact all _ (List.getElem_mem hj)
  ·have all : ∀ y ∈ a.msgs, y.span.meet P.s = y.span.norm := fun y hy => by
    rw [a10] at hy
    obtain ⟨_, m, hm, _, h3⟩ := Zfl (ZbH sP.1) hpR hy
    exact norm_of fun q hq => p.mspan m hm q (h3 q hq)
   exact all _ (List.getElem_mem hj)
  ·show a.seen < _
   rw [a8]; exact sP.2.2.2 j hj
 ·rw [g_x h1 h2]; exact p.t.seat hx
theorem tree (p : PourOf c l ss P i a b T) : Tree c (ZP l a b) (ss.map (gP l P i a b)) := by
 have hsm := p.t.sml
 have hm := (Zfm p.may p.po).1
 refine Zdj p.t.cfg (by rw [p.len]; exact p.t.pos) (Zd2 p.t.cfg (by rw [p.len]; exact hsm.1) fun n hn => ?_) p.slots p.fix (fun z hz => ?_) p.perm ?_ (by rw [p.len]; exact p.t.q.1.2.2) fun z hz => ?_
 ·have old : ∀ n ∈ l, n.R c.fan c.leaf c.bud := fun n hn => by
   have := (p.t.perm.mem_iff).2 hn
   obtain ⟨x, hx, rfl⟩ := List.mem_map.1 this
   exact (p.t.seat hx).1
  unfold ZP at hn
  rcases List.mem_or_eq_of_mem_set hn with hn | rfl
  ·rcases List.mem_or_eq_of_mem_set hn with hn | rfl
   ·exact old n hn
   ·exact hm.1.1
  ·exact hm.1.2.1
 ·obtain ⟨x, hx, rfl⟩ := List.mem_map.1 hz
  exact (p.each hx).1
 ·rw [p.keys]; exact (ZbE ss).1 p.t.q.1.2.1
 ·obtain ⟨x, hx, rfl⟩ := List.mem_map.1 hz
  exact p.seats9 x hx
theorem view (p : PourOf c l ss P i a b T) (h0 : (Zb l P i).n.level = 0) : YJ (nK l P i a b) = YJ (Zb l P i) := by
 have hR := p.t.rows p.km.1
 have tk := Zcy p.may p.po
 unfold YJ
 show Zr (b.rows.filter fun p => (Zb l P i).s.has p.key) (Zc (Zb l P i).s (Zc (Zb l P i).s a.msgs ++ Zc (Zb l P i).s P.ms)) = _
 rw [(p.po.leaf h0).2.1, ← Za0 hR.srt fun m hm => by have := (tk.R m hm).1.2.1; omega]
 conv => rhs; rw [p.kms, Jj]
 unfold Zr
 rw [List.foldl_append]
theorem map (p : PourOf c l ss P i a b T) : Zh (ZP l a b) = Zh l := by
 rw [JM p.tree.sts, JM p.t.sts]
 rw [show ss.map (gP l P i a b) = ss.flatMap fun x => [gP l P i a b x] from List.map_eq_flatMap]
 refine Zgv (p.three ?_ ?_ fun x hx h1 h2 => ?_)
 ·rw [g_k]
  by_cases h0 : (Zb l P i).n.level = 0
  ·have h1 : (nK l P i a b).n.level = 0 := by show b.level = 0; rw [p.bl.2.1]; exact h0
   simp [ZC, List.filter_cons, h0, h1, p.view h0]
  ·have h1 : ¬ (nK l P i a b).n.level = 0 := by show ¬ b.level = 0; rw [p.bl.2.1]; exact h0
   simp [ZC, List.filter_cons, h0, h1]
 ·rw [p.g_p]
  have h0 := p.h0
  have h1 : ¬ (nP P a).n.level = 0 := by show ¬ a.level = 0; rw [p.al.2.1]; exact h0
  simp [ZC, List.filter_cons, h0, h1]
 ·rw [g_x h1 h2]
end PourOf
structure Act25 where
 kind : Int
 n : Nd
instance : Inhabited Act25 := ⟨⟨0, Nd.zero⟩⟩
theorem ZqO {l : List Nd} {i : Int} (h : ¬ (0 ≤ i ∧ i < l.length)) : Za l i = Nd.zero := by
 unfold Za
 by_cases h0 : 0 ≤ i
 ·rw [if_pos h0, List.getD_eq_getElem?_getD, List.getElem?_eq_none om9]; rfl
 ·rw [if_neg h0]
theorem Ja {l : List Nd} {i : Int} (h : 0 ≤ i ∧ i < l.length) : Za l i = l[i.toNat]'om9 := by
 have := Zam (l := l) (k := i.toNat) om9
 rwa [show ((i.toNat : Nat) : Int) = i by omega] at this
def Zi (l : List Nd) (a i : Int) : Nd := Za l ((Za l a).kids.getD i.toNat 0)
noncomputable def Xn (c : Cfg) (l : List Nd) (a i : Int) : (Int × Int × Int) × List Nd :=
 if ZV c (Za l a) (Zi l a i) i = 3 then (if (ZG c l a i).1 = 0 then ((3, a, 0), (ZG c l a i).2) else ((0, a, (ZG c l a i).1), (ZG c l a i).2))
 else if ZV c (Za l a) (Zi l a i) i = 4 then ((4, a, 0), ZP l (ZU c.leaf c.bud (Za l a) (Zi l a i) i).1 (ZU c.leaf c.bud (Za l a) (Zi l a i) i).2.1)
 else if ZV c (Za l a) (Zi l a i) i = 5 then ((5, (Zi l a i).slot, 0), l)
 else ((0, a, 0), l)
noncomputable def Zt (c : Cfg) (l : List Nd) (a : Int) (k : Str) : (Int × Int × Int) × List Nd :=
 if (Zv c (Za l a) k).1 = 0 then ((0, a, 0), l)
 else if (Zv c (Za l a) k).1 = 1 then (if (ZN c l).1 = 0 then ((1, a, 0), (ZN c l).2) else ((0, a, (ZN c l).1), (ZN c l).2))
 else Xn c l a (Zv c (Za l a) k).2
theorem Jb {c : Cfg} {l : List Nd} {a : Int} {k : Str} (h : (Zv c (Za l a) k).1 = 0) : Zt c l a k = ((0, a, 0), l) := if_pos h
theorem Jc {c : Cfg} {l : List Nd} {a : Int} {k : Str} (h : (Zv c (Za l a) k).1 = 1) (h2 : (ZN c l).1 = 0) : Zt c l a k = ((1, a, 0), (ZN c l).2) := by unfold Zt; rw [if_neg om9, if_pos h, if_pos h2]
theorem Jd {c : Cfg} {l : List Nd} {a : Int} {k : Str} (h : (Zv c (Za l a) k).1 = 1) (h2 : ¬ (ZN c l).1 = 0) : Zt c l a k = ((0, a, (ZN c l).1), (ZN c l).2) := by unfold Zt; rw [if_neg om9, if_pos h, if_neg h2]
theorem XY {c : Cfg} {l : List Nd} {a : Int} {k : Str} (h : (Zv c (Za l a) k).1 = 2) : Zt c l a k = Xn c l a (Zv c (Za l a) k).2 := by unfold Zt; rw [if_neg om9, if_neg om9]
section
variable {c : Cfg} {l : List Nd} {a i : Int}
theorem XZ (h : ZV c (Za l a) (Zi l a i) i = 3) (h2 : (ZG c l a i).1 = 0) : Xn c l a i = ((3, a, 0), (ZG c l a i).2) := by unfold Xn; rw [if_pos h, if_pos h2]
theorem X0 (h : ZV c (Za l a) (Zi l a i) i = 3) (h2 : ¬ (ZG c l a i).1 = 0) : Xn c l a i = ((0, a, (ZG c l a i).1), (ZG c l a i).2) := by unfold Xn; rw [if_pos h, if_neg h2]
theorem YP (h : ZV c (Za l a) (Zi l a i) i = 4) : Xn c l a i = ((4, a, 0), ZP l (ZU c.leaf c.bud (Za l a) (Zi l a i) i).1 (ZU c.leaf c.bud (Za l a) (Zi l a i) i).2.1) := by unfold Xn; rw [if_neg om9, if_pos h]
theorem X1 (h : ZV c (Za l a) (Zi l a i) i = 5) : Xn c l a i = ((5, (Zi l a i).slot, 0), l) := by unfold Xn; rw [if_neg om9, if_neg om9, if_pos h]
theorem Jr (h : ZV c (Za l a) (Zi l a i) i = 0) : Xn c l a i = ((0, a, 0), l) := by unfold Xn; rw [if_neg om9, if_neg om9, if_neg om9]
theorem XO (c : Cfg) (p k : Nd) (i : Int) : ZV c p k i = 0 ∨ ZV c p k i = 3 ∨ (ZV c p k i = 4 ∧ 0 < ZO c.leaf c.bud p k i) ∨ ZV c p k i = 5 := by
 unfold ZV
 split
 ·split
  ·exact .inl rfl
  ·exact .inr (.inl rfl)
 ·split
  ·rename_i h; exact .inr (.inr (.inl ⟨rfl, h⟩))
  ·split
   ·exact .inr (.inr (.inr rfl))
   ·split
    ·split
     ·exact .inl rfl
     ·exact .inr (.inl rfl)
    ·exact .inl rfl
end
theorem Je (c : Cfg) (n : Nd) (k : Str) : (Zv c n k).1 = 0 ∨ (Zv c n k).1 = 1 ∨ ((Zv c n k).1 = 2 ∧ ¬ n.level = 0 ∧ ((Zv c n k).2 = (Xx n.pivots n.msgs).1 ∨ (Zv c n k).2 = ((Ze n.pivots k : Nat) : Int))) := by
 unfold Zv
 split
 ·exact .inl rfl
 ·rename_i h0
  split
  ·exact .inr (.inl rfl)
  ·refine .inr (.inr ⟨rfl, h0, ?_⟩)
   dsimp only
   split
   ·exact .inl rfl
   ·exact .inr rfl
theorem Tree.seat_of {c : Cfg} {l : List Nd} {ss : List Seat} (t : Tree c l ss) {a : Int} (ha : 0 ≤ a ∧ a < l.length) : ∃ P ∈ ss, P.n = Za l a := by
 have hm : Za l a ∈ l := by rw [Ja ha]; exact List.getElem_mem _
 have := (t.perm.mem_iff).2 hm
 obtain ⟨P, hP, e⟩ := List.mem_map.1 this
 exact ⟨P, hP, e⟩
structure StepAt (c : Cfg) (l : List Nd) (ss : List Seat) (a i : Int) (P : Seat) : Prop where
 mem : P ∈ ss
 n : P.n = Za l a
 h0 : ¬ P.n.level = 0
 hi : 0 ≤ i ∧ i < (P.n.kids.length : Int)
 slot : P.n.slot = a
 kid : (Zb l P i.toNat).n = Zi l a i
 kin : 0 ≤ (Za l a).kids.getD i.toNat 0 ∧ (Za l a).kids.getD i.toNat 0 < (l.length : Int)
 ksl : (Zi l a i).slot = (Za l a).kids.getD i.toNat 0
 kof : KidOf (Za l a) (Zi l a i) i
theorem Js {c : Cfg} {l : List Nd} {ss : List Seat} (t : Tree c l ss) {a i : Int} (ha : 0 ≤ a ∧ a < l.length) (h0 : ¬ (Za l a).level = 0) (hi : 0 ≤ i ∧ i < ((Za l a).kids.length : Int)) : ∃ P, StepAt c l ss a i P := by
 obtain ⟨P, hP, e⟩ := t.seat_of ha
 have hP0 : ¬ P.n.level = 0 := by rw [e]; exact h0
 have hj : i.toNat < P.n.kids.length := by rw [e]; omega
 have h1 := t.at hP hP0 hj
 have ek : (Za l a).kids.getD i.toNat 0 = P.n.kids[i.toNat] := by rw [← e, List.getD_eq_getElem?_getD, List.getElem?_eq_getElem hj]; rfl
 have hs := (YI t.slot ha).1
 have hks := (YI t.slot h1.2.1).1
 have hl := t.lvl hP
 refine ⟨P, hP, e, hP0, by rw [e]; exact hi, by rw [e, hs], by rw [h1.2.2.1]; unfold Zi; rw [ek], by rw [ek]; exact h1.2.1, by unfold Zi; rw [ek]; exact hks, ?_⟩
 unfold KidOf Zi
 rw [ek, ← h1.2.2.1, h1.2.2.2, ← e]
 exact ⟨om9, rfl, om9, by rw [e]; exact hi.2⟩
theorem JH {c : Cfg} {l : List Nd} {ss : List Seat} (t : Tree c l ss) {a : Int} {k : Str} (ha : 0 ≤ a ∧ a < l.length) (h : (Zv c (Za l a) k).1 = 2) : ¬ (Za l a).level = 0 ∧ 0 ≤ (Zv c (Za l a) k).2 ∧ (Zv c (Za l a) k).2 < ((Za l a).kids.length : Int) := by
 obtain ⟨P, hP, e⟩ := t.seat_of ha
 rcases Je c (Za l a) k with h1 | h1 | ⟨_, h0, h1⟩
 ·omega
 ·omega
 ·refine ⟨h0, ?_⟩
  have hr := (YR (Z8 (t.kids hP) (by rw [e]; exact h0)).2.2.1).2
  rw [e] at hr
  rcases h1 with h1 | h1
  ·rw [h1]
   have := ZqG (P := (Za l a).pivots) (l := (Za l a).msgs)
   omega
  ·rw [h1]
   have : Ze (Za l a).pivots k ≤ (Za l a).pivots.length := List.length_filter_le _ _
   omega
theorem StepAt.pour {c : Cfg} {l : List Nd} {ss : List Seat} {a i : Int} {P : Seat} (t : Tree c l ss) (s : StepAt c l ss a i P) (h : 0 < ZO c.leaf c.bud (Za l a) (Zi l a i) i) :
  ∃ T, PourOf c l ss P i.toNat (ZU c.leaf c.bud (Za l a) (Zi l a i) i).1 (ZU c.leaf c.bud (Za l a) (Zi l a i) i).2.1 T := by
 rcases Zp3 c (Za l a) (Zi l a i) i with e | ⟨hk, T, hp, e⟩
 ·have := ZqI c.leaf c.bud (Za l a) (Zi l a i) i
  rw [e] at this
  dsimp only at this
  omega
 ·refine ⟨T, t, s.mem, s.h0, by have := s.hi; omega, ?_⟩
  have hc : ((i.toNat : Nat) : Int) = i := by have := s.hi; omega
  rw [s.kid, s.n, hc]
  exact hp
theorem ZqP {c : Cfg} {l : List Nd} {ss : List Seat} (t : Tree c l ss) {a i : Int} (ha : 0 ≤ a ∧ a < l.length) (h0 : ¬ (Za l a).level = 0) (hi : 0 ≤ i ∧ i < ((Za l a).kids.length : Int)) : ∃ T, Tree c (Xn c l a i).2 T ∧ Zh (Xn c l a i).2 = Zh l := by
 obtain ⟨P, s⟩ := Js t ha h0 hi
 rcases XO c (Za l a) (Zi l a i) i with h | h | ⟨h, h2⟩ | h
 ·rw [Jr h]; exact ⟨ss, t, rfl⟩
 ·obtain ⟨T, h1, h2⟩ := Zqz t a i
  by_cases h3 : (ZG c l a i).1 = 0
  ·rw [XZ h h3]; exact ⟨T, h1, h2⟩
  ·rw [X0 h h3]; exact ⟨T, h1, h2⟩
 ·rw [YP h]
  obtain ⟨T, p⟩ := s.pour t h2
  exact ⟨_, p.tree, p.map⟩
 ·rw [X1 h]; exact ⟨ss, t, rfl⟩
theorem J8 {c : Cfg} {l : List Nd} {ss : List Seat} (t : Tree c l ss) {a : Int} (ha : 0 ≤ a ∧ a < l.length) (k : Str) : ∃ T, Tree c (Zt c l a k).2 T ∧ Zh (Zt c l a k).2 = Zh l := by
 rcases Je c (Za l a) k with h | h | ⟨h, _⟩
 ·rw [Jb h]; exact ⟨ss, t, rfl⟩
 ·obtain ⟨T, h1, h2⟩ := Zjn t
  by_cases h3 : (ZN c l).1 = 0
  ·rw [Jc h h3]; exact ⟨T, h1, h2⟩
  ·rw [Jd h h3]; exact ⟨T, h1, h2⟩
 ·rw [XY h]
  obtain ⟨h0, hi⟩ := JH t ha h
  exact ZqP t ha h0 hi
theorem Xo {K : (Int × Int × Int) × List Nd} {w n e w0 n0 e0 : Int} {L : List Nd} (hE : K = ((w0, n0, e0), L)) (h1 : w = w0) (h2 : n = n0) (h3 : e = e0) :
  Value.tuple #[.int .i64 w, .int .i64 n, .int .i64 e] = .tuple #[.int .i64 K.1.1, .int .i64 K.1.2.1, .int .i64 K.1.2.2] := by rw [hE, h1, h2, h3]
theorem Zjz {c : Cfg} {p k : Nd} {i : Int} (h3 : ¬ ZV c p k i = 3) (h4 : ¬ ZV c p k i = 4) (h5 : ¬ ZV c p k i = 5) : ZV c p k i = 0 := by
 rcases XO c p k i with h | h | ⟨h, _⟩ | h
 ·exact h
 ·exact absurd h h3
 ·exact absurd h h4
 ·exact absurd h h5
theorem ZjA {c : Cfg} {n : Nd} {k : Str} (h1 : ¬ (Zv c n k).1 = 1) (h2 : ¬ (Zv c n k).1 = 2) : (Zv c n k).1 = 0 := by
 rcases Je c n k with h | h | ⟨h, _⟩
 ·exact h
 ·exact absurd h h1
 ·exact absurd h h2
end Go.Fw
namespace Go.Proofs.YtbbemibbmbmamaaGreat
open Go Go.Fw Go.RowKit
attribute [local irreducible] Ok W WC
theorem ZqQ {G : GH} {b : Nat} {c : Cfg} {l : List Nd} {M : MH} (h : StR 60 4 3 189 139 b c G l M) (a i : Int) : Fc Tryz.prog 67 [pt9 b, iV ((Za l a).kids.getD i.toNat 0)] G M (fun v G' M' => (∃ cs, v = .tuple #[.agg (List.toArray cs), .bool (decide (0 ≤ (Za l a).kids.getD i.toNat 0 ∧ (Za l a).kids.getD i.toNat 0 < (l.length : Int)))] ∧ NodeC G' cs (Zi l a i)) ∧ M' = M) := Zax h _
theorem ZqR {G : GH} {b_s : Nat} {c c2 : Cfg} {l : List Nd} {ss : List Seat} {Ms_s : MH} (h_s : StR 60 4 3 189 139 b_s c G l Ms_s) (t : Tree c2 l ss) {a : Int} {cs_n : List Value} (h_n : NodeC G cs_n (Za l a)) (i : Int) (hc9 : c = c2) (ha : 0 ≤ a ∧ a < (l.length : Int)) (h0 : ¬ (Za l a).level = 0) (hi : 0 ≤ i ∧ i < ((Za l a).kids.length : Int)) (hi9 : i64 i) :
    Fc Tryz.prog 152 [pt9 b_s, .agg (List.toArray cs_n), iV i] G Ms_s (fun v G' M' => v = .tuple #[iV (Xn c l a i).1.1, iV (Xn c l a i).1.2.1, iV (Xn c l a i).1.2.2] ∧ StR 60 4 3 189 139 b_s c G' (Xn c l a i).2 M') := by
 obtain ⟨_, _, _, _, _, _, _, _, rfl, hp_n, hk_n, hm_n, hr_n, hok_n⟩ := h_n
 subst hc9
 obtain ⟨P, s⟩ := Js t ha h0 hi
 have hPR := (t.seat s.mem).1
 have hKm := (t.at s.mem s.h0 (j := i.toNat) (by have := s.hi; omega)).1
 have hKR := (t.seat hKm).1
 rw [s.n] at hPR
 rw [s.kid] at hKR
 have hsl : (Za l a).slot = a := (YI t.slot ha).1
 have hPS := t.sml.2 _ (YI t.slot ha).2
 have hKS := t.sml.2 _ (YI t.slot s.kin).2
 have hPD : NdS (Za l a) := Zbe t.cfg hPR
 have hKD : NdS (Zi l a i) := Zbe t.cfg hKR
 have hcb9 : c.bud ≤ 9223372036854775807 := by have := t.cfg.2.2.1.2; omega
 have hq : PourPre c.bud (Za l a) (Zi l a i) := ZtC hPR hKR h0 hPD hKD hcb9
 have hin9 : (Za l a).innerR c.fan c.bud := by have h4 := hPR.2.2.2; rwa [if_neg h0] at h4
 have hms := hin9.2.2.1
 have hkl := (YR hin9.2.1).2
 have hi91 := hi9.1
 have hi92 := hi9.2
 have hlk9 : ((Za l a).kids.length : Int) ≤ 4000 := by have := hPD.1; omega
 have hkd : (Za l a).kids[i.toNat]'om9 = ((Za l a).kids.getD i.toNat 0) := by rw [List.getD_eq_getElem?_getD, List.getElem?_eq_getElem om9]; rfl
 refine Fc.go [.tmp 6, .tmp 7, .tmp 8] Tryz.func152 Tryz.ntmps152 rfl (fun w0 => (WC.perm (M' := (Ms_s ++ [])) (by simp) (g9 2 ?_)))
 refine W.box (L := [iV _, iV _, lV _ _ _, lV _ _ _, sV _, .bool _, iV _, iV _, lV _ _ _, lV _ _ _]) rfl rfl (fun b1 => (g9 15 ?_))
 refine WC.cd (fun h19 p19 => ?_) (fun h19 p19 => ?_)
 ·try dsimp only at p19
  exfalso; omega
 try dsimp only at p19
 refine g9 8 ?_
 refine hk_n.a2 (i := i.toNat) om9 (fun he2 hi3 => (W.ok (Yt (i := i.toNat) Z5 ty3 hk_n rfl rfl ⟨om9, om9⟩) (g9 1 ?_)))
 refine W.call (Mp := Ms_s) (ZqQ h_s a i) (congrArg (fun k : Int => [_, Value.int .i64 k]) hkd) (pmC pr9) ?_
 intro v9 G6 Ms8 hG6 q7
 refine match q7 with | ⟨⟨_, e_11, ⟨_, _, _, _, _, _, _, _, e_12, hp_hR10, hk_hR10, hm_hR10, hr_hR10, hok_hR10⟩⟩, eeq7⟩ => ?_
 subst e_11
 subst e_12
 have eeq7 := eeq7.symm
 subst eeq7
 refine W.perm (pmC pr9).symm (g9 3 ?_)
 refine W.alloc Zp (fun b13 => (g9 11 ?_))
 refine WC.cn (fun h33 p33 => ?_) (fun h33 p33 => ?_)
 ·try dsimp only at p33
  exact absurd s.kin p33
 try dsimp only at p33
 refine g9 3 ?_
 refine WC.dw (sn9.k9.k9) (d9 [0, 2, 3, 4] ?_)
 refine WD.a1 1 rfl (W.call (Mp := Ms_s) (JN (StR.mono hG6 h_s)) rfl (pmC (pmC pr9)) ?_)
 intro v17 G14 Ms16 hG14 q15
 refine match q15 with | ⟨e_19, eeq15⟩ => ?_
 subst e_19
 have eeq15 := eeq15.symm
 subst eeq15
 refine W.perm (pmC (pmC pr9)).symm (W.nn (WD.a1 5 rfl (W.qcall (ZqN c.fan c.leaf c.bud c.slots c.rest (p := (Za l a)) (k := (Zi l a i)) (nm9 lec hp_n hk_n hm_n hr_n hok_n) (nm9 hG14 hp_hR10 hk_hR10 hm_hR10 hr_hR10 hok_hR10) i hq hi9 s.kof hms hkl) rfl (W.nn (d9 [6] ?_)))))
 refine g9 15 ?_
 refine WC.cd (fun h44 p44 => ?_) (fun h44 p44 => ?_)
 ·try dsimp only at p44
  refine g9 6 ?_
  refine W.call (Mp := Ms_s) (Ztq (StR.mono lec h_s) t a i hi9) (congrArg (fun k : Int => [_, Value.int .i64 k, _]) hsl) (pmC (pmC pr9)) ?_
  intro v23 G20 Ms22 hG20 q21
  refine match q21 with | ⟨e_25, hR24⟩ => ?_
  subst e_25
  refine W.perm (pmC (pmC pr9)).symm (g9 9 ?_)
  refine WC.cn (fun h51 p51 => ?_) (fun h51 p51 => ?_)
  ·try dsimp only at p51
   refine g9 13 ?_
   refine ⟨.inr rfl, [_, _, _], ⟨rfl, rfl, rfl, trivial⟩, Ms22, ((List.sublist_append_left _ _).cons _).cons _, ?_⟩
   have hE := X0 p44 p51
   exact ⟨Xo hE rfl hsl rfl, StR.to hR24 (congrArg Prod.snd hE).symm⟩
  try dsimp only at p51
  refine g9 14 ?_
  refine ⟨.inr rfl, [_, _, _], ⟨rfl, rfl, rfl, trivial⟩, Ms22, ((List.sublist_append_left _ _).cons _).cons _, ?_⟩
  have hE := XZ p44 om9
  exact ⟨Xo hE p44 hsl rfl, StR.to hR24 (congrArg Prod.snd hE).symm⟩
 try dsimp only at p44
 refine g9 6 ?_
 refine WC.cd (fun h56 p56 => ?_) (fun h56 p56 => ?_)
 ·try dsimp only at p56
  have p56c : ZV c (Za l a) (Zi l a i) i = 4 := p56
  have hcp : 0 < ZO c.leaf c.bud (Za l a) (Zi l a i) i := by rcases XO c (Za l a) (Zi l a i) i with h9 | h9 | ⟨_, h9⟩ | h9; omega; omega; exact h9; omega
  have hpq9 := s.pour t hcp
  obtain ⟨T9, hpo⟩ := hpq9
  have hsA : 0 ≤ (ZU c.leaf c.bud (Za l a) (Zi l a i) i).1.slot ∧ (ZU c.leaf c.bud (Za l a) (Zi l a i) i).1.slot < (l.length : Int) := by rw [hpo.al.1]; exact hpo.sin hpo.mem
  have hsB : 0 ≤ (ZU c.leaf c.bud (Za l a) (Zi l a i) i).2.1.slot ∧ (ZU c.leaf c.bud (Za l a) (Zi l a i) i).2.1.slot < (l.length : Int) := by rw [hpo.bl.1]; exact hpo.sin hpo.km.1
  refine WC.seq (WC.dw (sn9.k9.k9) (d9 [0, 2, 3, 4] ?_))
  refine WD.any [1, 10, 11] (by kernel_rfl) rfl ⟨WD.ap ?_, WD.ap ?_, WD.ap ?_, trivial⟩
  ·refine W.call (Mp := Ms_s) (JN (StR.mono lec h_s)) rfl (pmC (pmC pr9)) ?_
   intro v29 G26 Ms28 hG26 q27
   refine match q27 with | ⟨e_31, eeq27⟩ => ?_
   subst e_31
   have eeq27 := eeq27.symm
   subst eeq27
   refine W.perm (pmC (pmC pr9)).symm (W.nn ?_)
   refine WD.any [5, 10, 11] (by kernel_rfl) rfl ⟨WD.ap ?_, WD.ap ?_, WD.ap ?_, trivial⟩
   ·refine W.cM (JW c.fan c.leaf c.bud c.slots c.rest (p := (Za l a)) (k := (Zi l a i)) (nm9 lec hp_n hk_n hm_n hr_n hok_n) (nm9 lec hp_hR10 hk_hR10 hm_hR10 hr_hR10 hok_hR10) i hq.hb hq.hr hq.hpv hq.hpm hq.hkm hq.hkr hi9 hq.hsz) rfl (fun _ _ _ _ _ _ _ _ _ _ _ _ _ _ _ _ G32 hG32 hp_hv33 hk_hv33 hm_hv33 hr_hv33 hok_hv33 hp_hv34 hk_hv34 hm_hv34 hr_hv34 hok_hv34 => (W.nn (d9 [6, 7, 8, 9] ?_)))
    refine WD.any [10, 11] (by kernel_rfl) rfl ⟨WD.ap ?_, WD.ap ?_, trivial⟩
    ·refine W.alloc Zp (fun b41 => (W.nn (WD.a1 11 rfl (W.alloc Zp (fun b42 => (W.nn (d9 [12, 13, 14] ?_)))))))
     refine g9 6 ?_
     refine W.call (Mp := Ms_s) (Yz (StR.mono lec h_s) (by exact hsA) (nk9 hp_hv33 hk_hv33 hm_hv33 hr_hv33 hok_hv33)) rfl (pmC (pmC (pmC (pmC pr9)))) ?_
     intro v46 G43 Ms45 hG43 q44
     refine match q44 with | ⟨e_48, hR47⟩ => ?_
     subst e_48
     refine W.perm (pmC (pmC (pmC (pmC pr9)))).symm (g9 5 ?_)
     refine W.call (Mp := Ms45) (Yz hR47 (by rw [List.length_set]; exact hsB) (nm9 hG43 hp_hv34 hk_hv34 hm_hv34 hr_hv34 hok_hv34)) rfl (pmC (pmC (pmC (pmC pr9)))) ?_
     intro v52 G49 Ms51 hG49 q50
     refine match q50 with | ⟨e_54, hR53⟩ => ?_
     subst e_54
     refine W.perm (pmC (pmC (pmC (pmC pr9)))).symm (g9 14 ?_)
     refine ⟨.inr rfl, [_, _, _], ⟨rfl, rfl, rfl, trivial⟩, Ms51, ((((List.sublist_append_left _ _).cons _).cons _).cons _).cons _, ?_⟩
     have hE := YP p56
     exact ⟨Xo hE p56 hsl rfl, StR.to hR53 (congrArg Prod.snd hE).symm⟩
    refine W.alloc Zp (fun b55 => (W.nn (WD.a1 10 rfl (W.alloc Zp (fun b56 => (W.nn (d9 [12, 13, 14] ?_)))))))
    refine g9 6 ?_
    refine W.call (Mp := Ms_s) (Yz (StR.mono lec h_s) (by exact hsA) (nk9 hp_hv33 hk_hv33 hm_hv33 hr_hv33 hok_hv33)) rfl (pmC (pmC (pmC (pmC pr9)))) ?_
    intro v60 G57 Ms59 hG57 q58
    refine match q58 with | ⟨e_62, hR61⟩ => ?_
    subst e_62
    refine W.perm (pmC (pmC (pmC (pmC pr9)))).symm (g9 5 ?_)
    refine W.call (Mp := Ms59) (Yz hR61 (by rw [List.length_set]; exact hsB) (nm9 hG57 hp_hv34 hk_hv34 hm_hv34 hr_hv34 hok_hv34)) rfl (pmC (pmC (pmC (pmC pr9)))) ?_
    intro v66 G63 Ms65 hG63 q64
    refine match q64 with | ⟨e_68, hR67⟩ => ?_
    subst e_68
    refine W.perm (pmC (pmC (pmC (pmC pr9)))).symm (g9 14 ?_)
    refine ⟨.inr rfl, [_, _, _], ⟨rfl, rfl, rfl, trivial⟩, Ms65, ((((List.sublist_append_left _ _).cons _).cons _).cons _).cons _, ?_⟩
    have hE := YP p56
    exact ⟨Xo hE p56 hsl rfl, StR.to hR67 (congrArg Prod.snd hE).symm⟩
   ·refine W.alloc Zp (fun b69 => (W.nn ?_))
    refine WD.any [5, 11] (by kernel_rfl) rfl ⟨WD.ap ?_, WD.ap ?_, trivial⟩
    ·refine W.cM (JW c.fan c.leaf c.bud c.slots c.rest (p := (Za l a)) (k := (Zi l a i)) (nm9 lec hp_n hk_n hm_n hr_n hok_n) (nm9 lec hp_hR10 hk_hR10 hm_hR10 hr_hR10 hok_hR10) i hq.hb hq.hr hq.hpv hq.hpm hq.hkm hq.hkr hi9 hq.hsz) rfl (fun _ _ _ _ _ _ _ _ _ _ _ _ _ _ _ _ G70 hG70 hp_hv71 hk_hv71 hm_hv71 hr_hv71 hok_hv71 hp_hv72 hk_hv72 hm_hv72 hr_hv72 hok_hv72 => (W.nn (d9 [6, 7, 8, 9] ?_)))
     refine WD.a1 11 rfl (W.alloc Zp (fun b79 => (W.nn (d9 [12, 13, 14] ?_))))
     refine g9 6 ?_
     refine W.call (Mp := Ms_s) (Yz (StR.mono lec h_s) (by exact hsA) (nk9 hp_hv71 hk_hv71 hm_hv71 hr_hv71 hok_hv71)) rfl (pmC (pmC (pmC (pmC pr9)))) ?_
     intro v83 G80 Ms82 hG80 q81
     refine match q81 with | ⟨e_85, hR84⟩ => ?_
     subst e_85
     refine W.perm (pmC (pmC (pmC (pmC pr9)))).symm (g9 5 ?_)
     refine W.call (Mp := Ms82) (Yz hR84 (by rw [List.length_set]; exact hsB) (nm9 hG80 hp_hv72 hk_hv72 hm_hv72 hr_hv72 hok_hv72)) rfl (pmC (pmC (pmC (pmC pr9)))) ?_
     intro v89 G86 Ms88 hG86 q87
     refine match q87 with | ⟨e_91, hR90⟩ => ?_
     subst e_91
     refine W.perm (pmC (pmC (pmC (pmC pr9)))).symm (g9 14 ?_)
     refine ⟨.inr rfl, [_, _, _], ⟨rfl, rfl, rfl, trivial⟩, Ms88, ((((List.sublist_append_left _ _).cons _).cons _).cons _).cons _, ?_⟩
     have hE := YP p56
     exact ⟨Xo hE p56 hsl rfl, StR.to hR90 (congrArg Prod.snd hE).symm⟩
    refine W.alloc Zp (fun b92 => (W.nn (WD.a1 5 rfl (W.cM (JW c.fan c.leaf c.bud c.slots c.rest (p := (Za l a)) (k := (Zi l a i)) (nm9 lec hp_n hk_n hm_n hr_n hok_n) (nm9 lec hp_hR10 hk_hR10 hm_hR10 hr_hR10 hok_hR10) i hq.hb hq.hr hq.hpv hq.hpm hq.hkm hq.hkr hi9 hq.hsz) rfl (fun _ _ _ _ _ _ _ _ _ _ _ _ _ _ _ _ G93 hG93 hp_hv94 hk_hv94 hm_hv94 hr_hv94 hok_hv94 hp_hv95 hk_hv95 hm_hv95 hr_hv95 hok_hv95 => (W.nn (d9 [6, 7, 8, 9, 12, 13, 14] ?_)))))))
    refine g9 6 ?_
    refine W.call (Mp := Ms_s) (Yz (StR.mono lec h_s) (by exact hsA) (nk9 hp_hv94 hk_hv94 hm_hv94 hr_hv94 hok_hv94)) rfl (pmC (pmC (pmC (pmC pr9)))) ?_
    intro v105 G102 Ms104 hG102 q103
    refine match q103 with | ⟨e_107, hR106⟩ => ?_
    subst e_107
    refine W.perm (pmC (pmC (pmC (pmC pr9)))).symm (g9 5 ?_)
    refine W.call (Mp := Ms104) (Yz hR106 (by rw [List.length_set]; exact hsB) (nm9 hG102 hp_hv95 hk_hv95 hm_hv95 hr_hv95 hok_hv95)) rfl (pmC (pmC (pmC (pmC pr9)))) ?_
    intro v111 G108 Ms110 hG108 q109
    refine match q109 with | ⟨e_113, hR112⟩ => ?_
    subst e_113
    refine W.perm (pmC (pmC (pmC (pmC pr9)))).symm (g9 14 ?_)
    refine ⟨.inr rfl, [_, _, _], ⟨rfl, rfl, rfl, trivial⟩, Ms110, ((((List.sublist_append_left _ _).cons _).cons _).cons _).cons _, ?_⟩
    have hE := YP p56
    exact ⟨Xo hE p56 hsl rfl, StR.to hR112 (congrArg Prod.snd hE).symm⟩
   refine W.alloc Zp (fun b114 => (W.nn ?_))
   refine WD.any [5, 10] (by kernel_rfl) rfl ⟨WD.ap ?_, WD.ap ?_, trivial⟩
   ·refine W.cM (JW c.fan c.leaf c.bud c.slots c.rest (p := (Za l a)) (k := (Zi l a i)) (nm9 lec hp_n hk_n hm_n hr_n hok_n) (nm9 lec hp_hR10 hk_hR10 hm_hR10 hr_hR10 hok_hR10) i hq.hb hq.hr hq.hpv hq.hpm hq.hkm hq.hkr hi9 hq.hsz) rfl (fun _ _ _ _ _ _ _ _ _ _ _ _ _ _ _ _ G115 hG115 hp_hv116 hk_hv116 hm_hv116 hr_hv116 hok_hv116 hp_hv117 hk_hv117 hm_hv117 hr_hv117 hok_hv117 => (W.nn (d9 [6, 7, 8, 9] ?_)))
    refine WD.a1 10 rfl (W.alloc Zp (fun b124 => (W.nn (d9 [12, 13, 14] ?_))))
    refine g9 6 ?_
    refine W.call (Mp := Ms_s) (Yz (StR.mono lec h_s) (by exact hsA) (nk9 hp_hv116 hk_hv116 hm_hv116 hr_hv116 hok_hv116)) rfl (pmC (pmC (pmC (pmC pr9)))) ?_
    intro v128 G125 Ms127 hG125 q126
    refine match q126 with | ⟨e_130, hR129⟩ => ?_
    subst e_130
    refine W.perm (pmC (pmC (pmC (pmC pr9)))).symm (g9 5 ?_)
    refine W.call (Mp := Ms127) (Yz hR129 (by rw [List.length_set]; exact hsB) (nm9 hG125 hp_hv117 hk_hv117 hm_hv117 hr_hv117 hok_hv117)) rfl (pmC (pmC (pmC (pmC pr9)))) ?_
    intro v134 G131 Ms133 hG131 q132
    refine match q132 with | ⟨e_136, hR135⟩ => ?_
    subst e_136
    refine W.perm (pmC (pmC (pmC (pmC pr9)))).symm (g9 14 ?_)
    refine ⟨.inr rfl, [_, _, _], ⟨rfl, rfl, rfl, trivial⟩, Ms133, ((((List.sublist_append_left _ _).cons _).cons _).cons _).cons _, ?_⟩
    have hE := YP p56
    exact ⟨Xo hE p56 hsl rfl, StR.to hR135 (congrArg Prod.snd hE).symm⟩
   refine W.alloc Zp (fun b137 => (W.nn (WD.a1 5 rfl (W.cM (JW c.fan c.leaf c.bud c.slots c.rest (p := (Za l a)) (k := (Zi l a i)) (nm9 lec hp_n hk_n hm_n hr_n hok_n) (nm9 lec hp_hR10 hk_hR10 hm_hR10 hr_hR10 hok_hR10) i hq.hb hq.hr hq.hpv hq.hpm hq.hkm hq.hkr hi9 hq.hsz) rfl (fun _ _ _ _ _ _ _ _ _ _ _ _ _ _ _ _ G138 hG138 hp_hv139 hk_hv139 hm_hv139 hr_hv139 hok_hv139 hp_hv140 hk_hv140 hm_hv140 hr_hv140 hok_hv140 => (W.nn (d9 [6, 7, 8, 9, 12, 13, 14] ?_)))))))
   refine g9 6 ?_
   refine W.call (Mp := Ms_s) (Yz (StR.mono lec h_s) (by exact hsA) (nk9 hp_hv139 hk_hv139 hm_hv139 hr_hv139 hok_hv139)) rfl (pmC (pmC (pmC (pmC pr9)))) ?_
   intro v150 G147 Ms149 hG147 q148
   refine match q148 with | ⟨e_152, hR151⟩ => ?_
   subst e_152
   refine W.perm (pmC (pmC (pmC (pmC pr9)))).symm (g9 5 ?_)
   refine W.call (Mp := Ms149) (Yz hR151 (by rw [List.length_set]; exact hsB) (nm9 hG147 hp_hv140 hk_hv140 hm_hv140 hr_hv140 hok_hv140)) rfl (pmC (pmC (pmC (pmC pr9)))) ?_
   intro v156 G153 Ms155 hG153 q154
   refine match q154 with | ⟨e_158, hR157⟩ => ?_
   subst e_158
   refine W.perm (pmC (pmC (pmC (pmC pr9)))).symm (g9 14 ?_)
   refine ⟨.inr rfl, [_, _, _], ⟨rfl, rfl, rfl, trivial⟩, Ms155, ((((List.sublist_append_left _ _).cons _).cons _).cons _).cons _, ?_⟩
   have hE := YP p56
   exact ⟨Xo hE p56 hsl rfl, StR.to hR157 (congrArg Prod.snd hE).symm⟩
  ·refine W.alloc Zp (fun b159 => (W.nn ?_))
   refine WD.any [1, 11] (by kernel_rfl) rfl ⟨WD.ap ?_, WD.ap ?_, trivial⟩
   ·refine W.call (Mp := Ms_s) (JN (StR.mono lec h_s)) rfl (pmC (pmC (pmC pr9))) ?_
    intro v163 G160 Ms162 hG160 q161
    refine match q161 with | ⟨e_165, eeq161⟩ => ?_
    subst e_165
    have eeq161 := eeq161.symm
    subst eeq161
    refine W.perm (pmC (pmC (pmC pr9))).symm (W.nn ?_)
    refine WD.any [5, 11] (by kernel_rfl) rfl ⟨WD.ap ?_, WD.ap ?_, trivial⟩
    ·refine W.cM (JW c.fan c.leaf c.bud c.slots c.rest (p := (Za l a)) (k := (Zi l a i)) (nm9 lec hp_n hk_n hm_n hr_n hok_n) (nm9 lec hp_hR10 hk_hR10 hm_hR10 hr_hR10 hok_hR10) i hq.hb hq.hr hq.hpv hq.hpm hq.hkm hq.hkr hi9 hq.hsz) rfl (fun _ _ _ _ _ _ _ _ _ _ _ _ _ _ _ _ G166 hG166 hp_hv167 hk_hv167 hm_hv167 hr_hv167 hok_hv167 hp_hv168 hk_hv168 hm_hv168 hr_hv168 hok_hv168 => (W.nn (d9 [6, 7, 8, 9] ?_)))
     refine WD.a1 11 rfl (W.alloc Zp (fun b175 => (W.nn (d9 [12, 13, 14] ?_))))
     refine g9 6 ?_
     refine W.call (Mp := Ms_s) (Yz (StR.mono lec h_s) (by exact hsA) (nk9 hp_hv167 hk_hv167 hm_hv167 hr_hv167 hok_hv167)) rfl (pmC (pmC (pmC (pmC pr9)))) ?_
     intro v179 G176 Ms178 hG176 q177
     refine match q177 with | ⟨e_181, hR180⟩ => ?_
     subst e_181
     refine W.perm (pmC (pmC (pmC (pmC pr9)))).symm (g9 5 ?_)
     refine W.call (Mp := Ms178) (Yz hR180 (by rw [List.length_set]; exact hsB) (nm9 hG176 hp_hv168 hk_hv168 hm_hv168 hr_hv168 hok_hv168)) rfl (pmC (pmC (pmC (pmC pr9)))) ?_
     intro v185 G182 Ms184 hG182 q183
     refine match q183 with | ⟨e_187, hR186⟩ => ?_
     subst e_187
     refine W.perm (pmC (pmC (pmC (pmC pr9)))).symm (g9 14 ?_)
     refine ⟨.inr rfl, [_, _, _], ⟨rfl, rfl, rfl, trivial⟩, Ms184, ((((List.sublist_append_left _ _).cons _).cons _).cons _).cons _, ?_⟩
     have hE := YP p56
     exact ⟨Xo hE p56 hsl rfl, StR.to hR186 (congrArg Prod.snd hE).symm⟩
    refine W.alloc Zp (fun b188 => (W.nn (WD.a1 5 rfl (W.cM (JW c.fan c.leaf c.bud c.slots c.rest (p := (Za l a)) (k := (Zi l a i)) (nm9 lec hp_n hk_n hm_n hr_n hok_n) (nm9 lec hp_hR10 hk_hR10 hm_hR10 hr_hR10 hok_hR10) i hq.hb hq.hr hq.hpv hq.hpm hq.hkm hq.hkr hi9 hq.hsz) rfl (fun _ _ _ _ _ _ _ _ _ _ _ _ _ _ _ _ G189 hG189 hp_hv190 hk_hv190 hm_hv190 hr_hv190 hok_hv190 hp_hv191 hk_hv191 hm_hv191 hr_hv191 hok_hv191 => (W.nn (d9 [6, 7, 8, 9, 12, 13, 14] ?_)))))))
    refine g9 6 ?_
    refine W.call (Mp := Ms_s) (Yz (StR.mono lec h_s) (by exact hsA) (nk9 hp_hv190 hk_hv190 hm_hv190 hr_hv190 hok_hv190)) rfl (pmC (pmC (pmC (pmC pr9)))) ?_
    intro v201 G198 Ms200 hG198 q199
    refine match q199 with | ⟨e_203, hR202⟩ => ?_
    subst e_203
    refine W.perm (pmC (pmC (pmC (pmC pr9)))).symm (g9 5 ?_)
    refine W.call (Mp := Ms200) (Yz hR202 (by rw [List.length_set]; exact hsB) (nm9 hG198 hp_hv191 hk_hv191 hm_hv191 hr_hv191 hok_hv191)) rfl (pmC (pmC (pmC (pmC pr9)))) ?_
    intro v207 G204 Ms206 hG204 q205
    refine match q205 with | ⟨e_209, hR208⟩ => ?_
    subst e_209
    refine W.perm (pmC (pmC (pmC (pmC pr9)))).symm (g9 14 ?_)
    refine ⟨.inr rfl, [_, _, _], ⟨rfl, rfl, rfl, trivial⟩, Ms206, ((((List.sublist_append_left _ _).cons _).cons _).cons _).cons _, ?_⟩
    have hE := YP p56
    exact ⟨Xo hE p56 hsl rfl, StR.to hR208 (congrArg Prod.snd hE).symm⟩
   refine W.alloc Zp (fun b210 => (W.nn (WD.a1 1 rfl (W.call (Mp := Ms_s) (JN (StR.mono lec h_s)) rfl (pmC (pmC (pmC (pmC pr9)))) ?_))))
   intro v214 G211 Ms213 hG211 q212
   refine match q212 with | ⟨e_216, eeq212⟩ => ?_
   subst e_216
   have eeq212 := eeq212.symm
   subst eeq212
   refine W.perm (pmC (pmC (pmC (pmC pr9)))).symm (W.nn (WD.a1 5 rfl (W.cM (JW c.fan c.leaf c.bud c.slots c.rest (p := (Za l a)) (k := (Zi l a i)) (nm9 lec hp_n hk_n hm_n hr_n hok_n) (nm9 lec hp_hR10 hk_hR10 hm_hR10 hr_hR10 hok_hR10) i hq.hb hq.hr hq.hpv hq.hpm hq.hkm hq.hkr hi9 hq.hsz) rfl (fun _ _ _ _ _ _ _ _ _ _ _ _ _ _ _ _ G217 hG217 hp_hv218 hk_hv218 hm_hv218 hr_hv218 hok_hv218 hp_hv219 hk_hv219 hm_hv219 hr_hv219 hok_hv219 => (W.nn (d9 [6, 7, 8, 9, 12, 13, 14] ?_))))))
   refine g9 6 ?_
   refine W.call (Mp := Ms_s) (Yz (StR.mono lec h_s) (by exact hsA) (nk9 hp_hv218 hk_hv218 hm_hv218 hr_hv218 hok_hv218)) rfl (pmC (pmC (pmC (pmC pr9)))) ?_
   intro v229 G226 Ms228 hG226 q227
   refine match q227 with | ⟨e_231, hR230⟩ => ?_
   subst e_231
   refine W.perm (pmC (pmC (pmC (pmC pr9)))).symm (g9 5 ?_)
   refine W.call (Mp := Ms228) (Yz hR230 (by rw [List.length_set]; exact hsB) (nm9 hG226 hp_hv219 hk_hv219 hm_hv219 hr_hv219 hok_hv219)) rfl (pmC (pmC (pmC (pmC pr9)))) ?_
   intro v235 G232 Ms234 hG232 q233
   refine match q233 with | ⟨e_237, hR236⟩ => ?_
   subst e_237
   refine W.perm (pmC (pmC (pmC (pmC pr9)))).symm (g9 14 ?_)
   refine ⟨.inr rfl, [_, _, _], ⟨rfl, rfl, rfl, trivial⟩, Ms234, ((((List.sublist_append_left _ _).cons _).cons _).cons _).cons _, ?_⟩
   have hE := YP p56
   exact ⟨Xo hE p56 hsl rfl, StR.to hR236 (congrArg Prod.snd hE).symm⟩
  refine W.alloc Zp (fun b238 => (W.nn ?_))
  refine WD.any [1, 10] (by kernel_rfl) rfl ⟨WD.ap ?_, WD.ap ?_, trivial⟩
  ·refine W.call (Mp := Ms_s) (JN (StR.mono lec h_s)) rfl (pmC (pmC (pmC pr9))) ?_
   intro v242 G239 Ms241 hG239 q240
   refine match q240 with | ⟨e_244, eeq240⟩ => ?_
   subst e_244
   have eeq240 := eeq240.symm
   subst eeq240
   refine W.perm (pmC (pmC (pmC pr9))).symm (W.nn ?_)
   refine WD.any [5, 10] (by kernel_rfl) rfl ⟨WD.ap ?_, WD.ap ?_, trivial⟩
   ·refine W.cM (JW c.fan c.leaf c.bud c.slots c.rest (p := (Za l a)) (k := (Zi l a i)) (nm9 lec hp_n hk_n hm_n hr_n hok_n) (nm9 lec hp_hR10 hk_hR10 hm_hR10 hr_hR10 hok_hR10) i hq.hb hq.hr hq.hpv hq.hpm hq.hkm hq.hkr hi9 hq.hsz) rfl (fun _ _ _ _ _ _ _ _ _ _ _ _ _ _ _ _ G245 hG245 hp_hv246 hk_hv246 hm_hv246 hr_hv246 hok_hv246 hp_hv247 hk_hv247 hm_hv247 hr_hv247 hok_hv247 => (W.nn (d9 [6, 7, 8, 9] ?_)))
    refine WD.a1 10 rfl (W.alloc Zp (fun b254 => (W.nn (d9 [12, 13, 14] ?_))))
    refine g9 6 ?_
    refine W.call (Mp := Ms_s) (Yz (StR.mono lec h_s) (by exact hsA) (nk9 hp_hv246 hk_hv246 hm_hv246 hr_hv246 hok_hv246)) rfl (pmC (pmC (pmC (pmC pr9)))) ?_
    intro v258 G255 Ms257 hG255 q256
    refine match q256 with | ⟨e_260, hR259⟩ => ?_
    subst e_260
    refine W.perm (pmC (pmC (pmC (pmC pr9)))).symm (g9 5 ?_)
    refine W.call (Mp := Ms257) (Yz hR259 (by rw [List.length_set]; exact hsB) (nm9 hG255 hp_hv247 hk_hv247 hm_hv247 hr_hv247 hok_hv247)) rfl (pmC (pmC (pmC (pmC pr9)))) ?_
    intro v264 G261 Ms263 hG261 q262
    refine match q262 with | ⟨e_266, hR265⟩ => ?_
    subst e_266
    refine W.perm (pmC (pmC (pmC (pmC pr9)))).symm (g9 14 ?_)
    refine ⟨.inr rfl, [_, _, _], ⟨rfl, rfl, rfl, trivial⟩, Ms263, ((((List.sublist_append_left _ _).cons _).cons _).cons _).cons _, ?_⟩
    have hE := YP p56
    exact ⟨Xo hE p56 hsl rfl, StR.to hR265 (congrArg Prod.snd hE).symm⟩
   refine W.alloc Zp (fun b267 => (W.nn (WD.a1 5 rfl (W.cM (JW c.fan c.leaf c.bud c.slots c.rest (p := (Za l a)) (k := (Zi l a i)) (nm9 lec hp_n hk_n hm_n hr_n hok_n) (nm9 lec hp_hR10 hk_hR10 hm_hR10 hr_hR10 hok_hR10) i hq.hb hq.hr hq.hpv hq.hpm hq.hkm hq.hkr hi9 hq.hsz) rfl (fun _ _ _ _ _ _ _ _ _ _ _ _ _ _ _ _ G268 hG268 hp_hv269 hk_hv269 hm_hv269 hr_hv269 hok_hv269 hp_hv270 hk_hv270 hm_hv270 hr_hv270 hok_hv270 => (W.nn (d9 [6, 7, 8, 9, 12, 13, 14] ?_)))))))
   refine g9 6 ?_
   refine W.call (Mp := Ms_s) (Yz (StR.mono lec h_s) (by exact hsA) (nk9 hp_hv269 hk_hv269 hm_hv269 hr_hv269 hok_hv269)) rfl (pmC (pmC (pmC (pmC pr9)))) ?_
   intro v280 G277 Ms279 hG277 q278
   refine match q278 with | ⟨e_282, hR281⟩ => ?_
   subst e_282
   refine W.perm (pmC (pmC (pmC (pmC pr9)))).symm (g9 5 ?_)
   refine W.call (Mp := Ms279) (Yz hR281 (by rw [List.length_set]; exact hsB) (nm9 hG277 hp_hv270 hk_hv270 hm_hv270 hr_hv270 hok_hv270)) rfl (pmC (pmC (pmC (pmC pr9)))) ?_
   intro v286 G283 Ms285 hG283 q284
   refine match q284 with | ⟨e_288, hR287⟩ => ?_
   subst e_288
   refine W.perm (pmC (pmC (pmC (pmC pr9)))).symm (g9 14 ?_)
   refine ⟨.inr rfl, [_, _, _], ⟨rfl, rfl, rfl, trivial⟩, Ms285, ((((List.sublist_append_left _ _).cons _).cons _).cons _).cons _, ?_⟩
   have hE := YP p56
   exact ⟨Xo hE p56 hsl rfl, StR.to hR287 (congrArg Prod.snd hE).symm⟩
  refine W.alloc Zp (fun b289 => (W.nn (WD.a1 1 rfl (W.call (Mp := Ms_s) (JN (StR.mono lec h_s)) rfl (pmC (pmC (pmC (pmC pr9)))) ?_))))
  intro v293 G290 Ms292 hG290 q291
  refine match q291 with | ⟨e_295, eeq291⟩ => ?_
  subst e_295
  have eeq291 := eeq291.symm
  subst eeq291
  refine W.perm (pmC (pmC (pmC (pmC pr9)))).symm (W.nn (WD.a1 5 rfl (W.cM (JW c.fan c.leaf c.bud c.slots c.rest (p := (Za l a)) (k := (Zi l a i)) (nm9 lec hp_n hk_n hm_n hr_n hok_n) (nm9 lec hp_hR10 hk_hR10 hm_hR10 hr_hR10 hok_hR10) i hq.hb hq.hr hq.hpv hq.hpm hq.hkm hq.hkr hi9 hq.hsz) rfl (fun _ _ _ _ _ _ _ _ _ _ _ _ _ _ _ _ G296 hG296 hp_hv297 hk_hv297 hm_hv297 hr_hv297 hok_hv297 hp_hv298 hk_hv298 hm_hv298 hr_hv298 hok_hv298 => (W.nn (d9 [6, 7, 8, 9, 12, 13, 14] ?_))))))
  refine g9 6 ?_
  refine W.call (Mp := Ms_s) (Yz (StR.mono lec h_s) (by exact hsA) (nk9 hp_hv297 hk_hv297 hm_hv297 hr_hv297 hok_hv297)) rfl (pmC (pmC (pmC (pmC pr9)))) ?_
  intro v308 G305 Ms307 hG305 q306
  refine match q306 with | ⟨e_310, hR309⟩ => ?_
  subst e_310
  refine W.perm (pmC (pmC (pmC (pmC pr9)))).symm (g9 5 ?_)
  refine W.call (Mp := Ms307) (Yz hR309 (by rw [List.length_set]; exact hsB) (nm9 hG305 hp_hv298 hk_hv298 hm_hv298 hr_hv298 hok_hv298)) rfl (pmC (pmC (pmC (pmC pr9)))) ?_
  intro v314 G311 Ms313 hG311 q312
  refine match q312 with | ⟨e_316, hR315⟩ => ?_
  subst e_316
  refine W.perm (pmC (pmC (pmC (pmC pr9)))).symm (g9 14 ?_)
  refine ⟨.inr rfl, [_, _, _], ⟨rfl, rfl, rfl, trivial⟩, Ms313, ((((List.sublist_append_left _ _).cons _).cons _).cons _).cons _, ?_⟩
  have hE := YP p56
  exact ⟨Xo hE p56 hsl rfl, StR.to hR315 (congrArg Prod.snd hE).symm⟩
 try dsimp only at p56
 refine g9 6 ?_
 refine WC.cd (fun h74 p74 => ?_) (fun h74 p74 => ?_)
 ·try dsimp only at p74
  refine g9 13 ?_
  refine ⟨.inr rfl, [_, _, _], ⟨rfl, rfl, rfl, trivial⟩, Ms_s, ((List.sublist_append_left _ _).cons _).cons _, ?_⟩
  have hE := X1 p74
  exact ⟨Xo hE p74 rfl rfl, StR.to (StR.mono lec h_s) (congrArg Prod.snd hE).symm⟩
 try dsimp only at p74
 refine g9 14 ?_
 refine ⟨.inr rfl, [_, _, _], ⟨rfl, rfl, rfl, trivial⟩, Ms_s, ((List.sublist_append_left _ _).cons _).cons _, ?_⟩
 have hE := Jr (Zjz p44 p56 p74)
 exact ⟨Xo hE (Zjz p44 p56 p74) hsl rfl, StR.to (StR.mono lec h_s) (congrArg Prod.snd hE).symm⟩

theorem ZqS {G : GH} {b_s : Nat} {c c2 : Cfg} {l : List Nd} {ss : List Seat} {Ms_s : MH} (h_s : StR 60 4 3 189 139 b_s c G l Ms_s) (t : Tree c2 l ss) (a : Int) (k : Str) (hc9 : c = c2) (ha : 0 ≤ a ∧ a < (l.length : Int)) :
    Fc Tryz.prog 106 [pt9 b_s, iV a, sV k.b] G Ms_s (fun v G' M' => v = .tuple #[iV (Zt c l a k).1.1, iV (Zt c l a k).1.2.1, iV (Zt c l a k).1.2.2] ∧ StR 60 4 3 189 139 b_s c G' (Zt c l a k).2 M') := by
 subst hc9
 have hc9 : c = c := rfl
 obtain ⟨P9, hP9, eP9⟩ := t.seat_of ha
 have hPR := (t.seat hP9).1
 rw [eP9] at hPR
 have hPD : NdS (Za l a) := Zbe t.cfg hPR
 have hcp : ChoosePre (Za l a) := ZqJ hPR hPD
 have hlk9 : ((Za l a).kids.length : Int) ≤ 4000 := by have := hPD.1; omega
 refine Fc.go [.tmp 6, .tmp 7, .tmp 8] Tryz.func106 Tryz.ntmps106 rfl (fun w0 => (WC.perm (M' := (Ms_s ++ [])) (by simp) (g9 11 ?_)))
 refine W.ok (XB Zao rfl rfl) (g9 9 ?_)
 refine W.call (Mp := Ms_s) (Zax h_s a) rfl pr9 ?_
 intro v12 G9 Ms11 hG9 q10
 refine match q10 with | ⟨⟨_, e_14, ⟨_, _, _, _, _, _, _, _, e_15, hp_hR13, hk_hR13, hm_hR13, hr_hR13, hok_hR13⟩⟩, eeq10⟩ => ?_
 subst e_14
 subst e_15
 have eeq10 := eeq10.symm
 subst eeq10
 refine g9 3 ?_
 refine W.alloc Zp (fun b16 => (g9 11 ?_))
 refine WC.cn (fun h23 p23 => ?_) (fun h23 p23 => ?_)
 ·try dsimp only at p23
  exact absurd ha p23
 try dsimp only at p23
 refine g9 3 ?_
 refine WC.dw sn9.k9 (d9 [0, 2, 3] ?_)
 refine WD.a1 1 rfl (W.call (Mp := Ms_s) (JN (StR.mono hG9 h_s)) rfl (pmC pr9) ?_)
 intro v20 G17 Ms19 hG17 q18
 refine match q18 with | ⟨e_22, eeq18⟩ => ?_
 subst e_22
 have eeq18 := eeq18.symm
 subst eeq18
 refine W.perm (pmC pr9).symm (W.nn (WD.a1 4 rfl (W.qcall (ZqM c.fan c.leaf c.bud c.slots c.rest (n := (Za l a)) (nm9 hG17 hp_hR13 hk_hR13 hm_hR13 hr_hR13 hok_hR13) k hcp) rfl (W.nn (d9 [5, 6, 7, 8, 9] ?_)))))
 refine g9 15 ?_
 refine WC.cd (fun h35 p35 => ?_) (fun h35 p35 => ?_)
 ·try dsimp only at p35
  refine g9 3 ?_
  refine W.call (Mp := Ms_s) (Zlg (StR.mono lec h_s) t) rfl (pmC pr9) ?_
  intro v26 G23 Ms25 hG23 q24
  refine match q24 with | ⟨e_28, hR27⟩ => ?_
  subst e_28
  refine W.perm (pmC pr9).symm (g9 9 ?_)
  refine WC.cn (fun h39 p39 => ?_) (fun h39 p39 => ?_)
  ·try dsimp only at p39
   refine g9 12 ?_
   refine ⟨.inr rfl, [_, _, _], ⟨rfl, rfl, rfl, trivial⟩, Ms25, (List.sublist_append_left _ _).cons _, ?_⟩
   have hE := Jd p35 p39
   exact ⟨Xo hE rfl rfl rfl, StR.to hR27 (congrArg Prod.snd hE).symm⟩
  try dsimp only at p39
  refine g9 13 ?_
  refine ⟨.inr rfl, [_, _, _], ⟨rfl, rfl, rfl, trivial⟩, Ms25, (List.sublist_append_left _ _).cons _, ?_⟩
  have hE := Jc p35 om9
  exact ⟨Xo hE p35 rfl rfl, StR.to hR27 (congrArg Prod.snd hE).symm⟩
 try dsimp only at p35
 refine g9 6 ?_
 refine WC.cd (fun h43 p43 => ?_) (fun h43 p43 => ?_)
 ·try dsimp only at p43
  have hch := JH (k := k) t ha p43
  refine g9 5 ?_
  refine W.call (Mp := Ms_s) (ZqR (StR.mono lec h_s) t (a := a) (nm9 hG17 hp_hR13 hk_hR13 hm_hR13 hr_hR13 hok_hR13) (Zv c (Za l a) k).2 hc9 ha hch.1 hch.2 ⟨by have := hch.2; omega, by have := hch.2; omega⟩) rfl (pmC pr9) ?_
  intro v32 G29 Ms31 hG29 q30
  refine match q30 with | ⟨e_34, hR33⟩ => ?_
  subst e_34
  refine W.perm (pmC pr9).symm (g9 11 ?_)
  refine ⟨.inr rfl, [_, _, _], ⟨rfl, rfl, rfl, trivial⟩, Ms31, (List.sublist_append_left _ _).cons _, ?_⟩
  have hE := XY p43
  exact ⟨congrArg (fun q : (Int × Int × Int) × List Nd => Value.tuple #[iV q.1.1, iV q.1.2.1, iV q.1.2.2]) hE.symm, StR.to hR33 (congrArg Prod.snd hE).symm⟩
 try dsimp only at p43
 refine g9 13 ?_
 refine ⟨.inr rfl, [_, _, _], ⟨rfl, rfl, rfl, trivial⟩, Ms_s, (List.sublist_append_left _ _).cons _, ?_⟩
 have hE := Jb (ZjA p35 p43)
 exact ⟨Xo hE (ZjA p35 p43) rfl rfl, StR.to (StR.mono lec h_s) (congrArg Prod.snd hE).symm⟩

end Go.Proofs.YtbbemibbmbmamaaGreat

namespace Go.Fw
open Go Go.RowKit
theorem ZqT (c : Cfg) (l : List Nd) : l.length ≤ (ZN c l).2.length := by
 unfold ZN
 split
 ·exact Nat.le_refl _
 ·split
  ·exact Nat.le_refl _
  ·unfold YS
   simp
theorem ZfH (c : Cfg) (l : List Nd) (p i : Int) : l.length ≤ (ZG c l p i).2.length := by
 unfold ZG
 split
 ·exact Nat.le_refl _
 ·unfold Xm
  split
  ·exact Nat.le_refl _
  ·split
   ·exact Nat.le_refl _
   ·split
    ·exact Nat.le_refl _
    ·split
     ·exact Nat.le_refl _
     ·unfold JG
      simp
theorem ZjB (l : List Nd) (a b : Nd) : l.length ≤ (ZP l a b).length := by unfold ZP; simp
theorem ZqU (c : Cfg) (l : List Nd) (a i : Int) : l.length ≤ (Xn c l a i).2.length := by
 have hp := ZfH c l a i
 rcases XO c (Za l a) (Zi l a i) i with h | h | ⟨h, h2⟩ | h
 ·rw [Jr h]; exact Nat.le_refl _
 ·by_cases h3 : (ZG c l a i).1 = 0
  ·rw [XZ h h3]; exact hp
  ·rw [X0 h h3]; exact hp
 ·rw [YP h]; exact ZjB _ _ _
 ·rw [X1 h]; exact Nat.le_refl _
theorem ZqV (c : Cfg) (l : List Nd) (a : Int) (k : Str) : l.length ≤ (Zt c l a k).2.length := by
 have hl := ZqT c l
 rcases Je c (Za l a) k with h | h | ⟨h, _⟩
 ·rw [Jb h]; exact Nat.le_refl _
 ·by_cases h3 : (ZN c l).1 = 0
  ·rw [Jc h h3]; exact hl
  ·rw [Jd h h3]; exact hl
 ·rw [XY h]; exact ZqU c l a _
theorem Zas {c : Cfg} {l : List Nd} {ss : List Seat} (t : Tree c l ss) {a : Int} (ha : 0 ≤ a ∧ a < l.length) (k : Str) : 0 ≤ (Zt c l a k).1.2.1 ∧ (Zt c l a k).1.2.1 < ((Zt c l a k).2.length : Int) := by
 have hg := ZqV c l a k
 rcases Je c (Za l a) k with h | h | ⟨h, _⟩
 ·rw [Jb h]; exact ha
 ·by_cases h3 : (ZN c l).1 = 0
  ·rw [Jc h h3] at hg ⊢; exact ⟨ha.1, by show a < _; dsimp only at hg ⊢; omega⟩
  ·rw [Jd h h3] at hg ⊢; exact ⟨ha.1, by show a < _; dsimp only at hg ⊢; omega⟩
 ·obtain ⟨h0, hi⟩ := JH t ha h
  obtain ⟨P, s⟩ := Js t ha h0 hi
  have hpg := ZfH c l a (Zv c (Za l a) k).2
  rw [XY h]
  rcases XO c (Za l a) (Zi l a (Zv c (Za l a) k).2) (Zv c (Za l a) k).2 with h | h | ⟨h, h2⟩ | h
  ·rw [Jr h]; exact ha
  ·by_cases h3 : (ZG c l a (Zv c (Za l a) k).2).1 = 0
   ·rw [XZ h h3]; exact ⟨ha.1, by dsimp only; omega⟩
   ·rw [X0 h h3]; exact ⟨ha.1, by dsimp only; omega⟩
  ·rw [YP h]
   have := ZjB l (ZU c.leaf c.bud (Za l a) (Zi l a (Zv c (Za l a) k).2) (Zv c (Za l a) k).2).1 (ZU c.leaf c.bud (Za l a) (Zi l a (Zv c (Za l a) k).2) (Zv c (Za l a) k).2).2.1
   exact ⟨ha.1, by dsimp only; omega⟩
  ·rw [X1 h]
   show 0 ≤ (Zi _ _ _).slot ∧ (Zi _ _ _).slot < _
   rw [s.ksl]
   exact s.kin
noncomputable def Yn (c : Cfg) (k : Str) : Nat → List Nd → Int → Int → Option (Int × Int × List Nd)
 | 0, _, _, _ => none
 | m + 1, l, a, n => if (Zt c l a k).1.1 = 0 then some (n, (Zt c l a k).1.2.2, (Zt c l a k).2) else Yn c k m (Zt c l a k).2 (Zt c l a k).1.2.1 (if (Zt c l a k).1.1 = 5 then n else n + 1)
theorem Y4 {c : Cfg} {k : Str} {m : Nat} {l : List Nd} {a n : Int} (h : (Zt c l a k).1.1 = 0) : Yn c k (m + 1) l a n = some (n, (Zt c l a k).1.2.2, (Zt c l a k).2) := if_pos h
theorem Jf {c : Cfg} {k : Str} {m : Nat} {l : List Nd} {a n : Int} (h : (Zt c l a k).1.1 = 5) : Yn c k (m + 1) l a n = Yn c k m (Zt c l a k).2 (Zt c l a k).1.2.1 n := by
 show (if _ then _ else _) = _
 rw [if_neg om9, if_pos h]
theorem Y9 {c : Cfg} {k : Str} {m : Nat} {l : List Nd} {a n : Int} (h : ¬ (Zt c l a k).1.1 = 0) (h2 : ¬ (Zt c l a k).1.1 = 5) : Yn c k (m + 1) l a n = Yn c k m (Zt c l a k).2 (Zt c l a k).1.2.1 (n + 1) := by
 show (if _ then _ else _) = _
 rw [if_neg h, if_neg h2]
theorem ZbN {c : Cfg} {k : Str} : ∀ (m : Nat) {l : List Nd} {ss : List Seat} {a n : Int} {r : Int × Int × List Nd}, Tree c l ss → 0 ≤ a ∧ a < l.length → Yn c k m l a n = some r → ∃ T, Tree c r.2.2 T ∧ Zh r.2.2 = Zh l
 | 0, _, _, _, _, _, _, _, h => by cases h
 | m + 1, l, ss, a, n, r, t, ha, h => by
  obtain ⟨T, hT, hm⟩ := J8 t ha k
  by_cases h0 : (Zt c l a k).1.1 = 0
  ·rw [Y4 h0] at h
   cases h
   exact ⟨T, hT, hm⟩
  ·have hn := Zas t ha k
   by_cases h5 : (Zt c l a k).1.1 = 5
   ·rw [Jf h5] at h
    obtain ⟨T2, h1, h2⟩ := ZbN m hT hn h
    exact ⟨T2, h1, h2.trans hm⟩
   ·rw [Y9 h0 h5] at h
    obtain ⟨T2, h1, h2⟩ := ZbN m hT hn h
    exact ⟨T2, h1, h2.trans hm⟩
end Go.Fw
namespace Go.Proofs.YtbbemibbmbmamaaGreat
open Go Go.Fw Go.RowKit
attribute [local irreducible] Ok W WC
theorem ZjC {G : GH} {b_s : Nat} {c c2 : Cfg} {l : List Nd} {ss : List Seat} {Ms_s : MH} (h_s : StR 60 4 3 189 139 b_s c G l Ms_s) (t : Tree c2 l ss) (k : Str) (hc9 : c = c2) (N : Nat) (r : Int × Int × List Nd) (hr : Yn c k N l 0 0 = some r) (hN : N ≤ 1000000) :
    Fc Tryz.prog 49 [pt9 b_s, sV k.b] G Ms_s (fun v G' M' => v = .tuple #[iV r.1, iV r.2.1] ∧ StR 60 4 3 189 139 b_s c G' r.2.2 M') := by
 subst hc9
 have htp := t.pos
 refine Fc.go [.tmp 4, .tmp 5] Tryz.func49 Tryz.ntmps49 rfl (fun w0 => (WC.perm (M' := (Ms_s ++ [])) (by simp) (g9 17 ?_)))
 refine WC.loop (X := (Nat × List Nd × Int × Int) × MH) (fun x => [(6, iV x.1.2.2.2), (7, iV x.1.2.2.1), (1, sV k.b), (0, pt9 b_s)]) (fun x G Ml => Ml = (x.2 ++ []) ∧ StR 60 4 3 189 139 b_s c G (x.1.2.1) x.2 ∧ Yn c k x.1.1 x.1.2.1 x.1.2.2.1 x.1.2.2.2 = some r ∧ (∃ T, Tree c x.1.2.1 T) ∧ (0 ≤ x.1.2.2.1 ∧ x.1.2.2.1 < (x.1.2.1.length : Int)) ∧ 0 ≤ x.1.2.2.2 ∧ x.1.2.2.2 + (x.1.1 : Int) ≤ 1000000) (fun x => x.1.1) (((N, l, 0, 0) : Nat × List Nd × Int × Int), Ms_s) hs9 ?_ ?_
 ·exact ⟨rfl, (by exact h_s), hr, ⟨ss, t⟩, ⟨by dsimp only; omega, by dsimp only; omega⟩, by dsimp only; omega, by dsimp only; omega⟩
 rintro ⟨⟨m, L, a, n⟩, M_0⟩ gG1 G1 _ hG1 ⟨rfl, ho_0, hcy, hTr, haL, hn0, hnm⟩
 try dsimp only at ho_0 hcy hTr haL hn0 hnm
 obtain ⟨T8, t9⟩ := hTr
 have hm1 : 0 < m := by
   rcases Nat.eq_zero_or_pos m with h | h
   · rw [h] at hcy; cases hcy
   exact h
 rw [show m = m - 1 + 1 by omega] at hcy
 have hnx := Zas t9 haL k
 obtain ⟨T9, hT9, hmp9⟩ := J8 t9 haL k
 refine WC.fr (f := ZZ gG1 [(6, iV n), (7, iV a), (1, sV k.b), (0, pt9 b_s)]) rfl (g9 6 ?_)
 refine W.call (Mp := M_0) (ZqS ho_0 t9 a k rfl haL) rfl pr9 ?_
 intro v5 G2 Ms4 hG2 q3
 refine match q3 with | ⟨e_7, hR6⟩ => ?_
 subst e_7
 refine g9 22 ?_
 refine WC.cd (fun h23 p23 => ?_) (fun h23 p23 => ?_)
 ·try dsimp only at p23
  refine g9 14 ?_
  refine ⟨.inr rfl, [_, _], ⟨rfl, rfl, trivial⟩, Ms4, List.sublist_append_left _ _, ?_⟩
  have hE := Option.some.inj ((Y4 p23).symm.trans hcy)
  exact ⟨congrArg (fun q : Int × Int × List Nd => Value.tuple #[iV q.1, iV q.2.1]) hE, StR.to hR6 (congrArg (fun q : Int × Int × List Nd => q.2.2) hE)⟩
 try dsimp only at p23
 refine g9 6 ?_
 refine WC.cd (fun h27 p27 => ?_) (fun h27 p27 => ?_)
 ·try dsimp only at p27
  refine g9 9 ?_
  exact ⟨hG2, (((m - 1, (Zt c L a k).2, (Zt c L a k).1.2.1, n) : Nat × List Nd × Int × Int), Ms4), hs9, ⟨rfl, (by exact hR6), (Jf p27).symm.trans hcy, ⟨_, hT9⟩, hnx, by dsimp only; omega, by dsimp only; omega⟩, by dsimp only; omega⟩
 try dsimp only at p27
 refine g9 13 ?_
 exact ⟨hG2, (((m - 1, (Zt c L a k).2, (Zt c L a k).1.2.1, n + 1) : Nat × List Nd × Int × Int), Ms4), hs9, ⟨rfl, (by exact hR6), (Y9 p23 p27).symm.trans hcy, ⟨_, hT9⟩, hnx, by dsimp only; omega, by dsimp only; omega⟩, by dsimp only; omega⟩

end Go.Proofs.YtbbemibbmbmamaaGreat

namespace Go.Fw
open Go Go.RowKit
structure Opr where
 kind : Int
 key : Str
 hi : Str
 opn : Bool
 val : Str
 lim : Int
 deriving DecidableEq
instance : Inhabited Opr := ⟨⟨0, Str.nil, Str.nil, false, Str.nil, 0⟩⟩
def Opr.Ok (o : Opr) : Prop := i64 o.kind ∧ i64 o.lim
def eOp : Enc Opr where
 k := 6
 w := 72
 R := fun _ cs o => cs = [.int .i64 o.kind, .string o.key.b, .string o.hi.b, .bool o.opn, .string o.val.b, .int .i64 o.lim] ∧ o.Ok
 mono := fun _ h => h
 len := fun h => by rw [h.1]; rfl
 one := fun h u hu => by rw [h.1] at hu; simp at hu; rcases hu with rfl | rfl | rfl | rfl | rfl | rfl <;> rfl
theorem ZqW {P : Program} {t i s b : TypeId} (ht : Zbi P t = some [(i, 0, 1), (s, 1, 1), (s, 2, 1), (b, 3, 1), (s, 4, 1), (i, 5, 1)]) (hi : P.underlying i = some (.int .i64)) (hs : P.underlying s = some .string) (hb : P.underlying b = some .bool) (hc : P.cellsOf t = 6) : Dec P t eOp := by
 intro H enc w fuel cs x h hw
 obtain ⟨hl, hf⟩ := ZgP ht h hw
 obtain ⟨y0, n0, t0, w0⟩ := hf 0 _ _ _ rfl
 obtain ⟨y1, n1, t1, w1⟩ := hf 1 _ _ _ rfl
 obtain ⟨y2, n2, t2, w2⟩ := hf 2 _ _ _ rfl
 obtain ⟨y3, n3, t3, w3⟩ := hf 3 _ _ _ rfl
 obtain ⟨y4, n4, t4, w4⟩ := hf 4 _ _ _ rfl
 obtain ⟨y5, n5, t5, w5⟩ := hf 5 _ _ _ rfl
 obtain ⟨a0, e0, q0⟩ := ZaS hi t0 w0
 obtain ⟨a1, e1⟩ := ZgR hs t1 w1
 obtain ⟨a2, e2⟩ := ZgR hs t2 w2
 obtain ⟨a3, e3⟩ := Zui hb t3
 obtain ⟨a4, e4⟩ := ZgR hs t4 w4
 obtain ⟨a5, e5, q5⟩ := ZaS hi t5 w5
 rw [hc] at hl
 match cs, hl with
 | [_, _, _, _, _, _], _ =>
  simp at e0 e1 e2 e3 e4 e5
  subst e0 e1 e2 e3 e4 e5
  exact ⟨⟨a0, a1, a2, a3, a4, a5⟩, rfl, q0, q5⟩
def Opr.span (o : Opr) : Span := if o.kind = 4 ∨ o.kind = 6 then ⟨o.key, o.hi, o.opn⟩ else ⟨o.key, o.key.next, false⟩
def Opr.R (o : Opr) : Prop := (1 ≤ o.kind ∧ o.kind ≤ 6 ∧ o.key.b.size ≤ 16 ∧ o.hi.b.size ≤ 16 ∧ o.val.b.size ≤ 16) ∧
 (2 < o.kind → o.val = Str.nil) ∧ (o.kind ≠ 6 → o.lim = 0) ∧ (o.kind = 6 → 1 ≤ o.lim ∧ o.lim ≤ 64) ∧
 if o.kind = 4 ∨ o.kind = 6 then o.span.empty = false ∧ (o.opn = false ∨ o.hi = Str.nil) else o.hi = Str.nil ∧ o.opn = false
instance (o : Opr) : Decidable o.R := by unfold Opr.R; infer_instance
theorem YU {o : Opr} {b : Bool} (h : b = true ↔ o.R := by
 have hn : ∀ s : Str, s.b = ⟨#[]⟩ ↔ s = Str.nil := fun s => ⟨fun h => Str.ext' h, fun h => by rw [h]; rfl⟩
 simp only [Opr.R]
 first | (simp_all; done) | (simp_all; omega) | grind) : Value.bool b = Value.bool (decide o.R) := congrArg Value.bool (Bool.eq_iff_iff.2 (h.trans decide_eq_true_iff.symm))
def Opr.msg (o : Opr) (s : Int) : Msg := ⟨s, o.kind, o.key, o.hi, o.opn, o.val⟩
theorem Opr.R.fit {o : Opr} (h : o.R) (s : Int) : (o.msg s).fit := Zbt ⟨h.1.2.2.1, h.1.2.2.2.2⟩
structure Ans where
 err : Int
 has : Bool
 val : Str
 rows : List Pair
 deriving DecidableEq
instance : Inhabited Ans := ⟨⟨0, false, Str.nil, []⟩⟩
def AnsC (G : GH) (cs : List Value) (a : Ans) : Prop :=
 ∃ p c, cs = [.int .i64 a.err, .bool a.has, .string a.val.b, .slice p a.rows.length c] ∧ SlR Zl G (.slice p a.rows.length c) a.rows ∧ i64 a.err
structure Drow where
 key : Str
 a : Str
 b : Str
 inA : Bool
 inB : Bool
 deriving DecidableEq
instance : Inhabited Drow := ⟨⟨Str.nil, Str.nil, Str.nil, false, false⟩⟩
def doN (l : List Pair) (o : Opr) : List Pair × Ans :=
 if ¬ o.R then (l, ⟨3, false, Str.nil, []⟩)
 else if o.kind = 5 then (l, ⟨0, (Zg l o.key).isSome, (Zg l o.key).getD Str.nil, []⟩)
 else if o.kind = 6 then (l, ⟨0, false, Str.nil, Ys l o.span o.lim⟩)
 else (takeN l (o.msg 1), ⟨0, false, Str.nil, []⟩)
theorem ZjD {l : List Pair} {o : Opr} (h : ¬ o.R) : doN l o = (l, ⟨3, false, Str.nil, []⟩) := if_pos h
theorem ZjE {l : List Pair} {o : Opr} (h : o.R) (h5 : o.kind = 5) : doN l o = (l, ⟨0, (Zg l o.key).isSome, (Zg l o.key).getD Str.nil, []⟩) := by rw [doN, if_neg (by simpa using h), if_pos h5]
theorem ZjF {l : List Pair} {o : Opr} (h : o.R) (h6 : o.kind = 6) : doN l o = (l, ⟨0, false, Str.nil, Ys l o.span o.lim⟩) := by rw [doN, if_neg (by simpa using h), if_neg om9, if_pos h6]
theorem ZjG {l : List Pair} {o : Opr} (h : o.R) (h5 : ¬ o.kind = 5) (h6 : ¬ o.kind = 6) : doN l o = (takeN l (o.msg 1), ⟨0, false, Str.nil, []⟩) := by rw [doN, if_neg (by simpa using h), if_neg h5, if_neg h6]
theorem ZqX {l : List Pair} {o : Opr} (h : PairsR l) : PairsR (doN l o).1 ∧ (doN l o).1.length ≤ l.length + 1 := by
 unfold doN
 split
 ·exact ⟨h, by show l.length ≤ _; omega⟩
 ·split
  ·exact ⟨h, by show l.length ≤ _; omega⟩
  ·split
   ·exact ⟨h, by show l.length ≤ _; omega⟩
   ·rename_i h1 h2 h3
    have hR : o.R := by simpa using h1
    have := h.take_len (o.msg 1)
    exact ⟨h.takeF (hR.fit 1), this⟩
def Drow.same (r : Drow) : Bool := r.inA && r.inB && decide (r.a = r.b)
theorem ZjH {l : List Pair} {k : Str} (h : ∀ p ∈ l, p.key ≠ k) : Zg l k = none := by
 induction l with
 | nil => rfl
 | cons p l ih => rw [Xv, if_neg (h p (by simp))]; exact ih fun p hp => h p (by simp [hp])
end Go.Fw

namespace Go.Fw
def Rise (l : List Str) : Prop := l.Pairwise fun a b => a.lt b = true
theorem Rise.ext : ∀ {a b : List Str}, Rise a → Rise b → (∀ k, k ∈ a ↔ k ∈ b) → a = b
 | [], [], _, _, _ => rfl
 | [], y :: b, _, _, h => by have := (h y).2 (by simp); cases this
 | x :: a, [], _, _, h => by have := (h x).1 (by simp); cases this
 | x :: a, y :: b, ha, hb, h => by
  obtain ⟨ha1, ha2⟩ := List.pairwise_cons.1 ha
  obtain ⟨hb1, hb2⟩ := List.pairwise_cons.1 hb
  have hxy : x = y := by
   rcases List.mem_cons.1 ((h x).1 (by simp)) with e | hx
   ·exact e
   ·rcases List.mem_cons.1 ((h y).2 (by simp)) with e | hy
    ·exact e.symm
    ·have := Str.lt_trans (hb1 x hx) (ha1 y hy); rw [Str.lt_irrefl] at this; cases this
  subst hxy
  refine congrArg (x :: ·) (Rise.ext ha2 hb2 fun k => ⟨fun hk => ?_, fun hk => ?_⟩)
  ·rcases List.mem_cons.1 ((h k).1 (by simp [hk])) with e | hk2
   ·subst e; have := ha1 k hk; rw [Str.lt_irrefl] at this; cases this
   ·exact hk2
  ·rcases List.mem_cons.1 ((h k).2 (by simp [hk])) with e | hk2
   ·subst e; have := hb1 k hk; rw [Str.lt_irrefl] at this; cases this
   ·exact hk2
end Go.Fw

namespace Go.Fw
theorem ZjI {l : List Pair} {k : Str} : (Zg l k).isSome = true ↔ k ∈ l.map (·.key) := by
 induction l with
 | nil => simp [Zg]
 | cons p l ih =>
  rw [Xv]
  by_cases h : p.key = k
  ·rw [if_pos h]; simp [h]
  ·rw [if_neg h, ih]; simp [Ne.symm h]
theorem ZjJ : ∀ {a b : List Pair}, Srt a → Srt b → (∀ k, Zg a k = Zg b k) → a = b
 | [], [], _, _, _ => rfl
 | [], y :: b, _, _, h => by have := h y.key; rw [Xv, if_pos rfl] at this; cases this
 | x :: a, [], _, _, h => by have := h x.key; rw [Xv, if_pos rfl] at this; cases this
 | x :: a, y :: b, ha, hb, h => by
  obtain ⟨ha1, ha2⟩ := List.pairwise_cons.1 ha
  obtain ⟨hb1, hb2⟩ := List.pairwise_cons.1 hb
  have mx : y.key ∈ (x :: a).map (·.key) := ZjI.1 (by rw [h, Xv, if_pos rfl]; rfl)
  have my : x.key ∈ (y :: b).map (·.key) := ZjI.1 (by rw [← h, Xv, if_pos rfl]; rfl)
  have hk : x.key = y.key := by
   rw [List.map_cons] at mx my
   rcases List.mem_cons.1 mx with e | mx
   ·exact e.symm
   ·rcases List.mem_cons.1 my with e | my
    ·exact e
    ·obtain ⟨p, hp, ep⟩ := List.mem_map.1 mx
     obtain ⟨q, hq, eq⟩ := List.mem_map.1 my
     have h1 := ha1 p hp
     have h2 := hb1 q hq
     rw [ep] at h1; rw [eq] at h2
     have := Str.lt_trans h1 h2
     rw [Str.lt_irrefl] at this; cases this
  have hv : x.val = y.val := by
   have := h x.key
   rw [Xv, if_pos rfl, Xv, if_pos hk.symm] at this
   exact Option.some.inj this
  have hxy : x = y := by cases x; cases y; simp_all
  subst hxy
  refine congrArg (x :: ·) (ZjJ ha2 hb2 fun k => ?_)
  have h3 := h k
  rw [Xv, Xv] at h3
  by_cases hkx : x.key = k
  ·rw [ZjH fun p hp e => ?_, ZjH fun p hp e => ?_]
   ·have := hb1 p hp; rw [hkx, e, Str.lt_irrefl] at this; cases this
   ·have := ha1 p hp; rw [hkx, e, Str.lt_irrefl] at this; cases this
  ·rwa [if_neg hkx, if_neg hkx] at h3
end Go.Fw
namespace Go.Fw
open Go Go.RowKit
def Yd (n : Nd) (m : Msg) : Nd := { n with msgs := n.msgs ++ [m], seen := m.stamp }
structure InjOf (c : Cfg) (l : List Nd) (ss : List Seat) (m : Msg) : Prop where
  t : Tree c l ss
  h0 : ¬ (Za l 0).level = 0
  mR : m.R
  st : m.stamp = (Za l 0).seen + 1
  le : m.stamp ≤ 1099511627776
  sn : ∀ n ∈ l, n.seen ≤ (Za l 0).seen
  fit : m.size ≤ c.bud - Zx (Za l 0).msgs
def Z6 (l : List Nd) (r : Nd) : List Nd := l.set 0 r
namespace InjOf
variable {c : Cfg} {l : List Nd} {ss : List Seat} {m : Msg}
theorem pos (p : InjOf c l ss m) : 0 < l.length := p.t.pos
theorem gx (p : InjOf c l ss m) : (Zm l 0).n = Za l 0 := p.t.rootn
theorem rsl (p : InjOf c l ss m) : (Za l 0).slot = 0 ∧ Za l 0 ∈ l := YI p.t.slot ⟨Int.le_refl _, by have := p.pos; omega⟩
theorem rseat (p : InjOf c l ss m) : SeatP c (Zm l 0) := p.t.seat p.t.root
theorem rR (p : InjOf c l ss m) : (Za l 0).R c.fan c.leaf c.bud := by have := p.rseat.1; rwa [p.gx] at this
theorem rin (p : InjOf c l ss m) : (Za l 0).innerR c.fan c.bud := by have h := p.rR.2.2.2; rwa [if_neg p.h0] at h
theorem rtop (p : InjOf c l ss m) : (Za l 0).top = true := by
  have := p.rseat.2.1.1.1
  rw [p.gx] at this
  exact this
theorem old (p : InjOf c l ss m) : ∀ x ∈ ss, ∀ y ∈ x.ms, y.stamp < m.stamp := by
  have hroot : ∀ y ∈ (Za l 0).msgs, y.stamp < m.stamp := fun y hy => by
    obtain ⟨j, hj, rfl⟩ := List.getElem_of_mem hy
    have := (p.rin.2.2.2.2.2.2 j hj).1
    have := p.st
    omega
  have key : ∀ x ∈ ss, (∀ y ∈ x.ms, y.stamp < m.stamp) ∧ ∀ y ∈ x.n.msgs, y.stamp < m.stamp := by
    refine p.t.ind ⟨fun y hy => (by cases hy), fun y hy => hroot y (by rw [p.gx] at hy; exact hy)⟩ fun x hx h0 ⟨h1, h2⟩ j hj => ?_
    have hk := p.t.kid_ms hx (p.t.rst x hx) j
    have hms : ∀ y ∈ (Zb l x j).ms, y.stamp < m.stamp := fun y hy => by
      rw [hk.1] at hy
      rcases List.mem_append.1 hy with hy | hy
      · obtain ⟨z, hz, e⟩ := JL hy; rw [e]; exact h2 z hz
      · obtain ⟨z, hz, e⟩ := JL hy; rw [e]; exact h1 z hz
    refine ⟨hms, fun y hy => ?_⟩
    have hK := p.t.at hx h0 hj
    by_cases hl : (Zb l x j).n.level = 0
    · rw [p.t.nomsgs hK.1 hl] at hy; cases hy
    · have hI := (p.t.msgs hK.1).2.2 y hy
      have hs := p.sn _ (p.t.nd hK.1).2.2
      have := p.st
      omega
  exact fun x hx => (key x hx).1
noncomputable def gI (l : List Nd) (m : Msg) (x : Seat) : Seat := if x.n.slot = 0 then ⟨Yd (Za l 0) m, Span.all, []⟩ else ⟨x.n, x.s, x.ms ++ Zc x.s [m]⟩
theorem root_of (p : InjOf c l ss m) {x : Seat} (hx : x ∈ ss) (e : x.n.slot = 0) : x = Zm l 0 := p.t.uniq hx p.t.root (by rw [e]; exact p.t.root0.symm)
theorem g_r (p : InjOf c l ss m) : gI l m (Zm l 0) = ⟨Yd (Za l 0) m, Span.all, []⟩ := if_pos p.t.root0
theorem g_x {x : Seat} (h : x.n.slot ≠ 0) : gI l m x = ⟨x.n, x.s, x.ms ++ Zc x.s [m]⟩ := if_neg h
theorem two (p : InjOf c l ss m) {Q : Seat → Prop} (hr : Q (Zm l 0)) (hx : ∀ x ∈ ss, x.n.slot ≠ 0 → Q x) : ∀ x ∈ ss, Q x := fun x hm => by
  by_cases e : x.n.slot = 0
  · rw [p.root_of hm e]; exact hr
  · exact hx x hm e
theorem g_same (p : InjOf c l ss m) : ∀ x ∈ ss, (gI l m x).n.slot = x.n.slot ∧ (gI l m x).n.level = x.n.level ∧ (gI l m x).n.right = x.n.right ∧ (gI l m x).n.pivots = x.n.pivots ∧ (gI l m x).n.kids = x.n.kids ∧ (gI l m x).s = x.s ∧ (gI l m x).n.rows = x.n.rows := by
  refine p.two ?_ fun x hx h => ?_
  · rw [p.g_r, p.gx]; exact ⟨rfl, rfl, rfl, rfl, rfl, rfl, rfl⟩
  · rw [g_x h]; exact ⟨rfl, rfl, rfl, rfl, rfl, rfl, rfl⟩
theorem slots (p : InjOf c l ss m) : SlotsP (Z6 l (Yd (Za l 0) m)) := by
  have h := ZbZ p.t.slot (x := Yd (Za l 0) m) (by show 0 ≤ (Za l 0).slot ∧ (Za l 0).slot < _; rw [p.rsl.1]; have := p.pos; omega) p.le
  have e : (Yd (Za l 0) m).slot.toNat = 0 := by show (Za l 0).slot.toNat = 0; rw [p.rsl.1]; rfl
  rw [e] at h; exact h
theorem len (p : InjOf c l ss m) : (Z6 l (Yd (Za l 0) m)).length = l.length := by unfold Z6; rw [List.length_set]
theorem find (p : InjOf c l ss m) (s : Int) : Zw (Z6 l (Yd (Za l 0) m)) s = (if s = 0 then Yd (Za l 0) m else Za l s, decide (0 ≤ s ∧ s < (l.length : Int))) := by
  rw [Zau p.slots, p.len]
  congr 1
  have e : (Yd (Za l 0) m).slot = 0 := p.rsl.1
  have h := Zay (l := l) (x := Yd (Za l 0) m) (by rw [e]; have := p.pos; omega) (i := s)
  rw [e] at h
  exact h
theorem find_g (p : InjOf c l ss m) {x : Seat} (hx : x ∈ ss) : Zw (Z6 l (Yd (Za l 0) m)) x.n.slot = ((gI l m x).n, true) := by
  have hs := (p.t.nd hx).1
  rw [p.find, decide_eq_true ⟨hs.1, hs.2⟩]
  congr 1
  revert hs
  refine p.two (Q := fun x => 0 ≤ x.n.slot ∧ x.n.slot < (l.length : Int) → (if x.n.slot = 0 then Yd (Za l 0) m else Za l x.n.slot) = (gI l m x).n) (fun hs => ?_) (fun x hx h hs => ?_) x hx
  · rw [if_pos p.t.root0, p.g_r]
  · rw [if_neg h, g_x h]; exact (p.t.nd hx).2.1.symm
theorem slot_at (p : InjOf c l ss m) {x : Seat} (hx : x ∈ ss) (h0 : ¬ x.n.level = 0) {j : Nat} (hj : j < x.n.kids.length) : x.n.kids.getD j 0 = (Zb l x j).n.slot := by
  have e := (p.t.at hx h0 hj)
  rw [List.getD_eq_getElem?_getD, List.getElem?_eq_getElem hj, e.2.2.1, (YI p.t.slot e.2.1).1]; rfl
theorem kid_ne (p : InjOf c l ss m) {x : Seat} (hx : x ∈ ss) (h0 : ¬ x.n.level = 0) {j : Nat} (hj : j < x.n.kids.length) : (Zb l x j).n.slot ≠ 0 := by
  have hin : Zb l x j ∈ Zk l x := by rw [(Z8 (p.t.kids hx) h0).1]; exact List.mem_map.2 ⟨j, List.mem_range.2 hj, rfl⟩
  have := p.t.root_kid hx hin
  rwa [p.t.root0] at this
theorem rst9 (p : InjOf c l ss m) {x : Seat} (hx : x ∈ ss) (s : Span) : Rst (x.ms ++ Zc s [m]) := by
  refine List.pairwise_append.2 ⟨p.t.rst x hx, Ju (by simp [Rst]), fun a ha b hb => ?_⟩
  obtain ⟨z, hz, e⟩ := JL hb
  simp at hz
  subst hz
  rw [e]; exact p.old x hx a ha
theorem kid_g (p : InjOf c l ss m) {x : Seat} (hx : x ∈ ss) (h0 : ¬ x.n.level = 0) {j : Nat} (hj : j < x.n.kids.length) : Zb (Z6 l (Yd (Za l 0) m)) (gI l m x) j = gI l m (Zb l x j) := by
  have hy := (p.t.at hx h0 hj).1
  have hn0 := p.kid_ne hx h0 hj
  obtain ⟨s1, s2, s3, s4, s5, s6, s7⟩ := p.g_same x hx
  have en : (Zb (Z6 l (Yd (Za l 0) m)) (gI l m x) j).n = (Zb l x j).n := by
    show (Zw _ ((gI l m x).n.kids.getD j 0)).1 = _
    rw [s5, p.slot_at hx h0 hj, p.find_g hy, g_x hn0]
  have es : (Zb (Z6 l (Yd (Za l 0) m)) (gI l m x) j).s = (Zb l x j).s := by
    show (gI l m x).s.meet (Zf (gI l m x).n.pivots (j : Int)) = _
    rw [s4, s6]; rfl
  have hr := p.rst9 hy (Zb l x j).s
  have em : ZQ [Zc (Zb l x j).s (gI l m x).n.msgs, Zc (Zb l x j).s (gI l m x).ms] = (Zb l x j).ms ++ Zc (Zb l x j).s [m] := by
    have hk := (p.t.kid_ms hx (p.t.rst x hx) j).1
    by_cases e : x.n.slot = 0
    · obtain rfl := p.root_of hx e
      rw [p.g_r]
      show ZQ [Zc _ ((Za l 0).msgs ++ [m]), Zc _ []] = _
      have e0 : Zc (Zb l (Zm l 0) j).s (Zm l 0).ms = [] := rfl
      rw [e0, List.append_nil, p.gx] at hk
      rw [Jj, ← hk]
      exact (ZaO hr List.Pairwise.nil fun a ha b hb => by cases hb).1.trans (List.append_nil _)
    · rw [g_x e]
      show ZQ [Zc _ x.n.msgs, Zc _ (x.ms ++ Zc x.s [m])] = _
      rw [Jj, XI fun k hk => Zbb k hk]
      rw [hk] at hr ⊢
      rw [List.append_assoc] at hr ⊢
      obtain ⟨r1, r2, r3⟩ := ZaH hr
      exact (ZaO r1 r2 r3).1
  have e3 : (Zb (Z6 l (Yd (Za l 0) m)) (gI l m x) j).ms = ZQ [Zc (Zb (Z6 l (Yd (Za l 0) m)) (gI l m x) j).s (gI l m x).n.msgs, Zc (Zb (Z6 l (Yd (Za l 0) m)) (gI l m x) j).s (gI l m x).ms] := rfl
  rw [es, em] at e3
  rw [g_x hn0]
  cases hA : Zb (Z6 l (Yd (Za l 0) m)) (gI l m x) j
  rw [hA] at en es e3
  simp only at en es e3
  rw [en, es, e3]
theorem each (p : InjOf c l ss m) {x : Seat} (hx : x ∈ ss) : (Z7 (Z6 l (Yd (Za l 0) m)) (gI l m x)).isSome = true ∧ Zk (Z6 l (Yd (Za l 0) m)) (gI l m x) = (Zk l x).map (gI l m) := by
  obtain ⟨s1, s2, s3, s4, s5, s6, s7⟩ := p.g_same x hx
  by_cases h0 : x.n.level = 0
  · rw [ZaM (by rw [s2]; exact h0), Xz (by rw [s2]; exact h0), Xz h0]; exact ⟨rfl, rfl⟩
  · obtain ⟨h1, h2, h3, h4⟩ := Z8 (p.t.kids hx) h0
    obtain ⟨g1, g2⟩ := ZaG (l := Z6 l (Yd (Za l 0) m)) (x := gI l m x) (by rw [s2]; exact h2) (by rw [s4, s5]; exact h3) fun j hj => by
      rw [s5] at hj
      have e := p.t.at hx h0 hj
      unfold XQ
      rw [s5, p.slot_at hx h0 hj, p.find_g e.1]
      simp only [Bool.true_and, decide_eq_true_eq]
      rw [(p.g_same _ e.1).2.1, s2]; exact e.2.2.2
    refine ⟨g1, ?_⟩
    rw [g2, h1, s5]
    unfold Xp
    rw [List.map_map]
    exact List.map_congr_left fun j hj => p.kid_g hx h0 (List.mem_range.1 hj)
theorem froot (p : InjOf c l ss m) : gI l m (Zm l 0) = Zm (Z6 l (Yd (Za l 0) m)) 0 := by
  have hf := p.find_g p.t.root
  rw [p.t.root0, p.g_r] at hf
  rw [p.g_r]
  unfold Zm
  rw [hf]
theorem fix (p : InjOf c l ss m) : ss.map (gI l m) = Zm (Z6 l (Yd (Za l 0) m)) 0 :: (ss.map (gI l m)).flatMap (Zk (Z6 l (Yd (Za l 0) m))) := by
  rw [PourOf.flat_map fun x hx => (p.each hx).2]
  conv => lhs; rw [p.t.fix]
  rw [List.map_cons, p.froot]
theorem keys (p : InjOf c l ss m) : (ss.map (gI l m)).map Seat.key = ss.map Seat.key := by
  rw [List.map_map]
  refine List.map_congr_left fun x hx => ?_
  obtain ⟨s1, s2, s3, _⟩ := p.g_same x hx
  show ((gI l m x).n.slot, (gI l m x).n.level, (gI l m x).n.right) = _
  rw [s1, s2, s3]; rfl
theorem perm (p : InjOf c l ss m) : ((ss.map (gI l m)).map fun x : Seat => x.n.slot).Perm ((Z6 l (Yd (Za l 0) m)).map fun n : Nd => n.slot) := by
  have h1 : (ss.map (gI l m)).map (fun x : Seat => x.n.slot) = ss.map (fun x : Seat => x.n.slot) := by
    rw [List.map_map]
    exact List.map_congr_left fun x hx => (p.g_same x hx).1
  rw [h1]
  have h4 : ((Z6 l (Yd (Za l 0) m)).map fun n : Nd => n.slot) = (l.map fun n : Nd => n.slot) := by rw [ZaQ p.slots, ZaQ p.t.slot, p.len]
  rw [h4]; exact p.t.perm_s
theorem nR (p : InjOf c l ss m) : (Yd (Za l 0) m).R c.fan c.leaf c.bud := by
  obtain ⟨⟨r1, r2, r3⟩, r4, r5, _⟩ := p.rR
  obtain ⟨i1, i2, i3, i4, i5, i6, i7⟩ := p.rin
  have hst := p.st
  have hfit := p.fit
  refine ⟨⟨r1, r2, by show 0 ≤ m.stamp; omega⟩, r4, r5, ?_⟩
  rw [if_neg (show ¬ (Yd (Za l 0) m).level = 0 from p.h0)]
  refine ⟨i1, i2, ?_, ?_, i5, i6, fun j hj => ?_⟩
  · refine MsgsR.iff.2 ⟨fun x hx => ?_, ?_⟩
    · rcases List.mem_append.1 hx with hx | hx
      · exact (MsgsR.iff.1 i3).1 x hx
      · simp at hx; subst hx; exact p.mR
    · refine List.pairwise_append.2 ⟨(MsgsR.iff.1 i3).2, by simp, fun a ha b hb => ?_⟩
      simp at hb; subst hb
      obtain ⟨q, hq, rfl⟩ := List.getElem_of_mem ha
      have := (i7 q hq).1
      omega
  · show Zx ((Za l 0).msgs ++ [m]) ≤ _
    rw [Zdm]
    have : Zx [m] = m.size := by simp [Zx]
    omega
  · refine ⟨?_, .inl p.rtop⟩
    have hj2 : j < ((Za l 0).msgs ++ [m]).length := hj
    show (((Za l 0).msgs ++ [m])[j]).stamp ≤ m.stamp
    rw [List.getElem_append]
    split
    · rename_i h
      have := (i7 j h).1
      omega
    · simp
theorem seats9 (p : InjOf c l ss m) : ∀ x ∈ ss, SeatP c (gI l m x) := by
  refine p.two ?_ fun x hx h => ?_
  · rw [p.g_r]
    have sR := p.rseat
    have e := p.gx
    obtain ⟨q1, ⟨⟨q2, q3⟩, q4, q5, q6⟩, q7, q8⟩ := sR
    rw [e] at q2 q3 q7
    refine ⟨p.nR, ⟨⟨q2, q3⟩, fun j hj => (Zav _), fun j hj => ?_, fun j hj => ?_⟩, q7, fun j hj => absurd hj (Nat.not_lt_zero j)⟩
    · have := q5 j (by rw [e]; exact hj)
      simp only [e] at this
      exact this
    · refine PourOf.norm_of fun q _ => Zav q
  · rw [g_x h]
    obtain ⟨q1, q2, q7, q8⟩ := p.t.seat hx
    refine ⟨q1, q2, q7, fun j hj => ?_⟩
    have hmem : (x.ms ++ Zc x.s [m])[j] ∈ x.ms ++ Zc x.s [m] := List.getElem_mem hj
    show x.n.seen < ((x.ms ++ Zc x.s [m])[j]).stamp
    rcases List.mem_append.1 hmem with hm | hm
    · obtain ⟨q, hq, e⟩ := List.getElem_of_mem hm
      rw [← e]; exact q8 q hq
    · obtain ⟨z, hz, e⟩ := JL hm
      simp at hz; subst hz
      rw [e]
      have := p.sn _ (p.t.nd hx).2.2
      have := p.st
      omega
theorem tree (p : InjOf c l ss m) : Tree c (Z6 l (Yd (Za l 0) m)) (ss.map (gI l m)) := by
  have hsm := p.t.sml
  refine Zdj p.t.cfg (by rw [p.len]; exact p.t.pos) (Zd2 p.t.cfg (by rw [p.len]; exact hsm.1) fun n hn => ?_) p.slots p.fix (fun z hz => ?_) p.perm ?_ (by rw [p.len]; exact p.t.q.1.2.2) fun z hz => ?_
  · have old : ∀ n ∈ l, n.R c.fan c.leaf c.bud := fun n hn => by
      have := (p.t.perm.mem_iff).2 hn
      obtain ⟨x, hx, rfl⟩ := List.mem_map.1 this
      exact (p.t.seat hx).1
    rcases List.mem_or_eq_of_mem_set hn with hn | rfl
    · exact old n hn
    · exact p.nR
  · obtain ⟨x, hx, rfl⟩ := List.mem_map.1 hz
    exact (p.each hx).1
  · rw [p.keys]; exact (ZbE ss).1 p.t.q.1.2.1
  · obtain ⟨x, hx, rfl⟩ := List.mem_map.1 hz
    exact p.seats9 x hx
theorem map (p : InjOf c l ss m) : Zh (Z6 l (Yd (Za l 0) m)) = takeN (Zh l) m := by
  have t' := p.tree
  have hk : m.key.b.size < 140737488355328 := by have := p.mR.1.2.1; omega
  have hkd : 1 ≤ m.kind ∧ m.kind ≤ 4 := by
    have h := p.mR.2
    split at h
    · omega
    · rcases h.2.2 with h | h | h <;> omega
  refine ZjJ t'.srt (J4.1 (p.t.mapFits.takeM p.mR.1.2.1 p.mR.1.2.2.1)).2 fun k => ?_
  rw [Zhg hk hkd.1 hkd.2, ← p.t.lookup k, ← t'.lookup k]
  have hL := p.t.leafOk k
  have hne : (Zn l k).n.slot ≠ 0 := fun e => p.h0 (by rw [← p.gx, ← p.root_of hL.mem e]; exact hL.lvl)
  have e : gI l m (Zn l k) = Zn (Z6 l (Yd (Za l 0) m)) k := by
    refine t'.leaf_eq (List.mem_map.2 ⟨_, hL.mem, rfl⟩) ?_ ?_
    · rw [(p.g_same _ hL.mem).2.2.2.2.2.1]; exact hL.has
    · rw [(p.g_same _ hL.mem).2.1]; exact hL.lvl
  rw [← e, g_x hne]
  show Eff.apply (YD ((Zn l k).ms ++ Zc (Zn l k).s [m]) k) _ = _
  rw [Zet, Zet, List.foldl_append, Zfj hL.has]
  rfl
end InjOf
def wtM (fan : Nat) (P : List Str) (m : Msg) : Nat := if m.kind = 4 then fan - Ze P m.key else 1
def wtS (fan : Nat) (P : List Str) (l : List Msg) : Nat := (l.map (wtM fan P)).sum
def wtN (c : Cfg) (n : Nd) : Nat := wtS c.fan.toNat n.pivots n.msgs + (c.fan.toNat - n.kids.length)
theorem ZjK {fan : Nat} (hf : fan ≤ 64) (P : List Str) : ∀ l : List Msg, (wtS fan P l : Int) ≤ 2 * Zx l
 | [] => by simp [wtS, Zx]
 | m :: l => by
  have ih := ZjK hf P l
  have h1 : (wtM fan P m : Int) ≤ 2 * m.size := by
   unfold wtM Msg.size
   split
   ·omega
   ·omega
  simp only [wtS, Zx, List.map_cons, List.sum_cons] at ih ⊢
  omega
theorem ZfI {c : Cfg} {n : Nd} (hc : CfgR c) (h : n.innerR c.fan c.bud) : wtN c n ≤ 8256 := by
 obtain ⟨⟨f1, f2⟩, _, ⟨b1, b2⟩, _⟩ := hc
 have h1 := ZjK (fan := c.fan.toNat) om9 n.pivots n.msgs
 have h2 := h.2.2.2.1
 unfold wtN
 omega
theorem ZqY {fan : Nat} {P : List Str} {m : Msg} (h : Ze P m.key < fan) : 1 ≤ wtM fan P m := by
 unfold wtM; split <;> omega
theorem ZjL {s : Span} (h : ¬ s.norm.empty = true) : s.norm.lo = s.lo := by
 unfold Span.norm at h ⊢
 split
 ·rename_i h2
  rw [if_pos h2] at h
  exact absurd (by simp [Span.empty, Span.zero, Str.lt_irrefl]) h
 ·split <;> rfl
theorem ZjM {m : Msg} {s : Span} (h4 : m.kind = 4) (h : (m.clip s).2 = true) : (m.clip s).1.kind = 4 ∧ (m.clip s).1.key = if m.key.lt s.lo = true then s.lo else m.key := by
 unfold Msg.clip at h ⊢
 split at h
 ·cases h
 ·rename_i h2
  rw [if_neg h2, if_pos h4]
  refine ⟨h4, ?_⟩
  dsimp only
  have hs : m.span = ⟨m.key, m.hi, m.opn⟩ := if_pos h4
  rw [hs] at h2 ⊢
  unfold Span.meet at h2 ⊢
  rw [ZjL h2]
theorem ZqZ {P : List Str} {i : Int} {T : List Msg} {m m' : Msg} (h : Y3 P i T m = some m') : m' = m ∨ (m.kind = 4 ∧ (Zf P i).opn = false ∧ (m.clip ⟨(Zf P i).hi, Str.nil, true⟩).2 = true ∧ m' = (m.clip ⟨(Zf P i).hi, Str.nil, true⟩).1) := by
 unfold Y3 at h
 split at h
 ·split at h
  ·rename_i h2
   cases h
   right
   have h3 := h2.2
   unfold ZD at h3 ⊢
   split at h3
   ·cases h3
   ·rename_i h4
    rw [if_neg h4]
    exact ⟨h2.1, by simpa using h4, h3, rfl⟩
  ·cases h
 ·cases h; exact .inl rfl
theorem Zq0 {fan : Nat} {P : List Str} {i : Int} {T : List Msg} {m m' : Msg} (h : Y3 P i T m = some m') : wtM fan P m' ≤ wtM fan P m := by
 rcases ZqZ h with rfl | ⟨h4, _, h2, rfl⟩
 ·exact Nat.le_refl _
 ·obtain ⟨h5, h6⟩ := ZjM h4 h2
  unfold wtM
  rw [if_pos h4, if_pos h5, h6]
  dsimp only
  have : Ze P m.key ≤ Ze P (if m.key.lt (Zf P i).hi = true then (Zf P i).hi else m.key) := by
   apply Zcv
   split
   ·rename_i h7; exact Str.lt_asymm h7
   ·exact Str.lt_irrefl _
  omega
theorem Zq1 {fan : Nat} {P : List Str} {i : Nat} {T : List Msg} {m : Msg} (hr : ZX P = true) (hT : m.stamp ∈ T.map Msg.stamp) (hi : Ze P m.key = i) (hf : i < fan) :
  ((Y3 P i T m).elim 0 (wtM fan P)) + 1 ≤ wtM fan P m := by
 cases h : Y3 P i T m with
 | none => exact ZqY om9
 | some m' =>
  show wtM fan P m' + 1 ≤ wtM fan P m
  have hiP : i ≤ P.length := by rw [← hi]; exact List.length_filter_le _ _
  unfold Y3 at h
  rw [if_pos hT] at h
  split at h
  ·rename_i h2
   cases h
   have h3 := h2.2
   unfold ZD at h3 ⊢
   split at h3
   ·cases h3
   ·rename_i h4
    rw [if_neg h4]
    obtain ⟨h5, h6⟩ := ZjM h2.1 h3
    have hk : (Zf P (i : Int)).has m.key = true := by rw [Xu hr _ hiP, hi]; simp
    have ho : (Zf P (i : Int)).opn = false := by simpa using h4
    have hlt : m.key.lt (Zf P (i : Int)).hi = true := by
     rcases (Yi.1 hk).2 with h | h
     ·rw [ho] at h; cases h
     ·exact h
    unfold wtM
    rw [if_pos h2.1, if_pos h5, h6, if_pos hlt]
    dsimp only
    have h7 : Ze P m.key ≤ Ze P (Zf P (i : Int)).hi := Zcv (Str.lt_asymm hlt)
    have h8 : Ze P (Zf P (i : Int)).hi ≠ i := fun e => by
     have h9 : (Zf P (i : Int)).has (Zf P (i : Int)).hi = true := by rw [Xu hr _ hiP, e]; simp
     rcases (Yi.1 h9).2 with h | h
     ·rw [ho] at h; cases h
     ·rw [Str.lt_irrefl] at h; cases h
    omega
  ·cases h
theorem ZjN {w : Msg → Nat} {f : Msg → Option Msg} : ∀ {l : List Msg}, (∀ m ∈ l, (f m).elim 0 w ≤ w m) → ((l.filterMap f).map w).sum ≤ (l.map w).sum
 | [], _ => by simp
 | m :: l, h => by
  have ih := ZjN (w := w) (f := f) (l := l) fun x hx => h x (List.mem_cons_of_mem _ hx)
  have h1 := h m (by simp)
  rw [List.filterMap_cons]
  cases hf : f m with
  | none => simp only [List.map_cons, List.sum_cons]; omega
  | some x => rw [hf] at h1; simp only [List.map_cons, List.sum_cons]; dsimp only [Option.elim] at h1; omega
theorem ZjO {w : Msg → Nat} {f : Msg → Option Msg} : ∀ {l : List Msg} {a : Msg}, (∀ m ∈ l, (f m).elim 0 w ≤ w m) → a ∈ l → (f a).elim 0 w + 1 ≤ w a → ((l.filterMap f).map w).sum + 1 ≤ (l.map w).sum
 | [], _, _, ha, _ => by cases ha
 | m :: l, a, h, ha, hl => by
  have h1 := h m (by simp)
  rw [List.filterMap_cons]
  rcases List.mem_cons.1 ha with rfl | ha
  ·have ih := ZjN (w := w) (f := f) (l := l) fun x hx => h x (List.mem_cons_of_mem _ hx)
   cases hf : f a with
   | none => rw [hf] at hl; simp only [List.map_cons, List.sum_cons]; dsimp only [Option.elim] at hl; omega
   | some x => rw [hf] at hl; simp only [List.map_cons, List.sum_cons]; dsimp only [Option.elim] at hl; omega
  ·have ih := ZjO (w := w) (f := f) (l := l) (fun x hx => h x (List.mem_cons_of_mem _ hx)) ha hl
   cases hf : f m with
   | none => simp only [List.map_cons, List.sum_cons]; omega
   | some x => rw [hf] at h1; simp only [List.map_cons, List.sum_cons]; dsimp only [Option.elim] at h1; omega
theorem Poured.lighter {c : Cfg} {p k : Nd} {i : Nat} {a b : Nd} {T : List Msg} (h : Poured c p k i a b T) (hr : ZX p.pivots = true) (hi : i < c.fan.toNat) : wtN c a + 1 ≤ wtN c p := by
 obtain ⟨n, hn, hle, hT⟩ := h.take
 obtain ⟨x0, hx⟩ : ∃ x, x ∈ T := ⟨_, List.getElem_mem h.ne⟩
 have hx2 : x0 ∈ Zd p.pivots p.msgs i := by
  rw [hT] at hx
  exact List.mem_of_mem_take hx
 obtain ⟨m, hm, h2⟩ := List.mem_filterMap.1 hx2
 unfold XH at h2
 split at h2
 ·rename_i h3
  have e : (m.clip (Zf p.pivots i)).1 = x0 := Option.some.inj h2
  have hst : m.stamp ∈ T.map Msg.stamp := by
   rw [← X7 h3.2, e]
   exact List.mem_map_of_mem hx
  have key := ZjO (w := wtM c.fan.toNat p.pivots) (f := Y3 p.pivots i T) (l := p.msgs) (a := m) (fun x _ => by
   cases hf : Y3 p.pivots i T x with
   | none => exact Nat.zero_le _
   | some y => exact Zq0 hf) (Zdq hm) (Zq1 hr hst om9 hi)
  rw [h.ea]
  unfold wtN wtS
  dsimp only
  unfold ZJ
  omega
 ·cases h2
theorem Zq2 {c : Cfg} {n : Nd} {i : Nat} {k : Str} {v : Int} (hf : (n.kids.length : Int) < c.fan) (hi : i < n.kids.length) : wtN c (Y6 n i k v) + 1 ≤ wtN c n := by
 have h1 : ∀ l : List Msg, wtS c.fan.toNat ((n.pivots.take i ++ [k]) ++ n.pivots.drop i) l ≤ wtS c.fan.toNat n.pivots l := by
  intro l
  induction l with
  | nil => exact Nat.le_refl _
  | cons m l ih =>
   have h2 : wtM c.fan.toNat ((n.pivots.take i ++ [k]) ++ n.pivots.drop i) m ≤ wtM c.fan.toNat n.pivots m := by
    unfold wtM
    rw [ZiL]
    split
    ·omega
    ·exact Nat.le_refl _
   simp only [wtS, List.map_cons, List.sum_cons] at ih ⊢
   omega
 have h3 := h1 n.msgs
 have h4 : ((n.kids.take (i + 1) ++ [v]) ++ n.kids.drop (i + 1)).length = n.kids.length + 1 := by simp; omega
 unfold wtN Y6
 dsimp only
 rw [h4]
 omega
end Go.Fw
