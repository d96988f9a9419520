/- A cycle does something where messages wait at the root, or tells that there is no room. Plain Lean; nothing of the program is named here. No condition. -/
import Derived.Test.YtbbemibbmbmamaaGreatQhVq
set_option linter.unusedVariables false
set_option linter.unusedSimpArgs false
set_option linter.unnecessarySimpa false
set_option maxRecDepth 100000
set_option maxHeartbeats 1600000

namespace Go.Fw
open Go Go.RowKit
theorem J5 {c : Cfg} {k : Str} : ∀ (m : Nat) {l : List Nd} {a n : Int} {r : Int × Int × List Nd}, Yq c k m l a n = some r → n ≤ r.1
 | 0, _, _, _, _, h => by cases h
 | m + 1, l, a, n, r, h => by
  by_cases h0 : (Zx c l a k).1.1 = 0
  ·rw [Y7 h0] at h; cases h; exact Int.le_refl _
  ·by_cases h5 : (Zx c l a k).1.1 = 5
   ·rw [Jo h5] at h; exact J5 m h
   ·rw [Xh h0 h5] at h
    have := J5 m h
    omega
theorem Zp3 {P : List Str} {l : List Msg} (hr : Z2 P = true) (hR : ∀ m ∈ l, m.R) (h : 0 < l.length) : 0 < (Zd P l (Xy P l).1).length := by
 have h1 := ZrQ (P := P) h
 rw [Zga h]
 have h2 : ∃ m ∈ Zj l, Zg P m.key = YW (wOf P (Zj l)) (P.length + 1) := by
  apply Classical.byContradiction
  intro hn
  have : (Zj l).filter (fun m => decide (Zg P m.key = YW (wOf P (Zj l)) (P.length + 1))) = [] := by
   rw [List.filter_eq_nil_iff]
   intro m hm h3
   exact hn ⟨m, hm, of_decide_eq_true h3⟩
  unfold wOf at h1 this
  rw [this] at h1
  simp [Zw] at h1
 obtain ⟨m, hm, e⟩ := h2
 have hmR := hR m (Zdt hm)
 have hb : YW (wOf P (Zj l)) (P.length + 1) ≤ P.length := by rw [← e]; exact List.length_filter_le _ _
 have hcl : (m.clip (Zf P ((YW (wOf P (Zj l)) (P.length + 1) : Nat) : Int))).2 = true := by
  have hne : ¬ (m.span.meet (Zf P ((YW (wOf P (Zj l)) (P.length + 1) : Nat) : Int))).empty = true := fun h => by
   have := YO.1 h m.key
   rw [ZN, Msg.has_key hmR, Xv hr _ hb, e] at this
   simp at this
  unfold Msg.clip
  rw [if_neg hne]
  split <;> rfl
 dsimp only
 refine List.length_pos_of_mem (a := (m.clip (Zf P ((YW (wOf P (Zj l)) (P.length + 1) : Nat) : Int))).1) (List.mem_filterMap.2 ⟨m, hm, ?_⟩)
 unfold XF
 rw [if_pos ⟨om9, hcl⟩]
theorem Zp4 {c : Cfg} {p k : Nd} {i : Int} (hp : ZK c p = false) (hf : 0 < (Zd p.pivots p.msgs i).length) : ¬ Z4 c p k i = 0 := by
 unfold Z4
 split
 ·rw [if_neg (by rw [hp]; simp)]; simp
 ·split
  ·simp
  ·split
   ·simp
   ·first
    | (rw [if_pos hf, if_neg (by rw [hp]; simp)]; simp; done)
    | (rw [if_neg (by rw [hp]; simp)]; simp)
theorem Zji {c : Cfg} {p k : Nd} {i : Int} (h : Z4 c p k i = 3) : (0 < k.level ∧ ZK c k = true) ∨ (¬ 0 < k.level ∧ ¬ 0 < ZY c.leaf c.bud p k i) := by
 unfold Z4 at h
 split at h
 ·rename_i h1; exact .inl h1
 ·split at h
  ·cases h
  ·rename_i h2
   split at h
   ·cases h
   ·rename_i h3; exact .inr ⟨h3, h2⟩
theorem Zjj {m : Msg} (h : m.R) : m.size ≤ 36 := by
 have := Y5 h
 unfold Msg.size
 split <;> omega
theorem ZfA {c : Cfg} {p k : Nd} {i : Int} (hc : CfgR c) (hk : KidOf p k i) (hR : ∀ m ∈ Zd p.pivots p.msgs i, m.R) (hf : 0 < (Zd p.pivots p.msgs i).length) (h : ¬ 0 < ZY c.leaf c.bud p k i) :
  (k.level = 0 → 2 ≤ k.rows.length) ∧ (¬ k.level = 0 → 0 < k.msgs.length) := by
 obtain ⟨_, ⟨l1, l2⟩, ⟨b1, b2⟩, _⟩ := hc
 rw [ZbO hk] at h
 obtain ⟨m, L, e⟩ : ∃ m L, Zd p.pivots p.msgs i = m :: L := by
  cases hh : Zd p.pivots p.msgs i with
  | nil => rw [hh] at hf; cases hf
  | cons m L => exact ⟨m, L, rfl⟩
 have hmR := hR m (by rw [e]; simp)
 rw [e] at h
 refine ⟨fun h0 => ?_, fun h0 => ?_⟩
 ·rw [Zi6 h0] at h
  dsimp only at h
  unfold Ye at h
  split at h
  ·dsimp only at h; omega
  ·rename_i h2
   rw [ZkO hmR] at h2
   unfold Zd0 at h2
   simp only [Bool.or_eq_true, decide_eq_true_eq, not_or] at h2
   omega
 ·rw [Zfr h0 rfl] at h
  dsimp only at h
  unfold Xf at h
  split at h
  ·omega
  ·rename_i h2
   apply Classical.byContradiction
   intro h3
   have h4 : k.msgs = [] := List.eq_nil_of_length_eq_zero om9
   apply h2
   rw [h4]
   have := Zjj hmR
   simp [Yg, Zw]
   omega
theorem Zjk {n : Nd} {y : Int} (h0 : n.level = 0) (h : 2 ≤ n.rows.length) : (Zq n y).2.2.2 = true := by
 rw [Zan, ZaV h0]
 dsimp only
 rw [ZeF om9]
theorem ZfB {n : Nd} {y : Int} (h0 : ¬ n.level = 0) (hr : Ys n.pivots n.kids.length = true) (h : 4 ≤ n.kids.length) : (Zq n y).2.2.2 = true := by
 rw [Zan, ZaW h0 hr]
 dsimp only
 have := (YQ hr).2
 rw [Zg1 om9]
theorem Zp5 {n : Nd} {i : Nat} {k : Str} {v : Int} (h0 : ¬ n.level = 0) (hi : i < n.kids.length) (hk : (Zf n.pivots (i : Int)).has k = true) (hl : ¬ k = (Zf n.pivots (i : Int)).lo) : (Xi n i k v).2 = true := by
 rw [Zgs h0]
 rw [Zd2 om9 hk hl]
 simp
theorem Zjl {c : Cfg} {l : List Nd} {ss : List Seat} (t : Tree c l ss) {a i : Int} {P : Seat} (ha : 0 ≤ a ∧ a < l.length) (s : StepAt c l ss a i P) (hf : ZK c (Za l a) = false)
  (h : (0 < (Zl l a i).level ∧ ZK c (Zl l a i) = true) ∨ ((Zl l a i).level = 0 ∧ 2 ≤ (Zl l a i).rows.length)) : (ZP c l a i).1 = 0 ∨ (ZP c l a i).1 = 4 := by
 have hi := s.hi
 have hin : i.toNat < P.n.kids.length := om9
 have hat := t.at s.mem s.h0 hin
 have hkR := t.seat hat.1
 have ec : (Zq (Zl l a i) l.length).2.2.2 = true := by
  rcases h with ⟨h1, h2⟩ | ⟨h1, h2⟩
  ·have h3 : ¬ (Zl l a i).level = 0 := om9
   have h4 := t.inner hat.1 (by rw [s.kid]; exact h3)
   rw [s.kid] at h4
   refine ZfB h3 h4.2.1 ?_
   unfold ZK at h2
   rw [if_neg h3] at h2
   have := of_decide_eq_true h2
   obtain ⟨⟨f1, _⟩, _⟩ := t.cfg
   omega
  ·exact Zjk h1 h2
 unfold ZP
 rw [if_neg om9]
 have h3 : 0 ≤ kdN l a i.toNat ∧ kdN l a i.toNat < l.length := s.kin
 have e5 : (Yr l a i.toNat).2.2.2 = true := ec
 have e6 : (adP l a i.toNat).2 = true := by
  obtain ⟨x, y, q, hh, e, hv, _, _, _, _, _, _, hq⟩ := ZdL hkR.1 (y := (l.length : Int)) (by rw [s.kid]; exact ec)
  obtain ⟨g1, g2⟩ := t.k_in hat.1 hv hq
  have hks : (Zb l P i.toNat).s = P.s.meet (Zf P.n.pivots ((i.toNat : Nat) : Int)) := rfl
  rw [hks, ZN, Bool.and_eq_true] at g1
  have eq : (Yr l a i.toNat).2.2.1 = q := by
   show (Zq (Zl l a i) l.length).2.2.1 = q
   rw [← s.kid, e]
  show (Xi (Za l a) i.toNat (Yr l a i.toNat).2.2.1 l.length).2 = true
  rw [eq, ← s.n]
  refine Zp5 s.h0 hin g1.2 (fun e7 => g2 ?_)
  rw [hks]
  have h8 : ¬ (P.s.meet (Zf P.n.pivots ((i.toNat : Nat) : Int))).empty = true := fun h => by
   have := YO.1 h q
   rw [ZN, g1.1, g1.2] at this
   cases this
  unfold Span.meet at h8 ⊢
  rw [Zky h8]
  dsimp only
  split
  ·exact e7
  ·rename_i h9
   have h10 := (Yp.1 g1.1).1
   rw [e7] at h10
   rw [e7]
   cases h11 : P.s.lo.lt (Zf P.n.pivots ((i.toNat : Nat) : Int)).lo
   ·exact (Str.lt_total h10 h11)
   ·exact absurd h11 h9
 by_cases h7 : (l.length : Int) < c.slots
 ·rw [ZdS ha (by rw [← s.n]; omega) h3 hf e5 e6 h7]; exact .inl rfl
 ·rw [ZdR ha (by rw [← s.n]; omega) h3 hf e5 e6 h7]; exact .inr rfl
theorem prog {c : Cfg} {k : Str} : ∀ (m : Nat) {l : List Nd} {ss : List Seat} {a n : Int} {r : Int × Int × List Nd}, Tree c l ss → 0 ≤ a ∧ a < l.length → ¬ (Za l a).level = 0 → 0 < (Za l a).msgs.length → ZK c (Za l a) = false → Yq c k m l a n = some r → n < r.1 ∨ r.2.1 = 4
 | 0, _, _, _, _, _, _, _, _, _, _, h => by cases h
 | m + 1, l, ss, a, n, r, t, ha, h0, hm, hf, h => by
  obtain ⟨Q, hQ, eQ⟩ := t.seat_of ha
  have hin := t.inner hQ (by rw [eQ]; exact h0)
  rw [eQ] at hin
  have hmR : ∀ m ∈ (Za l a).msgs, m.R := (MsgsR.iff.1 hin.2.2.1).1
  have hri := (YQ hin.2.1).1
  have hfor := Zp3 hri hmR hm
  have hc := Zgc (k := k) h0 (fun e => by rw [hf] at e; cases e.2) (show (Xy (Za l a).pivots (Za l a).msgs).2 = true by rw [Zga hm])
  have hc1 : (ZB c (Za l a) k).1 = 2 := by rw [hc]
  have hc2 : (ZB c (Za l a) k).2 = (Xy (Za l a).pivots (Za l a).msgs).1 := by rw [hc]
  obtain ⟨_, hi1, hi2⟩ := JU t ha hc1
  obtain ⟨P, s⟩ := JD t ha h0 ⟨hi1, hi2⟩
  have hst := X4 hc1
  rw [← hc2] at hfor
  generalize (ZB c (Za l a) k).2 = i at *
  have hforR : ∀ m ∈ Zd (Za l a).pivots (Za l a).msgs i, m.R := Zfx (fun q hq => by
   obtain ⟨j, hj, rfl⟩ := List.getElem_of_mem hq
   exact (hin.2.2.2.2.2.1 j hj).2.1) hmR
  obtain ⟨k1, k2, k3, k4⟩ := ZaN t s
  have hkl : 0 ≤ (Zl l a i).level := by have := s.kof.1; omega
  rcases XU c (Za l a) (Zl l a i) i with hd | hd | ⟨hd, _⟩ | hd
  ·exact absurd hd (Zp4 hf hfor)
  ·have hpe : (ZP c l a i).1 = 0 ∨ (ZP c l a i).1 = 4 := by
    refine Zjl t ha s hf ?_
    rcases Zji hd with h | ⟨h1, h2⟩
    ·exact .inl h
    ·have h3 : (Zl l a i).level = 0 := om9
     exact .inr ⟨h3, (ZfA t.cfg s.kof hforR hfor h2).1 h3⟩
   rcases hpe with h3 | h3
   ·have e := hst.trans (X5 hd h3)
    rw [Xh (by rw [e]; simp) (by rw [e]; simp)] at h
    have := J5 m h
    exact .inl om9
   ·have e := hst.trans (X6 hd om9)
    rw [Y7 (by rw [e])] at h
    cases h
    exact .inr (by rw [e]; exact h3)
  ·have e := hst.trans (YR hd)
   rw [Xh (by rw [e]; simp) (by rw [e]; simp)] at h
   have := J5 m h
   exact .inl om9
  ·have e := hst.trans (X7 hd)
   obtain ⟨d1, d2, d3⟩ := ZdZ hd
   rw [Jo (by rw [e])] at h
   rw [e] at h
   dsimp only at h
   exact prog m t k4 (by rw [k3]; omega) (by rw [k3]; exact (ZfA t.cfg s.kof hforR hfor d3).2 om9) (by rw [k3]; exact d2) h
theorem Zjm {c : Cfg} {k : Str} {m : Nat} {l : List Nd} {ss : List Seat} {r : Int × Int × List Nd} (t : Tree c l ss) (hm : 0 < (Za l 0).msgs.length) (h : Yq c k m l 0 0 = some r) : 0 < r.1 ∨ r.2.1 = 4 := by
 have ha : (0 : Int) ≤ 0 ∧ (0 : Int) < l.length := ⟨Int.le_refl _, by have := t.pos; omega⟩
 obtain ⟨Q, hQ, eQ⟩ := t.seat_of ha
 have h0 : ¬ (Za l 0).level = 0 := fun e => by
  have := t.nomsgs hQ (by rw [eQ]; exact e)
  rw [eQ] at this
  rw [this] at hm
  cases hm
 cases hf : ZK c (Za l 0)
 ·exact prog m t ha h0 hm hf h
 ·obtain ⟨m2, rfl⟩ : ∃ m2, m = m2 + 1 := by
   cases m with
   | zero => cases h
   | succ m2 => exact ⟨m2, rfl⟩
  have hsl := (YN t.slot ha).1
  have hc1 : (ZB c (Za l 0) k).1 = 1 := by rw [Zgb h0 hsl hf]
  have hin := t.inner hQ (by rw [eQ]; exact h0)
  rw [eQ] at hin
  have hk4 : 4 ≤ (Za l 0).kids.length := by
   unfold ZK at hf
   rw [if_neg h0] at hf
   have := of_decide_eq_true hf
   obtain ⟨⟨f1, _⟩, _⟩ := t.cfg
   omega
  have hlf : (Z7 (Za l 0) 0 0).2.2.2 = true := by rw [Zam]; exact ZfB h0 hin.2.1 hk4
  by_cases hr : c.slots.toNat - l.length < 2
  ·have e := Jm hc1 (show ¬ (ZS c l).1 = 0 by rw [Zba hlf hr]; simp)
   rw [Y7 (by rw [e])] at h
   cases h
   exact .inr (by rw [e, Zba hlf hr])
  ·have e := Jl hc1 (show (ZS c l).1 = 0 by rw [ZbY hlf hr])
   rw [Xh (by rw [e]; simp) (by rw [e]; simp)] at h
   have := J5 m2 h
   exact .inl om9
def SeenB (S : Int) (l : List Nd) : Prop := ∀ n ∈ l, n.seen ≤ S
structure Grown (k : Int) (l : List Nd) : Prop where
  all : SeenB (Za l 0).seen l
  le : (Za l 0).seen ≤ k
  pos : 0 ≤ (Za l 0).seen
section
variable {c : Cfg} {l : List Nd} {ss : List Seat}
theorem Tree.one_leaf (t : Tree c l ss) (h : (Za l 0).level = 0) : l = [Za l 0] := by
  have h0 : (Zm l 0).n.level = 0 := by rw [t.rootn]; exact h
  have h1 : ∀ x ∈ ss, x = Zm l 0 := t.ind rfl fun x hx hl e => absurd (by rw [e]; exact h0) hl
  have h2 : ss.length = 1 := by
    have h3 := t.nodup_s
    have h4 := t.fix
    cases hs : ss with
    | nil => rw [hs] at h4; cases h4
    | cons x L =>
      cases hL : L with
      | nil => rfl
      | cons y L2 =>
        exfalso
        rw [hs, hL] at h3 h1
        have e1 := h1 x (by simp)
        have e2 := h1 y (by simp)
        rw [e1, e2] at h3
        simp at h3
  have h3 : l.length = 1 := by rw [← t.len, h2]
  match l, h3 with
  | [n], _ => rfl
theorem Zp6 {rows : List Pair} {m : Msg} {n : Int} (hp : PairsR rows) (hm : m.R) (h : Yi rows m n = true) (hl : (rows.length : Int) ≤ n) : ((takeN rows m).length : Int) ≤ n := by
  have h1 := Zgm n [m] rows hp (fun x hx => by simp at hx; subst hx; exact hm)
  have h2 : (Ye n rows [m]).1 = takeN rows m := by
    show (if Yi rows m n = true then ((Ye n (takeN rows m) []).1, (Ye n (takeN rows m) []).2 + 1) else (rows, 0)).1 = _
    rw [if_pos h]
    cases htk : takeN rows m <;> rfl
  rw [h2] at h1
  omega
def JR (n : Nd) (m : Msg) : Nd := { n with rows := takeN n.rows m, seen := m.stamp }
theorem Zp7 (t : Tree c l ss) (h : (Za l 0).level = 0) {m : Msg} (hm : m.R) (hf : Yi (Za l 0).rows m c.leaf = true) (hle : m.stamp ≤ 1099511627776) :
    (∃ T, Tree c (Yb l (JR (Za l 0) m)) T) ∧ Zh (Yb l (JR (Za l 0) m)) = takeN (Zh l) m := by
  have e := t.one_leaf h
  have hS := t.seat t.root
  have hg := t.rootn
  have hsl := YN t.slot ⟨Int.le_refl _, by have := t.pos; omega⟩
  have hR := hS.1
  rw [hg] at hR
  have htop : (Za l 0).top = true := by have := hS.2.1.1.1; rw [hg] at this; exact this
  have hseen : (Za l 0).seen ≤ 1099511627776 := by
    obtain ⟨j, hj, e2⟩ := List.getElem_of_mem hsl.2
    rw [← e2]; exact (t.slot j hj).2
  generalize Za l 0 = n at *
  obtain ⟨⟨r1, r2, r3⟩, r4, r5, r6⟩ := hR
  rw [if_pos h] at r6
  obtain ⟨f1, f2, f3, f4⟩ := r6
  have e2 : Yb l (JR n m) = [JR n m] := by rw [e]; rfl
  have hst := hm.1.1
  have hR2 : (JR n m).R c.fan c.leaf c.bud := by
    refine ⟨⟨r1, r2, by show 0 ≤ m.stamp; omega⟩, r4, r5, ?_⟩
    rw [if_pos (show (JR n m).level = 0 from h)]
    refine ⟨f1, Zp6 f3 hm hf f2, f3.takeM hm.1.2.1 hm.1.2.2.1, fun i hi => ?_⟩
    show (n.top || _) = true
    rw [htop]; rfl
  rw [e2]
  refine ⟨⟨_, ZiA t.cfg h hsl.1 hle hR2 htop (Za8 t.cfg hR2)⟩, ?_⟩
  rw [Zff (show (JR n m).level = 0 from h) hsl.1 hle, e, Zff h hsl.1 hseen]; rfl

def Zv (c : Cfg) (l : List Nd) (o : Opr) : Int × Int × List Nd :=
  if (Za l 0).level = 0 then (if Yi (Za l 0).rows (o.msg ((Za l 0).seen + 1)) c.leaf = true then ((Za l 0).seen + 1, 0, Yb l (JR (Za l 0) (o.msg ((Za l 0).seen + 1)))) else (0, 4, l))
  else if Yg c.bud (Za l 0).msgs (o.msg ((Za l 0).seen + 1)) = true then ((Za l 0).seen + 1, 0, Yb l (Yh (Za l 0) (o.msg ((Za l 0).seen + 1)))) else (0, 4, l)
theorem ZbQ (h : (Za l 0).level = 0) {o : Opr} (h2 : Yi (Za l 0).rows (o.msg ((Za l 0).seen + 1)) c.leaf = true) : Zv c l o = ((Za l 0).seen + 1, 0, Yb l (JR (Za l 0) (o.msg ((Za l 0).seen + 1)))) := by unfold Zv; rw [if_pos h, if_pos h2]
theorem Za5 (h : (Za l 0).level = 0) {o : Opr} (h2 : Yi (Za l 0).rows (o.msg ((Za l 0).seen + 1)) c.leaf = false) : Zv c l o = (0, 4, l) := by unfold Zv; rw [if_pos h, if_neg (by simp [h2])]
theorem ZbR (h : ¬ (Za l 0).level = 0) {o : Opr} (h2 : Yg c.bud (Za l 0).msgs (o.msg ((Za l 0).seen + 1)) = true) : Zv c l o = ((Za l 0).seen + 1, 0, Yb l (Yh (Za l 0) (o.msg ((Za l 0).seen + 1)))) := by unfold Zv; rw [if_neg h, if_pos h2]
theorem Za6 (h : ¬ (Za l 0).level = 0) {o : Opr} (h2 : Yg c.bud (Za l 0).msgs (o.msg ((Za l 0).seen + 1)) = false) : Zv c l o = (0, 4, l) := by unfold Zv; rw [if_neg h, if_neg (by simp [h2])]
theorem ZfC {o : Opr} (h : o.R) (h4 : o.kind ≤ 4) {s : Int} (hs : 1 ≤ s) : (o.msg s).R := by
  obtain ⟨⟨h1, h2, h3, h5, h6⟩, h7, _, _, h8⟩ := h
  refine ⟨⟨hs, h3, h6, h5⟩, ?_⟩
  show if o.kind = 4 then _ else _
  split
  · rename_i h9
    rw [if_pos (.inl h9)] at h8
    refine ⟨h7 (by omega), h8.2, ?_⟩
    have : (o.msg s).span = o.span := by
      show (if o.kind = 4 then _ else _) = _
      unfold Opr.span
      rw [if_pos h9, if_pos (.inl h9)]; rfl
    rw [this]; exact h8.1
  · rename_i h9
    rw [if_neg (by omega)] at h8
    refine ⟨h8.1, h8.2, ?_⟩
    show o.kind = 1 ∨ o.kind = 2 ∨ (o.kind = 3 ∧ o.val = Str.nil)
    rcases (by omega : o.kind = 1 ∨ o.kind = 2 ∨ o.kind = 3) with h | h | h
    · exact .inl h
    · exact .inr (.inl h)
    · exact .inr (.inr ⟨h, h7 (by omega)⟩)
theorem ZfD {r : Nd} (hp : 0 < l.length) : Za (Yb l r) 0 = r := by
  rw [ZaL ⟨Int.le_refl _, by unfold Yb; rw [List.length_set]; omega⟩]
  unfold Yb
  simp
theorem Zp8 {r n : Nd} (h : n ∈ Yb l r) : n ∈ l ∨ n = r := List.mem_or_eq_of_mem_set h
theorem Zp9 (t : Tree c l ss) {o : Opr} (ho : o.R) (h4 : o.kind ≤ 4) {k : Int} (hg : Grown k l) (hk : k < 1099511627776) (h : (Zv c l o).2.1 = 0) :
    (∃ T, Tree c (Zv c l o).2.2 T) ∧ Zh (Zv c l o).2.2 = takeN (Zh l) (o.msg 1) ∧ Grown (k + 1) (Zv c l o).2.2 ∧ (Zv c l o).2.2.length = l.length ∧ (Zv c l o).1 = (Za l 0).seen + 1 := by
  have hp := hg.pos
  have hl := hg.le
  have hpos := t.pos
  have hmR := ZfC ho h4 (s := (Za l 0).seen + 1) (by omega)
  have grown : ∀ r : Nd, r.seen = (Za l 0).seen + 1 → Grown (k + 1) (Yb l r) := fun r hr => by
    refine ⟨fun n hn => ?_, ?_, ?_⟩
    · rw [ZfD hpos, hr]
      rcases Zp8 hn with hn | rfl
      · have := hg.all n hn; omega
      · omega
    · rw [ZfD hpos, hr]; omega
    · rw [ZfD hpos, hr]; omega
  by_cases h0 : (Za l 0).level = 0
  · cases hf : Yi (Za l 0).rows (o.msg ((Za l 0).seen + 1)) c.leaf
    · rw [Za5 h0 hf] at h; cases h
    · rw [ZbQ h0 hf]
      obtain ⟨h1, h2⟩ := Zp7 t h0 hmR hf (by show (Za l 0).seen + 1 ≤ _; omega)
      exact ⟨h1, h2, grown _ rfl, by show (Yb l _).length = _; unfold Yb; rw [List.length_set], rfl⟩
  · cases hf : Yg c.bud (Za l 0).msgs (o.msg ((Za l 0).seen + 1))
    · rw [Za6 h0 hf] at h; cases h
    · rw [ZbR h0 hf]
      unfold Yg at hf
      rw [Bool.and_eq_true] at hf
      have p : InjOf c l ss (o.msg ((Za l 0).seen + 1)) := ⟨t, h0, hmR, rfl, by show (Za l 0).seen + 1 ≤ _; omega, hg.all, of_decide_eq_true hf.1⟩
      exact ⟨⟨_, p.tree⟩, p.map, grown _ rfl, by show (Yb l _).length = _; unfold Yb; rw [List.length_set], rfl⟩
theorem Zqa (t : Tree c l ss) {o : Opr} (ho : o.R) (h4 : o.kind ≤ 4) {k : Int} (hg : Grown k l) (h : ¬ (Zv c l o).2.1 = 0) :
    Zv c l o = (0, 4, l) ∧ ((Za l 0).level = 0 → 2 ≤ (Za l 0).rows.length) ∧ (¬ (Za l 0).level = 0 → 0 < (Za l 0).msgs.length) := by
  have hmR := ZfC ho h4 (s := (Za l 0).seen + 1) (by have := hg.pos; omega)
  obtain ⟨_, ⟨f1, _⟩, ⟨b1, _⟩, _⟩ := t.cfg
  by_cases h0 : (Za l 0).level = 0
  · cases hf : Yi (Za l 0).rows (o.msg ((Za l 0).seen + 1)) c.leaf
    · refine ⟨Za5 h0 hf, fun _ => ?_, fun h => absurd h0 h⟩
      unfold Yi Zbb at hf
      simp only [Bool.or_eq_false_iff, decide_eq_false_iff_not] at hf
      omega
    · rw [ZbQ h0 hf] at h; exact absurd rfl h
  · cases hf : Yg c.bud (Za l 0).msgs (o.msg ((Za l 0).seen + 1))
    · refine ⟨Za6 h0 hf, fun h => absurd h h0, fun _ => ?_⟩
      apply Classical.byContradiction
      intro hn
      have e : (Za l 0).msgs = [] := List.eq_nil_of_length_eq_zero (by omega)
      rw [e] at hf
      have := Zjj hmR
      unfold Yg at hf
      simp [Zw] at hf
      omega
    · rw [ZbR h0 hf] at h; exact absurd rfl h
def Zdy (l : List Nd) (o : Opr) : Nd := if (Za l 0).level = 0 then JR (Za l 0) (o.msg ((Za l 0).seen + 1)) else Yh (Za l 0) (o.msg ((Za l 0).seen + 1))
theorem Zjn (h : (Za l 0).level = 0) (o : Opr) : Zdy l o = JR (Za l 0) (o.msg ((Za l 0).seen + 1)) := if_pos h
theorem Zjo (h : ¬ (Za l 0).level = 0) (o : Opr) : Zdy l o = Yh (Za l 0) (o.msg ((Za l 0).seen + 1)) := if_neg h
theorem Zjp {o : Opr} (h : (Zv c l o).2.1 = 0) : (Zv c l o).2.2 = l.set 0 (Zdy l o) ∧ (Zv c l o).1 = (Za l 0).seen + 1 := by
  by_cases h0 : (Za l 0).level = 0
  · rw [Zjn h0]
    cases hf : Yi (Za l 0).rows (o.msg ((Za l 0).seen + 1)) c.leaf
    · rw [Za5 h0 hf] at h; cases h
    · rw [ZbQ h0 hf]; exact ⟨rfl, rfl⟩
  · rw [Zjo h0]
    cases hf : Yg c.bud (Za l 0).msgs (o.msg ((Za l 0).seen + 1))
    · rw [Za6 h0 hf] at h; cases h
    · rw [ZbR h0 hf]; exact ⟨rfl, rfl⟩
theorem ZfE {o : Opr} (h : ¬ (Zv c l o).2.1 = 0) : Zv c l o = (0, 4, l) := by
  by_cases h0 : (Za l 0).level = 0
  · cases hf : Yi (Za l 0).rows (o.msg ((Za l 0).seen + 1)) c.leaf
    · exact Za5 h0 hf
    · rw [ZbQ h0 hf] at h; exact absurd rfl h
  · cases hf : Yg c.bud (Za l 0).msgs (o.msg ((Za l 0).seen + 1))
    · exact Za6 h0 hf
    · rw [ZbR h0 hf] at h; exact absurd rfl h
theorem Zdz (l : List Pair) (m : Msg) (n : Int) : (Zar l m n).2 = Yi l m n := by
  cases h : Yi l m n
  · rw [Zgk h]
  · rw [ZcP h]
theorem Zqb {l : List Pair} {m : Msg} {n : Int} (h : Yi l m n = true) : (Zar l m n).1 = takeN l m := by rw [ZcP h]
end
section
variable {c : Cfg} {l : List Nd} {ss : List Seat}
theorem ZfF (t : Tree c l ss) (k : Str) : ∃ N r, N ≤ 200000 ∧ Yq c k N l 0 0 = some r := by
  by_cases h0 : (Za l 0).level = 0
  · exact ⟨1, _, by omega, Y7 (by rw [Jk (by rw [Zki h0])])⟩
  · have hw := ZdX t ⟨Int.le_refl _, by have := t.pos; omega⟩ h0
    have h8 := t.height
    rw [t.rootn] at h8
    obtain ⟨r, hr⟩ := Zsv (k := k) (Za l 0).level.toNat 8256 (n := 0) t rfl hw (by omega)
    exact ⟨_, r, by omega, hr⟩
theorem Zqc {p i : Int} (h : (ZP c l p i).1 = 4) : (ZP c l p i).2 = l ∧ ¬ (l.length : Int) < c.slots := by
  unfold ZP at h ⊢
  split at h
  · cases h
  · rename_i h1
    rw [if_neg h1]
    unfold Xx at h ⊢
    split at h
    · cases h
    · rename_i h2
      rw [if_neg h2]
      split at h
      · cases h
      · rename_i h3
        rw [if_neg h3]
        split at h
        · cases h
        · rename_i h4
          rw [if_neg h4]
          split at h
          · rename_i h5
            exact ⟨by rw [if_pos h5], h5⟩
          · cases h
theorem Zqd {p k : Nd} {i : Int} (h : Z4 c p k i = 3) : ZK c p = false := by
  cases hf : ZK c p
  · rfl
  · exfalso
    unfold Z4 at h
    rw [hf] at h
    split at h
    · rw [if_pos rfl] at h; cases h
    · split at h
      · cases h
      · split at h
        · cases h
        · split at h
          · rw [if_pos rfl] at h; cases h
          · cases h
theorem Zqe {p k : Nd} {i : Int} (h : Z4 c p k i = 3) (h2 : ¬ 0 < k.level) : 0 < (Zd p.pivots p.msgs i).length := by
  apply Classical.byContradiction
  intro hn
  unfold Z4 at h
  rw [if_neg (fun e => h2 e.1)] at h
  split at h
  · cases h
  · simp [h2, hn] at h
theorem Zjq {k : Str} (t : Tree c l ss) (h : (ZB c (Za l 0) k).1 = 1 ∨ ((Za l 0).level = 0 ∧ 2 ≤ (Za l 0).rows.length)) : (Z7 (Za l 0) 0 0).2.2.2 = true := by
  rw [Zam]
  rcases h with h | ⟨h1, h2⟩
  · obtain ⟨h0, _, h3⟩ := ZdY h
    have hin := t.inner t.root (by rw [t.rootn]; exact h0)
    rw [t.rootn] at hin
    refine ZfB h0 hin.2.1 ?_
    unfold ZK at h3
    rw [if_neg h0] at h3
    have := of_decide_eq_true h3
    obtain ⟨⟨f1, _⟩, _⟩ := t.cfg
    omega
  · exact Zjk h1 h2
theorem Zjr (t : Tree c l ss) (h : (Z7 (Za l 0) 0 0).2.2.2 = true) : (ZS c l).1 = 0 ∨ (ZS c l = (4, l) ∧ c.slots - (l.length : Int) < 2) := by
  by_cases h2 : c.slots.toNat - l.length < 2
  · exact .inr ⟨Zba h h2, by omega⟩
  · exact .inl (by rw [ZbY h h2])
theorem Zqf (t : Tree c l ss) {a : Int} (ha : 0 ≤ a ∧ a < l.length) (k : Str) : (Zx c l a k).1.2.2 = 0 ∨ ((Zx c l a k).1.1 = 0 ∧ (Zx c l a k).1.2.2 = 4 ∧ (Zx c l a k).2 = l ∧ c.slots - (l.length : Int) < 2) := by
  rcases Jn c (Za l a) k with h | h | ⟨h, _⟩
  · rw [Jk h]; exact .inl rfl
  · obtain ⟨_, hs, _⟩ := ZdY h
    have hsl := (YN t.slot ha).1
    have ea : a = 0 := by omega
    subst ea
    rcases Zjr t (Zjq (k := k) t (.inl h)) with h3 | ⟨h3, h4⟩
    · rw [Jl h h3]; exact .inl rfl
    · rw [Jm h (by rw [h3]; simp), h3]; exact .inr ⟨rfl, rfl, rfl, h4⟩
  · obtain ⟨h0, hi⟩ := JU t ha h
    obtain ⟨P, s⟩ := JD t ha h0 hi
    rw [X4 h]
    generalize (ZB c (Za l a) k).2 = i at *
    rcases XU c (Za l a) (Zl l a i) i with hd | hd | ⟨hd, _⟩ | hd
    · rw [JC hd]; exact .inl rfl
    · have hf := Zqd hd
      have hkl : 0 ≤ (Zl l a i).level := by have := s.kof.1; have := (ZaN t s).2.1; omega
      have hin := t.inner s.mem s.h0
      rw [s.n] at hin
      have hpe : (ZP c l a i).1 = 0 ∨ (ZP c l a i).1 = 4 := by
        refine Zjl t ha s hf ?_
        rcases Zji hd with h | ⟨h1, h2⟩
        · exact .inl h
        · have h3 : (Zl l a i).level = 0 := by omega
          have hfor := Zqe hd h1
          have hforR : ∀ m ∈ Zd (Za l a).pivots (Za l a).msgs i, m.R := Zfx (fun q hq => by
            obtain ⟨j, hj, rfl⟩ := List.getElem_of_mem hq
            exact (hin.2.2.2.2.2.1 j hj).2.1) (MsgsR.iff.1 hin.2.2.1).1
          exact .inr ⟨h3, (ZfA t.cfg s.kof hforR hfor h2).1 h3⟩
      rcases hpe with h3 | h3
      · rw [X5 hd h3]; exact .inl rfl
      · obtain ⟨e1, e2⟩ := Zqc h3
        rw [X6 hd (by omega)]
        exact .inr ⟨rfl, h3, e1, by omega⟩
    · rw [YR hd]; exact .inl rfl
    · rw [X7 hd]; exact .inl rfl
theorem ZcE {k : Str} : ∀ (m : Nat) {l : List Nd} {ss : List Seat} {a n : Int} {r : Int × Int × List Nd}, Tree c l ss → 0 ≤ a ∧ a < l.length → Yq c k m l a n = some r → r.2.1 = 0 ∨ (r.2.1 = 4 ∧ c.slots - (r.2.2.length : Int) < 2)
  | 0, _, _, _, _, _, _, _, h => by cases h
  | m + 1, l, ss, a, n, r, t, ha, h => by
    obtain ⟨T, hT, _⟩ := Zaq t ha k
    have hnx := ZaM t ha k
    by_cases h1 : (Zx c l a k).1.1 = 0
    · rw [Y7 h1] at h
      cases h
      rcases Zqf t ha k with h2 | ⟨_, h2, h3, h4⟩
      · exact .inl h2
      · exact .inr ⟨h2, by show c.slots - ((Zx c l a k).2.length : Int) < 2; rw [h3]; exact h4⟩
    · by_cases h2 : (Zx c l a k).1.1 = 5
      · rw [Jo h2] at h; exact ZcE m hT hnx h
      · rw [Xh h1 h2] at h; exact ZcE m hT hnx h
end
section
variable {c : Cfg} {l : List Nd} {ss : List Seat}
theorem Zqg (n : Nd) : (Yl n).1.seen = n.seen ∧ (Yl n).2.1.seen = n.seen := by
  unfold Yl
  split
  · exact ⟨rfl, rfl⟩
  · split <;> exact ⟨rfl, rfl⟩
theorem Zjs {n : Nd} {i : Int} (h : (Zq n i).2.2.2 = true) : (Zq n i).1.seen = n.seen ∧ (Zq n i).2.1.seen = n.seen := by
  rw [Zan] at h
  rw [JL h]
  exact Zqg n
theorem ZcF {S : Int} {l : List Nd} {i : Nat} {x : Nd} (h : SeenB S l) (hx : x.seen ≤ S) : SeenB S (l.set i x) := fun n hn => by
  rcases List.mem_or_eq_of_mem_set hn with hn | rfl
  · exact h n hn
  · exact hx
theorem Zqh {S : Int} {l : List Nd} {x : Nd} (h : SeenB S l) (hx : x.seen ≤ S) : SeenB S (l ++ [x]) := fun n hn => by
  rcases List.mem_append.1 hn with hn | hn
  · exact h n hn
  · simp at hn; subst hn; exact hx
theorem ZfG {S : Int} (h : SeenB S l) (hs : 0 ≤ S) (i : Int) : (Za l i).seen ≤ S := by
  by_cases hi : 0 ≤ i ∧ i < l.length
  · rw [ZaL hi]; exact h _ (List.getElem_mem _)
  · rw [Zr9 hi]; exact hs
def SeenQ (S : Int) (l : List Nd) : Prop := SeenB S l ∧ (Za l 0).seen = S
theorem Zjt (t : Tree c l ss) {S : Int} (hs : 0 ≤ S) (h : SeenQ S l) : SeenQ S (ZS c l).2 := by
  have hp := t.pos
  unfold ZS
  split
  · exact h
  · split
    · exact h
    · rename_i h1 h2
      have h1 : (Z7 (Za l 0) l.length ((l.length : Int) + 1)).2.2.2 = true := by simpa using h1
      have hc := h1
      rw [Zam] at hc
      obtain ⟨e1, e2⟩ := Zjs hc
      rw [Za9 hc]
      dsimp only
      have er : (Jj (Za l 0) (Zq (Za l 0) ((l.length : Int) + 1)).2.2.1 l.length ((l.length : Int) + 1)).seen = S := h.2
      have ha : ∀ z s, z.seen = (Za l 0).seen → (Yu (Za l 0) z s).seen ≤ S := fun z s e => by
        unfold Yu
        dsimp only
        split
        · rw [e, h.2]; exact Int.le_refl _
        · exact hs
      refine ⟨?_, ?_⟩
      · unfold YV
        refine fun n hn => ?_
        rcases List.mem_append.1 hn with hn | hn
        · exact ZcF h.1 (by rw [er]; exact Int.le_refl _) n hn
        · simp at hn
          rcases hn with rfl | rfl
          · exact ha _ _ e1
          · exact ha _ _ e2
      · unfold YV
        rw [ZaL ⟨Int.le_refl _, by rw [List.length_append, List.length_set]; omega⟩]
        rw [List.getElem_append_left (by rw [List.length_set]; show 0 < _; omega)]
        simp
        exact er
theorem ZdA {i : Nat} {x : Nd} (hp : 0 < l.length) : Za (l.set i x) 0 = if i = 0 then x else Za l 0 := by
  rw [ZaL ⟨Int.le_refl _, by rw [List.length_set]; omega⟩, ZaL ⟨Int.le_refl _, by omega⟩]
  simp only [List.getElem_set]
  rfl
theorem Zqi (t : Tree c l ss) {p i : Int} {S : Int} (hs : 0 ≤ S) (h : SeenQ S l) : SeenQ S (ZP c l p i).2 := by
  have hp := t.pos
  unfold ZP
  split
  · exact h
  · generalize i.toNat = j
    unfold Xx
    split
    · exact h
    · rename_i h1
      split
      · exact h
      · split
        · exact h
        · rename_i h3
          split
          · exact h
          · rename_i h4
            have h3 : (Yr l p j).2.2.2 = true ∧ (adP l p j).2 = true := by
              constructor
              · cases h5 : (Yr l p j).2.2.2
                · exact absurd (.inl h5) h3
                · rfl
              · cases h5 : (adP l p j).2
                · exact absurd (.inr h5) h3
                · rfl
            obtain ⟨e1, e2⟩ := Zjs (n := Za l (kdN l p j)) (i := (l.length : Int)) h3.1
            obtain ⟨e3, _⟩ := ZkF (n := Za l p) h3.2
            have ha : (adP l p j).1.seen = (Za l p).seen := by
              show (Xi (Za l p) j _ _).1.seen = _
              rw [e3]; rfl
            have hk := ZfG h.1 hs (kdN l p j)
            have hq := ZfG h.1 hs p
            have hin : ¬ (¬ (0 ≤ p ∧ p < l.length) ∨ (Za l p).kids.length ≤ j ∨ ¬ (0 ≤ kdN l p j ∧ kdN l p j < l.length)) := h1
            have hp2 : 0 ≤ p ∧ p < l.length := Classical.byContradiction fun e => hin (.inl e)
            have hk2 : 0 ≤ kdN l p j ∧ kdN l p j < l.length := Classical.byContradiction fun e => hin (.inr (.inr e))
            have hcs := (Zkd h3.1).1
            have hks := (YN t.slot hk2).1
            unfold JS
            refine ⟨Zqh (ZcF (ZcF h.1 ?_) ?_) ?_, ?_⟩
            · show (Zq _ _).1.seen ≤ S; rw [e1]; exact hk
            · rw [ha]; exact hq
            · show (Zq _ _).2.1.seen ≤ S; rw [e2]; exact hk
            · have hl1 : 0 < (l.set (Yr l p j).1.slot.toNat (Yr l p j).1).length := by rw [List.length_set]; exact hp
              rw [ZcL, if_neg (by simp only [List.length_set]; omega), ZdA hl1, ZdA hp]
              split
              · rename_i e
                have : p = 0 := by omega
                rw [ha, this]; exact h.2
              · split
                · rename_i e
                  rw [hcs, hks] at e
                  have : kdN l p j = 0 := by omega
                  show (Zq _ _).1.seen = S
                  rw [e1, this]; exact h.2
                · exact h.2
theorem Zqj (t : Tree c l ss) {a i : Int} {P : Seat} (s : StepAt c l ss a i P) (h4 : 0 < ZY c.leaf c.bud (Za l a) (Zl l a i) i) {S : Int} (hs : 0 ≤ S) (h : SeenQ S l) :
    SeenQ S (ZW l (Z9 c.leaf c.bud (Za l a) (Zl l a i) i).1 (Z9 c.leaf c.bud (Za l a) (Zl l a i) i).2.1) := by
  obtain ⟨T, p⟩ := s.pour t h4
  have hp := t.pos
  have hn := s.n
  have tk := ZcC p.may p.po
  obtain ⟨⟨xl, hxl, exl⟩, _⟩ := Zds tk.rst p.po.ne
  have hm : xl ∈ Zc (Zb l P i.toNat).s P.n.msgs := by rw [p.hcl]; exact List.mem_append_left _ hxl
  obtain ⟨m, hm, e⟩ := JG hm
  obtain ⟨j, hj, rfl⟩ := List.getElem_of_mem hm
  have h5 := (p.pin.2.2.2.2.2.2 j hj).1
  have h6 := ZfG h.1 hs a
  rw [← hn] at h6
  have h7 := p.al.2.2.2.2.2.2.2.1
  have h8 := p.po.seen
  have hx : 0 ≤ (Z9 c.leaf c.bud (Za l a) (Zl l a i) i).1.slot ∧ (Z9 c.leaf c.bud (Za l a) (Zl l a i) i).1.slot < l.length := by rw [p.al.1]; exact p.sin p.mem
  have hk0 := (ZaN t s).1
  have hy : (Z9 c.leaf c.bud (Za l a) (Zl l a i) i).2.1.slot = (Zl l a i).slot := p.bl.1.trans (by rw [s.kid])
  have hy2 : 0 ≤ (Z9 c.leaf c.bud (Za l a) (Zl l a i) i).2.1.slot := by rw [p.bl.1]; exact (p.sin p.km.1).1
  unfold ZW
  refine ⟨ZcF (ZcF h.1 (by rw [h7]; exact h6)) (by rw [h8, exl, e]; exact Int.le_trans h5 h6), ?_⟩
  rw [ZdA (by rw [List.length_set]; exact hp), if_neg (by omega), ZdA hp]
  split
  · rename_i e0
    rw [h7]
    have e1 := p.al.1
    have : P.n.slot = 0 := by omega
    have e2 : P.n = Za l 0 := by have := (t.nd p.mem).2.1; rw [‹P.n.slot = 0›] at this; exact this
    rw [e2]; exact h.2
  · exact h.2
theorem Zqk (t : Tree c l ss) {a : Int} (ha : 0 ≤ a ∧ a < l.length) (k : Str) {S : Int} (hs : 0 ≤ S) (h : SeenQ S l) : SeenQ S (Zx c l a k).2 := by
  rcases Jn c (Za l a) k with h1 | h1 | ⟨h1, _⟩
  · rw [Jk h1]; exact h
  · have hl := Zjt t hs h
    by_cases h3 : (ZS c l).1 = 0
    · rw [Jl h1 h3]; exact hl
    · rw [Jm h1 h3]; exact hl
  · obtain ⟨h0, hi⟩ := JU t ha h1
    obtain ⟨P, s⟩ := JD t ha h0 hi
    rw [X4 h1]
    generalize (ZB c (Za l a) k).2 = i at *
    rcases XU c (Za l a) (Zl l a i) i with hd | hd | ⟨hd, hd2⟩ | hd
    · rw [JC hd]; exact h
    · have hl := Zqi t (p := a) (i := i) hs h
      by_cases h3 : (ZP c l a i).1 = 0
      · rw [X5 hd h3]; exact hl
      · rw [X6 hd h3]; exact hl
    · rw [YR hd]; exact Zqj t s hd2 hs h
    · rw [X7 hd]; exact h
theorem ZfH {k : Str} {S : Int} (hs : 0 ≤ S) : ∀ (m : Nat) {l : List Nd} {ss : List Seat} {a n : Int} {r : Int × Int × List Nd}, Tree c l ss → 0 ≤ a ∧ a < l.length → SeenQ S l → Yq c k m l a n = some r → SeenQ S r.2.2
  | 0, _, _, _, _, _, _, _, _, h => by cases h
  | m + 1, l, ss, a, n, r, t, ha, hq, h => by
    obtain ⟨T, hT, _⟩ := Zaq t ha k
    have hnx := ZaM t ha k
    have hq2 := Zqk t ha k hs hq
    by_cases h1 : (Zx c l a k).1.1 = 0
    · rw [Y7 h1] at h
      cases h
      exact hq2
    · by_cases h2 : (Zx c l a k).1.1 = 5
      · rw [Jo h2] at h; exact ZfH hs m hT hnx hq2 h
      · rw [Xh h1 h2] at h; exact ZfH hs m hT hnx hq2 h
theorem Grown.q {k : Int} (h : Grown k l) : SeenQ (Za l 0).seen l := ⟨h.all, rfl⟩
theorem Grown.of {k S : Int} (h : SeenQ S l) (h1 : S ≤ k) (h0 : 0 ≤ S) : Grown k l := ⟨by rw [h.2]; exact h.1, by rw [h.2]; exact h1, by rw [h.2]; exact h0⟩
theorem Grown.lift {k : Int} (t : Tree c l ss) (h : Grown k l) : Grown k (ZS c l).2 := Grown.of (Zjt t h.pos h.q) h.le h.pos
theorem Grown.cyc {k : Int} {q : Str} {m : Nat} {r : Int × Int × List Nd} (t : Tree c l ss) (h : Grown k l) (hr : Yq c q m l 0 0 = some r) : Grown k r.2.2 := Grown.of (ZfH h.pos m t ⟨Int.le_refl _, by have := t.pos; omega⟩ h.q hr) h.le h.pos

/-! ### What goes down -/
def X3 : Nat := 9000 ^ 12
noncomputable def wtL (c : Cfg) (n : Nd) : Nat := if n.level = 0 then 0 else wtN c n * 9000 ^ n.level.toNat
noncomputable def ZbS (c : Cfg) (l : List Nd) : Nat := (l.map (wtL c)).sum
noncomputable def muL (c : Cfg) (l : List Nd) : Nat := (c.slots.toNat - l.length) * (4097 * X3) + ZbS c l
theorem Tree.low (t : Tree c l ss) : ∀ x ∈ ss, x.n.level ≤ 11 := by
  have h : ∀ x ∈ ss, x.n.level ≤ 11 := t.ind t.height fun x hx h0 hl j hj => by
    have := (t.at hx h0 hj).2.2.2
    omega
  exact h
theorem Tree.wt_lt (t : Tree c l ss) {n : Nd} (hn : n ∈ l) : wtL c n < X3 := by
  have := (t.perm.mem_iff).2 hn
  obtain ⟨x, hx, rfl⟩ := List.mem_map.1 this
  unfold wtL
  split
  · exact Nat.pow_pos (by omega)
  · rename_i h0
    have h1 := Zgg t.cfg (t.inner hx h0)
    have h2 := t.low x hx
    have h3 : 9000 ^ x.n.level.toNat ≤ 9000 ^ 11 := Nat.pow_le_pow_right (by omega) (by omega)
    have h4 : wtN c x.n * 9000 ^ x.n.level.toNat ≤ 8256 * 9000 ^ 11 := Nat.mul_le_mul h1 h3
    have h5 : (8256 : Nat) * 9000 ^ 11 < X3 := by unfold X3; decide
    exact Nat.lt_of_le_of_lt h4 h5
theorem Zju {f : Nd → Nat} {b : Nat} : ∀ {l : List Nd}, (∀ n ∈ l, f n < b) → (l.map f).sum ≤ l.length * b
  | [], _ => by simp
  | n :: l, h => by
    have h1 := h n (by simp)
    have h2 := Zju (l := l) fun x hx => h x (List.mem_cons_of_mem _ hx)
    rw [List.map_cons, List.sum_cons, List.length_cons, Nat.add_mul]
    omega
theorem Tree.pot_lt (t : Tree c l ss) : ZbS c l < 4097 * X3 := by
  have h1 := Zju (f := wtL c) (b := X3) (l := l) fun n hn => t.wt_lt hn
  have h2 := t.sml.1
  have h3 : l.length * X3 ≤ 4096 * X3 := Nat.mul_le_mul_right _ h2
  have h4 : 0 < X3 := Nat.pow_pos (by omega)
  unfold ZbS
  have h5 : 4097 * X3 = 4096 * X3 + X3 := by rw [← Nat.succ_mul]
  omega
theorem ZfI {l' : List Nd} {T : List Seat} (t' : Tree c l' T) (h : l.length < l'.length) : muL c l' < muL c l := by
  have h1 := t'.pot_lt
  have h2 := t'.q.1.2.2
  unfold muL
  have h3 : (c.slots.toNat - l'.length + 1) * (4097 * X3) ≤ (c.slots.toNat - l.length) * (4097 * X3) := Nat.mul_le_mul_right _ (by omega)
  rw [Nat.add_mul] at h3
  omega
theorem ZfJ {f : Nd → Nat} : ∀ {l : List Nd} {i : Nat} (h : i < l.length) (x : Nd), ((l.set i x).map f).sum + f l[i] = (l.map f).sum + f x
  | n :: l, 0, _, x => by simp only [List.set_cons_zero, List.map_cons, List.sum_cons, List.getElem_cons_zero]; omega
  | n :: l, i + 1, h, x => by
    have := ZfJ (f := f) (l := l) (i := i) (by simpa using h) x
    simp only [List.set_cons_succ, List.map_cons, List.sum_cons, List.getElem_cons_succ]
    omega
theorem Zql (t : Tree c l ss) {a i : Int} {P : Seat} (s : StepAt c l ss a i P) (h4 : 0 < ZY c.leaf c.bud (Za l a) (Zl l a i) i) :
    muL c (ZW l (Z9 c.leaf c.bud (Za l a) (Zl l a i) i).1 (Z9 c.leaf c.bud (Za l a) (Zl l a i) i).2.1) < muL c l := by
  obtain ⟨T, p⟩ := s.pour t h4
  have hf : i.toNat < c.fan.toNat := by
    have h1 := s.hi
    have h2 := p.pin.1.2.2
    omega
  have hlt := Poured.lighter p.po p.rt.1 hf
  have hm := (Zfp p.may p.po).1
  generalize (Z9 c.leaf c.bud (Za l a) (Zl l a i) i).1 = x at *
  generalize (Z9 c.leaf c.bud (Za l a) (Zl l a i) i).2.1 = y at *
  have hx : 0 ≤ x.slot ∧ x.slot < l.length := by rw [p.al.1]; exact p.sin p.mem
  have hy : 0 ≤ y.slot ∧ y.slot < l.length := by rw [p.bl.1]; exact p.sin p.km.1
  have hne : x.slot.toNat ≠ y.slot.toNat := by
    have := p.ksl
    rw [← p.al.1, ← p.bl.1] at this
    omega
  have hxl : x.slot.toNat < l.length := by omega
  have hyl : y.slot.toNat < (l.set x.slot.toNat x).length := by rw [List.length_set]; omega
  have e1 := ZfJ (f := wtL c) hxl x
  have e2 := ZfJ (f := wtL c) hyl y
  have gx : l[x.slot.toNat] = P.n := by
    have h := (t.nd p.mem).2.1
    rw [ZaL (p.sin p.mem)] at h
    have h2 := p.al.1
    simp only [h2]
    exact h.symm
  have gy : (l.set x.slot.toNat x)[y.slot.toNat] = (Zb l P i.toNat).n := by
    rw [List.getElem_set_ne hne]
    have h := (t.nd p.km.1).2.1
    rw [ZaL (p.sin p.km.1)] at h
    have h2 := p.bl.1
    simp only [h2]
    exact h.symm
  rw [gx] at e1
  rw [gy] at e2
  have w1 : wtL c x + 9000 ^ P.n.level.toNat ≤ wtL c P.n := by
    unfold wtL
    rw [p.al.2.1, if_neg p.h0, if_neg p.h0]
    have := Nat.mul_le_mul_right (9000 ^ P.n.level.toNat) hlt
    rw [Nat.add_mul, Nat.one_mul] at this
    exact this
  have w2 : wtL c y < 9000 ^ P.n.level.toNat := by
    unfold wtL
    split
    · exact Nat.pow_pos (by omega)
    · rename_i h0
      have hI : y.innerR c.fan c.bud := by have h := hm.1.2.1.2.2.2; rwa [if_neg h0] at h
      have h1 := Zgg t.cfg hI
      have h2 := p.km.2
      have h3 := p.bl.2.1
      have h5 := t.lvl p.km.1
      have h6 := t.lvl p.mem
      have h7 : P.n.level.toNat = y.level.toNat + 1 := by omega
      rw [h7, Nat.pow_succ]
      have h8 : 0 < 9000 ^ y.level.toNat := Nat.pow_pos (by omega)
      have h9 := Nat.mul_le_mul_right (9000 ^ y.level.toNat) h1
      omega
  have hlen : (ZW l x y).length = l.length := p.len
  unfold muL
  rw [hlen]
  have : ZbS c (ZW l x y) < ZbS c l := by
    unfold ZbS ZW
    omega
  omega
theorem Zqm (t : Tree c l ss) {a : Int} (ha : 0 ≤ a ∧ a < l.length) (k : Str) (h1 : ¬ (Zx c l a k).1.1 = 0) (h2 : ¬ (Zx c l a k).1.1 = 5) : muL c (Zx c l a k).2 < muL c l := by
  obtain ⟨T, hT, _⟩ := Zaq t ha k
  rcases Jn c (Za l a) k with h | h | ⟨h, _⟩
  · rw [Jk h] at h1; exact absurd rfl h1
  · by_cases h3 : (ZS c l).1 = 0
    · rw [Jl h h3] at hT ⊢
      refine ZfI hT ?_
      unfold ZS at h3 ⊢
      split at h3
      · cases h3
      · rename_i h4
        rw [if_neg h4]
        split at h3
        · cases h3
        · rename_i h5
          rw [if_neg h5]
          unfold YV
          simp
    · rw [Jm h h3] at h1; exact absurd rfl h1
  · obtain ⟨h0, hi⟩ := JU t ha h
    obtain ⟨P, s⟩ := JD t ha h0 hi
    rw [X4 h] at h1 h2 hT ⊢
    generalize (ZB c (Za l a) k).2 = i at *
    rcases XU c (Za l a) (Zl l a i) i with hd | hd | ⟨hd, hd2⟩ | hd
    · rw [JC hd] at h1; exact absurd rfl h1
    · by_cases h3 : (ZP c l a i).1 = 0
      · rw [X5 hd h3] at hT ⊢
        refine ZfI hT ?_
        unfold ZP at h3 ⊢
        split at h3
        · cases h3
        · rename_i h4
          rw [if_neg h4]
          unfold Xx at h3 ⊢
          split at h3
          · cases h3
          · rename_i h5
            rw [if_neg h5]
            split at h3
            · cases h3
            · rename_i h6
              rw [if_neg h6]
              split at h3
              · cases h3
              · rename_i h7
                rw [if_neg h7]
                split at h3
                · cases h3
                · rename_i h8
                  rw [if_neg h8]
                  unfold JS
                  simp
      · rw [X6 hd h3] at h1; exact absurd rfl h1
    · rw [YR hd]; exact Zql t s hd2
    · rw [X7 hd] at h2; exact absurd rfl h2
theorem ZfK {p i : Int} (h : ¬ (ZP c l p i).1 = 0) : (ZP c l p i).2 = l := by
  unfold ZP at h ⊢
  split at h
  · rename_i h4; rw [if_pos h4]
  · rename_i h4
    rw [if_neg h4]
    unfold Xx at h ⊢
    split at h
    · rename_i h5; rw [if_pos h5]
    · rename_i h5
      rw [if_neg h5]
      split at h
      · rename_i h6; rw [if_pos h6]
      · rename_i h6
        rw [if_neg h6]
        split at h
        · rename_i h7; rw [if_pos h7]
        · rename_i h7
          rw [if_neg h7]
          split at h
          · rename_i h8; rw [if_pos h8]
          · exact absurd rfl h
theorem ZfL (h : ¬ (ZS c l).1 = 0) : (ZS c l).2 = l := by
  unfold ZS at h ⊢
  split at h
  · rename_i h4; rw [if_pos h4]
  · rename_i h4
    rw [if_neg h4]
    split at h
    · rename_i h5; rw [if_pos h5]
    · exact absurd rfl h
theorem Zqn (t : Tree c l ss) {a : Int} (ha : 0 ≤ a ∧ a < l.length) {k : Str} (h1 : (Zx c l a k).1.1 = 0) : (Zx c l a k).2 = l := by
  rcases Jn c (Za l a) k with h | h | ⟨h, _⟩
  · rw [Jk h]
  · by_cases h3 : (ZS c l).1 = 0
    · rw [Jl h h3] at h1; cases h1
    · rw [Jm h h3]; exact ZfL h3
  · rw [X4 h] at h1 ⊢
    generalize (ZB c (Za l a) k).2 = i at *
    rcases XU c (Za l a) (Zl l a i) i with hd | hd | ⟨hd, hd2⟩ | hd
    · rw [JC hd]
    · by_cases h3 : (ZP c l a i).1 = 0
      · rw [X5 hd h3] at h1; cases h1
      · rw [X6 hd h3]; exact ZfK h3
    · rw [YR hd] at h1; cases h1
    · rw [X7 hd]
theorem Zqo (t : Tree c l ss) {a : Int} (ha : 0 ≤ a ∧ a < l.length) {k : Str} (h1 : (Zx c l a k).1.1 = 5) : (Zx c l a k).2 = l := by
  rcases Jn c (Za l a) k with h | h | ⟨h, _⟩
  · rw [Jk h]
  · by_cases h3 : (ZS c l).1 = 0
    · rw [Jl h h3] at h1; cases h1
    · rw [Jm h h3]; exact ZfL h3
  · rw [X4 h] at h1 ⊢
    generalize (ZB c (Za l a) k).2 = i at *
    rcases XU c (Za l a) (Zl l a i) i with hd | hd | ⟨hd, hd2⟩ | hd
    · rw [JC hd]
    · by_cases h3 : (ZP c l a i).1 = 0
      · rw [X5 hd h3] at h1; cases h1
      · rw [X6 hd h3]; exact ZfK h3
    · rw [YR hd] at h1; cases h1
    · rw [X7 hd]
theorem ZdB {k : Str} : ∀ (m : Nat) {l : List Nd} {ss : List Seat} {a n : Int} {r : Int × Int × List Nd}, Tree c l ss → 0 ≤ a ∧ a < l.length → Yq c k m l a n = some r → (n < r.1 → muL c r.2.2 < muL c l) ∧ (r.1 ≤ n → r.2.2 = l)
  | 0, _, _, _, _, _, _, _, h => by cases h
  | m + 1, l, ss, a, n, r, t, ha, h => by
    obtain ⟨T, hT, _⟩ := Zaq t ha k
    have hnx := ZaM t ha k
    by_cases h1 : (Zx c l a k).1.1 = 0
    · rw [Y7 h1] at h
      cases h
      refine ⟨fun e => absurd e (Int.lt_irrefl _), fun _ => ?_⟩
      exact Zqn t ha h1
    · by_cases h2 : (Zx c l a k).1.1 = 5
      · have hst := Zqo t ha h2
        rw [Jo h2] at h
        rw [hst] at h hT hnx
        exact ZdB m hT hnx h
      · have hmu := Zqm t ha k h1 h2
        rw [Xh h1 h2] at h
        have ih := ZdB m hT hnx h
        have hmo := J5 m h
        refine ⟨fun _ => ?_, fun e => by omega⟩
        by_cases h3 : n + 1 < r.1
        · exact Nat.lt_trans (ih.1 h3) hmu
        · rw [ih.2 (by omega)]; exact hmu
end
theorem ZdC (bud : Int) (ms : List Msg) (m : Msg) : (JA bud ms m).2 = Yg bud ms m := Zfs bud ms m
theorem Zqp {bud : Int} {ms : List Msg} {m : Msg} (h : Yg bud ms m = true) : (JA bud ms m).1 = ms ++ [m] := by rw [ZbM h]
noncomputable def XL (c : Cfg) (l : List Nd) (o : Opr) : Nd :=
  if (Za l 0).level = 0 then { Za l 0 with rows := (Zar (Za l 0).rows (o.msg ((Za l 0).seen + 1)) c.leaf).1, seen := (Za l 0).seen + (if (Zv c l o).2.1 = 0 then 1 else 0) }
  else { Za l 0 with msgs := (JA c.bud (Za l 0).msgs (o.msg ((Za l 0).seen + 1))).1, seen := (Za l 0).seen + (if (Zv c l o).2.1 = 0 then 1 else 0) }
section
variable {c : Cfg} {l : List Nd} {ss : List Seat} {o : Opr}
theorem ZfM (h : (Za l 0).level = 0) (e : (Zv c l o).2.1 = 0) : XL c l o = { Za l 0 with rows := (Zar (Za l 0).rows (o.msg ((Za l 0).seen + 1)) c.leaf).1, seen := (Za l 0).seen + 1 } := by unfold XL; rw [if_pos h, if_pos e]
theorem Zjv (h : (Za l 0).level = 0) (e : ¬ (Zv c l o).2.1 = 0) : XL c l o = { Za l 0 with rows := (Zar (Za l 0).rows (o.msg ((Za l 0).seen + 1)) c.leaf).1, seen := (Za l 0).seen } := by unfold XL; rw [if_pos h, if_neg e, Int.add_zero]
theorem ZfN (h : ¬ (Za l 0).level = 0) (e : (Zv c l o).2.1 = 0) : XL c l o = { Za l 0 with msgs := (JA c.bud (Za l 0).msgs (o.msg ((Za l 0).seen + 1))).1, seen := (Za l 0).seen + 1 } := by unfold XL; rw [if_neg h, if_pos e]
theorem Zjw (h : ¬ (Za l 0).level = 0) (e : ¬ (Zv c l o).2.1 = 0) : XL c l o = { Za l 0 with msgs := (JA c.bud (Za l 0).msgs (o.msg ((Za l 0).seen + 1))).1, seen := (Za l 0).seen } := by unfold XL; rw [if_neg h, if_neg e, Int.add_zero]
theorem Zqq (e : (Zv c l o).2.1 = 0) : XL c l o = Zdy l o := by
  by_cases h : (Za l 0).level = 0
  · rw [ZfM h e, Zjn h]
    cases hf : Yi (Za l 0).rows (o.msg ((Za l 0).seen + 1)) c.leaf
    · rw [Za5 h hf] at e; cases e
    · rw [Zqb hf]; rfl
  · rw [ZfN h e, Zjo h]
    cases hf : Yg c.bud (Za l 0).msgs (o.msg ((Za l 0).seen + 1))
    · rw [Za6 h hf] at e; cases e
    · rw [Zqp hf]; rfl
theorem Zjx : (XL c l o).slot = (Za l 0).slot := by unfold XL; split <;> rfl
theorem Zqr (e : (Zv c l o).2.1 = 0) : (XL c l o).seen = (Zv c l o).1 := by rw [(Zjp e).2]; unfold XL; split <;> simp [e]
theorem Zqs (t : Tree c l ss) (e : (Zv c l o).2.1 = 0) : l.set (XL c l o).slot.toNat (XL c l o) = (Zv c l o).2.2 := by
  rw [(Zjp e).1, Zjx, Zqq e, (YN t.slot ⟨Int.le_refl _, by have := t.pos; omega⟩).1]; rfl
end
end Go.Fw
namespace Go.Proofs.YtbbemibbmbmamaaGreat
open Go Go.Fw Go.RowKit
attribute [local irreducible] Ok W WC
theorem Zqt {G : GH} {v_l : Value} {l : List Pair} (h_l : SlR Zs G v_l l) (k : Str) {v_ms : Value} {ms : List Msg} (h_ms : SlR Zp G v_ms ms) (hP : PairsR l) (hm : ∀ m ∈ ms, m.key.b.size < 140737488355328 ∧ m.val.b.size ≤ 16) :
    Fc Tryz.prog 143 [v_l, sV k.b, v_ms] G [] (fun v _ _ => v = .tuple #[sV (Str.b ((Eff.apply (YB ms k) (Zi l k)).getD Str.nil)), .bool ((Eff.apply (YB ms k) (Zi l k)).isSome)]) := by
 obtain ⟨sa_l, sc_l, rfl⟩ := h_l.form
 obtain ⟨sa_ms, sc_ms, rfl⟩ := h_ms.form
 have hr := hP.srt
 have hgv := hP.val k
 have hov := ZeO ms k (fun m h => (hm m h).2)
 have hos := Zhw (Zi l k)
 refine Fc.go [.tmp 6, .tmp 7] Tryz.func143 Tryz.ntmps143 rfl (fun w0 => (g9 10 ?_))
 refine W.qcall (Zo3 h_l _ (by assumption)) rfl (g9 11 ?_)
 refine W.qcall (ZoY h_ms _ (by assumption)) rfl (g9 2 ?_)
 refine W.qcall (Zdh (YB ms k).kind (YB ms k).val (Zi l k).isSome ((Zi l k).getD Str.nil) om9 om9) rfl (g9 14 ?_)
 refine WC.cond rfl (fun h28 => ?_) (fun h28 => ?_)
 ·refine g9 9 ?_
  show Value.tuple #[Value.string _, Value.bool _] = _
  have hx : Eff.apply (⟨(YB ms k).kind, (YB ms k).val⟩ : Eff) (Yx (Zi l k).isSome ((Zi l k).getD Str.nil)) = Eff.apply (YB ms k) (Zi l k) := by rw [hos]
  rw [hx] at h28
  have e : Eff.apply (YB ms k) (Zi l k) = none := by simpa using h28
  rw [e]; rfl
 refine g9 11 ?_
 show Value.tuple #[Value.string _, Value.bool _] = _
 have hx : Eff.apply (⟨(YB ms k).kind, (YB ms k).val⟩ : Eff) (Yx (Zi l k).isSome ((Zi l k).getD Str.nil)) = Eff.apply (YB ms k) (Zi l k) := by rw [hos]
 rw [hx] at h28
 have e : (Eff.apply (YB ms k) (Zi l k)).isSome = true := by simpa using h28
 rw [hx, e]

theorem Zqu {G : GH} {v_l : Value} {l : List Pair} (h_l : SlR Zs G v_l l) (k : Str) {v_ms : Value} {ms : List Msg} (h_ms : SlR Zp G v_ms ms) (hP : PairsR l) (hm : ∀ m ∈ ms, m.key.b.size < 140737488355328 ∧ m.val.b.size ≤ 16) :
    Fc Tryz.prog 97 [v_l, sV k.b, v_ms] G [] (fun v _ _ => v = .tuple #[sV (Str.b ((Eff.apply (YB ms k) (Zi l k)).getD Str.nil)), .bool ((Eff.apply (YB ms k) (Zi l k)).isSome)]) := by
 obtain ⟨sa_l, sc_l, rfl⟩ := h_l.form
 obtain ⟨sa_ms, sc_ms, rfl⟩ := h_ms.form
 have hr := hP.srt
 have hgv := hP.val k
 have hov := ZeO ms k (fun m h => (hm m h).2)
 have hos := Zhw (Zi l k)
 refine Fc.go [.tmp 6, .tmp 7] Tryz.func97 Tryz.ntmps97 rfl (fun w0 => (g9 11 ?_))
 refine W.qcall (Zqt h_l _ h_ms (by assumption) (by assumption)) rfl (g9 8 ?_)
 rfl

theorem Zqv {G : GH} (pk : Int) (pkey : Str) (phi : Str) (po : Bool) (pv : Str) (pl : Int) :
    Fc Tryz.prog 93 [.agg #[iV pk, sV pkey.b, sV phi.b, .bool po, sV pv.b, iV pl]] G [] (fun v _ _ => v = .bool (decide (pk = 1 ∨ pk = 2))) := by
 refine Fc.go [.tmp 2] Tryz.func93 Tryz.ntmps93 rfl (fun w0 => (g9 2 ?_))
 refine W.box (L := [iV _, sV _, sV _, .bool _, sV _, iV _]) rfl rfl (fun b3 => (g9 9 ?_))
 refine W.sd 6 (fun h5 p5 => ?_) (fun h5 p5 => ?_)
 ·refine g9 9 ?_
  refine congrArg Value.bool ?_
  simp_all
 refine g9 12 ?_
 refine congrArg Value.bool ?_
 simp_all

theorem Zjy {G : GH} (pk : Int) (pkey : Str) (phi : Str) (po : Bool) (pv : Str) (pl : Int) :
    Fc Tryz.prog 94 [.agg #[iV pk, sV pkey.b, sV phi.b, .bool po, sV pv.b, iV pl]] G [] (fun v _ _ => v = .bool (decide (pk = 4 ∨ pk = 6))) := by
 refine Fc.go [.tmp 2] Tryz.func94 Tryz.ntmps94 rfl (fun w0 => (g9 2 ?_))
 refine W.box (L := [iV _, sV _, sV _, .bool _, sV _, iV _]) rfl rfl (fun b4 => (g9 9 ?_))
 refine W.sd 6 (fun h5 p5 => ?_) (fun h5 p5 => ?_)
 ·refine g9 9 ?_
  refine congrArg Value.bool ?_
  simp_all
 refine g9 12 ?_
 refine congrArg Value.bool ?_
 simp_all

theorem Zqw {G : GH} (pk : Int) (pkey : Str) (phi : Str) (po : Bool) (pv : Str) (pl : Int) :
    Fc Tryz.prog 131 [.agg #[iV pk, sV pkey.b, sV phi.b, .bool po, sV pv.b, iV pl]] G [] (fun v _ _ => v = .bool (decide (1 ≤ pk ∧ pk ≤ 4))) := by
 refine Fc.go [.tmp 2] Tryz.func131 Tryz.ntmps131 rfl (fun w0 => (g9 2 ?_))
 refine W.box (L := [iV _, sV _, sV _, .bool _, sV _, iV _]) rfl rfl (fun b5 => (g9 9 ?_))
 refine W.sd 6 (fun h5 p5 => ?_) (fun h5 p5 => ?_)
 ·refine g9 12 ?_
  refine congrArg Value.bool ?_
  first | (simp_all; done) | (simp_all; omega)
 refine g9 9 ?_
 refine congrArg Value.bool ?_
 first | (simp_all; done) | (simp_all; omega)

theorem Zjz {G : GH} (pk : Int) (pkey : Str) (phi : Str) (po : Bool) (pv : Str) (pl : Int) (hk : pkey.b.size < 140737488355328) :
    Fc Tryz.prog 47 [.agg #[iV pk, sV pkey.b, sV phi.b, .bool po, sV pv.b, iV pl]] G [] (fun v _ _ => v = .agg (List.toArray ((Opr.span (⟨pk, pkey, phi, po, pv, pl⟩ : Opr)).cells))) := by
 refine Fc.go [.cell 2 62] Tryz.func47 Tryz.ntmps47 rfl (fun w0 => (g9 2 ?_))
 refine W.box (L := [iV _, sV _, sV _, .bool _, sV _, iV _]) rfl rfl (fun b6 => (W.alloc Zy (fun b7 => (g9 6 ?_))))
 refine W.qcall (Zjy _ _ _ _ _ _) rfl (g9 2 ?_)
 refine WC.cond rfl (fun h4 => ?_) (fun h4 => ?_)
 ·refine g9 8 ?_
  refine W.ok (ZD (L := [sV _, sV _, .bool _]) Xe Zy rfl rfl rfl) (g9 6 ?_)
  refine congrArg (fun l => Value.agg (List.toArray l)) ?_
  rw [Opr.span, if_pos (odt h4)]; rfl
 refine g9 6 ?_
 refine W.qcall (Zig _ (by first | assumption | omega | (dsimp only; omega))) rfl (g9 5 ?_)
 refine congrArg (fun l => Value.agg (List.toArray l)) ?_
 rw [Opr.span, if_neg (odf h4)]; try rfl

theorem ZjA {G : GH} (pk : Int) (pkey : Str) (phi : Str) (po : Bool) (pv : Str) (pl : Int) :
    Fc Tryz.prog 44 [.agg #[iV pk, sV pkey.b, sV phi.b, .bool po, sV pv.b, iV pl]] G [] (fun v _ _ => v = iV (if Opr.R (⟨pk, pkey, phi, po, pv, pl⟩ : Opr) then 0 else 3)) := by
 have h1 := pkey.le
 have h2 := phi.le
 have h3 := pv.le
 have hn : ∀ s : Str, s.b = ⟨#[]⟩ ↔ s = Str.nil := fun s => ⟨fun h => Str.ext' h, fun h => by rw [h]; rfl⟩
 refine Fc.go [.tmp 2] Tryz.func44 Tryz.ntmps44 rfl (fun w0 => (g9 2 ?_))
 refine W.box (L := [iV _, sV _, sV _, .bool _, sV _, iV _]) rfl rfl (fun b1 => (g9 3 ?_))
 refine WC.join (X := Bool) (fun ok => [(3, .bool ok), (1, pt9 b1)]) (fun ok _ Ml => Ml = [(b1, ce9 34 [iV pk, sV pkey.b, sV phi.b, .bool po, sV pv.b, iV pl])] ∧ ok = decide (1 ≤ pk ∧ pk ≤ 6 ∧ pkey.b.size ≤ 16 ∧ phi.b.size ≤ 16 ∧ pv.b.size ≤ 16)) ?_ ?_
 ·refine g9 5 ?_
  refine W.sd 7 (fun h6 p6 => ?_) (fun h6 p6 => ?_)
  ·refine g9 8 ?_
   refine W.sd 12 (fun h10 p10 => ?_) (fun h10 p10 => ?_)
   ·refine g9 5 ?_
    refine W.qcall (Zij _) rfl (g9 2 ?_)
    refine W.sp 17 rfl (fun h15 => ?_) (fun h15 => ?_)
    ·have k15 := odt h15
     refine g9 5 ?_
     refine W.qcall (Zij _) rfl (g9 2 ?_)
     refine W.sp 22 rfl (fun h20 => ?_) (fun h20 => ?_)
     ·have k20 := odt h20
      refine g9 5 ?_
      refine W.qcall (ZoW _) rfl (g9 4 ?_)
      exact ⟨Le.rfl, _, hs9, ⟨rfl, (by rw [Bool.eq_iff_iff, decide_eq_true_iff]; first | (simp_all; done) | (simp_all; omega) | grind)⟩⟩
     refine g9 7 ?_
     exact ⟨Le.rfl, _, hs9, ⟨rfl, (by rw [Bool.eq_iff_iff, decide_eq_true_iff]; first | (simp_all; done) | (simp_all; omega) | grind)⟩⟩
    refine g9 12 ?_
    exact ⟨Le.rfl, _, hs9, ⟨rfl, (by rw [Bool.eq_iff_iff, decide_eq_true_iff]; first | (simp_all; done) | (simp_all; omega) | grind)⟩⟩
   refine g9 17 ?_
   exact ⟨Le.rfl, _, hs9, ⟨rfl, (by rw [Bool.eq_iff_iff, decide_eq_true_iff]; first | (simp_all; done) | (simp_all; omega) | grind)⟩⟩
  refine g9 22 ?_
  exact ⟨Le.rfl, _, hs9, ⟨rfl, (by rw [Bool.eq_iff_iff, decide_eq_true_iff]; first | (simp_all; done) | (simp_all; omega) | grind)⟩⟩
 rintro ok gG2 G2 _ hG2 ⟨rfl, hok⟩
 refine WC.join (X := Bool) (fun ok => [(3, .bool ok), (1, pt9 b1)]) (fun ok _ Ml => Ml = [(b1, ce9 34 [iV pk, sV pkey.b, sV phi.b, .bool po, sV pv.b, iV pl])] ∧ ok = decide (1 ≤ pk ∧ pk ≤ 6 ∧ pkey.b.size ≤ 16 ∧ phi.b.size ≤ 16 ∧ pv.b.size ≤ 16 ∧ (2 < pk → pv = Str.nil) ∧ (po = false ∨ phi = Str.nil))) ?_ ?_
 ·refine g9 3 ?_
  refine W.sp 28 rfl (fun hokb => ?_) (fun hokb => ?_)
  ·have hP := odt (hok.symm.trans hokb)
   have hks : pkey.b.size < 140737488355328 := by omega
   refine g9 3 ?_
   refine W.qcall (Zqv _ _ _ _ _ _) rfl (g9 2 ?_)
   refine W.sp 31 rfl (fun h30 => ?_) (fun h30 => ?_)
   ·refine g9 15 ?_
    refine W.sp 41 rfl (fun h40 => ?_) (fun h40 => ?_)
    ·refine g9 9 ?_
     exact ⟨Le.rfl, _, hs9, ⟨rfl, (by rw [Bool.eq_iff_iff, decide_eq_true_iff]; first | (simp_all; done) | (simp_all; omega) | grind)⟩⟩
    refine g9 12 ?_
    exact ⟨Le.rfl, _, hs9, ⟨rfl, (by rw [Bool.eq_iff_iff, decide_eq_true_iff]; first | (simp_all; done) | (simp_all; omega) | grind)⟩⟩
   refine g9 10 ?_
   refine W.sd 37 (fun h34 p34 => ?_) (fun h34 p34 => ?_)
   ·refine g9 8 ?_
    refine W.sp 41 rfl (fun h40 => ?_) (fun h40 => ?_)
    ·refine g9 9 ?_
     exact ⟨Le.rfl, _, hs9, ⟨rfl, (by rw [Bool.eq_iff_iff, decide_eq_true_iff]; first | (simp_all; done) | (simp_all; omega) | grind)⟩⟩
    refine g9 12 ?_
    exact ⟨Le.rfl, _, hs9, ⟨rfl, (by rw [Bool.eq_iff_iff, decide_eq_true_iff]; first | (simp_all; done) | (simp_all; omega) | grind)⟩⟩
   refine g9 12 ?_
   exact ⟨Le.rfl, _, hs9, ⟨rfl, (by rw [Bool.eq_iff_iff, decide_eq_true_iff]; first | (simp_all; done) | (simp_all; omega) | grind)⟩⟩
  refine g9 21 ?_
  exact ⟨Le.rfl, _, hs9, ⟨rfl, (by rw [Bool.eq_iff_iff, decide_eq_true_iff]; first | (simp_all; done) | (simp_all; omega) | grind)⟩⟩
 rintro ok gG3 G3 _ hG3 ⟨rfl, hok⟩
 refine WC.join (X := Bool) (fun ok => [(3, .bool ok), (1, pt9 b1)]) (fun ok _ Ml => Ml = [(b1, ce9 34 [iV pk, sV pkey.b, sV phi.b, .bool po, sV pv.b, iV pl])] ∧ ok = decide (1 ≤ pk ∧ pk ≤ 6 ∧ pkey.b.size ≤ 16 ∧ phi.b.size ≤ 16 ∧ pv.b.size ≤ 16 ∧ (2 < pk → pv = Str.nil) ∧ (po = false ∨ phi = Str.nil) ∧ if pk = 4 ∨ pk = 6 then (Opr.span (⟨pk, pkey, phi, po, pv, pl⟩ : Opr)).empty = false else phi = Str.nil ∧ po = false)) ?_ ?_
 ·refine g9 3 ?_
  refine W.qcall (Zjy _ _ _ _ _ _) rfl (g9 2 ?_)
  refine WC.cond rfl (fun h48 => ?_) (fun h48 => ?_)
  ·refine g9 3 ?_
   refine W.sp 50 rfl (fun hokb => ?_) (fun hokb => ?_)
   ·have hP := odt (hok.symm.trans hokb)
    have hks : pkey.b.size < 140737488355328 := by omega
    refine g9 3 ?_
    refine W.qcall (Zjz _ _ _ _ _ _ (by first | assumption | omega | (dsimp only; omega))) rfl (g9 1 ?_)
    refine W.qcall (Zcx _ _ _) rfl (g9 6 ?_)
    exact ⟨Le.rfl, _, hs9, ⟨rfl, (by rw [Bool.eq_iff_iff, decide_eq_true_iff]; show (!(Opr.span (⟨pk, pkey, phi, po, pv, pl⟩ : Opr)).empty) = true ↔ _; rw [if_pos (odt h48)]; first | (simp_all; done) | (simp_all; omega) | grind)⟩⟩
   refine g9 8 ?_
   exact ⟨Le.rfl, _, hs9, ⟨rfl, (by refine (decide_eq_false fun h => odf (hok.symm.trans hokb) ?_).symm; obtain ⟨a, b, c, d, e, f, g, _⟩ := h; exact ⟨a, b, c, d, e, f, g⟩)⟩⟩
  refine g9 3 ?_
  refine W.sp 57 rfl (fun hokb => ?_) (fun hokb => ?_)
  ·have hP := odt (hok.symm.trans hokb)
   have hks : pkey.b.size < 140737488355328 := by omega
   refine g9 8 ?_
   refine W.sd 62 (fun h60 p60 => ?_) (fun h60 p60 => ?_)
   ·refine g9 10 ?_
    exact ⟨Le.rfl, _, hs9, ⟨rfl, (by rw [Bool.eq_iff_iff, decide_eq_true_iff]; rw [if_neg (odf h48)]; first | (simp_all; done) | (simp_all; omega) | grind)⟩⟩
   refine g9 7 ?_
   exact ⟨Le.rfl, _, hs9, ⟨rfl, (by rw [Bool.eq_iff_iff, decide_eq_true_iff]; rw [if_neg (odf h48)]; first | (simp_all; done) | (simp_all; omega) | grind)⟩⟩
  refine g9 12 ?_
  exact ⟨Le.rfl, _, hs9, ⟨rfl, (by rw [Bool.eq_iff_iff, decide_eq_true_iff]; rw [if_neg (odf h48)]; first | (simp_all; done) | (simp_all; omega) | grind)⟩⟩
 rintro ok gG4 G4 _ hG4 ⟨rfl, hok⟩
 refine WC.join (X := Bool) (fun ok => [(3, .bool ok)]) (fun ok _ Ml => Ml = [(b1, ce9 34 [iV pk, sV pkey.b, sV phi.b, .bool po, sV pv.b, iV pl])] ∧ ok = decide (Opr.R (⟨pk, pkey, phi, po, pv, pl⟩ : Opr))) ?_ ?_
 ·refine g9 7 ?_
  refine WC.cd (fun h69 p69 => ?_) (fun h69 p69 => ?_)
  ·refine g9 3 ?_
   refine W.sp 71 rfl (fun hokb => ?_) (fun hokb => ?_)
   ·have hP := odt (hok.symm.trans hokb)
    have hks : pkey.b.size < 140737488355328 := by omega
    refine g9 8 ?_
    refine W.sd 76 (fun h74 p74 => ?_) (fun h74 p74 => ?_)
    ·refine g9 10 ?_
     exact ⟨Le.rfl, _, hs9, ⟨rfl, (by rw [Bool.eq_iff_iff, decide_eq_true_iff]; simp only [Opr.R]; first | (simp_all; done) | (simp_all; omega) | grind)⟩⟩
    refine g9 7 ?_
    exact ⟨Le.rfl, _, hs9, ⟨rfl, (by rw [Bool.eq_iff_iff, decide_eq_true_iff]; simp only [Opr.R]; first | (simp_all; done) | (simp_all; omega) | grind)⟩⟩
   refine g9 12 ?_
   exact ⟨Le.rfl, _, hs9, ⟨rfl, (by rw [Bool.eq_iff_iff, decide_eq_true_iff]; simp only [Opr.R]; first | (simp_all; done) | (simp_all; omega) | grind)⟩⟩
  refine g9 3 ?_
  refine W.sp 82 rfl (fun hokb => ?_) (fun hokb => ?_)
  ·have hP := odt (hok.symm.trans hokb)
   have hks : pkey.b.size < 140737488355328 := by omega
   refine g9 10 ?_
   exact ⟨Le.rfl, _, hs9, ⟨rfl, (by rw [Bool.eq_iff_iff, decide_eq_true_iff]; simp only [Opr.R]; first | (simp_all; done) | (simp_all; omega) | grind)⟩⟩
  refine g9 7 ?_
  exact ⟨Le.rfl, _, hs9, ⟨rfl, (by rw [Bool.eq_iff_iff, decide_eq_true_iff]; simp only [Opr.R]; first | (simp_all; done) | (simp_all; omega) | grind)⟩⟩
 rintro ok gG5 G5 _ hG5 ⟨rfl, hok⟩
 refine g9 7 ?_
 refine WC.cond rfl (fun h88 => ?_) (fun h88 => ?_)
 ·refine g9 8 ?_
  refine congrArg (Value.int .i64) ?_
  subst hok
  rw [if_neg (by simpa using h88)]
 refine g9 9 ?_
 refine congrArg (Value.int .i64) ?_
 subst hok
 rw [if_pos (by simpa using h88)]

theorem Zqx {G : GH} (pk : Int) (pkey : Str) (phi : Str) (po : Bool) (pv : Str) (pl : Int) (n : Int) :
    Fc Tryz.prog 28 [.agg #[iV pk, sV pkey.b, sV phi.b, .bool po, sV pv.b, iV pl], iV n] G [] (fun v _ _ => v = .bool (decide ((pkey.b.size : Int) ≤ n ∧ (phi.b.size : Int) ≤ n ∧ (pv.b.size : Int) ≤ n))) := by
 have h1 := pkey.le
 have h2 := phi.le
 have h3 := pv.le
 refine Fc.go [.tmp 4] Tryz.func28 Tryz.ntmps28 rfl (fun w0 => (g9 2 ?_))
 refine W.box (L := [iV _, sV _, sV _, .bool _, sV _, iV _]) rfl rfl (fun b6 => (g9 11 ?_))
 refine W.sd 10 (fun h9 p9 => ?_) (fun h9 p9 => ?_)
 ·refine g9 12 ?_
  refine W.sd 17 (fun h15 p15 => ?_) (fun h15 p15 => ?_)
  ·refine g9 16 ?_
   refine congrArg Value.bool ?_
   first | (simp_all; done) | (simp_all; omega) | (simp_all; intros; omega)
  refine g9 11 ?_
  refine congrArg Value.bool ?_
  first | (simp_all; done) | (simp_all; omega) | (simp_all; intros; omega)
 refine g9 18 ?_
 refine congrArg Value.bool ?_
 first | (simp_all; done) | (simp_all; omega) | (simp_all; intros; omega)

theorem Zqy {G : GH} (pk : Int) (pkey : Str) (phi : Str) (po : Bool) (pv : Str) (pl : Int) (s : Int) (hR : Opr.R (⟨pk, pkey, phi, po, pv, pl⟩ : Opr)) (hk4 : pk ≤ 4) (hs : 1 ≤ s) :
    Fc Tryz.prog 78 [.agg #[iV pk, sV pkey.b, sV phi.b, .bool po, sV pv.b, iV pl], iV s] G [] (fun v _ _ => v = .tuple #[.agg (List.toArray ((Opr.msg (⟨pk, pkey, phi, po, pv, pl⟩ : Opr) s).cells)), .bool (true)]) := by
 have hk1 := hR.1.1
 dsimp only at hk1
 refine Fc.go [.cell 4 87, .tmp 5] Tryz.func78 Tryz.ntmps78 rfl (fun w0 => (g9 2 ?_))
 refine W.box (L := [iV _, sV _, sV _, .bool _, sV _, iV _]) rfl rfl (fun b1 => (W.alloc ZL (fun b2 => (g9 7 ?_))))
 refine W.qcall (ZjA _ _ _ _ _ _) rfl (g9 2 ?_)
 refine W.sm 9 (fun h8 p8 => ?_) (fun h8 p8 => ?_)
 ·simp [hR] at h8
 refine g9 3 ?_
 refine W.qcall (Zqw _ _ _ _ _ _) rfl (g9 4 ?_)
 refine W.sp 14 rfl (fun h12 => ?_) (fun h12 => ?_)
 ·simp only [Bool.not_eq_true', decide_eq_false_iff_not] at h12
  exfalso; omega
 refine g9 7 ?_
 refine WC.cd (fun h16 p16 => ?_) (fun h16 p16 => ?_)
 ·exfalso; omega
 refine g9 15 ?_
 refine W.ok (ZD (L := [iV _, iV _, sV _, sV _, .bool _, sV _]) ZbA ZL rfl rfl rfl) (g9 6 ?_)
 rfl

theorem Zqz {G : GH} {b_s : Nat} {c c2 : Cfg} {l : List Nd} {ss : List Seat} {Ms_s : MH} (h_s : StR 60 4 3 189 139 b_s c G l Ms_s) (t : Tree c2 l ss) (pk : Int) (pkey : Str) (phi : Str) (po : Bool) (pv : Str) (pl : Int) (hc9 : c = c2) (hR : Opr.R (⟨pk, pkey, phi, po, pv, pl⟩ : Opr)) (hk4 : pk ≤ 4) (hsn : 0 ≤ (Za l 0).seen ∧ (Za l 0).seen ≤ 1000000000000) :
    Fc Tryz.prog 148 [pt9 b_s, .agg #[iV pk, sV pkey.b, sV phi.b, .bool po, sV pv.b, iV pl]] G Ms_s (fun v G' M' => (∃ cs, v = .tuple #[.agg (List.toArray cs), iV (Zv c l (⟨pk, pkey, phi, po, pv, pl⟩ : Opr)).2.1] ∧ NodeC G' cs (XL c l (⟨pk, pkey, phi, po, pv, pl⟩ : Opr))) ∧ M' = Ms_s) := by
 subst hc9
 have hp9 := t.pos
 have hs1 : 1 ≤ (Za l 0).seen + 1 := by omega
 have hs2 : i64 ((Za l 0).seen + 1) := ⟨om9, om9⟩
 have hmR : Msg.R ((⟨pk, pkey, phi, po, pv, pl⟩ : Opr).msg ((Za l 0).seen + 1)) := ZfC hR hk4 hs1
 have hrs : (Za l 0).R c.fan c.leaf c.bud := by have h9 := (t.seat t.root).1; rwa [t.rootn] at h9
 obtain ⟨hli1, hli2⟩ := t.cfg.2.1
 have hli : i64 c.leaf := ⟨om9, om9⟩
 have hbu := t.cfg.2.2.1
 have hbn : 0 ≤ c.bud ∧ c.bud ≤ 9223372036854775807 := by omega
 have hPr : PairsR (Za l 0).rows := by have h9 := t.rows t.root; rwa [t.rootn] at h9
 have hNd := Za8 t.cfg hrs
 have hrl := hNd.2.2.2.1
 have hml : (Za l 0).msgs.length ≤ 1000000 := by have := hNd.2.2.1; omega
 have hmi1 : i64 ((Za l 0).seen + 1) := hs2
 have hmi2 : i64 pk := ⟨by have := hR.1.1; dsimp only at this; omega, om9⟩
 have hms9 : ∀ m ∈ (Za l 0).msgs, m.key.b.size ≤ 16 ∧ m.val.b.size ≤ 16 := fun m hm => Y5 ((t.msgs t.root).2.1 m (by rw [t.rootn]; exact hm))
 refine Fc.go [.cell 4 60, .tmp 5] Tryz.func148 Tryz.ntmps148 rfl (fun w0 => (WC.perm (M' := (Ms_s ++ [])) (by simp) (g9 2 ?_)))
 refine W.box (L := [iV _, sV _, sV _, .bool _, sV _, iV _]) rfl rfl (fun b1 => (W.alloc Zo (fun b2 => (g9 6 ?_))))
 refine W.call (Mp := Ms_s) (Zai h_s 0) rfl (pmC (pmC pr9)) ?_
 intro v6 G3 Ms5 hG3 q4
 refine match q4 with | ⟨⟨_, e_8, ⟨_, _, _, _, _, _, _, _, e_9, hp_hR7, hk_hR7, hm_hR7, hr_hR7, hok_hR7⟩⟩, eeq4⟩ => ?_
 subst e_8
 subst e_9
 have eeq4 := eeq4.symm
 subst eeq4
 refine W.perm (pmC (pmC pr9)).symm (g9 3 ?_)
 refine W.alloc Zo (fun b10 => (g9 11 ?_))
 refine WC.cn (fun h15 p15 => ?_) (fun h15 p15 => ?_)
 ·try dsimp only at p15
  exact absurd h15 (by simp; omega)
 try dsimp only at p15
 refine g9 8 ?_
 refine W.qcall (Zqy pk pkey phi po pv pl ((Za l 0).seen + 1) hR hk4 hs1) rfl (g9 3 ?_)
 refine W.alloc ZL (fun b11 => (g9 22 ?_))
 refine WC.cd (fun h30 p30 => ?_) (fun h30 p30 => ?_)
 ·try dsimp only at p30
  refine WC.dw (((sn9.k9.k9).cons _).k9) (d9 [0, 2, 3] ?_)
  refine WD.any [1, 4] (by kernel_rfl) rfl ⟨WD.ap ?_, WD.ap ?_, trivial⟩
  ·refine g9 1 ?_
   refine W.nn (WD.a1 4 rfl (W.call (Mp := Ms_s) (JB (StR.mono hG3 h_s)) rfl (pmC (pmC (pmC (pmC pr9)))) ?_))
   intro v15 G12 Ms14 hG12 q13
   refine match q13 with | ⟨e_17, eeq13⟩ => ?_
   subst e_17
   have eeq13 := eeq13.symm
   subst eeq13
   refine W.perm (pmC (pmC (pmC (pmC pr9)))).symm (W.nn (WD.tk 5 rfl (Zeq (L := [iV _, iV _, iV _, iV _, iV _]) (vs := ic9) Zib rfl rfl rfl) (WD.a1 6 rfl (W.call (Mp := []) (Zgp (hr_hR7.mono hG12) (((⟨pk, pkey, phi, po, pv, pl⟩ : Opr).msg ((Za l 0).seen + 1))).stamp (((⟨pk, pkey, phi, po, pv, pl⟩ : Opr).msg ((Za l 0).seen + 1))).kind (((⟨pk, pkey, phi, po, pv, pl⟩ : Opr).msg ((Za l 0).seen + 1))).key (((⟨pk, pkey, phi, po, pv, pl⟩ : Opr).msg ((Za l 0).seen + 1))).hi (((⟨pk, pkey, phi, po, pv, pl⟩ : Opr).msg ((Za l 0).seen + 1))).opn (((⟨pk, pkey, phi, po, pv, pl⟩ : Opr).msg ((Za l 0).seen + 1))).val c.leaf hPr om9 (hR.fit _)) rfl pr9 ?_))))
   intro _ G18 _ hG18 q20
   refine match q20 with | ⟨e_21, _, e_22, _, e_23, hv19⟩ => ?_
   subst e_21
   subst e_22
   subst e_23
   have q25 := hv19.form
   refine match q25 with | ⟨sa_hv19, sc_hv19, e_24⟩ => ?_
   subst e_24
   refine W.nn (d9 [7, 8, 9, 10, 11, 12] ?_)
   refine g9 9 ?_
   refine WC.cond rfl (fun h54 => ?_) (fun h54 => ?_)
   ·refine g9 9 ?_
    refine ⟨.inr rfl, [_, _], ⟨⟨_, _, _, _, _, rfl, YE (i := 2) rfl, Yn, (by simp), rfl, rfl⟩, rfl, trivial⟩, Ms_s, ((((List.sublist_append_left _ _).cons _).cons _).cons _).cons _, ?_⟩
    have hb9 : Yi (Za l 0).rows ((⟨pk, pkey, phi, po, pv, pl⟩ : Opr).msg ((Za l 0).seen + 1)) c.leaf = false := by rw [← Zdz]; simpa using h54
    have hE := Za5 (c := c) (o := (⟨pk, pkey, phi, po, pv, pl⟩ : Opr)) p30 hb9
    have hE2 : (Zv c l (⟨pk, pkey, phi, po, pv, pl⟩ : Opr)).2.1 = 4 := by rw [hE]
    rw [Zjv p30 om9, hE2]
    exact ⟨⟨_, rfl, _, _, _, _, _, _, _, _, rfl, (hp_hR7.mono lec), (hk_hR7.mono lec), (hm_hR7.mono lec), hv19, hok_hR7⟩, rfl⟩
   refine g9 18 ?_
   refine ⟨.inr rfl, [_, _], ⟨⟨_, _, _, _, _, rfl, YE (i := 2) rfl, Yn, (by simp), rfl, rfl⟩, rfl, trivial⟩, Ms_s, ((((List.sublist_append_left _ _).cons _).cons _).cons _).cons _, ?_⟩
   have hb9 : Yi (Za l 0).rows ((⟨pk, pkey, phi, po, pv, pl⟩ : Opr).msg ((Za l 0).seen + 1)) c.leaf = true := by rw [← Zdz]; simpa using h54
   have hE := ZbQ (c := c) (o := (⟨pk, pkey, phi, po, pv, pl⟩ : Opr)) p30 hb9
   have hE2 : (Zv c l (⟨pk, pkey, phi, po, pv, pl⟩ : Opr)).2.1 = 0 := by rw [hE]
   rw [ZfM p30 (by exact hE2), hE2]
   exact ⟨⟨_, rfl, _, _, _, _, _, _, _, _, rfl, (hp_hR7.mono lec), (hk_hR7.mono lec), (hm_hR7.mono lec), hv19, ⟨hok_hR7.1, hok_hR7.2.1, hok_hR7.2.2.1, hs2⟩⟩, rfl⟩
  refine W.call (Mp := Ms_s) (JB (StR.mono hG3 h_s)) rfl (pmC (pmC (pmC (pmC pr9)))) ?_
  intro v29 G26 Ms28 hG26 q27
  refine match q27 with | ⟨e_31, eeq27⟩ => ?_
  subst e_31
  have eeq27 := eeq27.symm
  subst eeq27
  refine W.perm (pmC (pmC (pmC (pmC pr9)))).symm (W.nn (WD.tk 5 rfl (Zeq (L := [iV _, iV _, iV _, iV _, iV _]) (vs := ic9) Zib rfl rfl rfl) (WD.a1 1 rfl (g9 1 ?_))))
  refine W.nn (WD.a1 6 rfl (W.call (Mp := []) (Zgp (hr_hR7.mono hG26) (((⟨pk, pkey, phi, po, pv, pl⟩ : Opr).msg ((Za l 0).seen + 1))).stamp (((⟨pk, pkey, phi, po, pv, pl⟩ : Opr).msg ((Za l 0).seen + 1))).kind (((⟨pk, pkey, phi, po, pv, pl⟩ : Opr).msg ((Za l 0).seen + 1))).key (((⟨pk, pkey, phi, po, pv, pl⟩ : Opr).msg ((Za l 0).seen + 1))).hi (((⟨pk, pkey, phi, po, pv, pl⟩ : Opr).msg ((Za l 0).seen + 1))).opn (((⟨pk, pkey, phi, po, pv, pl⟩ : Opr).msg ((Za l 0).seen + 1))).val c.leaf hPr om9 (hR.fit _)) rfl pr9 ?_))
  intro _ G32 _ hG32 q34
  refine match q34 with | ⟨e_35, _, e_36, _, e_37, hv33⟩ => ?_
  subst e_35
  subst e_36
  subst e_37
  have q39 := hv33.form
  refine match q39 with | ⟨sa_hv33, sc_hv33, e_38⟩ => ?_
  subst e_38
  refine W.nn (d9 [7, 8, 9, 10, 11, 12] ?_)
  refine g9 9 ?_
  refine WC.cond rfl (fun h54 => ?_) (fun h54 => ?_)
  ·refine g9 9 ?_
   refine ⟨.inr rfl, [_, _], ⟨⟨_, _, _, _, _, rfl, YE (i := 2) rfl, Yn, (by simp), rfl, rfl⟩, rfl, trivial⟩, Ms_s, ((((List.sublist_append_left _ _).cons _).cons _).cons _).cons _, ?_⟩
   have hb9 : Yi (Za l 0).rows ((⟨pk, pkey, phi, po, pv, pl⟩ : Opr).msg ((Za l 0).seen + 1)) c.leaf = false := by rw [← Zdz]; simpa using h54
   have hE := Za5 (c := c) (o := (⟨pk, pkey, phi, po, pv, pl⟩ : Opr)) p30 hb9
   have hE2 : (Zv c l (⟨pk, pkey, phi, po, pv, pl⟩ : Opr)).2.1 = 4 := by rw [hE]
   rw [Zjv p30 om9, hE2]
   exact ⟨⟨_, rfl, _, _, _, _, _, _, _, _, rfl, (hp_hR7.mono lec), (hk_hR7.mono lec), (hm_hR7.mono lec), hv33, hok_hR7⟩, rfl⟩
  refine g9 18 ?_
  refine ⟨.inr rfl, [_, _], ⟨⟨_, _, _, _, _, rfl, YE (i := 2) rfl, Yn, (by simp), rfl, rfl⟩, rfl, trivial⟩, Ms_s, ((((List.sublist_append_left _ _).cons _).cons _).cons _).cons _, ?_⟩
  have hb9 : Yi (Za l 0).rows ((⟨pk, pkey, phi, po, pv, pl⟩ : Opr).msg ((Za l 0).seen + 1)) c.leaf = true := by rw [← Zdz]; simpa using h54
  have hE := ZbQ (c := c) (o := (⟨pk, pkey, phi, po, pv, pl⟩ : Opr)) p30 hb9
  have hE2 : (Zv c l (⟨pk, pkey, phi, po, pv, pl⟩ : Opr)).2.1 = 0 := by rw [hE]
  rw [ZfM p30 (by exact hE2), hE2]
  exact ⟨⟨_, rfl, _, _, _, _, _, _, _, _, rfl, (hp_hR7.mono lec), (hk_hR7.mono lec), (hm_hR7.mono lec), hv33, ⟨hok_hR7.1, hok_hR7.2.1, hok_hR7.2.2.1, hs2⟩⟩, rfl⟩
 try dsimp only at p30
 refine WC.dw (((sn9.k9.k9).cons _).k9) (d9 [0, 2, 3] ?_)
 refine WD.any [1, 4] (by kernel_rfl) rfl ⟨WD.ap ?_, WD.ap ?_, trivial⟩
 ·refine g9 1 ?_
  refine W.nn (WD.a1 4 rfl (W.call (Mp := Ms_s) (JB (StR.mono hG3 h_s)) rfl (pmC (pmC (pmC (pmC pr9)))) ?_))
  intro v43 G40 Ms42 hG40 q41
  refine match q41 with | ⟨e_45, eeq41⟩ => ?_
  subst e_45
  have eeq41 := eeq41.symm
  subst eeq41
  refine W.perm (pmC (pmC (pmC (pmC pr9)))).symm (W.nn (WD.tk 5 rfl (Zeq (L := [iV _, iV _, iV _, iV _, iV _]) (vs := ic9) Zic rfl rfl rfl) (WD.a1 6 rfl (W.call (Mp := []) (Zfy (hm_hR7.mono hG40) (((⟨pk, pkey, phi, po, pv, pl⟩ : Opr).msg ((Za l 0).seen + 1))).stamp (((⟨pk, pkey, phi, po, pv, pl⟩ : Opr).msg ((Za l 0).seen + 1))).kind (((⟨pk, pkey, phi, po, pv, pl⟩ : Opr).msg ((Za l 0).seen + 1))).key (((⟨pk, pkey, phi, po, pv, pl⟩ : Opr).msg ((Za l 0).seen + 1))).hi (((⟨pk, pkey, phi, po, pv, pl⟩ : Opr).msg ((Za l 0).seen + 1))).opn (((⟨pk, pkey, phi, po, pv, pl⟩ : Opr).msg ((Za l 0).seen + 1))).val c.bud hms9 hbn ⟨hmi1, hmi2⟩ hml) rfl pr9 ?_))))
  intro _ G46 _ hG46 q48
  refine match q48 with | ⟨e_49, _, e_50, _, e_51, hv47⟩ => ?_
  subst e_49
  subst e_50
  subst e_51
  have q53 := hv47.form
  refine match q53 with | ⟨sa_hv47, sc_hv47, e_52⟩ => ?_
  subst e_52
  refine W.nn (d9 [7, 8, 9, 10, 11, 12] ?_)
  refine g9 9 ?_
  refine WC.cond rfl (fun h54 => ?_) (fun h54 => ?_)
  ·refine g9 9 ?_
   refine ⟨.inr rfl, [_, _], ⟨⟨_, _, _, _, _, rfl, YE (i := 2) rfl, Yn, (by simp), rfl, rfl⟩, rfl, trivial⟩, Ms_s, ((((List.sublist_append_left _ _).cons _).cons _).cons _).cons _, ?_⟩
   have hb9 : Yg c.bud (Za l 0).msgs ((⟨pk, pkey, phi, po, pv, pl⟩ : Opr).msg ((Za l 0).seen + 1)) = false := by rw [← ZdC]; simpa using h54
   have hE := Za6 (c := c) (o := (⟨pk, pkey, phi, po, pv, pl⟩ : Opr)) p30 hb9
   have hE2 : (Zv c l (⟨pk, pkey, phi, po, pv, pl⟩ : Opr)).2.1 = 4 := by rw [hE]
   rw [Zjw p30 om9, hE2]
   exact ⟨⟨_, rfl, _, _, _, _, _, _, _, _, rfl, (hp_hR7.mono lec), (hk_hR7.mono lec), hv47, (hr_hR7.mono lec), hok_hR7⟩, rfl⟩
  refine g9 18 ?_
  refine ⟨.inr rfl, [_, _], ⟨⟨_, _, _, _, _, rfl, YE (i := 2) rfl, Yn, (by simp), rfl, rfl⟩, rfl, trivial⟩, Ms_s, ((((List.sublist_append_left _ _).cons _).cons _).cons _).cons _, ?_⟩
  have hb9 : Yg c.bud (Za l 0).msgs ((⟨pk, pkey, phi, po, pv, pl⟩ : Opr).msg ((Za l 0).seen + 1)) = true := by rw [← ZdC]; simpa using h54
  have hE := ZbR (c := c) (o := (⟨pk, pkey, phi, po, pv, pl⟩ : Opr)) p30 hb9
  have hE2 : (Zv c l (⟨pk, pkey, phi, po, pv, pl⟩ : Opr)).2.1 = 0 := by rw [hE]
  rw [ZfN p30 (by exact hE2), hE2]
  exact ⟨⟨_, rfl, _, _, _, _, _, _, _, _, rfl, (hp_hR7.mono lec), (hk_hR7.mono lec), hv47, (hr_hR7.mono lec), ⟨hok_hR7.1, hok_hR7.2.1, hok_hR7.2.2.1, hs2⟩⟩, rfl⟩
 refine W.call (Mp := Ms_s) (JB (StR.mono hG3 h_s)) rfl (pmC (pmC (pmC (pmC pr9)))) ?_
 intro v57 G54 Ms56 hG54 q55
 refine match q55 with | ⟨e_59, eeq55⟩ => ?_
 subst e_59
 have eeq55 := eeq55.symm
 subst eeq55
 refine W.perm (pmC (pmC (pmC (pmC pr9)))).symm (W.nn (WD.tk 5 rfl (Zeq (L := [iV _, iV _, iV _, iV _, iV _]) (vs := ic9) Zic rfl rfl rfl) (WD.a1 1 rfl (g9 1 ?_))))
 refine W.nn (WD.a1 6 rfl (W.call (Mp := []) (Zfy (hm_hR7.mono hG54) (((⟨pk, pkey, phi, po, pv, pl⟩ : Opr).msg ((Za l 0).seen + 1))).stamp (((⟨pk, pkey, phi, po, pv, pl⟩ : Opr).msg ((Za l 0).seen + 1))).kind (((⟨pk, pkey, phi, po, pv, pl⟩ : Opr).msg ((Za l 0).seen + 1))).key (((⟨pk, pkey, phi, po, pv, pl⟩ : Opr).msg ((Za l 0).seen + 1))).hi (((⟨pk, pkey, phi, po, pv, pl⟩ : Opr).msg ((Za l 0).seen + 1))).opn (((⟨pk, pkey, phi, po, pv, pl⟩ : Opr).msg ((Za l 0).seen + 1))).val c.bud hms9 hbn ⟨hmi1, hmi2⟩ hml) rfl pr9 ?_))
 intro _ G60 _ hG60 q62
 refine match q62 with | ⟨e_63, _, e_64, _, e_65, hv61⟩ => ?_
 subst e_63
 subst e_64
 subst e_65
 have q67 := hv61.form
 refine match q67 with | ⟨sa_hv61, sc_hv61, e_66⟩ => ?_
 subst e_66
 refine W.nn (d9 [7, 8, 9, 10, 11, 12] ?_)
 refine g9 9 ?_
 refine WC.cond rfl (fun h54 => ?_) (fun h54 => ?_)
 ·refine g9 9 ?_
  refine ⟨.inr rfl, [_, _], ⟨⟨_, _, _, _, _, rfl, YE (i := 2) rfl, Yn, (by simp), rfl, rfl⟩, rfl, trivial⟩, Ms_s, ((((List.sublist_append_left _ _).cons _).cons _).cons _).cons _, ?_⟩
  have hb9 : Yg c.bud (Za l 0).msgs ((⟨pk, pkey, phi, po, pv, pl⟩ : Opr).msg ((Za l 0).seen + 1)) = false := by rw [← ZdC]; simpa using h54
  have hE := Za6 (c := c) (o := (⟨pk, pkey, phi, po, pv, pl⟩ : Opr)) p30 hb9
  have hE2 : (Zv c l (⟨pk, pkey, phi, po, pv, pl⟩ : Opr)).2.1 = 4 := by rw [hE]
  rw [Zjw p30 om9, hE2]
  exact ⟨⟨_, rfl, _, _, _, _, _, _, _, _, rfl, (hp_hR7.mono lec), (hk_hR7.mono lec), hv61, (hr_hR7.mono lec), hok_hR7⟩, rfl⟩
 refine g9 18 ?_
 refine ⟨.inr rfl, [_, _], ⟨⟨_, _, _, _, _, rfl, YE (i := 2) rfl, Yn, (by simp), rfl, rfl⟩, rfl, trivial⟩, Ms_s, ((((List.sublist_append_left _ _).cons _).cons _).cons _).cons _, ?_⟩
 have hb9 : Yg c.bud (Za l 0).msgs ((⟨pk, pkey, phi, po, pv, pl⟩ : Opr).msg ((Za l 0).seen + 1)) = true := by rw [← ZdC]; simpa using h54
 have hE := ZbR (c := c) (o := (⟨pk, pkey, phi, po, pv, pl⟩ : Opr)) p30 hb9
 have hE2 : (Zv c l (⟨pk, pkey, phi, po, pv, pl⟩ : Opr)).2.1 = 0 := by rw [hE]
 rw [ZfN p30 (by exact hE2), hE2]
 exact ⟨⟨_, rfl, _, _, _, _, _, _, _, _, rfl, (hp_hR7.mono lec), (hk_hR7.mono lec), hv61, (hr_hR7.mono lec), ⟨hok_hR7.1, hok_hR7.2.1, hok_hR7.2.2.1, hs2⟩⟩, rfl⟩

theorem ZqA {G : GH} {b_s : Nat} {c c2 : Cfg} {l : List Nd} {ss : List Seat} {Ms_s : MH} (h_s : StR 60 4 3 189 139 b_s c G l Ms_s) (t : Tree c2 l ss) (pk : Int) (pkey : Str) (phi : Str) (po : Bool) (pv : Str) (pl : Int) (hc9 : c = c2) (hR : Opr.R (⟨pk, pkey, phi, po, pv, pl⟩ : Opr)) (hk4 : pk ≤ 4) (hsn : 0 ≤ (Za l 0).seen ∧ (Za l 0).seen ≤ 1000000000000) :
    Fc Tryz.prog 104 [pt9 b_s, .agg #[iV pk, sV pkey.b, sV phi.b, .bool po, sV pv.b, iV pl]] G Ms_s (fun v G' M' => v = .tuple #[iV (Zv c l (⟨pk, pkey, phi, po, pv, pl⟩ : Opr)).1, iV (Zv c l (⟨pk, pkey, phi, po, pv, pl⟩ : Opr)).2.1] ∧ StR 60 4 3 189 139 b_s c G' (Zv c l (⟨pk, pkey, phi, po, pv, pl⟩ : Opr)).2.2 M') := by
 subst hc9
 have hc9 : c = c := rfl
 have hp9 := t.pos
 have hsl0 := (YN t.slot (i := 0) ⟨Int.le_refl _, om9⟩).1
 refine Fc.go [.tmp 4, .tmp 5] Tryz.func104 Tryz.ntmps104 rfl (fun w0 => (WC.perm (M' := (Ms_s ++ [])) (by simp) (g9 2 ?_)))
 refine W.box (L := [iV _, sV _, sV _, .bool _, sV _, iV _]) rfl rfl (fun b68 => (g9 8 ?_))
 refine W.call (Mp := Ms_s) (Zqz h_s t pk pkey phi po pv pl hc9 hR hk4 hsn) rfl (pmC pr9) ?_
 intro v72 G69 Ms71 hG69 q70
 refine match q70 with | ⟨⟨_, e_74, ⟨_, _, _, _, _, _, _, _, e_75, hp_hR73, hk_hR73, hm_hR73, hr_hR73, hok_hR73⟩⟩, eeq70⟩ => ?_
 subst e_74
 subst e_75
 have eeq70 := eeq70.symm
 subst eeq70
 refine W.perm (pmC pr9).symm (g9 3 ?_)
 refine W.alloc Zo (fun b76 => (g9 11 ?_))
 refine WC.cn (fun h15 p15 => ?_) (fun h15 p15 => ?_)
 ·try dsimp only at p15
  refine g9 9 ?_
  refine ⟨.inr rfl, [_, _], ⟨rfl, rfl, trivial⟩, Ms_s, ((List.sublist_append_left _ _).cons _).cons _, ?_⟩
  have hE := ZfE (c := c) (l := l) (o := (⟨pk, pkey, phi, po, pv, pl⟩ : Opr)) p15
  exact ⟨congrArg (fun q : Int => Value.tuple #[iV q, iV (Zv c l (⟨pk, pkey, phi, po, pv, pl⟩ : Opr)).2.1]) (show (0 : Int) = (Zv c l (⟨pk, pkey, phi, po, pv, pl⟩ : Opr)).1 by rw [hE]), StR.to (StR.mono hG69 h_s) (by rw [hE])⟩
 try dsimp only at p15
 refine g9 3 ?_
 refine WC.dw (sn9.k9.k9) (d9 [0, 1, 2, 3] ?_)
 refine WD.a1 4 rfl (W.call (Mp := Ms_s) (Yy (StR.mono hG69 h_s) (by rw [Zjx, hsl0]; omega) (nk9 hp_hR73 hk_hR73 hm_hR73 hr_hR73 hok_hR73)) rfl (pmC (pmC pr9)) ?_)
 intro v80 G77 Ms79 hG77 q78
 refine match q78 with | ⟨e_82, hR81⟩ => ?_
 subst e_82
 refine W.perm (pmC (pmC pr9)).symm (W.nn (d9 [5, 6] ?_))
 refine g9 3 ?_
 refine ⟨.inr rfl, [_, _], ⟨rfl, rfl, trivial⟩, Ms79, ((List.sublist_append_left _ _).cons _).cons _, ?_⟩
 have hE : (Zv c l (⟨pk, pkey, phi, po, pv, pl⟩ : Opr)).2.1 = 0 := by omega
 exact ⟨(congrArg (fun q : Int => Value.tuple #[iV q, iV 0]) (Zqr hE)).trans (congrArg (fun q : Int => Value.tuple #[iV (Zv c l (⟨pk, pkey, phi, po, pv, pl⟩ : Opr)).1, iV q]) hE.symm), StR.to hR81 (Zqs t hE)⟩

end Go.Proofs.YtbbemibbmbmamaaGreat
