/- What lifting a root, and parting a kid, do to a store's nodes. Plain Lean; nothing of the program is named here. No condition. -/
import Derived.Test.YtbbemibbmbmamaaGreatQgUb
set_option linter.unusedVariables false
set_option linter.unusedSimpArgs false
set_option linter.unnecessarySimpa false
set_option maxRecDepth 100000
set_option maxHeartbeats 1600000

namespace Go.Fw
open Go Go.RowKit
theorem Zak (n : Nd) (i : Int) : (Zp n i).2.2.2 = (Yn n).2.2.2 := by
 cases h : (Yn n).2.2.2
 ·rw [Zbx h]
 ·rw [JK h]
theorem Zdv (n : Nd) (x y x' y' : Int) : (Z5 n x y).2.2.2 = (Z5 n x' y').2.2.2 := by rw [Zaq, Zaq, Zak, Zak]
def tk (l : List Nd) (x : Nd) : List Nd := l ++ [{ x with slot := l.length }]
theorem ZaK (l : List Nd) (x : Nd) : (tk l x).length = l.length + 1 := by simp [tk]
theorem ZiO {n : Nat} {l : List Nd} {x : Nd} (h : l.length < n) : JO n l x = (((l.length : Int), 0), tk l x) := ZeX h
def ZS (c : Cfg) (l : List Nd) : Int × List Nd :=
 if (Z5 (Za l 0) l.length ((l.length : Int) + 1)).2.2.2 = false then (6, l)
 else if c.slots.toNat - l.length < 2 then (4, l)
 else (0, YU l (Z5 (Za l 0) l.length ((l.length : Int) + 1)).1 (Z5 (Za l 0) l.length ((l.length : Int) + 1)).2.1 (Z5 (Za l 0) l.length ((l.length : Int) + 1)).2.2.1)
theorem Zdw {c : Cfg} {l : List Nd} {x y : Int} (h : (Z5 (Za l 0) x y).2.2.2 = false) : ZS c l = (6, l) := if_pos (by rw [Zdv _ _ _ x y]; exact h)
theorem Za9 {c : Cfg} {l : List Nd} {x y : Int} (h : (Z5 (Za l 0) x y).2.2.2 = true) (hr : c.slots.toNat - l.length < 2) : ZS c l = (4, l) := by
 unfold ZS; rw [if_neg (by rw [Zdv _ _ _ x y, h]; simp), if_pos hr]
theorem ZbO {c : Cfg} {l : List Nd} {x y : Int} (h : (Z5 (Za l 0) x y).2.2.2 = true) (hr : ¬ c.slots.toNat - l.length < 2) :
  ZS c l = (0, YU l (Z5 (Za l 0) l.length ((l.length : Int) + 1)).1 (Z5 (Za l 0) l.length ((l.length : Int) + 1)).2.1 (Z5 (Za l 0) l.length ((l.length : Int) + 1)).2.2.1) := by
 unfold ZS; rw [if_neg (by rw [Zdv _ _ _ x y, h]; simp), if_neg hr]
theorem Zpt {n : Nd} {x y : Int} (h : (Z5 n x y).2.2.2 = true) (hk : (Zp n y).2.1.slot = y) : (Z5 n x y).1.slot = n.slot ∧ (Z5 n x y).2.1.slot = x ∧ (Z5 n x y).2.2.1.slot = y := by
 rw [Zaq] at h
 rw [Zbb h]
 exact ⟨rfl, rfl, hk⟩
theorem Zpu {n : Nd} {y : Int} (h : (Zp n y).2.2.2 = true) : (Zp n y).2.1.slot = y := by
 rw [Zak] at h
 rw [JK h]
theorem Zpv {n : Nd} {x y x' y' : Int} (h : (Z5 n x' y').2.2.2 = true) : (Z5 n x y).1.slot = n.slot ∧ (Z5 n x y).2.1.slot = x ∧ (Z5 n x y).2.2.1.slot = y := by
 have h2 : (Z5 n x y).2.2.2 = true := by rw [Zdv n x y x' y']; exact h
 exact Zpt h2 (Zpu (by rw [← Zaq n x y]; exact h2))
theorem ZiP {l : List Nd} {A B : List Nd} {x y : Nd} (h : l = A ++ x :: B) (hy : y.slot.toNat = A.length) : l.set y.slot.toNat y = A ++ y :: B := by
 rw [h, hy, List.set_append_right _ _ (Nat.le_refl _), Nat.sub_self]; rfl
theorem Zpw {l : List Nd} {n r a b : Nd} (hr : r.slot = 0) (ha : a.slot = l.length) (hb : b.slot = (l.length : Int) + 1) (hp : 0 < l.length) : (((tk (tk l n) n).set r.slot.toNat r).set a.slot.toNat a).set b.slot.toNat b = YU l r a b := by
 have e1 : (tk (tk l n) n).set r.slot.toNat r = l.set 0 r ++ [{ n with slot := l.length }, { n with slot := (tk l n).length }] := by
  unfold tk
  rw [hr, List.append_assoc]
  show List.set _ 0 r = _
  rw [List.set_append_left _ _ hp]; rfl
 have l0 : (l.set 0 r).length = l.length := List.length_set
 rw [e1, ZiP (A := l.set 0 r) (B := [{ n with slot := (tk l n).length }]) (x := { n with slot := l.length }) rfl (by rw [l0]; omega)]
 rw [ZiP (A := l.set 0 r ++ [a]) (B := []) (x := { n with slot := (tk l n).length }) (by simp) (by rw [List.length_append, l0]; simp; omega)]
 unfold YU
 simp
theorem Tree.sound {c : Cfg} {l : List Nd} {ss : List Seat} (t : Tree c l ss) : Zb9 c l = true := by rw [Zay t.sts]; exact decide_eq_true t.q
theorem ZiQ {c : Cfg} {l : List Nd} {ss : List Seat} (t : Tree c l ss) : ∃ T, Tree c (ZS c l).2 T ∧ Zh (ZS c l).2 = Zh l := by
 have hr : (Zl l 0).n = Za l 0 := t.rootn
 by_cases h1 : (Z5 (Za l 0) l.length ((l.length : Int) + 1)).2.2.2 = true
 ·by_cases h2 : c.slots.toNat - l.length < 2
  ·rw [Za9 h1 h2]; exact ⟨ss, t, rfl⟩
  ·rw [ZbO h1 h2]
   have hsl := t.cfg.2.2.2.1.2
   have := Zre t om9 om9 (by rw [hr]; exact h1)
   rw [hr] at this
   exact this
 ·rw [Zdw (by simpa using h1)]; exact ⟨ss, t, rfl⟩
theorem Zfp (n : Nd) (i j : Int) : (Zp n i).2.2.1 = (Zp n j).2.2.1 := by
 cases h : (Yn n).2.2.2
 ·rw [Zbx h, Zbx h]
 ·rw [JK h, JK h]
theorem ZiR (n : Nd) (i j : Int) : (Zp n i).2.2.2 = (Zp n j).2.2.2 := by rw [Zak, Zak]
theorem Zpx (p : List Str) (c : List Int) (i : Nat) (k : Str) (v w : Int) : (XT p c i k v).2.length = (XT p c i k w).2.length := by
 unfold XT
 split
 ·rfl
 ·simp
theorem ZiS (n : Nd) (i : Nat) (k : Str) (v w : Int) : (Xi n i k v).2 = (Xi n i k w).2 := by
 unfold Xi
 rw [Zpx _ _ _ _ v w]
 split <;> rfl
def kdN (l : List Nd) (p : Int) (i : Nat) : Int := (Za l p).kids.getD i 0
def Ys (l : List Nd) (p : Int) (i : Nat) : Nd × Nd × Str × Bool := Zp (Za l (kdN l p i)) l.length
def adP (l : List Nd) (p : Int) (i : Nat) : Nd × Bool := Xi (Za l p) i (Ys l p i).2.2.1 l.length
def J6 (l : List Nd) (p : Int) (i : Nat) : List Nd := ((l.set (Ys l p i).1.slot.toNat (Ys l p i).1).set p.toNat (adP l p i).1) ++ [(Ys l p i).2.1]
def XD (c : Cfg) (l : List Nd) (p : Int) (i : Nat) : Int × List Nd :=
 if ¬ (0 ≤ p ∧ p < l.length) ∨ (Za l p).kids.length ≤ i ∨ ¬ (0 ≤ kdN l p i ∧ kdN l p i < l.length) then (8, l)
 else if ZN c (Za l p) = true then (9, l)
 else if (Ys l p i).2.2.2 = false ∨ (adP l p i).2 = false then (6, l)
 else if ¬ (l.length : Int) < c.slots then (4, l)
 else (0, J6 l p i)
def ZQ (c : Cfg) (l : List Nd) (p i : Int) : Int × List Nd := if i < 0 then (8, l) else XD c l p i.toNat
theorem Zal {c : Cfg} {l : List Nd} {p : Int} {i : Nat} (h : ¬ (0 ≤ p ∧ p < l.length) ∨ (Za l p).kids.length ≤ i ∨ ¬ (0 ≤ kdN l p i ∧ kdN l p i < l.length)) : XD c l p i = (8, l) := if_pos h
theorem Zfq {c : Cfg} {l : List Nd} {p : Int} {i : Nat} (h1 : 0 ≤ p ∧ p < l.length) (h2 : ¬ (Za l p).kids.length ≤ i) (h3 : 0 ≤ kdN l p i ∧ kdN l p i < l.length) (h : ZN c (Za l p) = true) : XD c l p i = (9, l) := by
 unfold XD; rw [if_neg (by rintro (h | h | h); exact h h1; exact h2 h; exact h h3), if_pos h]
theorem ZbP {c : Cfg} {l : List Nd} {p : Int} {i : Nat} (h1 : 0 ≤ p ∧ p < l.length) (h2 : ¬ (Za l p).kids.length ≤ i) (h3 : 0 ≤ kdN l p i ∧ kdN l p i < l.length) (h4 : ZN c (Za l p) = false) (h : (Ys l p i).2.2.2 = false ∨ (adP l p i).2 = false) : XD c l p i = (6, l) := by
 unfold XD; rw [if_neg (by rintro (h | h | h); exact h h1; exact h2 h; exact h h3), if_neg (by rw [h4]; simp), if_pos h]
theorem Zdx {c : Cfg} {l : List Nd} {p : Int} {i : Nat} (h1 : 0 ≤ p ∧ p < l.length) (h2 : ¬ (Za l p).kids.length ≤ i) (h3 : 0 ≤ kdN l p i ∧ kdN l p i < l.length) (h4 : ZN c (Za l p) = false) (h5 : (Ys l p i).2.2.2 = true) (h6 : (adP l p i).2 = true) (h : ¬ (l.length : Int) < c.slots) : XD c l p i = (4, l) := by
 unfold XD; rw [if_neg (by rintro (h | h | h); exact h h1; exact h2 h; exact h h3), if_neg (by rw [h4]; simp), if_neg (by rw [h5, h6]; simp), if_pos h]
theorem Zdy {c : Cfg} {l : List Nd} {p : Int} {i : Nat} (h1 : 0 ≤ p ∧ p < l.length) (h2 : ¬ (Za l p).kids.length ≤ i) (h3 : 0 ≤ kdN l p i ∧ kdN l p i < l.length) (h4 : ZN c (Za l p) = false) (h5 : (Ys l p i).2.2.2 = true) (h6 : (adP l p i).2 = true) (h : (l.length : Int) < c.slots) : XD c l p i = (0, J6 l p i) := by
 unfold XD; rw [if_neg (by rintro (h | h | h); exact h h1; exact h2 h; exact h h3), if_neg (by rw [h4]; simp), if_neg (by rw [h5, h6]; simp), if_neg (by simpa using h)]
theorem ZiT {l : List Nd} {p : Int} {i : Nat} (h : (Ys l p i).2.2.2 = true) : (Ys l p i).1.slot = (Za l (kdN l p i)).slot ∧ (Ys l p i).2.1.slot = l.length := by
 have hh : (Yn (Za l (kdN l p i))).2.2.2 = true := by rw [← Zak _ (l.length : Int)]; exact h
 unfold Ys
 rw [JK hh]
 refine ⟨?_, rfl⟩
 show (Yn (Za l (kdN l p i))).1.slot = _
 by_cases h0 : (Za l (kdN l p i)).level = 0
 ·rw [ZaU h0]
 ·cases h2 : Yt (Za l (kdN l p i)).pivots (Za l (kdN l p i)).kids.length
  ·rw [Zcl h0 h2]
  ·rw [ZaV h0 h2]
theorem ZiU {l : List Nd} {p : Int} {i : Nat} (h : (adP l p i).2 = true) : (adP l p i).1.slot = (Za l p).slot := by
 unfold adP Xi at *
 split
 ·rename_i h2; rw [if_pos h2] at h; cases h
 ·rfl
theorem Zpy {l : List Nd} {n a b r : Nd} {p : Int} (ha : 0 ≤ a.slot ∧ a.slot < l.length) (hb : b.slot = l.length) (hr : r.slot = p) (hp : 0 ≤ p ∧ p < l.length) :
  (((tk l n).set a.slot.toNat a).set b.slot.toNat b).set r.slot.toNat r = ((l.set a.slot.toNat a).set p.toNat r) ++ [b] := by
 unfold tk
 rw [List.set_append_left _ _ om9, hb, hr]
 have l1 : (l.set a.slot.toNat a).length = l.length := List.length_set
 rw [show ((l.length : Int)).toNat = (l.set a.slot.toNat a).length by rw [l1]; omega, List.set_append_right _ _ (Nat.le_refl _), Nat.sub_self, List.set_append_left _ _ om9]
 rfl
theorem Zpz {c : Cfg} {l : List Nd} {ss : List Seat} (t : Tree c l ss) (p i : Int) : ∃ T, Tree c (ZQ c l p i).2 T ∧ Zh (ZQ c l p i).2 = Zh l := by
 unfold ZQ
 split
 ·exact ⟨ss, t, rfl⟩
 ·generalize i.toNat = j
  by_cases h1 : 0 ≤ p ∧ p < l.length
  ·by_cases h2 : (Za l p).kids.length ≤ j
   ·rw [Zal (.inr (.inl h2))]; exact ⟨ss, t, rfl⟩
   ·by_cases h3 : 0 ≤ kdN l p j ∧ kdN l p j < l.length
    ·cases h4 : ZN c (Za l p)
     ·by_cases h5 : (Ys l p j).2.2.2 = true
      ·by_cases h6 : (adP l p j).2 = true
       ·by_cases h7 : (l.length : Int) < c.slots
        ·rw [Zdy h1 h2 h3 h4 h5 h6 h7]
         obtain ⟨g1, g2⟩ := YQ t.slot h1
         obtain ⟨P, hP, eP⟩ := List.mem_map.1 ((t.perm.mem_iff).2 g2)
         have hj : j < P.n.kids.length := by rw [eP]; omega
         have h0 : ¬ P.n.level = 0 := fun h0 => by have := (t.leaf hP h0).1; omega
         have hat := t.at hP h0 hj
         have ek : (Zb l P j).n = Za l (kdN l p j) := by
          rw [hat.2.2.1]
          unfold kdN
          rw [← eP, List.getD_eq_getElem?_getD, List.getElem?_eq_getElem hj]; rfl
         have hfull : (P.n.kids.length : Int) < c.fan := by
          unfold ZN at h4
          rw [if_neg (by rw [← eP]; exact h0), decide_eq_false_iff_not] at h4
          rw [eP]; omega
         unfold adP Ys at h6
         unfold Ys at h5
         rw [← ek] at h5 h6
         rw [← eP] at h6
         have hsl := t.cfg.2.2.2.1.2
         have key := Zrb t hP h0 hj hfull h7 om9 h5 h6
         obtain ⟨e9, h, q⟩ := key
         have el : J6 l p j = ZT l P.n j (Zp (Zb l P j).n l.length).1 (Zp (Zb l P j).n l.length).2.1 (Zp (Zb l P j).n l.length).2.2.1 := by
          unfold J6 adP Ys ZT
          rw [← ek, ← eP, e9]
          have : P.n.slot = p := by rw [eP]; exact g1
          rw [this]
         rw [el]
         exact ⟨_, q.tree, q.map⟩
        ·rw [Zdx h1 h2 h3 h4 h5 h6 h7]; exact ⟨ss, t, rfl⟩
       ·rw [ZbP h1 h2 h3 h4 (.inr (by simpa using h6))]; exact ⟨ss, t, rfl⟩
      ·rw [ZbP h1 h2 h3 h4 (.inl (by simpa using h5))]; exact ⟨ss, t, rfl⟩
     ·rw [Zfq h1 h2 h3 h4]; exact ⟨ss, t, rfl⟩
    ·rw [Zal (.inr (.inr h3))]; exact ⟨ss, t, rfl⟩
  ·rw [Zal (.inl h1)]; exact ⟨ss, t, rfl⟩
theorem OwnR.cast {α : Type} {e : Enc α} {T : TypeId} {G : GH} {v : Value} {l l' : List α} {Ms : MH} (h : OwnR e T G v l Ms) (h2 : l = l') : OwnR e T G v l' Ms := h2 ▸ h
def wOf (P : List Str) (F : List Msg) (i : Nat) : Int := Zx (F.filter fun m => decide (Zf P m.key = i))
def YT (w : Nat → Int) : Nat → Nat
 | 0 => 0
 | k + 1 => if w (YT w k) < w k then k else YT w k
theorem ZpA {w : Nat → Int} {k : Nat} (h : w (YT w k) < w k) : YT w (k + 1) = k := if_pos h
theorem ZpB {w : Nat → Int} {k : Nat} (h : ¬ w (YT w k) < w k) : YT w (k + 1) = YT w k := if_neg h
theorem Zfr (w : Nat → Int) : ∀ k, YT w k < k ∨ (k = 0 ∧ YT w k = 0)
 | 0 => .inr ⟨rfl, rfl⟩
 | k + 1 => by
  left
  unfold YT
  split
  ·omega
  ·rcases Zfr w k with h | h <;> omega
theorem Zfs (w : Nat → Int) : ∀ k j, j < k → w j ≤ w (YT w k)
 | 0, j, h => absurd h (Nat.not_lt_zero j)
 | k + 1, j, h => by
  unfold YT
  split
  ·rename_i h2
   by_cases e : j = k
   ·rw [e]; exact Int.le_refl _
   ·have := Zfs w k j om9; omega
  ·rename_i h2
   by_cases e : j = k
   ·rw [e]; omega
   ·exact Zfs w k j om9
def Xu (P : List Str) (l : List Msg) : Int × Bool := if l.length = 0 then (0, false) else (((YT (wOf P (Zj l)) (P.length + 1) : Nat) : Int), true)
theorem Zft (P : List Str) (F : List Msg) (i : Nat) : 0 ≤ wOf P F i := by
  unfold wOf
  generalize F.filter _ = L
  induction L with
  | nil => exact Int.le_refl 0
  | cons m L ih => have := ZiK m; have e : Zx (m :: L) = m.size + Zx L := by simp [Zx]
                   rw [e]; omega
theorem ZpC (P : List Str) (F : List Msg) (i : Nat) (h : ∀ m ∈ F, m.key.b.size ≤ 16 ∧ m.val.b.size ≤ 16) : wOf P F i ≤ 36 * F.length := by
 have h1 := ZdE (l := F.filter fun m => decide (Zf P m.key = i)) fun m hm => h m (List.mem_filter.1 hm).1
 have h2 := List.length_filter_le (fun m : Msg => decide (Zf P m.key = i)) F
 have := h1.2
 unfold wOf
 omega
theorem ZiV {P : List Str} {F : List Msg} {q i : Nat} (hq : q < F.length) (h : Zf P F[q].key = i) : wOf P (F.take (q + 1)) i = wOf P (F.take q) i + F[q].size := by
 unfold wOf
 rw [J2 (p := fun m : Msg => decide (Zf P m.key = i)) hq (by simp [h]), Zdr]
 simp [Zx]
theorem ZpD {P : List Str} {F : List Msg} {q i : Nat} (hq : q < F.length) (h : ¬ Zf P F[q].key = i) : wOf P (F.take (q + 1)) i = wOf P (F.take q) i := by
 unfold wOf
 rw [JL (p := fun m : Msg => decide (Zf P m.key = i)) hq (by simp [h])]
theorem ZpE {l : List Msg} (h : 0 < l.length) : 0 < (Zj l).length := by
 unfold Zj
 have h1 := Zf6 isW l
 split
 ·exact h
 ·split
  ·rw [List.length_take]; omega
  ·rw [List.length_take]; omega
theorem ZpF {P : List Str} {l : List Msg} (h : 0 < l.length) : 0 < wOf P (Zj l) (YT (wOf P (Zj l)) (P.length + 1)) := by
 have h0 := ZpE h
 have hr : Zf P ((Zj l)[0]).key ≤ P.length := List.length_filter_le _ _
 have hm := Zfs (wOf P (Zj l)) (P.length + 1) (Zf P ((Zj l)[0]).key) om9
 have : 0 < wOf P (Zj l) (Zf P ((Zj l)[0]).key) := by
  have e : (Zj l).take 1 ++ (Zj l).drop 1 = Zj l := List.take_append_drop _ _
  have h1 := ZiV (P := P) (F := Zj l) (q := 0) h0 rfl
  have h2 : 0 < ((Zj l)[0]).size := by unfold Msg.size; split <;> omega
  have h3 : wOf P (Zj l) (Zf P ((Zj l)[0]).key) = wOf P ((Zj l).take 1) (Zf P ((Zj l)[0]).key) + wOf P ((Zj l).drop 1) (Zf P ((Zj l)[0]).key) := by
   generalize Zf P ((Zj l)[0]).key = z
   conv => lhs; rw [← e]
   unfold wOf
   rw [List.filter_append, Zdr]
  have h4 := Zft P ((Zj l).take 0) (Zf P ((Zj l)[0]).key)
  have h5 := Zft P ((Zj l).drop 1) (Zf P ((Zj l)[0]).key)
  rw [h3]
  rw [show (0 + 1 : Nat) = 1 from rfl] at h1
  omega
 omega
theorem ZpG {P : List Str} {l : List Msg} (h : ¬ 0 < l.length) : Xu P l = (0, false) := by unfold Xu; rw [if_pos om9]
theorem Zfu {P : List Str} {l : List Msg} (h : 0 < l.length) : Xu P l = (((YT (wOf P (Zj l)) (P.length + 1) : Nat) : Int), true) := by unfold Xu; rw [if_neg om9]
theorem ZpH {P : List Str} {l : List Msg} : 0 ≤ (Xu P l).1 ∧ (Xu P l).1 ≤ P.length := by
 unfold Xu
 split
 ·exact ⟨Int.le_refl 0, om9⟩
 ·rcases Zfr (wOf P (Zj l)) (P.length + 1) with h | h
  ·dsimp only; omega
  ·omega
def wts (P : List Str) (F : List Msg) : List Int := (List.range (P.length + 1)).map (wOf P F)
theorem ZcE (P : List Str) (F : List Msg) : (wts P F).length = P.length + 1 := by simp [wts]
theorem Zam {P : List Str} {F : List Msg} {i : Nat} (h : i < (wts P F).length) : (wts P F)[i] = wOf P F i := by simp [wts]
theorem ZpI (P : List Str) : List.replicate (P.length + 1) (0 : Int) = wts P [] := by
 refine List.ext_getElem (by simp [wts]) fun i h1 h2 => ?_
 rw [Zam h2]
 simp [wOf, Zx]
theorem ZiW {P : List Str} {F : List Msg} {q : Nat} (hq : q < F.length) (h : Zf P F[q].key < (wts P (F.take q)).length) : (wts P (F.take q)).set (Zf P F[q].key) ((wts P (F.take q))[Zf P F[q].key] + F[q].size) = wts P (F.take (q + 1)) := by
 refine List.ext_getElem (by rw [List.length_set, ZcE, ZcE]) fun i h1 h2 => ?_
 rw [Zam h2, List.getElem_set]
 rw [List.length_set] at h1
 split
 ·rename_i e
  subst e
  rw [Zam h1, ZiV hq rfl]
 ·rename_i e
  rw [Zam h1, ZpD hq e]
def ZD (c : Cfg) (n : Nd) (k : Str) : Int × Int :=
 if n.level = 0 then (0, 0) else if n.slot = 0 ∧ ZN c n = true then (1, 0) else (2, if (Xu n.pivots n.msgs).2 = true then (Xu n.pivots n.msgs).1 else ((Zf n.pivots k : Nat) : Int))
noncomputable def Z9 (c : Cfg) (p k : Nd) (i : Int) : Int :=
 if 0 < k.level ∧ ZN c k = true then (if ZN c p = true then 0 else 3) else if 0 < ZY c.leaf c.bud p k i then 4 else if 0 < k.level then 5 else if 0 < (Zd p.pivots p.msgs i).length then (if ZN c p = true then 0 else 3) else 0
theorem ZpJ (leaf bud : Int) (p k : Nd) (i : Int) : (Z8 leaf bud p k i).2.2 = ZY leaf bud p k i := by
 unfold Z8
 split
 ·rename_i h; rw [h]
 ·rfl
theorem ZiX {c : Cfg} {n : Nd} {k : Str} (h : n.level = 0) : ZD c n k = (0, 0) := if_pos h
theorem ZiY {c : Cfg} {n : Nd} {k : Str} (h : ¬ n.level = 0) (h2 : n.slot = 0) (h3 : ZN c n = true) : ZD c n k = (1, 0) := by unfold ZD; rw [if_neg h, if_pos ⟨h2, h3⟩]
theorem Zfv {c : Cfg} {n : Nd} {k : Str} (h : ¬ n.level = 0) (h2 : ¬ (n.slot = 0 ∧ ZN c n = true)) (h3 : (Xu n.pivots n.msgs).2 = true) : ZD c n k = (2, (Xu n.pivots n.msgs).1) := by unfold ZD; rw [if_neg h, if_neg h2, if_pos h3]
theorem ZiZ {c : Cfg} {n : Nd} {k : Str} (h : ¬ n.level = 0) (h2 : ¬ (n.slot = 0 ∧ ZN c n = true)) (h3 : (Xu n.pivots n.msgs).2 = false) : ZD c n k = (2, ((Zf n.pivots k : Nat) : Int)) := by unfold ZD; rw [if_neg h, if_neg h2, if_neg (by simp [h3])]
section
variable {c : Cfg} {p k : Nd} {i : Int}
theorem Zi0 (h : 0 < k.level) (h2 : ZN c k = true) : Z9 c p k i = if ZN c p = true then 0 else 3 := if_pos ⟨h, h2⟩
theorem Zdz (h : ¬ (0 < k.level ∧ ZN c k = true)) (hc : 0 < ZY c.leaf c.bud p k i) : Z9 c p k i = 4 := by unfold Z9; rw [if_neg h, if_pos hc]
theorem ZdA (h : ¬ (0 < k.level ∧ ZN c k = true)) (hc : ¬ 0 < ZY c.leaf c.bud p k i) (h0 : 0 < k.level) : Z9 c p k i = 5 := by unfold Z9; rw [if_neg h, if_neg hc, if_pos h0]
theorem ZdB (hc : ¬ 0 < ZY c.leaf c.bud p k i) (h0 : ¬ 0 < k.level) (hw : 0 < (Zd p.pivots p.msgs i).length) : Z9 c p k i = if ZN c p = true then 0 else 3 := by unfold Z9; rw [if_neg (fun h => h0 h.1), if_neg hc, if_neg h0, if_pos hw]
theorem ZdC (hc : ¬ 0 < ZY c.leaf c.bud p k i) (h0 : ¬ 0 < k.level) (hw : ¬ 0 < (Zd p.pivots p.msgs i).length) : Z9 c p k i = 0 := by unfold Z9; rw [if_neg (fun h => h0 h.1), if_neg hc, if_neg h0, if_neg hw]
end
def ChoosePre (n : Nd) : Prop := ¬ n.level = 0 → Z1 n.pivots = true ∧ (∀ m ∈ n.msgs, m.key.b.size ≤ 16 ∧ m.val.b.size ≤ 16) ∧ n.msgs.length ≤ 100000 ∧ n.pivots.length ≤ 100000
theorem ZpK {c : Cfg} {n : Nd} (h : n.R c.fan c.leaf c.bud) (s : NdS n) : ChoosePre n := fun h0 => by
 have h4 := h.2.2.2
 rw [if_neg h0] at h4
 obtain ⟨_, s2, s3, _⟩ := s
 exact ⟨(Y3 h4.2.1).1, fun m hm => YW (ZfL h m hm), om9, om9⟩
end Go.Fw
namespace Go.Proofs.YtbbemibbmbmamaaGreat
open Go Go.Fw Go.RowKit
attribute [local irreducible] Ok W WC
theorem Zi1 {G : GH} {v_P : Value} {P : List Str} (h_P : SlR Z6 G v_P P) {v_l : Value} {l : List Msg} (h_l : SlR Zo G v_l l) (hs : ∀ m ∈ l, m.key.b.size ≤ 16 ∧ m.val.b.size ≤ 16) (hl9 : l.length ≤ 100000 ∧ P.length ≤ 100000) (hr : Z1 P = true) :
    Fc Tryz.prog 191 [v_P, v_l] G [] (fun v _ _ => v = .tuple #[iV ((Xu P l).1), .bool ((Xu P l).2)]) := by
 obtain ⟨sa_P, sc_P, rfl⟩ := h_P.form
 obtain ⟨sa_l, sc_l, rfl⟩ := h_l.form
 have hl := h_l.len47
 have hlP := h_P.len47
 have hfl := Zfx l
 have hfs : ∀ m ∈ Zj l, m.key.b.size ≤ 16 ∧ m.val.b.size ≤ 16 := fun m h => hs m (ZdD h)
 refine Fc.go [.tmp 4, .tmp 5] Tryz.func191 Tryz.ntmps191 rfl (fun w0 => (g9 14 ?_))
 refine WC.cd (fun h14 p14 => ?_) (fun h14 p14 => ?_)
 ·refine g9 9 ?_
  show Value.tuple #[Value.int _ _, Value.bool _] = _
  rw [ZpG om9]
 refine g9 6 ?_
 refine W.ok (Ok.int (n := ((P.length + 1 : Nat) : Int)) (YR rfl rfl om9) om9) (W.mkSl (e := ZB) (a0 := (0 : Int)) (n := P.length + 1) ZV ty3 zr3 rfl by3 (⟨rfl, by decide, by decide⟩) rfl rfl (by first | (show _ * 8 ≤ 140737488355328; omega) | (show _ * 8 ≤ 16777216; omega) | (show _ * 1 ≤ 16777216; omega)) (by first | (show _ * 8 ≤ 140737488355328; omega) | (show _ * 8 ≤ 16777216; omega) | (show _ * 1 ≤ 16777216; omega)) (fun v1 Ms2 ho3 => ?_))
 have q7 := ho3.form
 refine match q7 with | ⟨sa4, sc5, e_6⟩ => ?_
 subst e_6
 refine g9 7 ?_
 refine W.cS (Zjh h_l) rfl (fun sa_hv9 sc_hv9 G8 hG8 hv9 => (g9 5 ?_))
 refine WC.loop (X := (Nat) × Value × MH) (fun q => [(22, nt9 q.1), (0, lV sa_P P.length sc_P), (20, lV sa_hv9 ((Zj l)).length sc_hv9), (21, nt9 (((Zj l)).length)), (6, q.2.1)]) (fun q G Ml => Ml = (q.2.2 ++ []) ∧ OwnR ZB 3 G q.2.1 (wts P ((Zj l).take q.1)) q.2.2 ∧ q.1 ≤ (Zj l).length) (fun q => (Zj l).length - q.1) (0, lV sa4 ((List.replicate (P.length + 1) (0 : Int))).length sc5, Ms2) hs9 ?_ ?_
 ·exact ⟨rfl, (by exact OwnR.cast (ho3.mono hG8) (ZpI P)), om9⟩
 rintro ⟨q, v_6, M_6⟩ gG15 G15 _ hG15 ⟨rfl, ho_6, hq⟩
 try dsimp only at ho_6 hq
 have hwl := ZcE P ((Zj l).take q)
 refine WC.fr (f := ZR gG15 [(22, nt9 q), (0, lV sa_P P.length sc_P), (20, lV sa_hv9 ((Zj l)).length sc_hv9), (21, nt9 (((Zj l)).length)), (6, v_6)]) rfl (g9 6 ?_)
 refine WC.cd (fun h23 p23 => ?_) (fun h23 p23 => ?_)
 ·have hrl : (Zf P ((Zj l)[q]'om9).key) < (wts P ((Zj l).take q)).length := by rw [ZcE]; have : (Zf P ((Zj l)[q]'om9).key) ≤ P.length := List.length_filter_le _ _; omega
  have hg9 := Zam hrl
  have hb9 := ZpC P ((Zj l).take q) (Zf P ((Zj l)[q]'om9).key) (fun m h => hfs m (List.mem_of_mem_take h))
  have hb8 := Zft P ((Zj l).take q) (Zf P ((Zj l)[q]'om9).key)
  have ht9 : ((Zj l).take q).length ≤ 100000 := by rw [List.length_take]; omega
  have hz9 := Zcm (hfs _ (List.getElem_mem (by omega : q < (Zj l).length)))
  have hwi : i64 ((wts P ((Zj l).take q))[(Zf P ((Zj l)[q]'om9).key)]'hrl + ((Zj l)[q]'om9).size) := ⟨om9, om9⟩
  have he9 : Msg.size ⟨((Zj l)[q]'om9).stamp, ((Zj l)[q]'om9).kind, ((Zj l)[q]'om9).key, ((Zj l)[q]'om9).hi, ((Zj l)[q]'om9).opn, ((Zj l)[q]'om9).val⟩ = ((Zj l)[q]'om9).size := rfl
  refine g9 6 ?_
  refine (hv9.mono hG15).a2 (i := q) om9 (fun he16 hm17 => (g9 2 ?_))
  refine W.alloc ZJ (fun b21 => (g9 3 ?_))
  refine WC.dw sn9.k9 (d9 [0, 1, 2, 3, 7] ?_)
  refine WD.a1 4 rfl (W.qcall (ZbJ (h_P.mono lec) _ hr) rfl (W.nn (ho_6.a2 (i := (Zf P ((Zj l)[q]'om9).key)) om9 (fun he22 hi23 => (WD.tk 5 rfl (Ya (i := (Zf P ((Zj l)[q]'om9).key)) ZV ty3 ho_6 rfl rfl ⟨rfl, om9⟩) ?_)))))
  refine WD.any [6, 8] (by kernel_rfl) rfl ⟨WD.ap ?_, WD.ap ?_, trivial⟩
  ·refine W.ok (YF (vs := ic9) ty3 he22 (pmC pr9) rfl rfl rfl (by simp)) (W.nn (WD.a1 8 rfl (W.qcall (ZdF _ _ _ _ _ _) rfl (W.nn (d9 [9] ?_)))))
   refine ho_6.a2 (i := (Zf P ((Zj l)[q]'om9).key)) om9 (fun he26 hi27 => (WD.tk 10 rfl (Ya (i := (Zf P ((Zj l)[q]'om9).key)) ZV ty3 ho_6 rfl rfl ⟨rfl, om9⟩) (WD.a1 11 rfl (W.storeO (i := (Zf P ((Zj l)[q]'om9).key)) (o := 0) (vs := ic9) (a' := ((wts P ((Zj l).take q))[(Zf P ((Zj l)[q]'om9).key)]'hrl + ((Zj l)[q]'om9).size)) ty3 rfl rfl rfl rfl rfl (ho_6) (pmC pr9) om9 (by decide) (fun cs h => by rw [h.1]; exact ⟨rfl, hwi⟩) (fun Ms30 ho31 => (W.perm (pmC pr9).symm (W.nn (WD.done (by kernel_rfl) (JF (Xc (g9 3 ?_)))))))))))
   refine W.sub (sr9.cons _) (g9 2 ?_)
   exact ⟨Le.rfl, (q + 1, v_6, Ms30), hs9, ⟨rfl, (by have h := ho31; rw [ZiW om9 hrl] at h; exact h), om9⟩, om9⟩
  refine W.qcall (ZdF _ _ _ _ _ _) rfl (W.nn (WD.a1 6 rfl (W.ok (YF (vs := ic9) ty3 he22 (pmC pr9) rfl rfl rfl (by simp)) (W.nn (d9 [9] ?_)))))
  refine ho_6.a2 (i := (Zf P ((Zj l)[q]'om9).key)) om9 (fun he32 hi33 => (WD.tk 10 rfl (Ya (i := (Zf P ((Zj l)[q]'om9).key)) ZV ty3 ho_6 rfl rfl ⟨rfl, om9⟩) (WD.a1 11 rfl (W.storeO (i := (Zf P ((Zj l)[q]'om9).key)) (o := 0) (vs := ic9) (a' := ((wts P ((Zj l).take q))[(Zf P ((Zj l)[q]'om9).key)]'hrl + ((Zj l)[q]'om9).size)) ty3 rfl rfl rfl rfl rfl (ho_6) (pmC pr9) om9 (by decide) (fun cs h => by rw [h.1]; exact ⟨rfl, hwi⟩) (fun Ms36 ho37 => (W.perm (pmC pr9).symm (W.nn (WD.done (by kernel_rfl) (JF (Xc (g9 3 ?_)))))))))))
  refine W.sub (sr9.cons _) (g9 2 ?_)
  exact ⟨Le.rfl, (q + 1, v_6, Ms36), hs9, ⟨rfl, (by have h := ho37; rw [ZiW om9 hrl] at h; exact h), om9⟩, om9⟩
 refine g9 6 ?_
 have hw38 := ho_6
 rw [List.take_of_length_le (by omega : (Zj l).length ≤ q)] at hw38
 refine g9 13 ?_
 refine WC.loop (X := Nat) (fun k => [(9, nt9 ((YT (wOf P (Zj l)) k))), (40, nt9 k), (6, v_6), (38, v_6), (39, nt9 (((wts P (Zj l))).length))]) (fun k _ Ml => Ml = (M_6 ++ []) ∧ k ≤ P.length + 1) (fun k => P.length + 1 - k) 0 hs9 ?_ ?_
 ·exact ⟨rfl, om9⟩
 rintro k gG39 G39 _ hG39 ⟨rfl, hk⟩
 have hbl := Zfr (wOf P (Zj l)) k
 have hwl9 := ZcE P (Zj l)
 refine g9 6 ?_
 refine WC.cd (fun h41 p41 => ?_) (fun h41 p41 => ?_)
 ·refine g9 7 ?_
  refine (hw38.mono hG39).a2 (i := k) om9 (fun he40 hi41 => (W.ok (Ya (i := k) ZV ty3 (hw38.mono hG39) rfl rfl ⟨om9, om9⟩) (W.ok (YF (vs := ic9) ty3 he40 pr9 rfl rfl rfl (by simp)) (g9 9 ?_))))
  refine (hw38.mono hG39).a2 (i := (YT (wOf P (Zj l)) k)) om9 (fun he44 hi45 => (W.ok (Ya (i := (YT (wOf P (Zj l)) k)) ZV ty3 (hw38.mono hG39) rfl rfl ⟨rfl, om9⟩) (W.ok (YF (vs := ic9) ty3 he44 pr9 rfl rfl rfl (by simp)) (g9 3 ?_))))
  refine WC.cd (fun h50 p50 => ?_) (fun h50 p50 => ?_)
  ·refine g9 11 ?_
   exact ⟨Le.rfl, k + 1, ⟨(iv (by rw [ZpA (by rw [Zam, Zam] at p50; omega)])), eqv, eqv, eqv, eqv, trivial⟩, ⟨rfl, om9⟩, om9⟩
  refine g9 8 ?_
  exact ⟨Le.rfl, k + 1, ⟨(iv (by rw [ZpB (by rw [Zam, Zam] at p50; omega)])), eqv, eqv, eqv, eqv, trivial⟩, ⟨rfl, om9⟩, om9⟩
 refine g9 14 ?_
 show Value.tuple #[Value.int _ _, Value.bool _] = _
 rw [Zfu om9, show k = P.length + 1 by omega]

theorem ZpL {G : GH} {v_p : Value} {p : List Str} (h_p : SlR Z6 G v_p p) {v_c : Value} {c : List Int} (h_c : SlR ZB G v_c c) :
    Fc Tryz.prog 177 [v_p, v_c] G [] (fun v G' M' => M' = [] ∧ ∃ r : List Str × List Int × Str × List Str × List Int × Bool, r = Xd p c ∧ ∃ u0 u1 u2 u3, v = .tuple #[u0, u1, sV (Str.b (r.2.2.1)), u2, u3, .bool (r.2.2.2.2.2)] ∧ SlR Z6 G' u0 (r.1) ∧ SlR ZB G' u1 (r.2.1) ∧ SlR Z6 G' u2 (r.2.2.2.1) ∧ SlR ZB G' u3 (r.2.2.2.2.1)) := by
 obtain ⟨sa_p, sc_p, rfl⟩ := h_p.form
 obtain ⟨sa_c, sc_c, rfl⟩ := h_c.form
 have hp := h_p.len47
 have hc := h_c.len47
 refine Fc.go [.tmp 4, .tmp 5, .tmp 6, .tmp 7, .tmp 8, .tmp 9] Tryz.func177 Tryz.ntmps177 rfl (fun w0 => (g9 17 ?_))
 refine W.sd 14 (fun h13 p13 => ?_) (fun h13 p13 => ?_)
 ·refine g9 23 ?_
  refine ⟨rfl, _, (ZgN om9).symm, _, _, _, _, rfl, ?_, ?_, ?_, ?_⟩
  · exact SlR.nil
  · exact SlR.nil
  · exact SlR.nil
  exact SlR.nil
 refine g9 15 ?_
 refine WC.cn (fun h20 p20 => ?_) (fun h20 p20 => ?_)
 ·refine g9 13 ?_
  refine ⟨rfl, _, (ZgN om9).symm, _, _, _, _, rfl, ?_, ?_, ?_, ?_⟩
  · exact SlR.nil
  · exact SlR.nil
  · exact SlR.nil
  exact SlR.nil
 refine g9 7 ?_
 refine W.ok (Zgz rfl rfl om9 om9 om9) (g9 4 ?_)
 refine WC.dw sr9 (d9 [0, 1, 2] ?_)
 have hs1 := SlR.slice h_p (lo := 0) (hi := ((c.length + 1) / 2) - 1) om9 om9
 refine WD.tk 3 rfl (Jm (0) (((c.length + 1) / 2) - 1) Z2 ty9 h_p rfl rfl ⟨_, _, rfl, om9⟩ ⟨om9, om9⟩) (d9 [5, 6] ?_)
 have hs2 := SlR.slice h_c (lo := 0) (hi := ((c.length + 1) / 2)) om9 om9
 refine WD.tk 7 rfl (Jm (0) (((c.length + 1) / 2)) ZV ty3 h_c rfl rfl ⟨_, _, rfl, om9⟩ ⟨om9, om9⟩) (d9 [9, 10, 11] ?_)
 refine h_p.a1 (i := ((c.length + 1) / 2) - 1) om9 (fun he3 => (WD.tk 12 rfl (ZX (i := ((c.length + 1) / 2) - 1) Z2 ty9 h_p rfl rfl ⟨om9, om9⟩) (d9 [13, 14, 15] ?_)))
 have hs6 := SlR.slice h_p (lo := ((c.length + 1) / 2)) (hi := p.length) om9 om9
 refine WD.tk 16 rfl (Jm (((c.length + 1) / 2)) (p.length) Z2 ty9 h_p rfl ⟨_, _, rfl, om9⟩ rfl ⟨om9, om9⟩) (d9 [18, 19] ?_)
 have hs7 := SlR.slice h_c (lo := ((c.length + 1) / 2)) (hi := c.length) om9 om9
 refine WD.tk 20 rfl (Jm (((c.length + 1) / 2)) (c.length) ZV ty3 h_c rfl ⟨_, _, rfl, om9⟩ rfl ⟨om9, om9⟩) (WD.a1 4 rfl (W.cS (ZcS hs1) rfl (fun sa_hv9 sc_hv9 G8 hG8 hv9 => (W.nn (WD.a1 8 rfl (W.cS (ZcT (hs2.mono hG8)) rfl (fun sa_hv16 sc_hv16 G15 hG15 hv16 => (W.nn (WD.a1 17 rfl (W.cS (ZcS (hs6.mono lec)) rfl (fun sa_hv23 sc_hv23 G22 hG22 hv23 => (W.nn (WD.a1 21 rfl (W.cS (ZcT (hs7.mono lec)) rfl (fun sa_hv30 sc_hv30 G29 hG29 hv30 => (W.nn (d9 [22, 23, 24, 25, 26, 27] ?_)))))))))))))))))
 refine g9 4 ?_
 refine ⟨rfl, _, (ZgO om9).symm, _, _, _, _, rfl, ?_, ?_, ?_, ?_⟩
 · exact SlR.cast ((hv9.mono lec)) (by simp)
 · exact SlR.cast ((hv16.mono lec)) (by simp)
 · exact SlR.cast ((hv23.mono hG29)) (by simp)
 exact SlR.cast (hv30) (by simp)

theorem ZpM {G : GH} {cs_a : List Value} {a : Nd} (h_a : NodeC G cs_a a) (hks : ∀ m ∈ a.msgs, m.key.b.size < 140737488355328) :
    Fc Tryz.prog 243 [.agg (List.toArray cs_a)] G [] (fun v G' M' => M' = [] ∧ ∃ r : Nd × Nd × Str × Bool, r = Yn a ∧ ∃ u0 u1, v = .tuple #[.agg (List.toArray u0), .agg (List.toArray u1), sV (Str.b (r.2.2.1)), .bool (r.2.2.2)] ∧ NodeC G' u0 (r.1) ∧ NodeC G' u1 (r.2.1)) := by
 obtain ⟨_, _, _, _, _, _, _, _, rfl, hp_a, hk_a, hm_a, hr_a, hok_a⟩ := h_a
 refine Fc.go [.cell 2 60, .cell 3 60, .tmp 4, .tmp 5] Tryz.func243 Tryz.ntmps243 rfl (fun w0 => (g9 2 ?_))
 refine W.box (L := [iV _, iV _, lV _ _ _, lV _ _ _, sV _, .bool _, iV _, iV _, lV _ _ _, lV _ _ _]) rfl rfl (fun b36 => (W.alloc Zn (fun b37 => (W.alloc Zn (fun b38 => (g9 5 ?_))))))
 refine WC.dw ((sr9.k9.cons _).cons _) (d9 [0, 1, 2, 3] ?_)
 refine g9 10 ?_
 refine WC.cd (fun h10 p10 => ?_) (fun h10 p10 => ?_)
 ·refine g9 4 ?_
  refine W.call (Mp := []) (Zs4 hr_a) rfl pr9 ?_
  intro _ G39 _ hG39 q42
  refine match q42 with | ⟨e_43, _, e_44, _, _, e_45, hv40, hv41⟩ => ?_
  subst e_43
  subst e_44
  subst e_45
  have q47 := hv40.form
  refine match q47 with | ⟨sa_hv40, sc_hv40, e_46⟩ => ?_
  subst e_46
  have q49 := hv41.form
  refine match q49 with | ⟨sa_hv41, sc_hv41, e_48⟩ => ?_
  subst e_48
  refine g9 14 ?_
  refine WC.dw ((sr9.k9.cons _).cons _) (d9 [2, 3] ?_)
  refine WD.any [0, 1] (by kernel_rfl) rfl ⟨WD.ap ?_, WD.ap ?_, trivial⟩
  ·refine g9 1 ?_
   refine W.nn ?_
   refine WD.any [1, 4] (by kernel_rfl) rfl ⟨WD.ap ?_, WD.ap ?_, trivial⟩
   ·refine g9 1 ?_
    refine W.nn (d9 [4, 5, 6, 7] ?_)
    refine g9 5 ?_
    refine ⟨rfl, _, (ZaU p10).symm, _, _, rfl, ?_, ?_⟩
    · exact ⟨_, _, _, _, _, _, _, _, rfl, (hp_a.mono hG39), (hk_a.mono hG39), (hm_a.mono hG39), hv40, hok_a⟩
    exact ⟨_, _, _, _, _, _, _, _, rfl, (hp_a.mono hG39), (hk_a.mono hG39), (hm_a.mono hG39), hv41, hok_a⟩
   refine g9 1 ?_
   refine W.nn (WD.a1 1 rfl (g9 1 ?_))
   refine W.nn (d9 [5, 6, 7] ?_)
   refine g9 5 ?_
   refine ⟨rfl, _, (ZaU p10).symm, _, _, rfl, ?_, ?_⟩
   · exact ⟨_, _, _, _, _, _, _, _, rfl, (hp_a.mono hG39), (hk_a.mono hG39), (hm_a.mono hG39), hv40, hok_a⟩
   exact ⟨_, _, _, _, _, _, _, _, rfl, (hp_a.mono hG39), (hk_a.mono hG39), (hm_a.mono hG39), hv41, hok_a⟩
  refine g9 1 ?_
  refine W.nn (WD.a1 0 rfl (g9 1 ?_))
  refine W.nn (d9 [4, 5, 6, 7] ?_)
  refine g9 5 ?_
  refine ⟨rfl, _, (ZaU p10).symm, _, _, rfl, ?_, ?_⟩
  · exact ⟨_, _, _, _, _, _, _, _, rfl, (hp_a.mono hG39), (hk_a.mono hG39), (hm_a.mono hG39), hv40, hok_a⟩
  exact ⟨_, _, _, _, _, _, _, _, rfl, (hp_a.mono hG39), (hk_a.mono hG39), (hm_a.mono hG39), hv41, hok_a⟩
 refine g9 9 ?_
 refine W.qcall (Ze7 hp_a hk_a) rfl (g9 3 ?_)
 refine WC.cond rfl (fun h30 => ?_) (fun h30 => ?_)
 ·refine WC.seq (WC.dw ((sr9.k9.cons _).cons _) ?_)
  refine WD.any [0, 1] (by kernel_rfl) rfl ⟨WD.ap ?_, WD.ap ?_, trivial⟩
  ·refine g9 1 ?_
   refine W.nn ?_
   refine WD.any [1, 2] (by kernel_rfl) rfl ⟨WD.ap ?_, WD.ap ?_, trivial⟩
   ·refine g9 1 ?_
    refine W.nn (d9 [2, 3, 4, 5] ?_)
    refine g9 5 ?_
    refine ⟨rfl, _, (Zcl p10 (by simpa using h30)).symm, _, _, rfl, ?_, ?_⟩
    · exact (nk9 hp_a hk_a hm_a hr_a hok_a)
    exact (nk9 hp_a hk_a hm_a hr_a hok_a)
   refine g9 1 ?_
   refine W.nn (WD.a1 1 rfl (g9 1 ?_))
   refine W.nn (d9 [3, 4, 5] ?_)
   refine g9 5 ?_
   refine ⟨rfl, _, (Zcl p10 (by simpa using h30)).symm, _, _, rfl, ?_, ?_⟩
   · exact (nk9 hp_a hk_a hm_a hr_a hok_a)
   exact (nk9 hp_a hk_a hm_a hr_a hok_a)
  refine g9 1 ?_
  refine W.nn (WD.a1 0 rfl (g9 1 ?_))
  refine W.nn (d9 [2, 3, 4, 5] ?_)
  refine g9 5 ?_
  refine ⟨rfl, _, (Zcl p10 (by simpa using h30)).symm, _, _, rfl, ?_, ?_⟩
  · exact (nk9 hp_a hk_a hm_a hr_a hok_a)
  exact (nk9 hp_a hk_a hm_a hr_a hok_a)
 refine g9 8 ?_
 refine W.call (Mp := []) (ZpL hp_a hk_a) rfl pr9 ?_
 intro _ G50 _ hG50 q55
 refine match q55 with | ⟨e_56, _, e_57, _, _, _, _, e_58, hv51, hv52, hv53, hv54⟩ => ?_
 subst e_56
 subst e_57
 subst e_58
 have q60 := hv51.form
 refine match q60 with | ⟨sa_hv51, sc_hv51, e_59⟩ => ?_
 subst e_59
 have q62 := hv52.form
 refine match q62 with | ⟨sa_hv52, sc_hv52, e_61⟩ => ?_
 subst e_61
 have q64 := hv53.form
 refine match q64 with | ⟨sa_hv53, sc_hv53, e_63⟩ => ?_
 subst e_63
 have q66 := hv54.form
 refine match q66 with | ⟨sa_hv54, sc_hv54, e_65⟩ => ?_
 subst e_65
 refine g9 20 ?_
 refine WC.dw ((sr9.k9.cons _).cons _) (d9 [0, 1, 2] ?_)
 refine WD.tk 3 rfl (Zw (L := [sV _, sV _, .bool _]) Y0 Zv rfl rfl rfl) (d9 [5, 6, 7] ?_)
 refine WD.tk 8 rfl (Zw (L := [sV _, sV _, .bool _]) Y0 Zv rfl rfl rfl) (WD.a1 4 rfl (W.cS (ZdH (hm_a.mono hG50) Str.nil _ _ (by assumption)) rfl (fun sa_hv68 sc_hv68 G67 hG67 hv68 => (W.nn (d9 [10] ?_)))))
 refine WD.a1 9 rfl (W.cS (ZdH (hm_a.mono lec) _ Str.nil _ (by assumption)) rfl (fun sa_hv75 sc_hv75 G74 hG74 hv75 => (W.nn (d9 [11, 12, 13] ?_))))
 refine g9 3 ?_
 refine WC.dw ((sr9.k9.cons _).cons _) (d9 [2, 3] ?_)
 refine WD.any [0, 1] (by kernel_rfl) rfl ⟨WD.ap ?_, WD.ap ?_, trivial⟩
 ·refine g9 1 ?_
  refine W.nn ?_
  refine WD.any [1, 4] (by kernel_rfl) rfl ⟨WD.ap ?_, WD.ap ?_, trivial⟩
  ·refine g9 1 ?_
   refine W.nn (d9 [4, 5, 6, 7] ?_)
   refine g9 4 ?_
   refine ⟨rfl, _, (ZaV p10 (by simpa using h30)).symm, _, _, rfl, ?_, ?_⟩
   · exact ⟨_, _, _, _, _, _, _, _, rfl, (hv51.mono lec), (hv52.mono lec), (hv68.mono hG74), (hr_a.mono lec), hok_a⟩
   exact ⟨_, _, _, _, _, _, _, _, rfl, (hv53.mono lec), (hv54.mono lec), hv75, (hr_a.mono lec), hok_a⟩
  refine g9 1 ?_
  refine W.nn (WD.a1 1 rfl (g9 1 ?_))
  refine W.nn (d9 [5, 6, 7] ?_)
  refine g9 4 ?_
  refine ⟨rfl, _, (ZaV p10 (by simpa using h30)).symm, _, _, rfl, ?_, ?_⟩
  · exact ⟨_, _, _, _, _, _, _, _, rfl, (hv51.mono lec), (hv52.mono lec), (hv68.mono hG74), (hr_a.mono lec), hok_a⟩
  exact ⟨_, _, _, _, _, _, _, _, rfl, (hv53.mono lec), (hv54.mono lec), hv75, (hr_a.mono lec), hok_a⟩
 refine g9 1 ?_
 refine W.nn (WD.a1 0 rfl (g9 1 ?_))
 refine W.nn (d9 [4, 5, 6, 7] ?_)
 refine g9 4 ?_
 refine ⟨rfl, _, (ZaV p10 (by simpa using h30)).symm, _, _, rfl, ?_, ?_⟩
 · exact ⟨_, _, _, _, _, _, _, _, rfl, (hv51.mono lec), (hv52.mono lec), (hv68.mono hG74), (hr_a.mono lec), hok_a⟩
 exact ⟨_, _, _, _, _, _, _, _, rfl, (hv53.mono lec), (hv54.mono lec), hv75, (hr_a.mono lec), hok_a⟩

theorem Zfw {G : GH} {cs_a : List Value} {a : Nd} (h_a : NodeC G cs_a a) (i : Int) (hi : i64 i) (hks : ∀ m ∈ a.msgs, m.key.b.size < 140737488355328) :
    Fc Tryz.prog 217 [.agg (List.toArray cs_a), iV i] G [] (fun v G' M' => M' = [] ∧ ∃ r : Nd × Nd × Str × Bool, r = Zp a i ∧ ∃ u0 u1, v = .tuple #[.agg (List.toArray u0), .agg (List.toArray u1), sV (Str.b (r.2.2.1)), .bool (r.2.2.2)] ∧ NodeC G' u0 (r.1) ∧ NodeC G' u1 (r.2.1)) := by
 obtain ⟨_, _, _, _, _, _, _, _, rfl, hp_a, hk_a, hm_a, hr_a, hok_a⟩ := h_a
 refine Fc.go [.cell 4 60, .cell 5 60, .tmp 6, .tmp 7] Tryz.func217 Tryz.ntmps217 rfl (fun w0 => (g9 2 ?_))
 refine W.box (L := [iV _, iV _, lV _ _ _, lV _ _ _, sV _, .bool _, iV _, iV _, lV _ _ _, lV _ _ _]) rfl rfl (fun b81 => (W.alloc Zn (fun b82 => (W.alloc Zn (fun b83 => (g9 7 ?_))))))
 refine W.cM (ZpM (nk9 hp_a hk_a hm_a hr_a hok_a) (by assumption)) rfl (fun _ _ _ _ _ _ _ _ _ _ _ _ _ _ _ _ G84 hG84 hp_hv85 hk_hv85 hm_hv85 hr_hv85 hok_hv85 hp_hv86 hk_hv86 hm_hv86 hr_hv86 hok_hv86 => (g9 18 ?_))
 refine WC.cond rfl (fun h16 => ?_) (fun h16 => ?_)
 ·refine g9 2 ?_
  refine W.ok (Zw (L := [iV _, iV _, lV _ _ _, lV _ _ _, sV _, .bool _, iV _, iV _, lV _ _ _, lV _ _ _]) J4 Zn rfl rfl rfl) (W.ok (Zw (L := [iV _, iV _, lV _ _ _, lV _ _ _, sV _, .bool _, iV _, iV _, lV _ _ _, lV _ _ _]) J4 Zn rfl rfl rfl) (g9 9 ?_))
  refine ⟨rfl, _, (Zbx (by simpa using h16)).symm, _, _, rfl, ?_, ?_⟩
  · exact ⟨_, _, _, _, _, _, _, _, rfl, SlR.nil, SlR.nil, SlR.nil, SlR.nil, Nd.zero_ok⟩
  exact ⟨_, _, _, _, _, _, _, _, rfl, SlR.nil, SlR.nil, SlR.nil, SlR.nil, Nd.zero_ok⟩
 refine g9 22 ?_
 refine WC.dw ((sr9.k9.cons _).cons _) (d9 [4] ?_)
 refine WD.any [0, 2] (by kernel_rfl) rfl ⟨WD.ap ?_, WD.ap ?_, trivial⟩
 ·refine g9 1 ?_
  refine W.nn ?_
  refine WD.any [1, 2] (by kernel_rfl) rfl ⟨WD.ap ?_, WD.ap ?_, trivial⟩
  ·refine W.cN (XM (show NodeC _ _ { (Yn a).1 with high := (Yn a).2.2.1, top := false, right := i } from ⟨_, _, _, _, _, _, _, _, rfl, hp_hv85, hk_hv85, hm_hv85, hr_hv85, (Zby (by assumption) hi)⟩)) rfl (fun _ _ _ _ _ _ _ _ G93 hG93 hp_hv94 hk_hv94 hm_hv94 hr_hv94 hok_hv94 => (W.nn (WD.a1 2 rfl (g9 1 ?_))))
   refine W.nn (WD.a1 3 rfl (W.cN (XM (show NodeC _ _ { (Yn a).2.1 with slot := i } from ⟨_, _, _, _, _, _, _, _, rfl, (hp_hv86.mono hG93), (hk_hv86.mono hG93), (hm_hv86.mono hG93), (hr_hv86.mono hG93), (Zbz (by assumption) hi)⟩)) rfl (fun _ _ _ _ _ _ _ _ G99 hG99 hp_hv100 hk_hv100 hm_hv100 hr_hv100 hok_hv100 => (W.nn (d9 [5, 6, 7, 8] ?_)))))
   refine g9 4 ?_
   refine ⟨rfl, _, (JK (by simpa using h16)).symm, _, _, rfl, ?_, ?_⟩
   · exact ⟨_, _, _, _, _, _, _, _, rfl, (hp_hv94.mono hG99), (hk_hv94.mono hG99), (hm_hv94.mono hG99), (hr_hv94.mono hG99), Zby (by assumption) hi⟩
   exact ⟨_, _, _, _, _, _, _, _, rfl, hp_hv100, hk_hv100, hm_hv100, hr_hv100, Zbz (by assumption) hi⟩
  refine g9 1 ?_
  refine W.nn (WD.a1 1 rfl (W.cN (XM (show NodeC _ _ { (Yn a).1 with high := (Yn a).2.2.1, top := false, right := i } from ⟨_, _, _, _, _, _, _, _, rfl, hp_hv85, hk_hv85, hm_hv85, hr_hv85, (Zby (by assumption) hi)⟩)) rfl (fun _ _ _ _ _ _ _ _ G105 hG105 hp_hv106 hk_hv106 hm_hv106 hr_hv106 hok_hv106 => (W.nn (WD.a1 3 rfl (W.cN (XM (show NodeC _ _ { (Yn a).2.1 with slot := i } from ⟨_, _, _, _, _, _, _, _, rfl, (hp_hv86.mono hG105), (hk_hv86.mono hG105), (hm_hv86.mono hG105), (hr_hv86.mono hG105), (Zbz (by assumption) hi)⟩)) rfl (fun _ _ _ _ _ _ _ _ G111 hG111 hp_hv112 hk_hv112 hm_hv112 hr_hv112 hok_hv112 => (W.nn (d9 [5, 6, 7, 8] ?_)))))))))
  refine g9 4 ?_
  refine ⟨rfl, _, (JK (by simpa using h16)).symm, _, _, rfl, ?_, ?_⟩
  · exact ⟨_, _, _, _, _, _, _, _, rfl, (hp_hv106.mono hG111), (hk_hv106.mono hG111), (hm_hv106.mono hG111), (hr_hv106.mono hG111), Zby (by assumption) hi⟩
  exact ⟨_, _, _, _, _, _, _, _, rfl, hp_hv112, hk_hv112, hm_hv112, hr_hv112, Zbz (by assumption) hi⟩
 refine g9 1 ?_
 refine W.nn (WD.a1 0 rfl (g9 1 ?_))
 refine W.nn (WD.a1 1 rfl (W.cN (XM (show NodeC _ _ { (Yn a).1 with high := (Yn a).2.2.1, top := false, right := i } from ⟨_, _, _, _, _, _, _, _, rfl, hp_hv85, hk_hv85, hm_hv85, hr_hv85, (Zby (by assumption) hi)⟩)) rfl (fun _ _ _ _ _ _ _ _ G117 hG117 hp_hv118 hk_hv118 hm_hv118 hr_hv118 hok_hv118 => (W.nn (WD.a1 3 rfl (W.cN (XM (show NodeC _ _ { (Yn a).2.1 with slot := i } from ⟨_, _, _, _, _, _, _, _, rfl, (hp_hv86.mono hG117), (hk_hv86.mono hG117), (hm_hv86.mono hG117), (hr_hv86.mono hG117), (Zbz (by assumption) hi)⟩)) rfl (fun _ _ _ _ _ _ _ _ G123 hG123 hp_hv124 hk_hv124 hm_hv124 hr_hv124 hok_hv124 => (W.nn (d9 [5, 6, 7, 8] ?_)))))))))
 refine g9 4 ?_
 refine ⟨rfl, _, (JK (by simpa using h16)).symm, _, _, rfl, ?_, ?_⟩
 · exact ⟨_, _, _, _, _, _, _, _, rfl, (hp_hv118.mono hG123), (hk_hv118.mono hG123), (hm_hv118.mono hG123), (hr_hv118.mono hG123), Zby (by assumption) hi⟩
 exact ⟨_, _, _, _, _, _, _, _, rfl, hp_hv124, hk_hv124, hm_hv124, hr_hv124, Zbz (by assumption) hi⟩

theorem Zi2 {G : GH} {cs_n : List Value} {n : Nd} (h_n : NodeC G cs_n n) (x : Int) (y : Int) (hx : i64 x) (hy : i64 y) (hlv : i64 (n.level + 1)) (hks : ∀ m ∈ n.msgs, m.key.b.size < 140737488355328) :
    Fc Tryz.prog 188 [.agg (List.toArray cs_n), iV x, iV y] G [] (fun v G' M' => M' = [] ∧ ∃ r : Nd × Nd × Nd × Bool, r = Z5 n x y ∧ ∃ u0 u1 u2, v = .tuple #[.agg (List.toArray u0), .agg (List.toArray u1), .agg (List.toArray u2), .bool (r.2.2.2)] ∧ NodeC G' u0 (r.1) ∧ NodeC G' u1 (r.2.1) ∧ NodeC G' u2 (r.2.2.1)) := by
 obtain ⟨_, _, _, _, _, _, _, _, rfl, hp_n, hk_n, hm_n, hr_n, hok_n⟩ := h_n
 have hx1 := hx.1
 have hx2 := hx.2
 have hy1 := hy.1
 have hy2 := hy.2
 have hlv1 := hlv.1
 have hlv2 := hlv.2
 refine Fc.go [.cell 6 60, .cell 7 60, .cell 8 60, .tmp 9] Tryz.func188 Tryz.ntmps188 rfl (fun w0 => (g9 2 ?_))
 refine W.box (L := [iV _, iV _, lV _ _ _, lV _ _ _, sV _, .bool _, iV _, iV _, lV _ _ _, lV _ _ _]) rfl rfl (fun b1 => (W.alloc Zn (fun b2 => (W.alloc Zn (fun b3 => (W.alloc Zn (fun b4 => (g9 7 ?_))))))))
 refine W.cM (Zfw (nk9 hp_n hk_n hm_n hr_n hok_n) _ (by assumption) (by assumption)) rfl (fun _ _ _ _ _ _ _ _ _ _ _ _ _ _ _ _ G5 hG5 hp_hv6 hk_hv6 hm_hv6 hr_hv6 hok_hv6 hp_hv7 hk_hv7 hm_hv7 hr_hv7 hok_hv7 => (g9 18 ?_))
 refine WC.cond rfl (fun h20 => ?_) (fun h20 => ?_)
 ·refine g9 2 ?_
  refine W.ok (Zw (L := [iV _, iV _, lV _ _ _, lV _ _ _, sV _, .bool _, iV _, iV _, lV _ _ _, lV _ _ _]) J4 Zn rfl rfl rfl) (W.ok (Zw (L := [iV _, iV _, lV _ _ _, lV _ _ _, sV _, .bool _, iV _, iV _, lV _ _ _, lV _ _ _]) J4 Zn rfl rfl rfl) (W.ok (Zw (L := [iV _, iV _, lV _ _ _, lV _ _ _, sV _, .bool _, iV _, iV _, lV _ _ _, lV _ _ _]) J4 Zn rfl rfl rfl) (g9 9 ?_)))
  refine ⟨rfl, _, (ZjJ (by simpa using h20)).symm, _, _, _, rfl, ?_, ?_, ?_⟩
  · exact ⟨_, _, _, _, _, _, _, _, rfl, SlR.nil, SlR.nil, SlR.nil, SlR.nil, Nd.zero_ok⟩
  · exact ⟨_, _, _, _, _, _, _, _, rfl, SlR.nil, SlR.nil, SlR.nil, SlR.nil, Nd.zero_ok⟩
  exact ⟨_, _, _, _, _, _, _, _, rfl, SlR.nil, SlR.nil, SlR.nil, SlR.nil, Nd.zero_ok⟩
 refine g9 5 ?_
 refine W.cN (XM (nm9 hG5 hp_n hk_n hm_n hr_n hok_n)) rfl (fun _ _ _ _ _ _ _ _ G14 hG14 hp_hv15 hk_hv15 hm_hv15 hr_hv15 hok_hv15 => (g9 15 ?_))
 refine W.lit (e := Z6) (l := [_]) (css := [[sV _]]) Z2 ty9 zr9 rfl rfl rfl rfl rfl rfl ⟨rfl, trivial⟩ (fun bl20 G20 hG20 hv20 => (g9 2 ?_))
 refine W.lit (e := ZB) (l := [_, _]) (css := [[iV _], [iV _]]) ZV ty3 zr3 rfl rfl rfl rfl rfl rfl ⟨⟨rfl, om9, om9⟩, ⟨rfl, om9, om9⟩, trivial⟩ (fun bl21 G21 hG21 hv21 => (g9 23 ?_))
 refine WC.cn (fun h42 p42 => ?_) (fun h42 p42 => ?_)
 ·refine g9 16 ?_
  refine WC.dw (((sr9.k9.k9).k9).k9) (d9 [0, 1, 2, 3, 4, 5, 6] ?_)
  refine g9 4 ?_
  refine ⟨rfl, _, (Zrc (by simpa using h20) p42).symm, _, _, _, rfl, ?_, ?_, ?_⟩
  · exact ⟨_, _, _, _, _, _, _, _, rfl, (hv20.mono hG21), hv21, (hm_hv15.mono lec), SlR.nil, ⟨hok_n.1, hlv, hok_n.2.2⟩⟩
  · exact ⟨_, _, _, _, _, _, _, _, rfl, (hp_hv6.mono lec), (hk_hv6.mono lec), SlR.nil, (hr_hv6.mono lec), ⟨hx, (show Nd.Ok (Zp n y).1 from by assumption).2.1, (show Nd.Ok (Zp n y).1 from by assumption).2.2.1, (show i64 0 from ⟨by decide, by decide⟩)⟩⟩
  exact ⟨_, _, _, _, _, _, _, _, rfl, (hp_hv7.mono lec), (hk_hv7.mono lec), SlR.nil, (hr_hv7.mono lec), ⟨(show Nd.Ok (Zp n y).2.1 from by assumption).1, (show Nd.Ok (Zp n y).2.1 from by assumption).2.1, (show Nd.Ok (Zp n y).2.1 from by assumption).2.2.1, (show i64 0 from ⟨by decide, by decide⟩)⟩⟩
 refine g9 14 ?_
 refine WC.dw (((sr9.k9.k9).k9).k9) (d9 [0, 1, 2, 3, 4, 5, 6] ?_)
 refine g9 4 ?_
 refine ⟨rfl, _, (Zrd (by simpa using h20) p42).symm, _, _, _, rfl, ?_, ?_, ?_⟩
 · exact ⟨_, _, _, _, _, _, _, _, rfl, (hv20.mono hG21), hv21, SlR.nil, SlR.nil, ⟨hok_n.1, hlv, hok_n.2.2⟩⟩
 · exact ⟨_, _, _, _, _, _, _, _, rfl, (hp_hv6.mono lec), (hk_hv6.mono lec), SlR.nil, (hr_hv6.mono lec), ⟨hx, (show Nd.Ok (Zp n y).1 from by assumption).2.1, (show Nd.Ok (Zp n y).1 from by assumption).2.2.1, (show Nd.Ok (Zp n y).1 from by assumption).2.2.2⟩⟩
 exact ⟨_, _, _, _, _, _, _, _, rfl, (hp_hv7.mono lec), (hk_hv7.mono lec), SlR.nil, (hr_hv7.mono lec), ⟨(show Nd.Ok (Zp n y).2.1 from by assumption).1, (show Nd.Ok (Zp n y).2.1 from by assumption).2.1, (show Nd.Ok (Zp n y).2.1 from by assumption).2.2.1, (show Nd.Ok (Zp n y).2.1 from by assumption).2.2.2⟩⟩

theorem ZcF {G : GH} (cfan : Int) (cleaf : Int) (cbud : Int) (cslots : Int) (crest : Int) {cs_n : List Value} {n : Nd} (h_n : NodeC G cs_n n) :
    Fc Tryz.prog 190 [.agg #[iV cfan, iV cleaf, iV cbud, iV cslots, iV crest], .agg (List.toArray cs_n)] G [] (fun v _ _ => v = .bool (ZN (⟨cfan, cleaf, cbud, cslots, crest⟩ : Cfg) n)) := by
 obtain ⟨_, _, _, _, _, _, _, _, rfl, hp_n, hk_n, hm_n, hr_n, hok_n⟩ := h_n
 have h1 := hp_n.len47
 have h2 := hk_n.len47
 have h3 := hm_n.len47
 have h4 := hr_n.len47
 refine Fc.go [.tmp 4] Tryz.func190 Tryz.ntmps190 rfl (fun w0 => (g9 2 ?_))
 refine W.box (L := [iV _, iV _, iV _, iV _, iV _]) rfl rfl (fun b22 => (W.box (L := [iV _, iV _, lV _ _ _, lV _ _ _, sV _, .bool _, iV _, iV _, lV _ _ _, lV _ _ _]) rfl rfl (fun b23 => (g9 11 ?_))))
 refine WC.cd (fun h7 p7 => ?_) (fun h7 p7 => ?_)
 ·refine g9 14 ?_
  refine congrArg Value.bool ?_
  first | (rw [ZN, if_pos p7]; done) | (rw [ZN, if_pos p7]; first | (simp_all; done) | (simp_all; omega))
 refine g9 15 ?_
 refine congrArg Value.bool ?_
 first | (rw [ZN, if_neg p7]; done) | (rw [ZN, if_neg p7]; first | (simp_all; done) | (simp_all; omega))

theorem ZpN {G : GH} (cf : Int) (cl : Int) (cb : Int) (cs : Int) (cr : Int) {cs_n : List Value} {n : Nd} (h_n : NodeC G cs_n n) (k : Str) (hq : ChoosePre n) :
    Fc Tryz.prog 150 [.agg #[iV cf, iV cl, iV cb, iV cs, iV cr], .agg (List.toArray cs_n), sV k.b] G [] (fun v _ _ => v = .tuple #[iV ((ZD (⟨cf, cl, cb, cs, cr⟩ : Cfg) n k).1), iV ((ZD (⟨cf, cl, cb, cs, cr⟩ : Cfg) n k).2)]) := by
 obtain ⟨_, _, _, _, _, _, _, _, rfl, hp_n, hk_n, hm_n, hr_n, hok_n⟩ := h_n
 refine Fc.go [.tmp 6, .tmp 7] Tryz.func150 Tryz.ntmps150 rfl (fun w0 => (g9 2 ?_))
 refine W.box (L := [iV _, iV _, iV _, iV _, iV _]) rfl rfl (fun b1 => (W.box (L := [iV _, iV _, lV _ _ _, lV _ _ _, sV _, .bool _, iV _, iV _, lV _ _ _, lV _ _ _]) rfl rfl (fun b2 => (g9 14 ?_))))
 refine WC.cd (fun h13 p13 => ?_) (fun h13 p13 => ?_)
 ·refine g9 10 ?_
  show Value.tuple #[Value.int _ _, Value.int _ _] = _
  rw [ZiX p13]
 refine g9 6 ?_
 refine W.sd 18 (fun h17 p17 => ?_) (fun h17 p17 => ?_)
 ·refine g9 5 ?_
  refine W.qcall (ZcF cf cl cb cs cr (n := n) (nk9 hp_n hk_n hm_n hr_n hok_n)) rfl (g9 4 ?_)
  refine WC.cond rfl (fun h21 => ?_) (fun h21 => ?_)
  ·refine g9 10 ?_
   show Value.tuple #[Value.int _ _, Value.int _ _] = _
   rw [ZiY p13 p17 h21]
  refine g9 9 ?_
  refine W.qcall (Zi1 hp_n hm_n (hq p13).2.1 (hq p13).2.2 (hq p13).1) rfl (g9 14 ?_)
  refine WC.cond rfl (fun h32 => ?_) (fun h32 => ?_)
  ·refine g9 4 ?_
   refine W.qcall (ZbJ hp_n _ (hq p13).1) rfl (g9 12 ?_)
   show Value.tuple #[Value.int _ _, Value.int _ _] = _
   rw [ZiZ p13 (fun h => by rw [h21] at h; exact absurd h.2 (by simp)) (by simpa using h32)]
  refine g9 11 ?_
  show Value.tuple #[Value.int _ _, Value.int _ _] = _
  rw [Zfv p13 (fun h => by rw [h21] at h; exact absurd h.2 (by simp)) (by simpa using h32)]
 refine g9 17 ?_
 refine W.qcall (Zi1 hp_n hm_n (hq p13).2.1 (hq p13).2.2 (hq p13).1) rfl (g9 14 ?_)
 refine WC.cond rfl (fun h32 => ?_) (fun h32 => ?_)
 ·refine g9 4 ?_
  refine W.qcall (ZbJ hp_n _ (hq p13).1) rfl (g9 12 ?_)
  show Value.tuple #[Value.int _ _, Value.int _ _] = _
  rw [ZiZ p13 (fun h => p17 h.1) (by simpa using h32)]
 refine g9 11 ?_
 show Value.tuple #[Value.int _ _, Value.int _ _] = _
 rw [Zfv p13 (fun h => p17 h.1) (by simpa using h32)]

theorem ZpO {G : GH} (cf : Int) (cl : Int) (cb : Int) (cs : Int) (cr : Int) {cs_p : List Value} {p : Nd} (h_p : NodeC G cs_p p) {cs_k : List Value} {k : Nd} (h_k : NodeC G cs_k k) (i : Int) (hq : PourPre cb p k) (hi : i64 i) (hko : KidOf p k i) (hms : MsgsR p.msgs) (hkl : p.kids.length = p.pivots.length + 1) :
    Fc Tryz.prog 192 [.agg #[iV cf, iV cl, iV cb, iV cs, iV cr], .agg (List.toArray cs_p), .agg (List.toArray cs_k), iV i] G [] (fun v _ _ => v = iV (Z9 (⟨cf, cl, cb, cs, cr⟩ : Cfg) p k i)) := by
 obtain ⟨_, _, _, _, _, _, _, _, rfl, hp_p, hk_p, hm_p, hr_p, hok_p⟩ := h_p
 obtain ⟨_, _, _, _, _, _, _, _, rfl, hp_k, hk_k, hm_k, hr_k, hok_k⟩ := h_k
 refine Fc.go [.tmp 8] Tryz.func192 Tryz.ntmps192 rfl (fun w0 => (g9 2 ?_))
 refine W.box (L := [iV _, iV _, iV _, iV _, iV _]) rfl rfl (fun b1 => (W.box (L := [iV _, iV _, lV _ _ _, lV _ _ _, sV _, .bool _, iV _, iV _, lV _ _ _, lV _ _ _]) rfl rfl (fun b2 => (W.box (L := [iV _, iV _, lV _ _ _, lV _ _ _, sV _, .bool _, iV _, iV _, lV _ _ _, lV _ _ _]) rfl rfl (fun b3 => (g9 13 ?_))))))
 refine W.qcall (ZcF cf cl cb cs cr (n := p) (nk9 hp_p hk_p hm_p hr_p hok_p)) rfl (g9 2 ?_)
 refine WC.cond rfl (fun h12 => ?_) (fun h12 => ?_)
 ·refine g9 12 ?_
  refine W.sd 17 (fun h16 p16 => ?_) (fun h16 p16 => ?_)
  ·refine g9 5 ?_
   refine W.qcall (ZcF cf cl cb cs cr (n := k) (nk9 hp_k hk_k hm_k hr_k hok_k)) rfl (g9 4 ?_)
   refine WC.cond rfl (fun h20 => ?_) (fun h20 => ?_)
   ·refine g9 10 ?_
    refine congrArg (Value.int .i64) ?_
    rw [Zi0 (c := (⟨cf, cl, cb, cs, cr⟩ : Cfg)) om9 h20]
    rw [if_pos h12]
   refine g9 6 ?_
   refine W.qcall (ZcL cf cl cb cs cr (p := p) (k := k) (nk9 hp_p hk_p hm_p hr_p hok_p) (nk9 hp_k hk_k hm_k hr_k hok_k) i hq.hb hq.hr hq.hpv hq.hpm hq.hkm hq.hkr hi hq.hsz) rfl (g9 4 ?_)
   refine WC.cd (fun h29 p29 => ?_) (fun h29 p29 => ?_)
   ·refine g9 9 ?_
    refine congrArg (Value.int .i64) ?_
    exact (Zdz (c := (⟨cf, cl, cb, cs, cr⟩ : Cfg)) (fun h => by rw [h20] at h; exact absurd h.2 (by simp)) (show 0 < ZY cl cb p k i by omega)).symm
   refine g9 8 ?_
   refine WC.cd (fun h33 p33 => ?_) (fun h33 p33 => ?_)
   ·refine g9 9 ?_
    refine congrArg (Value.int .i64) ?_
    exact (ZdA (c := (⟨cf, cl, cb, cs, cr⟩ : Cfg)) (fun h => by rw [h20] at h; exact absurd h.2 (by simp)) (show ¬ 0 < ZY cl cb p k i by omega) om9).symm
   refine g9 6 ?_
   refine W.qcall (ZdP cf cl cb cs cr (p := p) (k := k) (nk9 hp_p hk_p hm_p hr_p hok_p) (nk9 hp_k hk_k hm_k hr_k hok_k) i hq.hb hq.hr hq.hpv hq.hpm hq.hkm hq.hkr hi hq.hsz) rfl (g9 3 ?_)
   refine WC.cond rfl (fun h39 => ?_) (fun h39 => ?_)
   ·have hwt : 0 < (Zd p.pivots p.msgs i).length := (odt h39).2.1
    refine g9 10 ?_
    refine congrArg (Value.int .i64) ?_
    rw [ZdB (c := (⟨cf, cl, cb, cs, cr⟩ : Cfg)) (show ¬ 0 < ZY cl cb p k i by omega) om9 hwt]
    rw [if_pos h12]
   have hwt : ¬ 0 < (Zd p.pivots p.msgs i).length := fun hh => odf h39 ⟨hko, hh, om9⟩
   refine g9 10 ?_
   refine congrArg (Value.int .i64) ?_
   exact (ZdC (c := (⟨cf, cl, cb, cs, cr⟩ : Cfg)) (show ¬ 0 < ZY cl cb p k i by omega) om9 hwt).symm
  refine g9 14 ?_
  refine W.qcall (ZcL cf cl cb cs cr (p := p) (k := k) (nk9 hp_p hk_p hm_p hr_p hok_p) (nk9 hp_k hk_k hm_k hr_k hok_k) i hq.hb hq.hr hq.hpv hq.hpm hq.hkm hq.hkr hi hq.hsz) rfl (g9 4 ?_)
  refine WC.cd (fun h29 p29 => ?_) (fun h29 p29 => ?_)
  ·refine g9 9 ?_
   refine congrArg (Value.int .i64) ?_
   exact (Zdz (c := (⟨cf, cl, cb, cs, cr⟩ : Cfg)) (fun h => by omega) (show 0 < ZY cl cb p k i by omega)).symm
  refine g9 8 ?_
  refine WC.cd (fun h33 p33 => ?_) (fun h33 p33 => ?_)
  ·refine g9 9 ?_
   refine congrArg (Value.int .i64) ?_
   exact (ZdA (c := (⟨cf, cl, cb, cs, cr⟩ : Cfg)) (fun h => by omega) (show ¬ 0 < ZY cl cb p k i by omega) om9).symm
  refine g9 6 ?_
  refine W.qcall (ZdP cf cl cb cs cr (p := p) (k := k) (nk9 hp_p hk_p hm_p hr_p hok_p) (nk9 hp_k hk_k hm_k hr_k hok_k) i hq.hb hq.hr hq.hpv hq.hpm hq.hkm hq.hkr hi hq.hsz) rfl (g9 3 ?_)
  refine WC.cond rfl (fun h39 => ?_) (fun h39 => ?_)
  ·have hwt : 0 < (Zd p.pivots p.msgs i).length := (odt h39).2.1
   refine g9 10 ?_
   refine congrArg (Value.int .i64) ?_
   rw [ZdB (c := (⟨cf, cl, cb, cs, cr⟩ : Cfg)) (show ¬ 0 < ZY cl cb p k i by omega) om9 hwt]
   rw [if_pos h12]
  have hwt : ¬ 0 < (Zd p.pivots p.msgs i).length := fun hh => odf h39 ⟨hko, hh, om9⟩
  refine g9 10 ?_
  refine congrArg (Value.int .i64) ?_
  exact (ZdC (c := (⟨cf, cl, cb, cs, cr⟩ : Cfg)) (show ¬ 0 < ZY cl cb p k i by omega) om9 hwt).symm
 refine g9 10 ?_
 refine W.sd 17 (fun h16 p16 => ?_) (fun h16 p16 => ?_)
 ·refine g9 5 ?_
  refine W.qcall (ZcF cf cl cb cs cr (n := k) (nk9 hp_k hk_k hm_k hr_k hok_k)) rfl (g9 4 ?_)
  refine WC.cond rfl (fun h20 => ?_) (fun h20 => ?_)
  ·refine g9 10 ?_
   refine congrArg (Value.int .i64) ?_
   rw [Zi0 (c := (⟨cf, cl, cb, cs, cr⟩ : Cfg)) om9 h20]
   rw [if_neg (by rw [h12] <;> simp)]
  refine g9 6 ?_
  refine W.qcall (ZcL cf cl cb cs cr (p := p) (k := k) (nk9 hp_p hk_p hm_p hr_p hok_p) (nk9 hp_k hk_k hm_k hr_k hok_k) i hq.hb hq.hr hq.hpv hq.hpm hq.hkm hq.hkr hi hq.hsz) rfl (g9 4 ?_)
  refine WC.cd (fun h29 p29 => ?_) (fun h29 p29 => ?_)
  ·refine g9 9 ?_
   refine congrArg (Value.int .i64) ?_
   exact (Zdz (c := (⟨cf, cl, cb, cs, cr⟩ : Cfg)) (fun h => by rw [h20] at h; exact absurd h.2 (by simp)) (show 0 < ZY cl cb p k i by omega)).symm
  refine g9 8 ?_
  refine WC.cd (fun h33 p33 => ?_) (fun h33 p33 => ?_)
  ·refine g9 9 ?_
   refine congrArg (Value.int .i64) ?_
   exact (ZdA (c := (⟨cf, cl, cb, cs, cr⟩ : Cfg)) (fun h => by rw [h20] at h; exact absurd h.2 (by simp)) (show ¬ 0 < ZY cl cb p k i by omega) om9).symm
  refine g9 6 ?_
  refine W.qcall (ZdP cf cl cb cs cr (p := p) (k := k) (nk9 hp_p hk_p hm_p hr_p hok_p) (nk9 hp_k hk_k hm_k hr_k hok_k) i hq.hb hq.hr hq.hpv hq.hpm hq.hkm hq.hkr hi hq.hsz) rfl (g9 3 ?_)
  refine WC.cond rfl (fun h39 => ?_) (fun h39 => ?_)
  ·have hwt : 0 < (Zd p.pivots p.msgs i).length := (odt h39).2.1
   refine g9 10 ?_
   refine congrArg (Value.int .i64) ?_
   rw [ZdB (c := (⟨cf, cl, cb, cs, cr⟩ : Cfg)) (show ¬ 0 < ZY cl cb p k i by omega) om9 hwt]
   rw [if_neg (by rw [h12] <;> simp)]
  have hwt : ¬ 0 < (Zd p.pivots p.msgs i).length := fun hh => odf h39 ⟨hko, hh, om9⟩
  refine g9 10 ?_
  refine congrArg (Value.int .i64) ?_
  exact (ZdC (c := (⟨cf, cl, cb, cs, cr⟩ : Cfg)) (show ¬ 0 < ZY cl cb p k i by omega) om9 hwt).symm
 refine g9 14 ?_
 refine W.qcall (ZcL cf cl cb cs cr (p := p) (k := k) (nk9 hp_p hk_p hm_p hr_p hok_p) (nk9 hp_k hk_k hm_k hr_k hok_k) i hq.hb hq.hr hq.hpv hq.hpm hq.hkm hq.hkr hi hq.hsz) rfl (g9 4 ?_)
 refine WC.cd (fun h29 p29 => ?_) (fun h29 p29 => ?_)
 ·refine g9 9 ?_
  refine congrArg (Value.int .i64) ?_
  exact (Zdz (c := (⟨cf, cl, cb, cs, cr⟩ : Cfg)) (fun h => by omega) (show 0 < ZY cl cb p k i by omega)).symm
 refine g9 8 ?_
 refine WC.cd (fun h33 p33 => ?_) (fun h33 p33 => ?_)
 ·refine g9 9 ?_
  refine congrArg (Value.int .i64) ?_
  exact (ZdA (c := (⟨cf, cl, cb, cs, cr⟩ : Cfg)) (fun h => by omega) (show ¬ 0 < ZY cl cb p k i by omega) om9).symm
 refine g9 6 ?_
 refine W.qcall (ZdP cf cl cb cs cr (p := p) (k := k) (nk9 hp_p hk_p hm_p hr_p hok_p) (nk9 hp_k hk_k hm_k hr_k hok_k) i hq.hb hq.hr hq.hpv hq.hpm hq.hkm hq.hkr hi hq.hsz) rfl (g9 3 ?_)
 refine WC.cond rfl (fun h39 => ?_) (fun h39 => ?_)
 ·have hwt : 0 < (Zd p.pivots p.msgs i).length := (odt h39).2.1
  refine g9 10 ?_
  refine congrArg (Value.int .i64) ?_
  rw [ZdB (c := (⟨cf, cl, cb, cs, cr⟩ : Cfg)) (show ¬ 0 < ZY cl cb p k i by omega) om9 hwt]
  rw [if_neg (by rw [h12] <;> simp)]
 have hwt : ¬ 0 < (Zd p.pivots p.msgs i).length := fun hh => odf h39 ⟨hko, hh, om9⟩
 refine g9 10 ?_
 refine congrArg (Value.int .i64) ?_
 exact (ZdC (c := (⟨cf, cl, cb, cs, cr⟩ : Cfg)) (show ¬ 0 < ZY cl cb p k i by omega) om9 hwt).symm

theorem Zi3 : Zbi Tryz.prog 281 = some 4 := by kernel_rfl
theorem mz4 : zvK Tryz.prog 4 = some (.bool false) := by kernel_rfl

end Go.Proofs.YtbbemibbmbmamaaGreat
