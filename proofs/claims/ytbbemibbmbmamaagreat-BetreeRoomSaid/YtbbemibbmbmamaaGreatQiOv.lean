/- A cycle ends: no cycle of a tree has more than so many steps. Plain Lean; nothing of the program is named here. No condition. -/
import Derived.Test.YtbbemibbmbmamaaGreatQiOm
set_option linter.unusedVariables false
set_option linter.unusedSimpArgs false
set_option linter.unnecessarySimpa false
set_option maxRecDepth 100000
set_option maxHeartbeats 1600000

namespace Go.Fw
open Go Go.RowKit
theorem ZjP {c : Cfg} {n n' : Nd} (h0 : ¬ n.level = 0) (h1 : n'.level = n.level) (h2 : n'.kids.length = n.kids.length) : ZK c n' = ZK c n := by
 unfold ZK
 rw [if_neg h0, if_neg (by rw [h1]; exact h0), h2]
theorem ZdD {c : Cfg} {l : List Nd} {ss : List Seat} (t : Tree c l ss) {a : Int} (ha : 0 ≤ a ∧ a < l.length) (h0 : ¬ (Za l a).level = 0) : wtN c (Za l a) ≤ 8256 := by
 obtain ⟨P, hP, e⟩ := t.seat_of ha
 rw [← e] at h0 ⊢
 exact ZfI t.cfg (t.inner hP h0)
theorem ZjQ {c : Cfg} {l : List Nd} {ss : List Seat} {P : Seat} {i : Nat} {x y : Nd} {T : List Msg} (p : PourOf c l ss P i x y T) (s : Int) :
  Za (ZP l x y) s = if s = y.slot then y else if s = x.slot then x else Za l s := by
 have hx : 0 ≤ x.slot ∧ x.slot < l.length := by rw [p.al.1]; exact p.sin p.mem
 have hy : 0 ≤ y.slot ∧ y.slot < l.length := by rw [p.bl.1]; exact p.sin p.km.1
 unfold ZP
 rw [Zay (by rw [List.length_set]; exact hy), Zay hx]
theorem Zq3 {c : Cfg} {l : List Nd} {ss : List Seat} {P : Seat} {i : Nat} {x y : Nd} {T : List Msg} (p : PourOf c l ss P i x y T) : Za (ZP l x y) P.n.slot = x := by
 rw [ZjQ p, p.bl.1, p.al.1, if_neg p.ksl.symm, if_pos rfl]
theorem ZjR {c : Cfg} {l : List Nd} {ss : List Seat} (t : Tree c l ss) {a i : Int} {P : Seat} (s : StepAt c l ss a i P) (h : 0 < ZO c.leaf c.bud (Za l a) (Zi l a i) i) :
  ∃ x y, ZP l (ZU c.leaf c.bud (Za l a) (Zi l a i) i).1 (ZU c.leaf c.bud (Za l a) (Zi l a i) i).2.1 = ZP l x y ∧ Za (ZP l x y) a = x ∧ (ZP l x y).length = l.length ∧ x.slot = (Za l a).slot ∧ x.level = (Za l a).level ∧ x.kids = (Za l a).kids ∧ wtN c x + 1 ≤ wtN c (Za l a) ∧
   ∀ q : Int, (Za (ZP l x y) q).level = (Za l q).level ∧ (Za (ZP l x y) q).kids = (Za l q).kids := by
 obtain ⟨T, p⟩ := s.pour t h
 have hn := s.n
 have hs := s.slot
 have hf : i.toNat < c.fan.toNat := by
  have h1 := s.hi
  have h2 := p.pin.1.2.2
  omega
 have hi : ((i.toNat : Nat) : Int) = i := by have := s.hi; omega
 have hlt := Poured.lighter p.po p.rt.1 hf
 rw [hn] at hlt
 refine ⟨_, _, rfl, ?_, p.len, ?_, ?_, ?_, hlt, fun q => ?_⟩
 ·have := Zq3 p
  rwa [hs] at this
 ·exact p.al.1.trans (by rw [hn])
 ·exact p.al.2.1.trans (by rw [hn])
 ·exact p.al.2.2.2.1.trans (by rw [hn])
 ·rw [ZjQ p]
  have hk := (p.t.nd p.km.1).2.1
  have hp := (p.t.nd p.mem).2.1
  split
  ·rename_i e
   rw [e, p.bl.1, ← hk]; exact ⟨p.bl.2.1, p.bl.2.2.2.1⟩
  ·split
   ·rename_i e
    rw [e, p.al.1, ← hp]; exact ⟨p.al.2.1, p.al.2.2.2.1⟩
   ·exact ⟨rfl, rfl⟩
theorem ZfJ {n : Nd} {i : Nat} {k : Str} {v : Int} (h : (Y7 n i k v).2 = true) : (Y7 n i k v).1 = Y6 n i k v ∧ i < n.kids.length := by
 unfold Y7 at h ⊢
 split at h
 ·cases h
 ·rename_i h2
  rw [if_neg h2]
  by_cases h3 : n.kids.length ≤ i ∨ (Zf n.pivots (i : Int)).has k = false ∨ k = (Zf n.pivots (i : Int)).lo
  ·exact absurd (.inr (ZeK h3)) h2
  ·have h4 : ¬ n.kids.length ≤ i := fun e => h3 (.inl e)
   have h5 : (Zf n.pivots (i : Int)).has k = true := by
    cases h6 : (Zf n.pivots (i : Int)).has k
    ·exact absurd (.inr (.inl h6)) h3
    ·rfl
   rw [Zc6 h4 h5 (fun e => h3 (.inr (.inr e)))]
   exact ⟨rfl, om9⟩
theorem Zq4 {c : Cfg} {l : List Nd} {a i : Int} (h : (ZG c l a i).1 = 0) (hl : (Za l a).slot = a) :
  l.length ≤ (ZG c l a i).2.length ∧ ∃ k v, Za (ZG c l a i).2 a = Y6 (Za l a) i.toNat k v ∧ i.toNat < (Za l a).kids.length ∧ ZK c (Za l a) = false := by
 refine ⟨ZfH c l a i, ?_⟩
 unfold ZG at h ⊢
 split at h
 ·cases h
 ·rename_i hi
  rw [if_neg hi]
  by_cases h1 : 0 ≤ a ∧ a < l.length
  ·by_cases h2 : (Za l a).kids.length ≤ i.toNat
   ·rw [Zaq (.inr (.inl h2))] at h; cases h
   ·by_cases h3 : 0 ≤ kdN l a i.toNat ∧ kdN l a i.toNat < l.length
    ·cases h4 : ZK c (Za l a)
     ·by_cases h5 : (ZS l a i.toNat).2.2.2 = true
      ·by_cases h6 : (adP l a i.toNat).2 = true
       ·by_cases h7 : (l.length : Int) < c.slots
        ·rw [Zdy h1 h2 h3 h4 h5 h6 h7]
         obtain ⟨e1, e2⟩ := ZfJ (n := Za l a) h6
         refine ⟨(ZS l a i.toNat).2.2.1, (l.length : Int), ?_, e2, rfl⟩
         have hsl := Zjq h6
         unfold JG
         dsimp only
         rw [ZcP]
         rw [if_neg (by simp only [List.length_set]; omega)]
         have hx : (adP l a i.toNat).1.slot = a := hsl.trans hl
         have := Zay (l := l.set (ZS l a i.toNat).1.slot.toNat (ZS l a i.toNat).1) (x := (adP l a i.toNat).1) (by rw [hx, List.length_set]; exact h1) a
         rw [hx, if_pos rfl] at this
         rw [this]
         exact e1
        ·rw [Zdx h1 h2 h3 h4 h5 h6 h7] at h; cases h
       ·rw [ZbM h1 h2 h3 h4 (.inr (by simpa using h6))] at h; cases h
      ·rw [ZbM h1 h2 h3 h4 (.inl (by simpa using h5))] at h; cases h
     ·rw [Zfx h1 h2 h3 h4] at h; cases h
    ·rw [Zaq (.inr (.inr h3))] at h; cases h
  ·rw [Zaq (.inl h1)] at h; cases h
theorem ZjS {c : Cfg} {l : List Nd} {a i : Int} (h0 : ¬ (Za l a).level = 0) (h : (ZG c l a i).1 = 0) (hl : (Za l a).slot = a) :
  (Za (ZG c l a i).2 a).slot = a ∧ (Za (ZG c l a i).2 a).level = (Za l a).level ∧ wtN c (Za (ZG c l a i).2 a) + 1 ≤ wtN c (Za l a) := by
 obtain ⟨_, k, v, e, hi, hf⟩ := Zq4 h hl
 rw [e]
 refine ⟨hl, rfl, Zq2 ?_ hi⟩
 unfold ZK at hf
 rw [if_neg h0, decide_eq_false_iff_not] at hf
 omega
def LowP (c : Cfg) (l : List Nd) (a : Int) : Prop := ¬ (Za l a).slot = 0 ∨ (2 ≤ (Za l a).level ∧ ZK c (Za l a) = false ∧ ∀ j : Nat, j < (Za l a).kids.length → ZK c (Zi l a j) = false)
theorem ZcC {c : Cfg} {n : Nd} {k : Str} (h : (Zv c n k).1 = 1) : ¬ n.level = 0 ∧ n.slot = 0 ∧ ZK c n = true := by
 unfold Zv at h
 split at h
 ·cases h
 ·rename_i h0
  split at h
  ·rename_i h1; exact ⟨h0, h1.1, h1.2⟩
  ·cases h
theorem ZaK {c : Cfg} {l : List Nd} {ss : List Seat} (t : Tree c l ss) {a i : Int} {P : Seat} (s : StepAt c l ss a i P) : ¬ (Zi l a i).slot = 0 ∧ (Zi l a i).level = (Za l a).level - 1 ∧ Za l (Zi l a i).slot = Zi l a i ∧ 0 ≤ (Zi l a i).slot ∧ (Zi l a i).slot < l.length := by
 have hk := t.at s.mem s.h0 (j := i.toNat) (by have := s.hi; omega)
 have hlv := hk.2.2.2
 rw [s.kid, s.n] at hlv
 refine ⟨fun e => ?_, hlv, by rw [s.ksl]; rfl, by rw [s.ksl]; exact s.kin.1, by rw [s.ksl]; exact s.kin.2⟩
 have h1 := t.nodup_s
 rw [t.fix, List.map_cons, List.nodup_cons] at h1
 refine h1.1 (List.mem_map.2 ⟨Zb l P i.toNat, List.mem_flatMap.2 ⟨P, s.mem, ?_⟩, ?_⟩)
 ·rw [(Z8 (t.kids s.mem) s.h0).1]
  exact List.mem_map.2 ⟨i.toNat, List.mem_range.2 (by have := s.hi; omega), rfl⟩
 ·rw [s.kid, e, t.rootn, (YI t.slot ⟨Int.le_refl _, by have := t.pos; omega⟩).1]
theorem Zq5 {c : Cfg} {p k : Nd} {i : Int} (h : ZV c p k i = 3) : (0 < k.level ∧ ZK c k = true) ∨ ¬ 0 < k.level := by
 unfold ZV at h
 split at h
 ·rename_i h1; exact .inl h1
 ·split at h
  ·cases h
  ·split at h
   ·cases h
   ·rename_i h3; exact .inr h3
theorem ZdE {c : Cfg} {p k : Nd} {i : Int} (h : ZV c p k i = 5) : 0 < k.level ∧ ZK c k = false ∧ ¬ 0 < ZO c.leaf c.bud p k i := by
 unfold ZV at h
 split at h
 ·split at h <;> cases h
 ·rename_i h1
  split at h
  ·cases h
  ·rename_i h2
   split at h
   ·rename_i h3
    refine ⟨h3, ?_, h2⟩
    cases h4 : ZK c k
    ·rfl
    ·exact absurd ⟨h3, h4⟩ h1
   ·split at h
    ·split at h <;> cases h
    ·cases h
theorem ZjT {c : Cfg} {k : Str} : ∀ (m : Nat) {l : List Nd} {ss : List Seat} {a n : Int}, Tree c l ss → 0 ≤ a ∧ a < l.length → LowP c l a → (Za l a).level.toNat * 8300 + wtN c (Za l a) ≤ m → ∃ r, Yn c k (m + 1) l a n = some r := by
 intro m
 induction m using Nat.strongRecOn with
 | _ m ih =>
  intro l ss a n t ha hp hm
  rcases Je c (Za l a) k with h | h | ⟨h, h0, _⟩
  ·exact ⟨_, Y4 (by rw [Jb h])⟩
  ·obtain ⟨_, h2, h3⟩ := ZcC h
   rcases hp with hp | ⟨_, hp, _⟩
   ·exact absurd h2 hp
   ·rw [hp] at h3; cases h3
  ·obtain ⟨_, hi1, hi2⟩ := JH t ha h
   obtain ⟨P, s⟩ := Js t ha h0 ⟨hi1, hi2⟩
   have hst := XY h
   have hsl := (YI t.slot ha).1
   obtain ⟨T, hT, _⟩ := J8 t ha k
   have hnx := Zas t ha k
   have hlv : 0 < (Za l a).level := by have := s.kof.1; exact this
   rcases XO c (Za l a) (Zi l a (Zv c (Za l a) k).2) (Zv c (Za l a) k).2 with hd | hd | ⟨hd, hd2⟩ | hd
   ·exact ⟨_, Y4 (by rw [hst, Jr hd])⟩
   ·by_cases h3 : (ZG c l a (Zv c (Za l a) k).2).1 = 0
    ·have e := hst.trans (XZ hd h3)
     obtain ⟨g1, g2, g3⟩ := ZjS h0 h3 hsl
     rw [Y9 (by rw [e]; simp) (by rw [e]; simp)]
     rw [e] at hT hnx ⊢
     dsimp only at hT hnx ⊢
     obtain ⟨m2, rfl⟩ : ∃ m2, m = m2 + 1 := ⟨m - 1, om9⟩
     refine ih m2 om9 hT hnx ?_ (by rw [g2]; omega)
     rcases hp with hp | ⟨q1, q2, q3⟩
     ·left; rw [g1]; rw [hsl] at hp; exact hp
     ·exfalso
      have hk := ZaK t s
      have hf := q3 (Zv c (Za l a) k).2.toNat om9
      rw [show (((Zv c (Za l a) k).2.toNat : Nat) : Int) = (Zv c (Za l a) k).2 by omega] at hf
      rcases Zq5 hd with ⟨_, h5⟩ | h5
      ·rw [hf] at h5; cases h5
      ·omega
    ·exact ⟨_, Y4 (by rw [hst, X0 hd h3])⟩
   ·have e := hst.trans (YP hd)
    obtain ⟨x, y, e2, g1, g2, g3, g4, g5, g6, g7⟩ := ZjR t s hd2
    rw [e2] at e
    rw [Y9 (by rw [e]; simp) (by rw [e]; simp)]
    rw [e] at hT hnx ⊢
    dsimp only at hT hnx ⊢
    obtain ⟨m2, rfl⟩ : ∃ m2, m = m2 + 1 := ⟨m - 1, om9⟩
    refine ih m2 om9 hT hnx ?_ (by rw [g1, g4]; omega)
    rcases hp with hp | ⟨q1, q2, q3⟩
    ·left; rw [g1, g3]; exact hp
    ·right
     rw [g1]
     refine ⟨by rw [g4]; exact q1, (ZjP h0 g4 (by rw [g5])).trans q2, fun j hj => ?_⟩
     rw [g5] at hj
     have ek : Zi (ZP l x y) a j = Za (ZP l x y) ((Za l a).kids.getD j 0) := by
      unfold Zi
      rw [g1, g5, Int.toNat_natCast]
     have ek2 : Zi l a j = Za l ((Za l a).kids.getD j 0) := by unfold Zi; rw [Int.toNat_natCast]
     have h7 := g7 ((Za l a).kids.getD j 0)
     obtain ⟨P2, s2⟩ := Js t ha h0 (i := (j : Int)) ⟨om9, om9⟩
     have hk2 := (ZaK t s2).2.1
     rw [ek, ZjP (n := Zi l a j) (by rw [hk2]; omega) (by rw [ek2]; exact h7.1) (by rw [ek2, h7.2])]
     exact q3 j hj
   ·have e := hst.trans (X1 hd)
    obtain ⟨k1, k2, k3, k4⟩ := ZaK t s
    have h5 := ZdE hd
    rw [Jf (by rw [e])]
    rw [e] at hT hnx ⊢
    dsimp only at hT hnx ⊢
    obtain ⟨m2, rfl⟩ : ∃ m2, m = m2 + 1 := ⟨m - 1, om9⟩
    have hw := ZdD t (a := (Zi l a (Zv c (Za l a) k).2).slot) k4 (by rw [k3]; omega)
    refine ih m2 om9 t k4 (.inl (by rw [k3]; exact k1)) ?_
    rw [k3] at hw ⊢
    omega
theorem Zq6 {c : Cfg} {l : List Nd} {ss : List Seat} (t : Tree c l ss) (h0 : ¬ (Za l 0).level = 0) (h : (ZN c l).1 = 0) : LowP c (ZN c l).2 0 ∧ (Za (ZN c l).2 0).level = (Za l 0).level + 1 := by
 have hp := t.pos
 obtain ⟨P, hP, eP⟩ := t.seat_of (a := 0) ⟨Int.le_refl _, om9⟩
 have hin := t.inner hP (by rw [eP]; exact h0)
 rw [eP] at hin
 have hlv := t.lvl hP
 rw [eP] at hlv
 by_cases hk : (Z0 (Za l 0) l.length ((l.length : Int) + 1)).2.2.2 = true
 ·by_cases hr : c.slots.toNat - l.length < 2
  ·rw [Za4 hk hr] at h; cases h
  ·rw [ZbL hk hr]
   have hc : (Zo (Za l 0) ((l.length : Int) + 1)).2.2.2 = true := by rw [← J7 _ (l.length : Int)]; exact hk
   obtain ⟨x, y, q, hh, e, hv, _⟩ := Zd1 (t.seat hP).1 (y := (l.length : Int) + 1) (by rw [eP]; exact hc)
   rw [eP] at e hv
   rw [ZaI hc, e]
   obtain ⟨_, _, hh2, _, ka, _, kb, _⟩ : True ∧ True ∧ hh < (Za l 0).pivots.length ∧ True ∧ x.kids = (Za l 0).kids.take (hh + 1) ∧ True ∧ y.kids = (Za l 0).kids.drop (hh + 1) ∧ True := by
    obtain ⟨_, _, g1, _, _, g2, _, g3⟩ := hv.inner h0
    exact ⟨trivial, trivial, g1, trivial, g2, trivial, g3, trivial⟩
   have hpl := (YR hin.2.1).2
   have hfan := hin.1.2.2
   obtain ⟨⟨f1, f2⟩, _⟩ := t.cfg
   have e0 : Za (YS l (X9 (Za l 0) q l.length ((l.length : Int) + 1)) (Yk (Za l 0) x l.length) (Yk (Za l 0) y y.slot)) 0 = X9 (Za l 0) q l.length ((l.length : Int) + 1) := by
    have := Zam (l := YS l (X9 (Za l 0) q l.length ((l.length : Int) + 1)) (Yk (Za l 0) x l.length) (Yk (Za l 0) y y.slot)) (k := 0) (by unfold YS; simp)
    refine Eq.trans this ?_
    unfold YS
    rw [List.getElem_append_left (by simp; exact hp), List.getElem_set_self]
   have ek : ∀ (j : Nat) (z : Nd), (YS l (X9 (Za l 0) q l.length ((l.length : Int) + 1)) (Yk (Za l 0) x l.length) (Yk (Za l 0) y y.slot))[l.length + j]? = some z → Za (YS l (X9 (Za l 0) q l.length ((l.length : Int) + 1)) (Yk (Za l 0) x l.length) (Yk (Za l 0) y y.slot)) ((l.length : Int) + j) = z := fun j z hz => by
    obtain ⟨g1, g2⟩ := List.getElem?_eq_some_iff.1 hz
    have := Zam g1
    rw [show (((l.length + j : Nat)) : Int) = (l.length : Int) + j by omega] at this
    rw [this]; exact g2
   have ex : Za (YS l (X9 (Za l 0) q l.length ((l.length : Int) + 1)) (Yk (Za l 0) x l.length) (Yk (Za l 0) y y.slot)) (l.length : Int) = Yk (Za l 0) x l.length := by
    have := ek 0 (Yk (Za l 0) x l.length) (by unfold YS; rw [List.getElem?_append_right (by simp)]; simp)
    simpa using this
   have ey : Za (YS l (X9 (Za l 0) q l.length ((l.length : Int) + 1)) (Yk (Za l 0) x l.length) (Yk (Za l 0) y y.slot)) ((l.length : Int) + 1) = Yk (Za l 0) y y.slot := by
    have := ek 1 (Yk (Za l 0) y y.slot) (by unfold YS; rw [List.getElem?_append_right (by simp)]; simp)
    simpa using this
   refine ⟨.inr ?_, by rw [e0]; rfl⟩
   dsimp only
   rw [e0]
   refine ⟨by show 2 ≤ (Za l 0).level + 1; omega, ?_, fun j hj => ?_⟩
   ·unfold ZK
    rw [if_neg (by show ¬ (Za l 0).level + 1 = 0; omega), decide_eq_false_iff_not]
    show ¬ c.fan ≤ ((2 : Nat) : Int)
    omega
   ·have hj2 : j < 2 := hj
    unfold Zi
    rw [e0]
    have hlx : x.level = (Za l 0).level := hv.la
    have hly : y.level = (Za l 0).level := hv.lb
    have hkx : x.kids.length = hh + 1 := by rw [ka, List.length_take]; omega
    have hky : y.kids.length = (Za l 0).kids.length - (hh + 1) := by rw [kb, List.length_drop]
    rcases (by omega : j = 0 ∨ j = 1) with rfl | rfl
    ·show ZK c (Za _ (l.length : Int)) = false
     rw [ex]
     unfold ZK Yk
     dsimp only
     rw [if_neg (by rw [hlx]; exact h0), decide_eq_false_iff_not]
     omega
    ·show ZK c (Za _ ((l.length : Int) + 1)) = false
     rw [ey]
     unfold ZK Yk
     dsimp only
     rw [if_neg (by rw [hly]; exact h0), decide_eq_false_iff_not]
     omega
 ·rw [Zdw (by simpa using hk)] at h; cases h
theorem Zq7 {c : Cfg} {k : Str} (v : Nat) : ∀ (w : Nat) {l : List Nd} {ss : List Seat} {n : Int}, Tree c l ss → (Za l 0).level.toNat = v → wtN c (Za l 0) ≤ w → 8256 ≤ w + 8256 → ∃ r, Yn c k ((v + 2) * 8300 + w + 1) l 0 n = some r := by
 intro w
 induction w using Nat.strongRecOn with
 | _ w ih =>
  intro l ss n t hv hw hx
  have ha : (0 : Int) ≤ 0 ∧ (0 : Int) < l.length := ⟨Int.le_refl _, by have := t.pos; omega⟩
  obtain ⟨T, hT, _⟩ := J8 t ha k
  have hnx := Zas t ha k
  have hsl := (YI t.slot ha).1
  rcases Je c (Za l 0) k with h | h | ⟨h, h0, _⟩
  ·exact ⟨_, Y4 (by rw [Jb h])⟩
  ·obtain ⟨h0, h2, h3⟩ := ZcC h
   by_cases hl : (ZN c l).1 = 0
   ·have e := Jc h hl
    rw [Y9 (by rw [e]; simp) (by rw [e]; simp)]
    rw [e] at hT hnx ⊢
    dsimp only at hT hnx ⊢
    obtain ⟨g1, g2⟩ := Zq6 t h0 hl
    have hlv : 0 ≤ (Za l 0).level := by
     obtain ⟨P, hP, eP⟩ := t.seat_of ha
     rw [← eP]; exact t.lvl hP
    have hw2 := ZdD hT (a := 0) hnx (by rw [g2]; omega)
    have := ZjT (k := k) ((v + 2) * 8300 + w - 1) (n := n + 1) hT hnx g1 (by rw [g2]; omega)
    rwa [show (v + 2) * 8300 + w - 1 + 1 = (v + 2) * 8300 + w by omega] at this
   ·exact ⟨_, Y4 (by rw [Jd h hl])⟩
  ·obtain ⟨_, hi1, hi2⟩ := JH t ha h
   obtain ⟨P, s⟩ := Js t ha h0 ⟨hi1, hi2⟩
   have hst := XY h
   have hlv : 0 < (Za l 0).level := by have := s.kof.1; exact this
   rcases XO c (Za l 0) (Zi l 0 (Zv c (Za l 0) k).2) (Zv c (Za l 0) k).2 with hd | hd | ⟨hd, hd2⟩ | hd
   ·exact ⟨_, Y4 (by rw [hst, Jr hd])⟩
   ·by_cases h3 : (ZG c l 0 (Zv c (Za l 0) k).2).1 = 0
    ·have e := hst.trans (XZ hd h3)
     obtain ⟨g1, g2, g3⟩ := ZjS h0 h3 hsl
     rw [Y9 (by rw [e]; simp) (by rw [e]; simp)]
     rw [e] at hT hnx ⊢
     dsimp only at hT hnx ⊢
     have := ih (w - 1) om9 (n := n + 1) hT (by rw [g2]; exact hv) om9 om9
     rwa [show (v + 2) * 8300 + (w - 1) + 1 = (v + 2) * 8300 + w by omega] at this
    ·exact ⟨_, Y4 (by rw [hst, X0 hd h3])⟩
   ·have e := hst.trans (YP hd)
    obtain ⟨x, y, e2, g1, g2, g3, g4, g5, g6, g7⟩ := ZjR t s hd2
    rw [e2] at e
    rw [Y9 (by rw [e]; simp) (by rw [e]; simp)]
    rw [e] at hT hnx ⊢
    dsimp only at hT hnx ⊢
    have := ih (w - 1) om9 (n := n + 1) hT (by rw [g1, g4]; exact hv) (by rw [g1]; omega) om9
    rwa [show (v + 2) * 8300 + (w - 1) + 1 = (v + 2) * 8300 + w by omega] at this
   ·have e := hst.trans (X1 hd)
    obtain ⟨k1, k2, k3, k4⟩ := ZaK t s
    have h5 := ZdE hd
    rw [Jf (by rw [e])]
    rw [e] at hT hnx ⊢
    dsimp only at hT hnx ⊢
    have hw := ZdD t (a := (Zi l 0 (Zv c (Za l 0) k).2).slot) k4 (by rw [k3]; omega)
    have := ZjT (k := k) ((v + 2) * 8300 + w - 1) (n := n) t k4 (.inl (by rw [k3]; exact k1)) (by rw [k3] at hw ⊢; omega)
    rwa [show (v + 2) * 8300 + w - 1 + 1 = (v + 2) * 8300 + w by omega] at this
theorem J9 {c : Cfg} {k : Str} : ∀ (m : Nat) {l : List Nd} {a n : Int} {r : Int × Int × List Nd}, Yn c k m l a n = some r → n ≤ r.1
 | 0, _, _, _, _, h => by cases h
 | m + 1, l, a, n, r, h => by
  by_cases h0 : (Zt c l a k).1.1 = 0
  ·rw [Y4 h0] at h; cases h; exact Int.le_refl _
  ·by_cases h5 : (Zt c l a k).1.1 = 5
   ·rw [Jf h5] at h; exact J9 m h
   ·rw [Y9 h0 h5] at h
    have := J9 m h
    omega
theorem Zq8 {P : List Str} {l : List Msg} (hr : ZX P = true) (hR : ∀ m ∈ l, m.R) (h : 0 < l.length) : 0 < (Zd P l (Xx P l).1).length := by
 have h1 := ZqF (P := P) h
 rw [ZfC h]
 have h2 : ∃ m ∈ Zj l, Ze P m.key = YT (wOf P (Zj l)) (P.length + 1) := by
  apply Classical.byContradiction
  intro hn
  have : (Zj l).filter (fun m => decide (Ze P m.key = YT (wOf P (Zj l)) (P.length + 1))) = [] := by
   rw [List.filter_eq_nil_iff]
   intro m hm h3
   exact hn ⟨m, hm, of_decide_eq_true h3⟩
  unfold wOf at h1 this
  rw [this] at h1
  simp [Zx] at h1
 obtain ⟨m, hm, e⟩ := h2
 have hmR := hR m (Zdq hm)
 have hb : YT (wOf P (Zj l)) (P.length + 1) ≤ P.length := by rw [← e]; exact List.length_filter_le _ _
 have hcl : (m.clip (Zf P ((YT (wOf P (Zj l)) (P.length + 1) : Nat) : Int))).2 = true := by
  have hne : ¬ (m.span.meet (Zf P ((YT (wOf P (Zj l)) (P.length + 1) : Nat) : Int))).empty = true := fun h => by
   have := YN.1 h m.key
   rw [ZI, Msg.has_key hmR, Xu hr _ hb, e] at this
   simp at this
  unfold Msg.clip
  rw [if_neg hne]
  split <;> rfl
 dsimp only
 refine List.length_pos_of_mem (a := (m.clip (Zf P ((YT (wOf P (Zj l)) (P.length + 1) : Nat) : Int))).1) (List.mem_filterMap.2 ⟨m, hm, ?_⟩)
 unfold XH
 rw [if_pos ⟨om9, hcl⟩]
theorem Zq9 {c : Cfg} {p k : Nd} {i : Int} (hp : ZK c p = false) (hf : 0 < (Zd p.pivots p.msgs i).length) : ¬ ZV c p k i = 0 := by
 unfold ZV
 split
 ·rw [if_neg (by rw [hp]; simp)]; simp
 ·split
  ·simp
  ·split
   ·simp
   ·first
    | (rw [if_pos hf, if_neg (by rw [hp]; simp)]; simp; done)
    | (rw [if_neg (by rw [hp]; simp)]; simp)
theorem ZjU {c : Cfg} {p k : Nd} {i : Int} (h : ZV c p k i = 3) : (0 < k.level ∧ ZK c k = true) ∨ (¬ 0 < k.level ∧ ¬ 0 < ZO c.leaf c.bud p k i) := by
 unfold ZV at h
 split at h
 ·rename_i h1; exact .inl h1
 ·split at h
  ·cases h
  ·rename_i h2
   split at h
   ·cases h
   ·rename_i h3; exact .inr ⟨h3, h2⟩
theorem ZjV {m : Msg} (h : m.R) : m.size ≤ 36 := by
 have := YZ h
 unfold Msg.size
 split <;> omega
theorem ZfK {c : Cfg} {p k : Nd} {i : Int} (hc : CfgR c) (hk : KidOf p k i) (hR : ∀ m ∈ Zd p.pivots p.msgs i, m.R) (hf : 0 < (Zd p.pivots p.msgs i).length) (h : ¬ 0 < ZO c.leaf c.bud p k i) :
  (k.level = 0 → 2 ≤ k.rows.length) ∧ (¬ k.level = 0 → 0 < k.msgs.length) := by
 obtain ⟨_, ⟨l1, l2⟩, ⟨b1, b2⟩, _⟩ := hc
 rw [Za3 hk] at h
 obtain ⟨m, L, e⟩ : ∃ m L, Zd p.pivots p.msgs i = m :: L := by
  cases hh : Zd p.pivots p.msgs i with
  | nil => rw [hh] at hf; cases hf
  | cons m L => exact ⟨m, L, rfl⟩
 have hmR := hR m (by rw [e]; simp)
 rw [e] at h
 refine ⟨fun h0 => ?_, fun h0 => ?_⟩
 ·rw [Zfo h0] at h
  dsimp only at h
  unfold Yb at h
  split at h
  ·dsimp only at h; omega
  ·rename_i h2
   rw [Zc4 hmR] at h2
   unfold Zbs at h2
   simp only [Bool.or_eq_true, decide_eq_true_eq, not_or] at h2
   omega
 ·rw [Zfp h0 rfl] at h
  dsimp only at h
  unfold Xd at h
  split at h
  ·omega
  ·rename_i h2
   apply Classical.byContradiction
   intro h3
   have h4 : k.msgs = [] := List.eq_nil_of_length_eq_zero om9
   apply h2
   rw [h4]
   have := ZjV hmR
   simp [Yj, Zx]
   omega
theorem ZjW {n : Nd} {y : Int} (h0 : n.level = 0) (h : 2 ≤ n.rows.length) : (Zo n y).2.2.2 = true := by
 rw [JU, Zag h0]
 dsimp only
 rw [Zca om9]
theorem ZfL {n : Nd} {y : Int} (h0 : ¬ n.level = 0) (hr : YC n.pivots n.kids.length = true) (h : 4 ≤ n.kids.length) : (Zo n y).2.2.2 = true := by
 rw [JU, ZaB h0 hr]
 dsimp only
 have := (YR hr).2
 rw [ZgO om9]
theorem Zra {n : Nd} {i : Nat} {k : Str} {v : Int} (h0 : ¬ n.level = 0) (hi : i < n.kids.length) (hk : (Zf n.pivots (i : Int)).has k = true) (hl : ¬ k = (Zf n.pivots (i : Int)).lo) : (Y7 n i k v).2 = true := by
 rw [ZeJ h0]
 rw [Zc6 om9 hk hl]
 simp
theorem ZjX {c : Cfg} {l : List Nd} {ss : List Seat} (t : Tree c l ss) {a i : Int} {P : Seat} (ha : 0 ≤ a ∧ a < l.length) (s : StepAt c l ss a i P) (hf : ZK c (Za l a) = false)
  (h : (0 < (Zi l a i).level ∧ ZK c (Zi l a i) = true) ∨ ((Zi l a i).level = 0 ∧ 2 ≤ (Zi l a i).rows.length)) : (ZG c l a i).1 = 0 ∨ (ZG c l a i).1 = 4 := by
 have hi := s.hi
 have hin : i.toNat < P.n.kids.length := om9
 have hat := t.at s.mem s.h0 hin
 have hkR := t.seat hat.1
 have ec : (Zo (Zi l a i) l.length).2.2.2 = true := by
  rcases h with ⟨h1, h2⟩ | ⟨h1, h2⟩
  ·have h3 : ¬ (Zi l a i).level = 0 := om9
   have h4 := t.inner hat.1 (by rw [s.kid]; exact h3)
   rw [s.kid] at h4
   refine ZfL h3 h4.2.1 ?_
   unfold ZK at h2
   rw [if_neg h3] at h2
   have := of_decide_eq_true h2
   obtain ⟨⟨f1, _⟩, _⟩ := t.cfg
   omega
  ·exact ZjW h1 h2
 unfold ZG
 rw [if_neg om9]
 have h3 : 0 ≤ kdN l a i.toNat ∧ kdN l a i.toNat < l.length := s.kin
 have e5 : (ZS l a i.toNat).2.2.2 = true := ec
 have e6 : (adP l a i.toNat).2 = true := by
  obtain ⟨x, y, q, hh, e, hv, _, _, _, _, _, _, hq⟩ := Zd1 hkR.1 (y := (l.length : Int)) (by rw [s.kid]; exact ec)
  obtain ⟨g1, g2⟩ := t.k_in hat.1 hv hq
  have hks : (Zb l P i.toNat).s = P.s.meet (Zf P.n.pivots ((i.toNat : Nat) : Int)) := rfl
  rw [hks, ZI, Bool.and_eq_true] at g1
  have eq : (ZS l a i.toNat).2.2.1 = q := by
   show (Zo (Zi l a i) l.length).2.2.1 = q
   rw [← s.kid, e]
  show (Y7 (Za l a) i.toNat (ZS l a i.toNat).2.2.1 l.length).2 = true
  rw [eq, ← s.n]
  refine Zra s.h0 hin g1.2 (fun e7 => g2 ?_)
  rw [hks]
  have h8 : ¬ (P.s.meet (Zf P.n.pivots ((i.toNat : Nat) : Int))).empty = true := fun h => by
   have := YN.1 h q
   rw [ZI, g1.1, g1.2] at this
   cases this
  unfold Span.meet at h8 ⊢
  rw [ZjL h8]
  dsimp only
  split
  ·exact e7
  ·rename_i h9
   have h10 := (Yi.1 g1.1).1
   rw [e7] at h10
   rw [e7]
   cases h11 : P.s.lo.lt (Zf P.n.pivots ((i.toNat : Nat) : Int)).lo
   ·exact (Str.lt_total h10 h11)
   ·exact absurd h11 h9
 by_cases h7 : (l.length : Int) < c.slots
 ·rw [Zdy ha (by rw [← s.n]; omega) h3 hf e5 e6 h7]; exact .inl rfl
 ·rw [Zdx ha (by rw [← s.n]; omega) h3 hf e5 e6 h7]; exact .inr rfl
theorem prog {c : Cfg} {k : Str} : ∀ (m : Nat) {l : List Nd} {ss : List Seat} {a n : Int} {r : Int × Int × List Nd}, Tree c l ss → 0 ≤ a ∧ a < l.length → ¬ (Za l a).level = 0 → 0 < (Za l a).msgs.length → ZK c (Za l a) = false → Yn c k m l a n = some r → n < r.1 ∨ r.2.1 = 4
 | 0, _, _, _, _, _, _, _, _, _, _, h => by cases h
 | m + 1, l, ss, a, n, r, t, ha, h0, hm, hf, h => by
  obtain ⟨Q, hQ, eQ⟩ := t.seat_of ha
  have hin := t.inner hQ (by rw [eQ]; exact h0)
  rw [eQ] at hin
  have hmR : ∀ m ∈ (Za l a).msgs, m.R := (MsgsR.iff.1 hin.2.2.1).1
  have hri := (YR hin.2.1).1
  have hfor := Zq8 hri hmR hm
  have hc := ZfE (k := k) h0 (fun e => by rw [hf] at e; cases e.2) (show (Xx (Za l a).pivots (Za l a).msgs).2 = true by rw [ZfC hm])
  have hc1 : (Zv c (Za l a) k).1 = 2 := by rw [hc]
  have hc2 : (Zv c (Za l a) k).2 = (Xx (Za l a).pivots (Za l a).msgs).1 := by rw [hc]
  obtain ⟨_, hi1, hi2⟩ := JH t ha hc1
  obtain ⟨P, s⟩ := Js t ha h0 ⟨hi1, hi2⟩
  have hst := XY hc1
  rw [← hc2] at hfor
  generalize (Zv c (Za l a) k).2 = i at *
  have hforR : ∀ m ∈ Zd (Za l a).pivots (Za l a).msgs i, m.R := Zcz (fun q hq => by
   obtain ⟨j, hj, rfl⟩ := List.getElem_of_mem hq
   exact (hin.2.2.2.2.2.1 j hj).2.1) hmR
  obtain ⟨k1, k2, k3, k4⟩ := ZaK t s
  have hkl : 0 ≤ (Zi l a i).level := by have := s.kof.1; omega
  rcases XO c (Za l a) (Zi l a i) i with hd | hd | ⟨hd, _⟩ | hd
  ·exact absurd hd (Zq9 hf hfor)
  ·have hpe : (ZG c l a i).1 = 0 ∨ (ZG c l a i).1 = 4 := by
    refine ZjX t ha s hf ?_
    rcases ZjU hd with h | ⟨h1, h2⟩
    ·exact .inl h
    ·have h3 : (Zi l a i).level = 0 := om9
     exact .inr ⟨h3, (ZfK t.cfg s.kof hforR hfor h2).1 h3⟩
   rcases hpe with h3 | h3
   ·have e := hst.trans (XZ hd h3)
    rw [Y9 (by rw [e]; simp) (by rw [e]; simp)] at h
    have := J9 m h
    exact .inl om9
   ·have e := hst.trans (X0 hd om9)
    rw [Y4 (by rw [e])] at h
    cases h
    exact .inr (by rw [e]; exact h3)
  ·have e := hst.trans (YP hd)
   rw [Y9 (by rw [e]; simp) (by rw [e]; simp)] at h
   have := J9 m h
   exact .inl om9
  ·have e := hst.trans (X1 hd)
   obtain ⟨d1, d2, d3⟩ := ZdE hd
   rw [Jf (by rw [e])] at h
   rw [e] at h
   dsimp only at h
   exact prog m t k4 (by rw [k3]; omega) (by rw [k3]; exact (ZfK t.cfg s.kof hforR hfor d3).2 om9) (by rw [k3]; exact d2) h
theorem ZjY {c : Cfg} {k : Str} {m : Nat} {l : List Nd} {ss : List Seat} {r : Int × Int × List Nd} (t : Tree c l ss) (hm : 0 < (Za l 0).msgs.length) (h : Yn c k m l 0 0 = some r) : 0 < r.1 ∨ r.2.1 = 4 := by
 have ha : (0 : Int) ≤ 0 ∧ (0 : Int) < l.length := ⟨Int.le_refl _, by have := t.pos; omega⟩
 obtain ⟨Q, hQ, eQ⟩ := t.seat_of ha
 have h0 : ¬ (Za l 0).level = 0 := fun e => by
  have := t.nomsgs hQ (by rw [eQ]; exact e)
  rw [eQ] at this
  rw [this] at hm
  cases hm
 cases hf : ZK c (Za l 0)
 ·exact prog m t ha h0 hm hf h
 ·obtain ⟨m2, rfl⟩ : ∃ m2, m = m2 + 1 := by
   cases m with
   | zero => cases h
   | succ m2 => exact ⟨m2, rfl⟩
  have hsl := (YI t.slot ha).1
  have hc1 : (Zv c (Za l 0) k).1 = 1 := by rw [ZfD h0 hsl hf]
  have hin := t.inner hQ (by rw [eQ]; exact h0)
  rw [eQ] at hin
  have hk4 : 4 ≤ (Za l 0).kids.length := by
   unfold ZK at hf
   rw [if_neg h0] at hf
   have := of_decide_eq_true hf
   obtain ⟨⟨f1, _⟩, _⟩ := t.cfg
   omega
  have hlf : (Z0 (Za l 0) 0 0).2.2.2 = true := by rw [J7]; exact ZfL h0 hin.2.1 hk4
  by_cases hr : c.slots.toNat - l.length < 2
  ·have e := Jd hc1 (show ¬ (ZN c l).1 = 0 by rw [Za4 hlf hr]; simp)
   rw [Y4 (by rw [e])] at h
   cases h
   exact .inr (by rw [e, Za4 hlf hr])
  ·have e := Jc hc1 (show (ZN c l).1 = 0 by rw [ZbL hlf hr])
   rw [Y9 (by rw [e]; simp) (by rw [e]; simp)] at h
   have := J9 m2 h
   exact .inl om9
section
variable {c : Cfg} {l : List Nd} {ss : List Seat}
theorem Zrb (t : Tree c l ss) : ((ss.map fun x => (Zk l x).length).sum) + 1 = ss.length := by
  have h : ss.length = (Zm l 0 :: ss.flatMap (Zk l)).length := congrArg List.length t.fix
  rw [List.length_cons, List.length_flatMap] at h
  omega
theorem ZjZ {f : Seat → Nat} : ∀ {L : List Seat}, (∀ x ∈ L, ¬ x.n.level = 0 → 2 ≤ f x) → 2 * (L.length - (ZC L).length) ≤ (L.map f).sum ∧ (ZC L).length ≤ L.length
  | [], _ => ⟨Nat.le_refl _, Nat.le_refl _⟩
  | x :: L, h => by
    obtain ⟨h1, h2⟩ := ZjZ (f := f) (L := L) fun y hy => h y (List.mem_cons_of_mem _ hy)
    unfold ZC at h1 h2 ⊢
    rw [List.filter_cons, List.map_cons, List.sum_cons, List.length_cons]
    by_cases h0 : x.n.level = 0
    · rw [if_pos (decide_eq_true h0), List.length_cons]
      exact ⟨by omega, by omega⟩
    · rw [if_neg (by simpa using h0)]
      have := h x (by simp) h0
      exact ⟨by omega, by omega⟩
theorem Zrc (t : Tree c l ss) : l.length + 1 ≤ 2 * (ZC ss).length := by
  have h1 := Zrb t
  obtain ⟨h2, h3⟩ := ZjZ (f := fun x => (Zk l x).length) (L := ss) fun x hx h0 => by
    rw [(Z8 (t.kids hx) h0).1]
    show 2 ≤ ((List.range x.n.kids.length).map _).length
    rw [List.length_map, List.length_range]
    exact (t.inner hx h0).1.2.1
  have h4 := t.len
  omega
def YM (ms : List Msg) : Nat := (ms.filter fun m => decide (m.kind = 1 ∨ m.kind = 2)).length
def Yr (c : Cfg) (n : Nd) : Nat := if n.level = 0 then 1 + (n.rows.length - (c.leaf.toNat + 1) / 2) else YM n.msgs
def Xe (c : Cfg) (l : List Nd) : Nat := (l.map (Yr c)).sum
theorem Zaa {n : Nd} (h : n.level = 0) : Yr c n = 1 + (n.rows.length - (c.leaf.toNat + 1) / 2) := if_pos h
theorem Jg {n : Nd} (h : ¬ n.level = 0) : Yr c n = YM n.msgs := if_neg h
theorem Zj0 : ∀ {L : List Seat}, (ZC L).length ≤ (L.map fun x => Yr c x.n).sum
  | [] => Nat.le_refl _
  | x :: L => by
    have ih := Zj0 (L := L)
    unfold ZC at ih ⊢
    rw [List.filter_cons, List.map_cons, List.sum_cons]
    by_cases h0 : x.n.level = 0
    · rw [if_pos (decide_eq_true h0), List.length_cons, Zaa h0]; omega
    · rw [if_neg (by simpa using h0)]; omega
theorem ZfM (t : Tree c l ss) : l.length + 1 ≤ 2 * Xe c l := by
  have h1 := Zrc t
  have h2 := Zj0 (c := c) (L := ss)
  have h3 : (ss.map fun x => Yr c x.n).sum = Xe c l := by
    unfold Xe
    rw [show (ss.map fun x => Yr c x.n) = (ss.map fun x => x.n).map (Yr c) by rw [List.map_map]; rfl]
    exact (t.perm.map _).sum_nat
  omega
end
section
theorem Zab (m : Msg) (ms : List Msg) : YM (m :: ms) = (if m.kind = 1 ∨ m.kind = 2 then 1 else 0) + YM ms := by
  unfold YM
  rw [List.filter_cons]
  by_cases h : m.kind = 1 ∨ m.kind = 2
  · rw [if_pos (decide_eq_true h), if_pos h, List.length_cons]; omega
  · rw [if_neg (by simpa using h), if_neg h]; omega
theorem Za5 (A B : List Msg) : YM (A ++ B) = YM A + YM B := by unfold YM; rw [List.filter_append, List.length_append]
theorem ZfN : YM [] = 0 := rfl
theorem ZfO (m : Msg) (s : Span) (h : (m.clip s).2 = true) : (m.clip s).1.kind = m.kind := by
  unfold Msg.clip at h ⊢
  split at h
  · cases h
  · rename_i h1
    rw [if_neg h1]
    split <;> rfl
theorem Zj1 {m : Msg} (hR : m.R) (hk : m.kind = 1 ∨ m.kind = 2) (s : Span) (h : (m.clip s).2 = true) : s.has m.key = true := by
  cases hs : s.has m.key
  · exfalso
    have he : (m.span.meet s).empty = true := YN.2 fun q => by
      rw [ZI]
      cases hq : m.span.has q
      · rfl
      · have hsp : m.span = ⟨m.key, m.key.next, false⟩ := by unfold Msg.span; rw [if_neg (by omega)]
        rw [hsp, J3 (by have := (YZ hR).1; omega)] at hq
        have e : q = m.key := of_decide_eq_true hq
        rw [e, hs]; rfl
    unfold Msg.clip at h
    rw [if_pos he] at h
    cases h
  · rfl
theorem Zj2 (s : Span) (m : Msg) (ms : List Msg) : Zc s (m :: ms) = (if (m.clip s).2 = true then [(m.clip s).1] else []) ++ Zc s ms := by
  unfold Zc
  rw [List.filterMap_cons]
  split <;> simp_all
theorem Zj3 {s u : Span} (h : ∀ q, s.has q = true → u.has q = false) : ∀ {ms : List Msg}, (∀ m ∈ ms, m.R) → YM (Zc s ms) + YM (Zc u ms) ≤ YM ms
  | [], _ => Nat.le_refl _
  | m :: ms, hR => by
    have ih := Zj3 h (ms := ms) fun x hx => hR x (List.mem_cons_of_mem _ hx)
    have hm := hR m (by simp)
    rw [Zj2, Zj2, Zab, Za5, Za5]
    have one : ∀ v : Span, YM (if (m.clip v).2 = true then [(m.clip v).1] else []) = if (m.clip v).2 = true ∧ (m.kind = 1 ∨ m.kind = 2) then 1 else 0 := fun v => by
      cases hc : (m.clip v).2
      · rfl
      · rw [if_pos rfl, Zab, ZfO m v hc, ZfN]
        by_cases hk : m.kind = 1 ∨ m.kind = 2
        · rw [if_pos hk, if_pos ⟨rfl, hk⟩]
        · rw [if_neg hk, if_neg (fun h => hk h.2)]
    rw [one, one]
    by_cases hk : m.kind = 1 ∨ m.kind = 2
    · rw [if_pos hk]
      by_cases h1 : (m.clip s).2 = true
      · have h2 := h _ (Zj1 hm hk s h1)
        have h3 : ¬ (m.clip u).2 = true := fun h4 => by rw [Zj1 hm hk u h4] at h2; cases h2
        rw [if_pos ⟨h1, hk⟩, if_neg (fun h => h3 h.1)]; omega
      · rw [if_neg (fun h => h1 h.1)]
        split <;> omega
    · rw [if_neg hk, if_neg (fun h => hk h.2), if_neg (fun h => hk h.2)]; omega
end
end Go.Fw
set_option maxHeartbeats 1000000
namespace Go.Fw
open Go Go.RowKit
theorem Zat {f : Nd → Nat} : ∀ {l : List Nd} {i : Nat} (h : i < l.length) (x : Nd), ((l.set i x).map f).sum + f l[i] = (l.map f).sum + f x
  | n :: l, 0, _, x => by simp only [List.set_cons_zero, List.map_cons, List.sum_cons, List.getElem_cons_zero]; omega
  | n :: l, i + 1, h, x => by
    have := Zat (f := f) (l := l) (i := i) (by simpa using h) x
    simp only [List.set_cons_succ, List.map_cons, List.sum_cons, List.getElem_cons_succ]
    omega
theorem Zj4 {rows : List Pair} {m : Msg} {n : Int} (hp : PairsR rows) (hm : m.R) (h : Yg rows m n = true) (hl : (rows.length : Int) ≤ n) : ((takeN rows m).length : Int) ≤ n := by
  have h1 := ZeD n [m] rows hp (fun x hx => by simp at hx; subst hx; exact hm)
  have h2 : (Yb n rows [m]).1 = takeN rows m := by
    show (if Yg rows m n = true then ((Yb n (takeN rows m) []).1, (Yb n (takeN rows m) []).2 + 1) else (rows, 0)).1 = _
    rw [if_pos h]
    cases htk : takeN rows m <;> rfl
  rw [h2] at h1
  omega
def ZfP (m : Msg) : Nat := if m.kind = 1 ∨ m.kind = 2 then 1 else 0
theorem Zrd {rows : List Pair} {m : Msg} (hp : PairsR rows) (hm : m.R) : (takeN rows m).length ≤ rows.length + ZfP m := by
  unfold ZfP
  by_cases hk : m.kind = 1 ∨ m.kind = 2
  · rw [if_pos hk]; exact hp.take_len m
  · rw [if_neg hk]
    have h3 : 3 ≤ m.kind := by
      have h := hm.2
      split at h
      · omega
      · rcases h.2.2 with h | h | h <;> omega
    have := Zj4 (n := rows.length) hp hm (by rw [Zc4 hm]; unfold Zbs; simp [h3]) (Int.le_refl _)
    omega
theorem Zj5 : ∀ {T : List Msg} {rows : List Pair}, PairsR rows → (∀ m ∈ T, m.R) → (Zr rows T).length ≤ rows.length + YM T
  | [], _, _, _ => Nat.le_refl _
  | m :: T, rows, hp, hT => by
    have hm := hT m (by simp)
    have h1 := Zrd hp hm
    have h2 := Zj5 (T := T) (hp.takeM hm.1.2.1 hm.1.2.2.1) fun x hx => hT x (List.mem_cons_of_mem _ hx)
    rw [Zab]
    unfold ZfP at h1
    show (Zr (takeN rows m) T).length ≤ _
    omega
theorem Zj6 {m : Msg} (h : m.kind = 4) : YM [m] = 0 := by rw [Zab, if_neg (by omega)]; rfl
theorem Zj7 (p : Msg → Bool) : ∀ (L : List Msg), YM (L.filter p) + YM (L.filter fun m => !p m) = YM L
  | [] => rfl
  | m :: L => by
    have ih := Zj7 p L
    cases h : p m
    · rw [List.filter_cons_of_neg (by simp [h]), List.filter_cons_of_pos (by simp [h]), Zab, Zab]; omega
    · rw [List.filter_cons_of_pos h, List.filter_cons_of_neg (by simp [h]), Zab, Zab]; omega
theorem Zre {P : List Str} {i : Nat} {l T : List Msg} (h : Moved P i l T) : YM (ZJ P i T l) + YM T ≤ YM l := by
  cases h with
  | none hT => rw [hT, Zff, ZfN]; exact Nat.le_refl _
  | wipe w R hl hk hr hc hT hA =>
    rw [hA, hT, hl, Za5, Zab w R, Zj6 ((ZfO w _ hc).trans hk)]
    have : YM (if (ZD w (Zf P (i : Int))).2 = true then [(ZD w (Zf P (i : Int))).1] else []) = 0 := by
      split
      · rename_i h
        unfold ZD at h ⊢
        split at h
        · cases h
        · rename_i h2
          rw [if_neg h2]
          exact Zj6 ((ZfO w _ h).trans hk)
      · rfl
    omega
  | points F R hl hF hT hA =>
    rw [hA, hT, hl, Za5, Za5]
    have := Zj7 (fun m => decide (Ze P m.key = i)) F
    omega
section
variable {c : Cfg} {l : List Nd} {ss : List Seat}
theorem Zrf (t : Tree c l ss) {a i : Int} {P : Seat} (s : StepAt c l ss a i P) (h4 : 0 < ZO c.leaf c.bud (Za l a) (Zi l a i) i) :
    Xe c (ZP l (ZU c.leaf c.bud (Za l a) (Zi l a i) i).1 (ZU c.leaf c.bud (Za l a) (Zi l a i) i).2.1) ≤ Xe c l := by
  obtain ⟨T, p⟩ := s.pour t h4
  have hmv := Zre p.mv
  have hTR : ∀ m ∈ T, m.R := fun m hm => by
    obtain ⟨n, _, _, e⟩ := p.po.take
    have hm2 : m ∈ Zd P.n.pivots P.n.msgs (i.toNat : Int) := by rw [e] at hm; exact List.mem_of_mem_take hm
    exact Zcz (fun q hq => by
      obtain ⟨j, hj, rfl⟩ := List.getElem_of_mem hq
      exact (p.pin.2.2.2.2.2.1 j hj).2.1) ((MsgsR.iff.1 p.pin.2.2.1).1) m hm2
  have hrows := t.rows p.km.1
  generalize (ZU c.leaf c.bud (Za l a) (Zi l a i) i).1 = x at *
  generalize (ZU c.leaf c.bud (Za l a) (Zi l a i) i).2.1 = y at *
  have hx : 0 ≤ x.slot ∧ x.slot < l.length := by rw [p.al.1]; exact p.sin p.mem
  have hy : 0 ≤ y.slot ∧ y.slot < l.length := by rw [p.bl.1]; exact p.sin p.km.1
  have hne : x.slot.toNat ≠ y.slot.toNat := by
    have := p.ksl
    rw [← p.al.1, ← p.bl.1] at this
    omega
  have hxl : x.slot.toNat < l.length := by omega
  have hyl : y.slot.toNat < (l.set x.slot.toNat x).length := by rw [List.length_set]; omega
  have e1 := Zat (f := Yr c) hxl x
  have e2 := Zat (f := Yr c) hyl y
  have gx : l[x.slot.toNat] = P.n := by
    have h := (t.nd p.mem).2.1
    rw [Ja (p.sin p.mem)] at h
    have h2 := p.al.1
    simp only [h2]
    exact h.symm
  have gy : (l.set x.slot.toNat x)[y.slot.toNat] = (Zb l P i.toNat).n := by
    rw [List.getElem_set_ne hne]
    have h := (t.nd p.km.1).2.1
    rw [Ja (p.sin p.km.1)] at h
    have h2 := p.bl.1
    simp only [h2]
    exact h.symm
  rw [gx, Jg p.h0, Jg (by rw [p.al.2.1]; exact p.h0), p.al.2.2.2.2.2.2.2.2.2] at e1
  rw [gy] at e2
  have hv : Yr c y ≤ Yr c (Zb l P i.toNat).n + YM T := by
    by_cases h0 : (Zb l P i.toNat).n.level = 0
    · rw [Zaa h0, Zaa (by rw [p.bl.2.1]; exact h0), (p.po.leaf h0).2.1]
      have := Zj5 hrows hTR
      omega
    · rw [Jg h0, Jg (by rw [p.bl.2.1]; exact h0), (p.po.inner h0).2.1, Za5]
      exact Nat.le_refl _
  unfold Xe ZP
  omega
theorem Zj8 (t : Tree c l ss) (h : (Za l 0).level = 0 → c.leaf ≤ ((Za l 0).rows.length : Int)) : Xe c (ZN c l).2 ≤ Xe c l := by
  have hp := t.pos
  unfold ZN
  split
  · exact Nat.le_refl _
  · split
    · exact Nat.le_refl _
    · rename_i h1 h2
      have hc : (Z0 (Za l 0) l.length ((l.length : Int) + 1)).2.2.2 = true := by simpa using h1
      rw [J7] at hc
      have hh : (Z9 (Za l 0)).2.2.2 = true := by rw [← JU]; exact hc
      rw [ZaI hc, Jn hh]
      have e0 : Za l 0 = l[0] := Ja ⟨Int.le_refl _, by omega⟩
      have hR := (t.seat t.root).1
      rw [t.rootn] at hR
      dsimp only
      unfold Xe YS
      have key : ∀ r a b : Nd, Yr c r + Yr c a + Yr c b ≤ Yr c (Za l 0) → (((l.set 0 r) ++ [a, b]).map (Yr c)).sum ≤ (l.map (Yr c)).sum := fun r a b hk => by
        have e1 := Zat (f := Yr c) hp r
        rw [← e0] at e1
        rw [List.map_append, List.sum_append]
        simp only [List.map_cons, List.map_nil, List.sum_cons, List.sum_nil]
        omega
      apply key
      have hlv := hR.1.2.1
      have er : ∀ k x y, Yr c (X9 (Za l 0) k x y) = if (Za l 0).level = 0 then 0 else YM (Za l 0).msgs := fun k x y => by
        rw [Jg (show ¬ (Za l 0).level + 1 = 0 by omega)]
        show YM (if _ then _ else _) = _
        split <;> rfl
      rw [er]
      by_cases h0 : (Za l 0).level = 0
      · rw [if_pos h0, Zaa h0, Zag h0]
        have hL := hR.2.2.2
        rw [if_pos h0] at hL
        have h9 := h h0
        have hle := hL.2.1
        obtain ⟨_, ⟨f1, f2⟩, _⟩ := t.cfg
        have hA : ∀ z s, z.level = 0 → z.rows.length ≤ (c.leaf.toNat + 1) / 2 → Yr c (Yk (Za l 0) z s) ≤ 1 := fun z s e1 e2 => by
          refine Nat.le_trans (Nat.le_of_eq (Zaa (show (Yk (Za l 0) z s).level = 0 from e1))) ?_
          show 1 + (z.rows.length - _) ≤ 1
          omega
        have hr := Zca (l := (Za l 0).rows) (by omega)
        have hfin : 0 + 1 + 1 ≤ 1 + ((Za l 0).rows.length - (c.leaf.toNat + 1) / 2) := by omega
        refine Nat.le_trans (Nat.add_le_add (Nat.add_le_add_left (hA _ _ ?_ ?_) _) (hA _ _ ?_ ?_)) hfin
        · exact h0
        · show (XC (Za l 0).rows).1.length ≤ _
          rw [hr, List.length_take]; omega
        · exact h0
        · show (XC (Za l 0).rows).2.1.length ≤ _
          rw [hr, List.length_drop]; omega
      · rw [if_neg h0, Jg h0]
        have hz : ∀ z s, z.level = (Za l 0).level → Yr c (Yk (Za l 0) z s) = 0 := fun z s e => by
          rw [Jg (show ¬ (Yk _ z _).level = 0 by show ¬ z.level = 0; rw [e]; exact h0)]; rfl
        have hlev : (Z9 (Za l 0)).1.level = (Za l 0).level ∧ (Z9 (Za l 0)).2.1.level = (Za l 0).level := by
          unfold Z9
          rw [if_neg h0]
          split <;> exact ⟨rfl, rfl⟩
        refine Nat.le_trans (Nat.add_le_add (Nat.add_le_add_left (Nat.le_of_eq (hz _ _ ?_)) _) (Nat.le_of_eq (hz _ _ ?_))) (Nat.le_refl _)
        · exact hlev.1
        · exact hlev.2
theorem Zrg {k : Str} : ∀ q, (⟨Str.nil, k, false⟩ : Span).has q = true → (⟨k, Str.nil, true⟩ : Span).has q = false := fun q h => by
  have h1 := (Yi.1 h).2
  rcases h1 with h1 | h1
  · cases h1
  · cases h2 : (⟨k, Str.nil, true⟩ : Span).has q
    · rfl
    · have h3 := (Yi.1 h2).1
      dsimp only at h1 h3
      rw [h1] at h3; cases h3
theorem Zrh (t : Tree c l ss) {p i : Int} (h : (Zi l p i).level = 0 → c.leaf ≤ ((Zi l p i).rows.length : Int)) : Xe c (ZG c l p i).2 ≤ Xe c l := by
  have hpos := t.pos
  unfold ZG
  split
  · exact Nat.le_refl _
  · unfold Zi at h
    generalize i.toNat = j at h ⊢
    unfold Xm
    split
    · exact Nat.le_refl _
    · rename_i h1
      split
      · exact Nat.le_refl _
      · split
        · exact Nat.le_refl _
        · rename_i h3
          split
          · exact Nat.le_refl _
          · rename_i h4
            have h3 : (ZS l p j).2.2.2 = true ∧ (adP l p j).2 = true := by
              constructor
              · cases h5 : (ZS l p j).2.2.2
                · exact absurd (.inl h5) h3
                · rfl
              · cases h5 : (adP l p j).2
                · exact absurd (.inr h5) h3
                · rfl
            obtain ⟨e3, hj⟩ := ZfJ (n := Za l p) h3.2
            have hin : ¬ (¬ (0 ≤ p ∧ p < l.length) ∨ (Za l p).kids.length ≤ j ∨ ¬ (0 ≤ kdN l p j ∧ kdN l p j < l.length)) := h1
            have hp2 : 0 ≤ p ∧ p < l.length := Classical.byContradiction fun e => hin (.inl e)
            have hk2 : 0 ≤ kdN l p j ∧ kdN l p j < l.length := Classical.byContradiction fun e => hin (.inr (.inr e))
            have hcs := (Zfy h3.1).1
            obtain ⟨hks, hkm⟩ := YI t.slot hk2
            obtain ⟨P, hP, eP⟩ := t.seat_of hp2
            have h0 : ¬ P.n.level = 0 := fun h0 => by have := (t.leaf hP h0).1; rw [eP] at this; omega
            obtain ⟨K, hK, eK⟩ := t.seat_of hk2
            have hjP : j < P.n.kids.length := by rw [eP]; exact hj
            have hat := t.at hP h0 hjP
            have ek : (Zb l P j).n = Za l (kdN l p j) := by
              rw [hat.2.2.1]
              unfold kdN
              rw [← eP, List.getD_eq_getElem?_getD, List.getElem?_eq_getElem hjP]; rfl
            have hne : kdN l p j ≠ p := fun e => by
              have := hat.2.2.2
              rw [ek, eP, e] at this
              omega
            have hcut : (Z9 (Za l (kdN l p j))).2.2.2 = true := by rw [← JU _ (l.length : Int)]; exact h3.1
            have hA : Yr c (ZS l p j).1 + Yr c (ZS l p j).2.1 ≤ Yr c (Za l (kdN l p j)) := by
              unfold ZS
              rw [Jn hcut]
              have hR := (t.seat hK).1
              rw [eK] at hR
              have hms := (t.msgs hK).2.1
              rw [eK] at hms
              by_cases hl0 : (Za l (kdN l p j)).level = 0
              · have hL := hR.2.2.2
                rw [if_pos hl0] at hL
                have h9 := h hl0
                have hle := hL.2.1
                obtain ⟨_, ⟨f1, f2⟩, _⟩ := t.cfg
                have h9 : c.leaf ≤ ((Za l (kdN l p j)).rows.length : Int) := h9
                rw [Zag hl0, Zaa hl0]
                have hA : ∀ z : Nd, z.level = 0 → z.rows.length ≤ (c.leaf.toNat + 1) / 2 → Yr c z ≤ 1 := fun z e1 e2 => by rw [Zaa e1]; omega
                have hr := Zca (l := (Za l (kdN l p j)).rows) (by omega)
                have hfin : 1 + 1 ≤ 1 + ((Za l (kdN l p j)).rows.length - (c.leaf.toNat + 1) / 2) := by omega
                refine Nat.le_trans (Nat.add_le_add (hA _ ?_ ?_) (hA _ ?_ ?_)) hfin
                · exact hl0
                · show (XC (Za l (kdN l p j)).rows).1.length ≤ _
                  rw [hr, List.length_take]; omega
                · exact hl0
                · show (XC (Za l (kdN l p j)).rows).2.1.length ≤ _
                  rw [hr, List.length_drop]; omega
              · cases hr : YC (Za l (kdN l p j)).pivots (Za l (kdN l p j)).kids.length
                · rw [Zbn hl0 hr] at hcut; cases hcut
                · rw [ZaB hl0 hr, Jg hl0]
                  exact Nat.le_trans (Nat.add_le_add (Nat.le_of_eq (Jg hl0)) (Nat.le_of_eq (Jg hl0))) (Zj3 Zrg hms)
            have hB : Yr c (adP l p j).1 = Yr c (Za l p) := by
              show Yr c (Y7 (Za l p) j _ _).1 = _
              rw [e3]
              rw [eP] at h0
              exact (Jg (show ¬ (Y6 (Za l p) j _ _).level = 0 from h0)).trans (Jg h0).symm
            have hkl : (ZS l p j).1.slot.toNat < l.length := by rw [hcs, hks]; omega
            have e1 := Zat (f := Yr c) hkl (ZS l p j).1
            have hpl : p.toNat < (l.set (ZS l p j).1.slot.toNat (ZS l p j).1).length := by rw [List.length_set]; omega
            have e2 := Zat (f := Yr c) hpl (adP l p j).1
            have g1 : l[(ZS l p j).1.slot.toNat] = Za l (kdN l p j) := by
              rw [Ja hk2]
              have h2 := hcs.trans hks
              simp only [h2]
            have g2 : (l.set (ZS l p j).1.slot.toNat (ZS l p j).1)[p.toNat] = Za l p := by
              rw [List.getElem_set_ne (by rw [hcs, hks]; omega), Ja hp2]
            rw [g1] at e1
            rw [g2, hB] at e2
            unfold Xe JG
            rw [List.map_append, List.sum_append]
            simp only [List.map_cons, List.map_nil, List.sum_cons, List.sum_nil]
            omega
theorem Zri {p k : Nd} {i : Int} (hk : KidOf p k i) (hR : ∀ m ∈ Zd p.pivots p.msgs i, m.R) (hf : 0 < (Zd p.pivots p.msgs i).length) (h : ¬ 0 < ZO c.leaf c.bud p k i) (h0 : k.level = 0) : c.leaf ≤ (k.rows.length : Int) := by
  rw [Za3 hk] at h
  obtain ⟨m, L, e⟩ : ∃ m L, Zd p.pivots p.msgs i = m :: L := by
    cases hh : Zd p.pivots p.msgs i with
    | nil => rw [hh] at hf; cases hf
    | cons m L => exact ⟨m, L, rfl⟩
  have hmR := hR m (by rw [e]; simp)
  rw [e, Zfo h0] at h
  dsimp only at h
  unfold Yb at h
  split at h
  · dsimp only at h; omega
  · rename_i h2
    rw [Zc4 hmR] at h2
    unfold Zbs at h2
    simp only [Bool.or_eq_true, decide_eq_true_eq, not_or] at h2
    omega
theorem Zrj {p k : Nd} {i : Int} (h : ZV c p k i = 3) : 0 < k.level ∨ (0 < (Zd p.pivots p.msgs i).length ∧ ¬ 0 < ZO c.leaf c.bud p k i) := by
  unfold ZV at h
  split at h
  · rename_i h1; exact .inl h1.1
  · split at h
    · cases h
    · rename_i h2
      split at h
      · cases h
      · split at h
        · rename_i h4; exact .inr ⟨h4, h2⟩
        · cases h
theorem Zrk (t : Tree c l ss) {a : Int} (ha : 0 ≤ a ∧ a < l.length) (k : Str) : Xe c (Zt c l a k).2 ≤ Xe c l := by
  rcases Je c (Za l a) k with h1 | h1 | ⟨h1, _⟩
  · rw [Jb h1]; exact Nat.le_refl _
  · obtain ⟨g1, g2, _⟩ := ZcC h1
    have hs := (YI t.slot ha).1
    have e0 : a = 0 := by omega
    subst e0
    have hl := Zj8 t (fun h => absurd h g1)
    by_cases h3 : (ZN c l).1 = 0
    · rw [Jc h1 h3]; exact hl
    · rw [Jd h1 h3]; exact hl
  · obtain ⟨h0, hi⟩ := JH t ha h1
    obtain ⟨P, s⟩ := Js t ha h0 hi
    rw [XY h1]
    generalize (Zv c (Za l a) k).2 = i at *
    rcases XO c (Za l a) (Zi l a i) i with hd | hd | ⟨hd, hd2⟩ | hd
    · rw [Jr hd]; exact Nat.le_refl _
    · have hin := t.inner s.mem s.h0
      rw [s.n] at hin
      have hl := Zrh t (p := a) (i := i) fun h9 => by
        rcases Zrj hd with h | ⟨h5, h6⟩
        · omega
        · exact Zri s.kof (Zcz (fun q hq => by
            obtain ⟨j, hj, rfl⟩ := List.getElem_of_mem hq
            exact (hin.2.2.2.2.2.1 j hj).2.1) ((MsgsR.iff.1 hin.2.2.1).1)) h5 h6 h9
      by_cases h3 : (ZG c l a i).1 = 0
      · rw [XZ hd h3]; exact hl
      · rw [X0 hd h3]; exact hl
    · rw [YP hd]; exact Zrf t s hd2
    · rw [X1 hd]; exact Nat.le_refl _
theorem ZfQ {k : Str} : ∀ (m : Nat) {l : List Nd} {ss : List Seat} {a n : Int} {r : Int × Int × List Nd}, Tree c l ss → 0 ≤ a ∧ a < l.length → Yn c k m l a n = some r → Xe c r.2.2 ≤ Xe c l
  | 0, _, _, _, _, _, _, _, h => by cases h
  | m + 1, l, ss, a, n, r, t, ha, h => by
    obtain ⟨T, hT, _⟩ := J8 t ha k
    have hnx := Zas t ha k
    have hq2 := Zrk t ha k
    by_cases h1 : (Zt c l a k).1.1 = 0
    · rw [Y4 h1] at h
      cases h
      exact hq2
    · by_cases h2 : (Zt c l a k).1.1 = 5
      · rw [Jf h2] at h; exact Nat.le_trans (ZfQ m hT hnx h) hq2
      · rw [Y9 h1 h2] at h; exact Nat.le_trans (ZfQ m hT hnx h) hq2
end
def SeenB (S : Int) (l : List Nd) : Prop := ∀ n ∈ l, n.seen ≤ S
structure Grown (c : Cfg) (k : Int) (l : List Nd) : Prop where
  all : SeenB (Za l 0).seen l
  le : (Za l 0).seen ≤ k
  pos : 0 ≤ (Za l 0).seen
  val : (Xe c l : Int) ≤ 1 + k
section
variable {c : Cfg} {l : List Nd} {ss : List Seat}
theorem Tree.one_leaf (t : Tree c l ss) (h : (Za l 0).level = 0) : l = [Za l 0] := by
  have h0 : (Zm l 0).n.level = 0 := by rw [t.rootn]; exact h
  have h1 : ∀ x ∈ ss, x = Zm l 0 := t.ind rfl fun x hx hl e => absurd (by rw [e]; exact h0) hl
  have h2 : ss.length = 1 := by
    have h3 := t.nodup_s
    have h4 := t.fix
    cases hs : ss with
    | nil => rw [hs] at h4; cases h4
    | cons x L =>
      cases hL : L with
      | nil => rfl
      | cons y L2 =>
        exfalso
        rw [hs, hL] at h3 h1
        have e1 := h1 x (by simp)
        have e2 := h1 y (by simp)
        rw [e1, e2] at h3
        simp at h3
  have h3 : l.length = 1 := by rw [← t.len, h2]
  match l, h3 with
  | [n], _ => rfl
def JI (n : Nd) (m : Msg) : Nd := { n with rows := takeN n.rows m, seen := m.stamp }
theorem Zrl (t : Tree c l ss) (h : (Za l 0).level = 0) {m : Msg} (hm : m.R) (hf : Yg (Za l 0).rows m c.leaf = true) (hle : m.stamp ≤ 1099511627776) :
    (∃ T, Tree c (Z6 l (JI (Za l 0) m)) T) ∧ Zh (Z6 l (JI (Za l 0) m)) = takeN (Zh l) m := by
  have e := t.one_leaf h
  have hS := t.seat t.root
  have hg := t.rootn
  have hsl := YI t.slot ⟨Int.le_refl _, by have := t.pos; omega⟩
  have hR := hS.1
  rw [hg] at hR
  have htop : (Za l 0).top = true := by have := hS.2.1.1.1; rw [hg] at this; exact this
  have hseen : (Za l 0).seen ≤ 1099511627776 := by
    obtain ⟨j, hj, e2⟩ := List.getElem_of_mem hsl.2
    rw [← e2]; exact (t.slot j hj).2
  generalize Za l 0 = n at *
  obtain ⟨⟨r1, r2, r3⟩, r4, r5, r6⟩ := hR
  rw [if_pos h] at r6
  obtain ⟨f1, f2, f3, f4⟩ := r6
  have e2 : Z6 l (JI n m) = [JI n m] := by rw [e]; rfl
  have hst := hm.1.1
  have hR2 : (JI n m).R c.fan c.leaf c.bud := by
    refine ⟨⟨r1, r2, by show 0 ≤ m.stamp; omega⟩, r4, r5, ?_⟩
    rw [if_pos (show (JI n m).level = 0 from h)]
    refine ⟨f1, Zj4 f3 hm hf f2, f3.takeM hm.1.2.1 hm.1.2.2.1, fun i hi => ?_⟩
    show (n.top || _) = true
    rw [htop]; rfl
  rw [e2]
  refine ⟨⟨_, ZiG t.cfg h hsl.1 hle hR2 htop (Zbe t.cfg hR2)⟩, ?_⟩
  rw [Zfb (show (JI n m).level = 0 from h) hsl.1 hle, e, Zfb h hsl.1 hseen]; rfl

def Zu (c : Cfg) (l : List Nd) (o : Opr) : Int × Int × List Nd :=
  if (Za l 0).level = 0 then (if Yg (Za l 0).rows (o.msg ((Za l 0).seen + 1)) c.leaf = true then ((Za l 0).seen + 1, 0, Z6 l (JI (Za l 0) (o.msg ((Za l 0).seen + 1)))) else (0, 4, l))
  else if Yj c.bud (Za l 0).msgs (o.msg ((Za l 0).seen + 1)) = true then ((Za l 0).seen + 1, 0, Z6 l (Yd (Za l 0) (o.msg ((Za l 0).seen + 1)))) else (0, 4, l)
theorem ZbO (h : (Za l 0).level = 0) {o : Opr} (h2 : Yg (Za l 0).rows (o.msg ((Za l 0).seen + 1)) c.leaf = true) : Zu c l o = ((Za l 0).seen + 1, 0, Z6 l (JI (Za l 0) (o.msg ((Za l 0).seen + 1)))) := by unfold Zu; rw [if_pos h, if_pos h2]
theorem Za6 (h : (Za l 0).level = 0) {o : Opr} (h2 : Yg (Za l 0).rows (o.msg ((Za l 0).seen + 1)) c.leaf = false) : Zu c l o = (0, 4, l) := by unfold Zu; rw [if_pos h, if_neg (by simp [h2])]
theorem ZbP (h : ¬ (Za l 0).level = 0) {o : Opr} (h2 : Yj c.bud (Za l 0).msgs (o.msg ((Za l 0).seen + 1)) = true) : Zu c l o = ((Za l 0).seen + 1, 0, Z6 l (Yd (Za l 0) (o.msg ((Za l 0).seen + 1)))) := by unfold Zu; rw [if_neg h, if_pos h2]
theorem Za7 (h : ¬ (Za l 0).level = 0) {o : Opr} (h2 : Yj c.bud (Za l 0).msgs (o.msg ((Za l 0).seen + 1)) = false) : Zu c l o = (0, 4, l) := by unfold Zu; rw [if_neg h, if_neg (by simp [h2])]
theorem ZfR {o : Opr} (h : o.R) (h4 : o.kind ≤ 4) {s : Int} (hs : 1 ≤ s) : (o.msg s).R := by
  obtain ⟨⟨h1, h2, h3, h5, h6⟩, h7, _, _, h8⟩ := h
  refine ⟨⟨hs, h3, h6, h5⟩, ?_⟩
  show if o.kind = 4 then _ else _
  split
  · rename_i h9
    rw [if_pos (.inl h9)] at h8
    refine ⟨h7 (by omega), h8.2, ?_⟩
    have : (o.msg s).span = o.span := by
      show (if o.kind = 4 then _ else _) = _
      unfold Opr.span
      rw [if_pos h9, if_pos (.inl h9)]; rfl
    rw [this]; exact h8.1
  · rename_i h9
    rw [if_neg (by omega)] at h8
    refine ⟨h8.1, h8.2, ?_⟩
    show o.kind = 1 ∨ o.kind = 2 ∨ (o.kind = 3 ∧ o.val = Str.nil)
    rcases (by omega : o.kind = 1 ∨ o.kind = 2 ∨ o.kind = 3) with h | h | h
    · exact .inl h
    · exact .inr (.inl h)
    · exact .inr (.inr ⟨h, h7 (by omega)⟩)
theorem ZfS {r : Nd} (hp : 0 < l.length) : Za (Z6 l r) 0 = r := by
  rw [Ja ⟨Int.le_refl _, by unfold Z6; rw [List.length_set]; omega⟩]
  unfold Z6
  simp
theorem Zrm {r n : Nd} (h : n ∈ Z6 l r) : n ∈ l ∨ n = r := List.mem_or_eq_of_mem_set h
theorem Zrn (t : Tree c l ss) {o : Opr} (ho : o.R) (h4 : o.kind ≤ 4) {k : Int} (hg : Grown c k l) (hk : k < 1099511627776) (h : (Zu c l o).2.1 = 0) :
    (∃ T, Tree c (Zu c l o).2.2 T) ∧ Zh (Zu c l o).2.2 = takeN (Zh l) (o.msg 1) ∧ Grown c (k + 1) (Zu c l o).2.2 ∧ (Zu c l o).2.2.length = l.length ∧ (Zu c l o).1 = (Za l 0).seen + 1 := by
  have hp := hg.pos
  have hl := hg.le
  have hpos := t.pos
  have hmR := ZfR ho h4 (s := (Za l 0).seen + 1) (by omega)
  have grown : ∀ r : Nd, r.seen = (Za l 0).seen + 1 → Yr c r ≤ Yr c (Za l 0) + 1 → Grown c (k + 1) (Z6 l r) := fun r hr hv => by
    refine ⟨fun n hn => ?_, ?_, ?_, ?_⟩
    · rw [ZfS hpos, hr]
      rcases Zrm hn with hn | rfl
      · have := hg.all n hn; omega
      · omega
    · rw [ZfS hpos, hr]; omega
    · rw [ZfS hpos, hr]; omega
    · have h1 := Zat (f := Yr c) hpos r
      have h2 := hg.val
      have e0 : Za l 0 = l[0] := Ja ⟨Int.le_refl _, by omega⟩
      rw [← e0] at h1
      unfold Xe at h2 ⊢
      unfold Z6
      omega
  by_cases h0 : (Za l 0).level = 0
  · cases hf : Yg (Za l 0).rows (o.msg ((Za l 0).seen + 1)) c.leaf
    · rw [Za6 h0 hf] at h; cases h
    · rw [ZbO h0 hf]
      obtain ⟨h1, h2⟩ := Zrl t h0 hmR hf (by show (Za l 0).seen + 1 ≤ _; omega)
      have hrows := t.rows t.root
      rw [t.rootn] at hrows
      have h3 := hrows.take_len (o.msg ((Za l 0).seen + 1))
      refine ⟨h1, h2, grown _ rfl ?_, by show (Z6 l _).length = _; unfold Z6; rw [List.length_set], rfl⟩
      rw [Zaa h0, Zaa (show (JI _ _).level = 0 from h0)]
      show 1 + ((takeN _ _).length - _) ≤ _
      omega
  · cases hf : Yj c.bud (Za l 0).msgs (o.msg ((Za l 0).seen + 1))
    · rw [Za7 h0 hf] at h; cases h
    · rw [ZbP h0 hf]
      unfold Yj at hf
      rw [Bool.and_eq_true] at hf
      have p : InjOf c l ss (o.msg ((Za l 0).seen + 1)) := ⟨t, h0, hmR, rfl, by show (Za l 0).seen + 1 ≤ _; omega, hg.all, of_decide_eq_true hf.1⟩
      refine ⟨⟨_, p.tree⟩, p.map, grown _ rfl ?_, by show (Z6 l _).length = _; unfold Z6; rw [List.length_set], rfl⟩
      rw [Jg h0, Jg (show ¬ (Yd _ _).level = 0 from h0)]
      show YM (_ ++ [_]) ≤ _
      rw [Za5, Zab, ZfN]
      split <;> omega
theorem Zro (t : Tree c l ss) {o : Opr} (ho : o.R) (h4 : o.kind ≤ 4) {k : Int} (hg : Grown c k l) (h : ¬ (Zu c l o).2.1 = 0) :
    Zu c l o = (0, 4, l) ∧ ((Za l 0).level = 0 → c.leaf ≤ ((Za l 0).rows.length : Int)) ∧ (¬ (Za l 0).level = 0 → 0 < (Za l 0).msgs.length) := by
  have hmR := ZfR ho h4 (s := (Za l 0).seen + 1) (by have := hg.pos; omega)
  obtain ⟨_, ⟨f1, _⟩, ⟨b1, _⟩, _⟩ := t.cfg
  by_cases h0 : (Za l 0).level = 0
  · cases hf : Yg (Za l 0).rows (o.msg ((Za l 0).seen + 1)) c.leaf
    · refine ⟨Za6 h0 hf, fun _ => ?_, fun h => absurd h0 h⟩
      unfold Yg ZaZ at hf
      simp only [Bool.or_eq_false_iff, decide_eq_false_iff_not] at hf
      omega
    · rw [ZbO h0 hf] at h; exact absurd rfl h
  · cases hf : Yj c.bud (Za l 0).msgs (o.msg ((Za l 0).seen + 1))
    · refine ⟨Za7 h0 hf, fun h => absurd h h0, fun _ => ?_⟩
      apply Classical.byContradiction
      intro hn
      have e : (Za l 0).msgs = [] := List.eq_nil_of_length_eq_zero (by omega)
      rw [e] at hf
      have := ZjV hmR
      unfold Yj at hf
      simp [Zx] at hf
      omega
    · rw [ZbP h0 hf] at h; exact absurd rfl h
def ZdF (l : List Nd) (o : Opr) : Nd := if (Za l 0).level = 0 then JI (Za l 0) (o.msg ((Za l 0).seen + 1)) else Yd (Za l 0) (o.msg ((Za l 0).seen + 1))
theorem Zj9 (h : (Za l 0).level = 0) (o : Opr) : ZdF l o = JI (Za l 0) (o.msg ((Za l 0).seen + 1)) := if_pos h
theorem Zka (h : ¬ (Za l 0).level = 0) (o : Opr) : ZdF l o = Yd (Za l 0) (o.msg ((Za l 0).seen + 1)) := if_neg h
theorem Zkb {o : Opr} (h : (Zu c l o).2.1 = 0) : (Zu c l o).2.2 = l.set 0 (ZdF l o) ∧ (Zu c l o).1 = (Za l 0).seen + 1 := by
  by_cases h0 : (Za l 0).level = 0
  · rw [Zj9 h0]
    cases hf : Yg (Za l 0).rows (o.msg ((Za l 0).seen + 1)) c.leaf
    · rw [Za6 h0 hf] at h; cases h
    · rw [ZbO h0 hf]; exact ⟨rfl, rfl⟩
  · rw [Zka h0]
    cases hf : Yj c.bud (Za l 0).msgs (o.msg ((Za l 0).seen + 1))
    · rw [Za7 h0 hf] at h; cases h
    · rw [ZbP h0 hf]; exact ⟨rfl, rfl⟩
theorem ZfT {o : Opr} (h : ¬ (Zu c l o).2.1 = 0) : Zu c l o = (0, 4, l) := by
  by_cases h0 : (Za l 0).level = 0
  · cases hf : Yg (Za l 0).rows (o.msg ((Za l 0).seen + 1)) c.leaf
    · exact Za6 h0 hf
    · rw [ZbO h0 hf] at h; exact absurd rfl h
  · cases hf : Yj c.bud (Za l 0).msgs (o.msg ((Za l 0).seen + 1))
    · exact Za7 h0 hf
    · rw [ZbP h0 hf] at h; exact absurd rfl h
theorem ZdG (l : List Pair) (m : Msg) (n : Int) : (Zak l m n).2 = Yg l m n := by
  cases h : Yg l m n
  · rw [ZeB h]
  · rw [Zch h]
theorem Zrp {l : List Pair} {m : Msg} {n : Int} (h : Yg l m n = true) : (Zak l m n).1 = takeN l m := by rw [Zch h]
end
section
variable {c : Cfg} {l : List Nd} {ss : List Seat}
theorem ZfU (t : Tree c l ss) (k : Str) : ∃ N r, N ≤ 200000 ∧ Yn c k N l 0 0 = some r := by
  by_cases h0 : (Za l 0).level = 0
  · exact ⟨1, _, by omega, Y4 (by rw [Jb (by rw [Zju h0])])⟩
  · have hw := ZdD t ⟨Int.le_refl _, by have := t.pos; omega⟩ h0
    have h8 := t.height
    rw [t.rootn] at h8
    obtain ⟨r, hr⟩ := Zq7 (k := k) (Za l 0).level.toNat 8256 (n := 0) t rfl hw (by omega)
    exact ⟨_, r, by omega, hr⟩
theorem Zrq {p i : Int} (h : (ZG c l p i).1 = 4) : (ZG c l p i).2 = l ∧ ¬ (l.length : Int) < c.slots := by
  unfold ZG at h ⊢
  split at h
  · cases h
  · rename_i h1
    rw [if_neg h1]
    unfold Xm at h ⊢
    split at h
    · cases h
    · rename_i h2
      rw [if_neg h2]
      split at h
      · cases h
      · rename_i h3
        rw [if_neg h3]
        split at h
        · cases h
        · rename_i h4
          rw [if_neg h4]
          split at h
          · rename_i h5
            exact ⟨by rw [if_pos h5], h5⟩
          · cases h
theorem Zrr {p k : Nd} {i : Int} (h : ZV c p k i = 3) : ZK c p = false := by
  cases hf : ZK c p
  · rfl
  · exfalso
    unfold ZV at h
    rw [hf] at h
    split at h
    · rw [if_pos rfl] at h; cases h
    · split at h
      · cases h
      · split at h
        · cases h
        · split at h
          · rw [if_pos rfl] at h; cases h
          · cases h
theorem Zrs {p k : Nd} {i : Int} (h : ZV c p k i = 3) (h2 : ¬ 0 < k.level) : 0 < (Zd p.pivots p.msgs i).length := by
  apply Classical.byContradiction
  intro hn
  unfold ZV at h
  rw [if_neg (fun e => h2 e.1)] at h
  split at h
  · cases h
  · simp [h2, hn] at h
theorem Zkc {k : Str} (t : Tree c l ss) (h : (Zv c (Za l 0) k).1 = 1 ∨ ((Za l 0).level = 0 ∧ 2 ≤ (Za l 0).rows.length)) : (Z0 (Za l 0) 0 0).2.2.2 = true := by
  rw [J7]
  rcases h with h | ⟨h1, h2⟩
  · obtain ⟨h0, _, h3⟩ := ZcC h
    have hin := t.inner t.root (by rw [t.rootn]; exact h0)
    rw [t.rootn] at hin
    refine ZfL h0 hin.2.1 ?_
    unfold ZK at h3
    rw [if_neg h0] at h3
    have := of_decide_eq_true h3
    obtain ⟨⟨f1, _⟩, _⟩ := t.cfg
    omega
  · exact ZjW h1 h2
theorem Zkd (t : Tree c l ss) (h : (Z0 (Za l 0) 0 0).2.2.2 = true) : (ZN c l).1 = 0 ∨ (ZN c l = (4, l) ∧ c.slots - (l.length : Int) < 2) := by
  by_cases h2 : c.slots.toNat - l.length < 2
  · exact .inr ⟨Za4 h h2, by omega⟩
  · exact .inl (by rw [ZbL h h2])
theorem Zrt (t : Tree c l ss) {a : Int} (ha : 0 ≤ a ∧ a < l.length) (k : Str) : (Zt c l a k).1.2.2 = 0 ∨ ((Zt c l a k).1.1 = 0 ∧ (Zt c l a k).1.2.2 = 4 ∧ (Zt c l a k).2 = l ∧ c.slots - (l.length : Int) < 2) := by
  rcases Je c (Za l a) k with h | h | ⟨h, _⟩
  · rw [Jb h]; exact .inl rfl
  · obtain ⟨_, hs, _⟩ := ZcC h
    have hsl := (YI t.slot ha).1
    have ea : a = 0 := by omega
    subst ea
    rcases Zkd t (Zkc (k := k) t (.inl h)) with h3 | ⟨h3, h4⟩
    · rw [Jc h h3]; exact .inl rfl
    · rw [Jd h (by rw [h3]; simp), h3]; exact .inr ⟨rfl, rfl, rfl, h4⟩
  · obtain ⟨h0, hi⟩ := JH t ha h
    obtain ⟨P, s⟩ := Js t ha h0 hi
    rw [XY h]
    generalize (Zv c (Za l a) k).2 = i at *
    rcases XO c (Za l a) (Zi l a i) i with hd | hd | ⟨hd, _⟩ | hd
    · rw [Jr hd]; exact .inl rfl
    · have hf := Zrr hd
      have hkl : 0 ≤ (Zi l a i).level := by have := s.kof.1; have := (ZaK t s).2.1; omega
      have hin := t.inner s.mem s.h0
      rw [s.n] at hin
      have hpe : (ZG c l a i).1 = 0 ∨ (ZG c l a i).1 = 4 := by
        refine ZjX t ha s hf ?_
        rcases ZjU hd with h | ⟨h1, h2⟩
        · exact .inl h
        · have h3 : (Zi l a i).level = 0 := by omega
          have hfor := Zrs hd h1
          have hforR : ∀ m ∈ Zd (Za l a).pivots (Za l a).msgs i, m.R := Zcz (fun q hq => by
            obtain ⟨j, hj, rfl⟩ := List.getElem_of_mem hq
            exact (hin.2.2.2.2.2.1 j hj).2.1) (MsgsR.iff.1 hin.2.2.1).1
          exact .inr ⟨h3, (ZfK t.cfg s.kof hforR hfor h2).1 h3⟩
      rcases hpe with h3 | h3
      · rw [XZ hd h3]; exact .inl rfl
      · obtain ⟨e1, e2⟩ := Zrq h3
        rw [X0 hd (by omega)]
        exact .inr ⟨rfl, h3, e1, by omega⟩
    · rw [YP hd]; exact .inl rfl
    · rw [X1 hd]; exact .inl rfl
theorem ZcD {k : Str} : ∀ (m : Nat) {l : List Nd} {ss : List Seat} {a n : Int} {r : Int × Int × List Nd}, Tree c l ss → 0 ≤ a ∧ a < l.length → Yn c k m l a n = some r → r.2.1 = 0 ∨ (r.2.1 = 4 ∧ c.slots - (r.2.2.length : Int) < 2)
  | 0, _, _, _, _, _, _, _, h => by cases h
  | m + 1, l, ss, a, n, r, t, ha, h => by
    obtain ⟨T, hT, _⟩ := J8 t ha k
    have hnx := Zas t ha k
    by_cases h1 : (Zt c l a k).1.1 = 0
    · rw [Y4 h1] at h
      cases h
      rcases Zrt t ha k with h2 | ⟨_, h2, h3, h4⟩
      · exact .inl h2
      · exact .inr ⟨h2, by show c.slots - ((Zt c l a k).2.length : Int) < 2; rw [h3]; exact h4⟩
    · by_cases h2 : (Zt c l a k).1.1 = 5
      · rw [Jf h2] at h; exact ZcD m hT hnx h
      · rw [Y9 h1 h2] at h; exact ZcD m hT hnx h
end
section
variable {c : Cfg} {l : List Nd} {ss : List Seat}
theorem Zru (n : Nd) : (Z9 n).1.seen = n.seen ∧ (Z9 n).2.1.seen = n.seen := by
  unfold Z9
  split
  · exact ⟨rfl, rfl⟩
  · split <;> exact ⟨rfl, rfl⟩
theorem Zke {n : Nd} {i : Int} (h : (Zo n i).2.2.2 = true) : (Zo n i).1.seen = n.seen ∧ (Zo n i).2.1.seen = n.seen := by
  rw [JU] at h
  rw [Jn h]
  exact Zru n
theorem ZcE {S : Int} {l : List Nd} {i : Nat} {x : Nd} (h : SeenB S l) (hx : x.seen ≤ S) : SeenB S (l.set i x) := fun n hn => by
  rcases List.mem_or_eq_of_mem_set hn with hn | rfl
  · exact h n hn
  · exact hx
theorem Zrv {S : Int} {l : List Nd} {x : Nd} (h : SeenB S l) (hx : x.seen ≤ S) : SeenB S (l ++ [x]) := fun n hn => by
  rcases List.mem_append.1 hn with hn | hn
  · exact h n hn
  · simp at hn; subst hn; exact hx
theorem ZfV {S : Int} (h : SeenB S l) (hs : 0 ≤ S) (i : Int) : (Za l i).seen ≤ S := by
  by_cases hi : 0 ≤ i ∧ i < l.length
  · rw [Ja hi]; exact h _ (List.getElem_mem _)
  · rw [ZqO hi]; exact hs
def SeenQ (S : Int) (l : List Nd) : Prop := SeenB S l ∧ (Za l 0).seen = S
theorem Zkf (t : Tree c l ss) {S : Int} (hs : 0 ≤ S) (h : SeenQ S l) : SeenQ S (ZN c l).2 := by
  have hp := t.pos
  unfold ZN
  split
  · exact h
  · split
    · exact h
    · rename_i h1 h2
      have h1 : (Z0 (Za l 0) l.length ((l.length : Int) + 1)).2.2.2 = true := by simpa using h1
      have hc := h1
      rw [J7] at hc
      obtain ⟨e1, e2⟩ := Zke hc
      rw [ZaI hc]
      dsimp only
      have er : (X9 (Za l 0) (Zo (Za l 0) ((l.length : Int) + 1)).2.2.1 l.length ((l.length : Int) + 1)).seen = S := h.2
      have ha : ∀ z s, z.seen = (Za l 0).seen → (Yk (Za l 0) z s).seen ≤ S := fun z s e => by
        unfold Yk
        dsimp only
        split
        · rw [e, h.2]; exact Int.le_refl _
        · exact hs
      refine ⟨?_, ?_⟩
      · unfold YS
        refine fun n hn => ?_
        rcases List.mem_append.1 hn with hn | hn
        · exact ZcE h.1 (by rw [er]; exact Int.le_refl _) n hn
        · simp at hn
          rcases hn with rfl | rfl
          · exact ha _ _ e1
          · exact ha _ _ e2
      · unfold YS
        rw [Ja ⟨Int.le_refl _, by rw [List.length_append, List.length_set]; omega⟩]
        rw [List.getElem_append_left (by rw [List.length_set]; show 0 < _; omega)]
        simp
        exact er
theorem ZdH {i : Nat} {x : Nd} (hp : 0 < l.length) : Za (l.set i x) 0 = if i = 0 then x else Za l 0 := by
  rw [Ja ⟨Int.le_refl _, by rw [List.length_set]; omega⟩, Ja ⟨Int.le_refl _, by omega⟩]
  simp only [List.getElem_set]
  rfl
theorem Zrw (t : Tree c l ss) {p i : Int} {S : Int} (hs : 0 ≤ S) (h : SeenQ S l) : SeenQ S (ZG c l p i).2 := by
  have hp := t.pos
  unfold ZG
  split
  · exact h
  · generalize i.toNat = j
    unfold Xm
    split
    · exact h
    · rename_i h1
      split
      · exact h
      · split
        · exact h
        · rename_i h3
          split
          · exact h
          · rename_i h4
            have h3 : (ZS l p j).2.2.2 = true ∧ (adP l p j).2 = true := by
              constructor
              · cases h5 : (ZS l p j).2.2.2
                · exact absurd (.inl h5) h3
                · rfl
              · cases h5 : (adP l p j).2
                · exact absurd (.inr h5) h3
                · rfl
            obtain ⟨e1, e2⟩ := Zke (n := Za l (kdN l p j)) (i := (l.length : Int)) h3.1
            obtain ⟨e3, _⟩ := ZfJ (n := Za l p) h3.2
            have ha : (adP l p j).1.seen = (Za l p).seen := by
              show (Y7 (Za l p) j _ _).1.seen = _
              rw [e3]; rfl
            have hk := ZfV h.1 hs (kdN l p j)
            have hq := ZfV h.1 hs p
            have hin : ¬ (¬ (0 ≤ p ∧ p < l.length) ∨ (Za l p).kids.length ≤ j ∨ ¬ (0 ≤ kdN l p j ∧ kdN l p j < l.length)) := h1
            have hp2 : 0 ≤ p ∧ p < l.length := Classical.byContradiction fun e => hin (.inl e)
            have hk2 : 0 ≤ kdN l p j ∧ kdN l p j < l.length := Classical.byContradiction fun e => hin (.inr (.inr e))
            have hcs := (Zfy h3.1).1
            have hks := (YI t.slot hk2).1
            unfold JG
            refine ⟨Zrv (ZcE (ZcE h.1 ?_) ?_) ?_, ?_⟩
            · show (Zo _ _).1.seen ≤ S; rw [e1]; exact hk
            · rw [ha]; exact hq
            · show (Zo _ _).2.1.seen ≤ S; rw [e2]; exact hk
            · have hl1 : 0 < (l.set (ZS l p j).1.slot.toNat (ZS l p j).1).length := by rw [List.length_set]; exact hp
              rw [ZcP, if_neg (by simp only [List.length_set]; omega), ZdH hl1, ZdH hp]
              split
              · rename_i e
                have : p = 0 := by omega
                rw [ha, this]; exact h.2
              · split
                · rename_i e
                  rw [hcs, hks] at e
                  have : kdN l p j = 0 := by omega
                  show (Zo _ _).1.seen = S
                  rw [e1, this]; exact h.2
                · exact h.2
theorem Zrx (t : Tree c l ss) {a i : Int} {P : Seat} (s : StepAt c l ss a i P) (h4 : 0 < ZO c.leaf c.bud (Za l a) (Zi l a i) i) {S : Int} (hs : 0 ≤ S) (h : SeenQ S l) :
    SeenQ S (ZP l (ZU c.leaf c.bud (Za l a) (Zi l a i) i).1 (ZU c.leaf c.bud (Za l a) (Zi l a i) i).2.1) := by
  obtain ⟨T, p⟩ := s.pour t h4
  have hp := t.pos
  have hn := s.n
  have tk := Zcy p.may p.po
  obtain ⟨⟨xl, hxl, exl⟩, _⟩ := Zdp tk.rst p.po.ne
  have hm : xl ∈ Zc (Zb l P i.toNat).s P.n.msgs := by rw [p.hcl]; exact List.mem_append_left _ hxl
  obtain ⟨m, hm, e⟩ := JL hm
  obtain ⟨j, hj, rfl⟩ := List.getElem_of_mem hm
  have h5 := (p.pin.2.2.2.2.2.2 j hj).1
  have h6 := ZfV h.1 hs a
  rw [← hn] at h6
  have h7 := p.al.2.2.2.2.2.2.2.1
  have h8 := p.po.seen
  have hx : 0 ≤ (ZU c.leaf c.bud (Za l a) (Zi l a i) i).1.slot ∧ (ZU c.leaf c.bud (Za l a) (Zi l a i) i).1.slot < l.length := by rw [p.al.1]; exact p.sin p.mem
  have hk0 := (ZaK t s).1
  have hy : (ZU c.leaf c.bud (Za l a) (Zi l a i) i).2.1.slot = (Zi l a i).slot := p.bl.1.trans (by rw [s.kid])
  have hy2 : 0 ≤ (ZU c.leaf c.bud (Za l a) (Zi l a i) i).2.1.slot := by rw [p.bl.1]; exact (p.sin p.km.1).1
  unfold ZP
  refine ⟨ZcE (ZcE h.1 (by rw [h7]; exact h6)) (by rw [h8, exl, e]; exact Int.le_trans h5 h6), ?_⟩
  rw [ZdH (by rw [List.length_set]; exact hp), if_neg (by omega), ZdH hp]
  split
  · rename_i e0
    rw [h7]
    have e1 := p.al.1
    have : P.n.slot = 0 := by omega
    have e2 : P.n = Za l 0 := by have := (t.nd p.mem).2.1; rw [‹P.n.slot = 0›] at this; exact this
    rw [e2]; exact h.2
  · exact h.2
theorem Zry (t : Tree c l ss) {a : Int} (ha : 0 ≤ a ∧ a < l.length) (k : Str) {S : Int} (hs : 0 ≤ S) (h : SeenQ S l) : SeenQ S (Zt c l a k).2 := by
  rcases Je c (Za l a) k with h1 | h1 | ⟨h1, _⟩
  · rw [Jb h1]; exact h
  · have hl := Zkf t hs h
    by_cases h3 : (ZN c l).1 = 0
    · rw [Jc h1 h3]; exact hl
    · rw [Jd h1 h3]; exact hl
  · obtain ⟨h0, hi⟩ := JH t ha h1
    obtain ⟨P, s⟩ := Js t ha h0 hi
    rw [XY h1]
    generalize (Zv c (Za l a) k).2 = i at *
    rcases XO c (Za l a) (Zi l a i) i with hd | hd | ⟨hd, hd2⟩ | hd
    · rw [Jr hd]; exact h
    · have hl := Zrw t (p := a) (i := i) hs h
      by_cases h3 : (ZG c l a i).1 = 0
      · rw [XZ hd h3]; exact hl
      · rw [X0 hd h3]; exact hl
    · rw [YP hd]; exact Zrx t s hd2 hs h
    · rw [X1 hd]; exact h
theorem ZfW {k : Str} {S : Int} (hs : 0 ≤ S) : ∀ (m : Nat) {l : List Nd} {ss : List Seat} {a n : Int} {r : Int × Int × List Nd}, Tree c l ss → 0 ≤ a ∧ a < l.length → SeenQ S l → Yn c k m l a n = some r → SeenQ S r.2.2
  | 0, _, _, _, _, _, _, _, _, h => by cases h
  | m + 1, l, ss, a, n, r, t, ha, hq, h => by
    obtain ⟨T, hT, _⟩ := J8 t ha k
    have hnx := Zas t ha k
    have hq2 := Zry t ha k hs hq
    by_cases h1 : (Zt c l a k).1.1 = 0
    · rw [Y4 h1] at h
      cases h
      exact hq2
    · by_cases h2 : (Zt c l a k).1.1 = 5
      · rw [Jf h2] at h; exact ZfW hs m hT hnx hq2 h
      · rw [Y9 h1 h2] at h; exact ZfW hs m hT hnx hq2 h
theorem Grown.q {k : Int} (h : Grown c k l) : SeenQ (Za l 0).seen l := ⟨h.all, rfl⟩
theorem Grown.of {k S : Int} (h : SeenQ S l) (h1 : S ≤ k) (h0 : 0 ≤ S) (hv : (Xe c l : Int) ≤ 1 + k) : Grown c k l := ⟨by rw [h.2]; exact h.1, by rw [h.2]; exact h1, by rw [h.2]; exact h0, hv⟩
theorem Grown.lift {k : Int} (t : Tree c l ss) (h : Grown c k l) (hl : (Za l 0).level = 0 → c.leaf ≤ ((Za l 0).rows.length : Int)) : Grown c k (ZN c l).2 := Grown.of (Zkf t h.pos h.q) h.le h.pos (by have := Zj8 t hl; have := h.val; omega)
theorem Grown.cyc {k : Int} {q : Str} {m : Nat} {r : Int × Int × List Nd} (t : Tree c l ss) (h : Grown c k l) (hr : Yn c q m l 0 0 = some r) : Grown c k r.2.2 := Grown.of (ZfW h.pos m t ⟨Int.le_refl _, by have := t.pos; omega⟩ h.q hr) h.le h.pos (by have := ZfQ m t ⟨Int.le_refl _, by have := t.pos; omega⟩ hr; have := h.val; omega)

/-! ### What goes down -/
def Jh : Nat := 9000 ^ 12
noncomputable def wtL (c : Cfg) (n : Nd) : Nat := if n.level = 0 then 0 else wtN c n * 9000 ^ n.level.toNat
noncomputable def ZbQ (c : Cfg) (l : List Nd) : Nat := (l.map (wtL c)).sum
noncomputable def muL (c : Cfg) (l : List Nd) : Nat := (c.slots.toNat - l.length) * (4097 * Jh) + ZbQ c l
theorem Tree.low (t : Tree c l ss) : ∀ x ∈ ss, x.n.level ≤ 11 := by
  have h : ∀ x ∈ ss, x.n.level ≤ 11 := t.ind t.height fun x hx h0 hl j hj => by
    have := (t.at hx h0 hj).2.2.2
    omega
  exact h
theorem Tree.wt_lt (t : Tree c l ss) {n : Nd} (hn : n ∈ l) : wtL c n < Jh := by
  have := (t.perm.mem_iff).2 hn
  obtain ⟨x, hx, rfl⟩ := List.mem_map.1 this
  unfold wtL
  split
  · exact Nat.pow_pos (by omega)
  · rename_i h0
    have h1 := ZfI t.cfg (t.inner hx h0)
    have h2 := t.low x hx
    have h3 : 9000 ^ x.n.level.toNat ≤ 9000 ^ 11 := Nat.pow_le_pow_right (by omega) (by omega)
    have h4 : wtN c x.n * 9000 ^ x.n.level.toNat ≤ 8256 * 9000 ^ 11 := Nat.mul_le_mul h1 h3
    have h5 : (8256 : Nat) * 9000 ^ 11 < Jh := by unfold Jh; decide
    exact Nat.lt_of_le_of_lt h4 h5
theorem Zkg {f : Nd → Nat} {b : Nat} : ∀ {l : List Nd}, (∀ n ∈ l, f n < b) → (l.map f).sum ≤ l.length * b
  | [], _ => by simp
  | n :: l, h => by
    have h1 := h n (by simp)
    have h2 := Zkg (l := l) fun x hx => h x (List.mem_cons_of_mem _ hx)
    rw [List.map_cons, List.sum_cons, List.length_cons, Nat.add_mul]
    omega
theorem Tree.pot_lt (t : Tree c l ss) : ZbQ c l < 4097 * Jh := by
  have h1 := Zkg (f := wtL c) (b := Jh) (l := l) fun n hn => t.wt_lt hn
  have h2 := t.sml.1
  have h3 : l.length * Jh ≤ 4096 * Jh := Nat.mul_le_mul_right _ h2
  have h4 : 0 < Jh := Nat.pow_pos (by omega)
  unfold ZbQ
  have h5 : 4097 * Jh = 4096 * Jh + Jh := by rw [← Nat.succ_mul]
  omega
theorem ZfX {l' : List Nd} {T : List Seat} (t' : Tree c l' T) (h : l.length < l'.length) : muL c l' < muL c l := by
  have h1 := t'.pot_lt
  have h2 := t'.q.1.2.2
  unfold muL
  have h3 : (c.slots.toNat - l'.length + 1) * (4097 * Jh) ≤ (c.slots.toNat - l.length) * (4097 * Jh) := Nat.mul_le_mul_right _ (by omega)
  rw [Nat.add_mul] at h3
  omega
theorem Zrz (t : Tree c l ss) {a i : Int} {P : Seat} (s : StepAt c l ss a i P) (h4 : 0 < ZO c.leaf c.bud (Za l a) (Zi l a i) i) :
    muL c (ZP l (ZU c.leaf c.bud (Za l a) (Zi l a i) i).1 (ZU c.leaf c.bud (Za l a) (Zi l a i) i).2.1) < muL c l := by
  obtain ⟨T, p⟩ := s.pour t h4
  have hf : i.toNat < c.fan.toNat := by
    have h1 := s.hi
    have h2 := p.pin.1.2.2
    omega
  have hlt := Poured.lighter p.po p.rt.1 hf
  have hm := (Zfm p.may p.po).1
  generalize (ZU c.leaf c.bud (Za l a) (Zi l a i) i).1 = x at *
  generalize (ZU c.leaf c.bud (Za l a) (Zi l a i) i).2.1 = y at *
  have hx : 0 ≤ x.slot ∧ x.slot < l.length := by rw [p.al.1]; exact p.sin p.mem
  have hy : 0 ≤ y.slot ∧ y.slot < l.length := by rw [p.bl.1]; exact p.sin p.km.1
  have hne : x.slot.toNat ≠ y.slot.toNat := by
    have := p.ksl
    rw [← p.al.1, ← p.bl.1] at this
    omega
  have hxl : x.slot.toNat < l.length := by omega
  have hyl : y.slot.toNat < (l.set x.slot.toNat x).length := by rw [List.length_set]; omega
  have e1 := Zat (f := wtL c) hxl x
  have e2 := Zat (f := wtL c) hyl y
  have gx : l[x.slot.toNat] = P.n := by
    have h := (t.nd p.mem).2.1
    rw [Ja (p.sin p.mem)] at h
    have h2 := p.al.1
    simp only [h2]
    exact h.symm
  have gy : (l.set x.slot.toNat x)[y.slot.toNat] = (Zb l P i.toNat).n := by
    rw [List.getElem_set_ne hne]
    have h := (t.nd p.km.1).2.1
    rw [Ja (p.sin p.km.1)] at h
    have h2 := p.bl.1
    simp only [h2]
    exact h.symm
  rw [gx] at e1
  rw [gy] at e2
  have w1 : wtL c x + 9000 ^ P.n.level.toNat ≤ wtL c P.n := by
    unfold wtL
    rw [p.al.2.1, if_neg p.h0, if_neg p.h0]
    have := Nat.mul_le_mul_right (9000 ^ P.n.level.toNat) hlt
    rw [Nat.add_mul, Nat.one_mul] at this
    exact this
  have w2 : wtL c y < 9000 ^ P.n.level.toNat := by
    unfold wtL
    split
    · exact Nat.pow_pos (by omega)
    · rename_i h0
      have hI : y.innerR c.fan c.bud := by have h := hm.1.2.1.2.2.2; rwa [if_neg h0] at h
      have h1 := ZfI t.cfg hI
      have h2 := p.km.2
      have h3 := p.bl.2.1
      have h5 := t.lvl p.km.1
      have h6 := t.lvl p.mem
      have h7 : P.n.level.toNat = y.level.toNat + 1 := by omega
      rw [h7, Nat.pow_succ]
      have h8 : 0 < 9000 ^ y.level.toNat := Nat.pow_pos (by omega)
      have h9 := Nat.mul_le_mul_right (9000 ^ y.level.toNat) h1
      omega
  have hlen : (ZP l x y).length = l.length := p.len
  unfold muL
  rw [hlen]
  have : ZbQ c (ZP l x y) < ZbQ c l := by
    unfold ZbQ ZP
    omega
  omega
theorem ZrA (t : Tree c l ss) {a : Int} (ha : 0 ≤ a ∧ a < l.length) (k : Str) (h1 : ¬ (Zt c l a k).1.1 = 0) (h2 : ¬ (Zt c l a k).1.1 = 5) : muL c (Zt c l a k).2 < muL c l := by
  obtain ⟨T, hT, _⟩ := J8 t ha k
  rcases Je c (Za l a) k with h | h | ⟨h, _⟩
  · rw [Jb h] at h1; exact absurd rfl h1
  · by_cases h3 : (ZN c l).1 = 0
    · rw [Jc h h3] at hT ⊢
      refine ZfX hT ?_
      unfold ZN at h3 ⊢
      split at h3
      · cases h3
      · rename_i h4
        rw [if_neg h4]
        split at h3
        · cases h3
        · rename_i h5
          rw [if_neg h5]
          unfold YS
          simp
    · rw [Jd h h3] at h1; exact absurd rfl h1
  · obtain ⟨h0, hi⟩ := JH t ha h
    obtain ⟨P, s⟩ := Js t ha h0 hi
    rw [XY h] at h1 h2 hT ⊢
    generalize (Zv c (Za l a) k).2 = i at *
    rcases XO c (Za l a) (Zi l a i) i with hd | hd | ⟨hd, hd2⟩ | hd
    · rw [Jr hd] at h1; exact absurd rfl h1
    · by_cases h3 : (ZG c l a i).1 = 0
      · rw [XZ hd h3] at hT ⊢
        refine ZfX hT ?_
        unfold ZG at h3 ⊢
        split at h3
        · cases h3
        · rename_i h4
          rw [if_neg h4]
          unfold Xm at h3 ⊢
          split at h3
          · cases h3
          · rename_i h5
            rw [if_neg h5]
            split at h3
            · cases h3
            · rename_i h6
              rw [if_neg h6]
              split at h3
              · cases h3
              · rename_i h7
                rw [if_neg h7]
                split at h3
                · cases h3
                · rename_i h8
                  rw [if_neg h8]
                  unfold JG
                  simp
      · rw [X0 hd h3] at h1; exact absurd rfl h1
    · rw [YP hd]; exact Zrz t s hd2
    · rw [X1 hd] at h2; exact absurd rfl h2
theorem ZfY {p i : Int} (h : ¬ (ZG c l p i).1 = 0) : (ZG c l p i).2 = l := by
  unfold ZG at h ⊢
  split at h
  · rename_i h4; rw [if_pos h4]
  · rename_i h4
    rw [if_neg h4]
    unfold Xm at h ⊢
    split at h
    · rename_i h5; rw [if_pos h5]
    · rename_i h5
      rw [if_neg h5]
      split at h
      · rename_i h6; rw [if_pos h6]
      · rename_i h6
        rw [if_neg h6]
        split at h
        · rename_i h7; rw [if_pos h7]
        · rename_i h7
          rw [if_neg h7]
          split at h
          · rename_i h8; rw [if_pos h8]
          · exact absurd rfl h
theorem ZfZ (h : ¬ (ZN c l).1 = 0) : (ZN c l).2 = l := by
  unfold ZN at h ⊢
  split at h
  · rename_i h4; rw [if_pos h4]
  · rename_i h4
    rw [if_neg h4]
    split at h
    · rename_i h5; rw [if_pos h5]
    · exact absurd rfl h
theorem ZrB (t : Tree c l ss) {a : Int} (ha : 0 ≤ a ∧ a < l.length) {k : Str} (h1 : (Zt c l a k).1.1 = 0) : (Zt c l a k).2 = l := by
  rcases Je c (Za l a) k with h | h | ⟨h, _⟩
  · rw [Jb h]
  · by_cases h3 : (ZN c l).1 = 0
    · rw [Jc h h3] at h1; cases h1
    · rw [Jd h h3]; exact ZfZ h3
  · rw [XY h] at h1 ⊢
    generalize (Zv c (Za l a) k).2 = i at *
    rcases XO c (Za l a) (Zi l a i) i with hd | hd | ⟨hd, hd2⟩ | hd
    · rw [Jr hd]
    · by_cases h3 : (ZG c l a i).1 = 0
      · rw [XZ hd h3] at h1; cases h1
      · rw [X0 hd h3]; exact ZfY h3
    · rw [YP hd] at h1; cases h1
    · rw [X1 hd]
theorem ZrC (t : Tree c l ss) {a : Int} (ha : 0 ≤ a ∧ a < l.length) {k : Str} (h1 : (Zt c l a k).1.1 = 5) : (Zt c l a k).2 = l := by
  rcases Je c (Za l a) k with h | h | ⟨h, _⟩
  · rw [Jb h]
  · by_cases h3 : (ZN c l).1 = 0
    · rw [Jc h h3] at h1; cases h1
    · rw [Jd h h3]; exact ZfZ h3
  · rw [XY h] at h1 ⊢
    generalize (Zv c (Za l a) k).2 = i at *
    rcases XO c (Za l a) (Zi l a i) i with hd | hd | ⟨hd, hd2⟩ | hd
    · rw [Jr hd]
    · by_cases h3 : (ZG c l a i).1 = 0
      · rw [XZ hd h3] at h1; cases h1
      · rw [X0 hd h3]; exact ZfY h3
    · rw [YP hd] at h1; cases h1
    · rw [X1 hd]
theorem ZdI {k : Str} : ∀ (m : Nat) {l : List Nd} {ss : List Seat} {a n : Int} {r : Int × Int × List Nd}, Tree c l ss → 0 ≤ a ∧ a < l.length → Yn c k m l a n = some r → (n < r.1 → muL c r.2.2 < muL c l) ∧ (r.1 ≤ n → r.2.2 = l)
  | 0, _, _, _, _, _, _, _, h => by cases h
  | m + 1, l, ss, a, n, r, t, ha, h => by
    obtain ⟨T, hT, _⟩ := J8 t ha k
    have hnx := Zas t ha k
    by_cases h1 : (Zt c l a k).1.1 = 0
    · rw [Y4 h1] at h
      cases h
      refine ⟨fun e => absurd e (Int.lt_irrefl _), fun _ => ?_⟩
      exact ZrB t ha h1
    · by_cases h2 : (Zt c l a k).1.1 = 5
      · have hst := ZrC t ha h2
        rw [Jf h2] at h
        rw [hst] at h hT hnx
        exact ZdI m hT hnx h
      · have hmu := ZrA t ha k h1 h2
        rw [Y9 h1 h2] at h
        have ih := ZdI m hT hnx h
        have hmo := J9 m h
        refine ⟨fun _ => ?_, fun e => by omega⟩
        by_cases h3 : n + 1 < r.1
        · exact Nat.lt_trans (ih.1 h3) hmu
        · rw [ih.2 (by omega)]; exact hmu
end
theorem ZdJ (bud : Int) (ms : List Msg) (m : Msg) : (JF bud ms m).2 = Yj bud ms m := Zfq bud ms m
theorem ZrD {bud : Int} {ms : List Msg} {m : Msg} (h : Yj bud ms m = true) : (JF bud ms m).1 = ms ++ [m] := by rw [ZbI h]
noncomputable def XP (c : Cfg) (l : List Nd) (o : Opr) : Nd :=
  if (Za l 0).level = 0 then { Za l 0 with rows := (Zak (Za l 0).rows (o.msg ((Za l 0).seen + 1)) c.leaf).1, seen := (Za l 0).seen + (if (Zu c l o).2.1 = 0 then 1 else 0) }
  else { Za l 0 with msgs := (JF c.bud (Za l 0).msgs (o.msg ((Za l 0).seen + 1))).1, seen := (Za l 0).seen + (if (Zu c l o).2.1 = 0 then 1 else 0) }
section
variable {c : Cfg} {l : List Nd} {ss : List Seat} {o : Opr}
theorem Zf0 (h : (Za l 0).level = 0) (e : (Zu c l o).2.1 = 0) : XP c l o = { Za l 0 with rows := (Zak (Za l 0).rows (o.msg ((Za l 0).seen + 1)) c.leaf).1, seen := (Za l 0).seen + 1 } := by unfold XP; rw [if_pos h, if_pos e]
theorem Zkh (h : (Za l 0).level = 0) (e : ¬ (Zu c l o).2.1 = 0) : XP c l o = { Za l 0 with rows := (Zak (Za l 0).rows (o.msg ((Za l 0).seen + 1)) c.leaf).1, seen := (Za l 0).seen } := by unfold XP; rw [if_pos h, if_neg e, Int.add_zero]
theorem Zf1 (h : ¬ (Za l 0).level = 0) (e : (Zu c l o).2.1 = 0) : XP c l o = { Za l 0 with msgs := (JF c.bud (Za l 0).msgs (o.msg ((Za l 0).seen + 1))).1, seen := (Za l 0).seen + 1 } := by unfold XP; rw [if_neg h, if_pos e]
theorem Zki (h : ¬ (Za l 0).level = 0) (e : ¬ (Zu c l o).2.1 = 0) : XP c l o = { Za l 0 with msgs := (JF c.bud (Za l 0).msgs (o.msg ((Za l 0).seen + 1))).1, seen := (Za l 0).seen } := by unfold XP; rw [if_neg h, if_neg e, Int.add_zero]
theorem ZrE (e : (Zu c l o).2.1 = 0) : XP c l o = ZdF l o := by
  by_cases h : (Za l 0).level = 0
  · rw [Zf0 h e, Zj9 h]
    cases hf : Yg (Za l 0).rows (o.msg ((Za l 0).seen + 1)) c.leaf
    · rw [Za6 h hf] at e; cases e
    · rw [Zrp hf]; rfl
  · rw [Zf1 h e, Zka h]
    cases hf : Yj c.bud (Za l 0).msgs (o.msg ((Za l 0).seen + 1))
    · rw [Za7 h hf] at e; cases e
    · rw [ZrD hf]; rfl
theorem Zkj : (XP c l o).slot = (Za l 0).slot := by unfold XP; split <;> rfl
theorem ZrF (e : (Zu c l o).2.1 = 0) : (XP c l o).seen = (Zu c l o).1 := by rw [(Zkb e).2]; unfold XP; split <;> simp [e]
theorem ZrG (t : Tree c l ss) (e : (Zu c l o).2.1 = 0) : l.set (XP c l o).slot.toNat (XP c l o) = (Zu c l o).2.2 := by
  rw [(Zkb e).1, Zkj, ZrE e, (YI t.slot ⟨Int.le_refl _, by have := t.pos; omega⟩).1]; rfl
end
end Go.Fw
namespace Go.Proofs.YtbbemibbmbmamaaGreat
open Go Go.Fw Go.RowKit
attribute [local irreducible] Ok W WC
theorem ZrH {G : GH} {v_l : Value} {l : List Pair} (h_l : SlR Zl G v_l l) (k : Str) {v_ms : Value} {ms : List Msg} (h_ms : SlR Zs G v_ms ms) (hP : PairsR l) (hm : ∀ m ∈ ms, m.key.b.size < 140737488355328 ∧ m.val.b.size ≤ 16) :
    Fc Tryz.prog 143 [v_l, sV k.b, v_ms] G [] (fun v _ _ => v = .tuple #[sV (Str.b ((Eff.apply (YD ms k) (Zg l k)).getD Str.nil)), .bool ((Eff.apply (YD ms k) (Zg l k)).isSome)]) := by
 obtain ⟨sa_l, sc_l, rfl⟩ := h_l.form
 obtain ⟨sa_ms, sc_ms, rfl⟩ := h_ms.form
 have hr := hP.srt
 have hgv := hP.val k
 have hov := Zex ms k (fun m h => (hm m h).2)
 have hos := Zcf (Zg l k)
 refine Fc.go [.tmp 6, .tmp 7] Tryz.func143 Tryz.ntmps143 rfl (fun w0 => (g9 10 ?_))
 refine W.qcall (Zpr h_l _ (by assumption)) rfl (g9 11 ?_)
 refine W.qcall (Zpm h_ms _ (by assumption)) rfl (g9 2 ?_)
 refine W.qcall (Zdf (YD ms k).kind (YD ms k).val (Zg l k).isSome ((Zg l k).getD Str.nil) om9 om9) rfl (g9 14 ?_)
 refine WC.cond rfl (fun h28 => ?_) (fun h28 => ?_)
 ·refine g9 9 ?_
  show Value.tuple #[Value.string _, Value.bool _] = _
  have hx : Eff.apply (⟨(YD ms k).kind, (YD ms k).val⟩ : Eff) (Z4 (Zg l k).isSome ((Zg l k).getD Str.nil)) = Eff.apply (YD ms k) (Zg l k) := by rw [hos]
  rw [hx] at h28
  have e : Eff.apply (YD ms k) (Zg l k) = none := by simpa using h28
  rw [e]; rfl
 refine g9 11 ?_
 show Value.tuple #[Value.string _, Value.bool _] = _
 have hx : Eff.apply (⟨(YD ms k).kind, (YD ms k).val⟩ : Eff) (Z4 (Zg l k).isSome ((Zg l k).getD Str.nil)) = Eff.apply (YD ms k) (Zg l k) := by rw [hos]
 rw [hx] at h28
 have e : (Eff.apply (YD ms k) (Zg l k)).isSome = true := by simpa using h28
 rw [hx, e]

theorem ZrI {G : GH} {v_l : Value} {l : List Pair} (h_l : SlR Zl G v_l l) (k : Str) {v_ms : Value} {ms : List Msg} (h_ms : SlR Zs G v_ms ms) (hP : PairsR l) (hm : ∀ m ∈ ms, m.key.b.size < 140737488355328 ∧ m.val.b.size ≤ 16) :
    Fc Tryz.prog 97 [v_l, sV k.b, v_ms] G [] (fun v _ _ => v = .tuple #[sV (Str.b ((Eff.apply (YD ms k) (Zg l k)).getD Str.nil)), .bool ((Eff.apply (YD ms k) (Zg l k)).isSome)]) := by
 obtain ⟨sa_l, sc_l, rfl⟩ := h_l.form
 obtain ⟨sa_ms, sc_ms, rfl⟩ := h_ms.form
 have hr := hP.srt
 have hgv := hP.val k
 have hov := Zex ms k (fun m h => (hm m h).2)
 have hos := Zcf (Zg l k)
 refine Fc.go [.tmp 6, .tmp 7] Tryz.func97 Tryz.ntmps97 rfl (fun w0 => (g9 11 ?_))
 refine W.qcall (ZrH h_l _ h_ms (by assumption) (by assumption)) rfl (g9 8 ?_)
 rfl

theorem Zf2 {G : GH} (pk : Int) (pkey : Str) (phi : Str) (po : Bool) (pv : Str) (pl : Int) (hk : pkey.b.size < 140737488355328) :
    Fc Tryz.prog 42 [.agg #[iV pk, sV pkey.b, sV phi.b, .bool po, sV pv.b, iV pl]] G [] (fun v _ _ => v = .agg (List.toArray ((Opr.span (⟨pk, pkey, phi, po, pv, pl⟩ : Opr)).cells))) := by
 refine Fc.go [.cell 2 62] Tryz.func42 Tryz.ntmps42 rfl (fun w0 => (g9 2 ?_))
 refine W.box (L := [iV _, sV _, sV _, .bool _, sV _, iV _]) rfl rfl (fun b1 => (W.alloc ZL (fun b2 => (g9 9 ?_))))
 refine W.sd 6 (fun h5 p5 => ?_) (fun h5 p5 => ?_)
 ·refine g9 15 ?_
  refine W.ok (ZE (L := [sV _, sV _, .bool _]) Xw ZL rfl rfl rfl) (g9 6 ?_)
  refine congrArg (fun l => Value.agg (List.toArray l)) ?_
  rw [Opr.span, if_pos (by dsimp only; omega)]; rfl
 refine g9 9 ?_
 refine WC.cd (fun h9 p9 => ?_) (fun h9 p9 => ?_)
 ·refine g9 8 ?_
  refine W.ok (ZE (L := [sV _, sV _, .bool _]) Xw ZL rfl rfl rfl) (g9 6 ?_)
  refine congrArg (fun l => Value.agg (List.toArray l)) ?_
  rw [Opr.span, if_pos (by dsimp only; omega)]; rfl
 refine g9 8 ?_
 refine W.ok (Zbj rfl rfl (by show _ + 1 ≤ _; omega)) (W.ok (ZE (L := [sV _, sV _, .bool _]) Xw ZL rfl rfl rfl) (g9 5 ?_))
 refine congrArg (fun l => Value.agg (List.toArray l)) ?_
 rw [Opr.span, if_neg (by dsimp only; omega)] <;> simp [Span.cells, Str.next_b hk, Ye]

theorem ZrJ {G : GH} (pk : Int) (pkey : Str) (phi : Str) (po : Bool) (pv : Str) (pl : Int) :
    Fc Tryz.prog 93 [.agg #[iV pk, sV pkey.b, sV phi.b, .bool po, sV pv.b, iV pl]] G [] (fun v _ _ => v = .bool (decide (pk = 1 ∨ pk = 2))) := by
 refine Fc.go [.tmp 2] Tryz.func93 Tryz.ntmps93 rfl (fun w0 => (g9 2 ?_))
 refine W.box (L := [iV _, sV _, sV _, .bool _, sV _, iV _]) rfl rfl (fun b3 => (g9 9 ?_))
 refine W.sd 6 (fun h5 p5 => ?_) (fun h5 p5 => ?_)
 ·refine g9 9 ?_
  refine congrArg Value.bool ?_
  simp_all
 refine g9 12 ?_
 refine congrArg Value.bool ?_
 simp_all

theorem Zkk {G : GH} (pk : Int) (pkey : Str) (phi : Str) (po : Bool) (pv : Str) (pl : Int) :
    Fc Tryz.prog 94 [.agg #[iV pk, sV pkey.b, sV phi.b, .bool po, sV pv.b, iV pl]] G [] (fun v _ _ => v = .bool (decide (pk = 4 ∨ pk = 6))) := by
 refine Fc.go [.tmp 2] Tryz.func94 Tryz.ntmps94 rfl (fun w0 => (g9 2 ?_))
 refine W.box (L := [iV _, sV _, sV _, .bool _, sV _, iV _]) rfl rfl (fun b4 => (g9 9 ?_))
 refine W.sd 6 (fun h5 p5 => ?_) (fun h5 p5 => ?_)
 ·refine g9 9 ?_
  refine congrArg Value.bool ?_
  simp_all
 refine g9 12 ?_
 refine congrArg Value.bool ?_
 simp_all

theorem ZrK {G : GH} (pk : Int) (pkey : Str) (phi : Str) (po : Bool) (pv : Str) (pl : Int) :
    Fc Tryz.prog 131 [.agg #[iV pk, sV pkey.b, sV phi.b, .bool po, sV pv.b, iV pl]] G [] (fun v _ _ => v = .bool (decide (1 ≤ pk ∧ pk ≤ 4))) := by
 refine Fc.go [.tmp 2] Tryz.func131 Tryz.ntmps131 rfl (fun w0 => (g9 2 ?_))
 refine W.box (L := [iV _, sV _, sV _, .bool _, sV _, iV _]) rfl rfl (fun b5 => (g9 9 ?_))
 refine W.sd 6 (fun h5 p5 => ?_) (fun h5 p5 => ?_)
 ·refine g9 12 ?_
  refine congrArg Value.bool ?_
  first | (simp_all; done) | (simp_all; omega)
 refine g9 9 ?_
 refine congrArg Value.bool ?_
 first | (simp_all; done) | (simp_all; omega)

theorem Zkl {G : GH} (pk : Int) (pkey : Str) (phi : Str) (po : Bool) (pv : Str) (pl : Int) (hk : pkey.b.size < 140737488355328) :
    Fc Tryz.prog 47 [.agg #[iV pk, sV pkey.b, sV phi.b, .bool po, sV pv.b, iV pl]] G [] (fun v _ _ => v = .agg (List.toArray ((Opr.span (⟨pk, pkey, phi, po, pv, pl⟩ : Opr)).cells))) := by
 refine Fc.go [.cell 2 62] Tryz.func47 Tryz.ntmps47 rfl (fun w0 => (g9 2 ?_))
 refine W.box (L := [iV _, sV _, sV _, .bool _, sV _, iV _]) rfl rfl (fun b6 => (W.alloc ZL (fun b7 => (g9 6 ?_))))
 refine W.qcall (Zkk _ _ _ _ _ _) rfl (g9 2 ?_)
 refine WC.cond rfl (fun h4 => ?_) (fun h4 => ?_)
 ·refine g9 8 ?_
  refine W.ok (ZE (L := [sV _, sV _, .bool _]) Xw ZL rfl rfl rfl) (g9 6 ?_)
  refine congrArg (fun l => Value.agg (List.toArray l)) ?_
  rw [Opr.span, if_pos (odt h4)]; rfl
 refine g9 6 ?_
 refine W.qcall (Zif _ (by first | assumption | omega | (dsimp only; omega))) rfl (g9 5 ?_)
 refine congrArg (fun l => Value.agg (List.toArray l)) ?_
 rw [Opr.span, if_neg (odf h4)]; try rfl

theorem ZrL {G : GH} (pk : Int) (pkey : Str) (phi : Str) (po : Bool) (pv : Str) (pl : Int) :
    Fc Tryz.prog 39 [.agg #[iV pk, sV pkey.b, sV phi.b, .bool po, sV pv.b, iV pl]] G [] (fun v _ _ => v = .bool (decide (Opr.R (⟨pk, pkey, phi, po, pv, pl⟩ : Opr)))) := by
 have h1 := pkey.le
 have h2 := phi.le
 have h3 := pv.le
 refine Fc.go [.tmp 2] Tryz.func39 Tryz.ntmps39 rfl (fun w0 => (g9 2 ?_))
 refine W.box (L := [iV _, sV _, sV _, .bool _, sV _, iV _]) rfl rfl (fun b8 => (g9 10 ?_))
 refine W.sd 6 (fun h5 p5 => ?_) (fun h5 p5 => ?_)
 ·refine g9 33 ?_
  exact YU
 refine g9 8 ?_
 refine W.sd 11 (fun h9 p9 => ?_) (fun h9 p9 => ?_)
 ·refine g9 28 ?_
  exact YU
 refine g9 10 ?_
 refine W.sd 17 (fun h15 p15 => ?_) (fun h15 p15 => ?_)
 ·refine g9 22 ?_
  exact YU
 refine g9 10 ?_
 refine W.sd 23 (fun h21 p21 => ?_) (fun h21 p21 => ?_)
 ·refine g9 16 ?_
  exact YU
 refine g9 11 ?_
 refine WC.cd (fun h27 p27 => ?_) (fun h27 p27 => ?_)
 ·refine g9 8 ?_
  exact YU
 refine g9 2 ?_
 refine WC.join (X := Unit) (fun u5 => [(1, pt9 b8)]) (fun u5 _ Ml => Ml = [(b8, ce9 34 [iV pk, sV pkey.b, sV phi.b, .bool po, sV pv.b, iV pl])] ∧ (pk ≤ 2 ∨ pv.b = ⟨#[]⟩) ∧ (pk = 6 ∨ pl = 0) ∧ (pk = 6 → 1 ≤ pl ∧ pl ≤ 64)) ?_ ?_
 ·refine g9 6 ?_
  refine W.sd 32 (fun h31 p31 => ?_) (fun h31 p31 => ?_)
  ·refine g9 8 ?_
   refine W.sm 37 (fun h35 p35 => ?_) (fun h35 p35 => ?_)
   ·refine g9 35 ?_
    exact YU
   refine g9 8 ?_
   refine W.sm 41 (fun h40 p40 => ?_) (fun h40 p40 => ?_)
   ·refine g9 10 ?_
    refine W.sm 47 (fun h44 p44 => ?_) (fun h44 p44 => ?_)
    ·refine g9 25 ?_
     exact YU
    refine g9 8 ?_
    refine W.sd 51 (fun h50 p50 => ?_) (fun h50 p50 => ?_)
    ·refine g9 8 ?_
     refine W.sd 55 (fun h54 p54 => ?_) (fun h54 p54 => ?_)
     ·refine g9 19 ?_
      exact YU
     refine g9 13 ?_
     refine WC.cd (fun h58 p58 => ?_) (fun h58 p58 => ?_)
     ·refine g9 8 ?_
      exact YU
     refine g9 2 ?_
     exact ⟨Le.rfl, (), hs9, ⟨rfl, (by first | (simp_all; done) | (simp_all; omega) | grind), (by first | (simp_all; done) | (simp_all; omega) | grind), (by first | (simp_all; done) | (simp_all; omega) | grind)⟩⟩
    refine g9 16 ?_
    exact ⟨Le.rfl, (), hs9, ⟨rfl, (by first | (simp_all; done) | (simp_all; omega) | grind), (by first | (simp_all; done) | (simp_all; omega) | grind), (by first | (simp_all; done) | (simp_all; omega) | grind)⟩⟩
   refine g9 15 ?_
   refine W.sd 51 (fun h50 p50 => ?_) (fun h50 p50 => ?_)
   ·refine g9 8 ?_
    refine W.sd 55 (fun h54 p54 => ?_) (fun h54 p54 => ?_)
    ·refine g9 19 ?_
     exact YU
    refine g9 13 ?_
    refine WC.cd (fun h58 p58 => ?_) (fun h58 p58 => ?_)
    ·refine g9 8 ?_
     exact YU
    refine g9 2 ?_
    exact ⟨Le.rfl, (), hs9, ⟨rfl, (by first | (simp_all; done) | (simp_all; omega) | grind), (by first | (simp_all; done) | (simp_all; omega) | grind), (by first | (simp_all; done) | (simp_all; omega) | grind)⟩⟩
   refine g9 16 ?_
   exact ⟨Le.rfl, (), hs9, ⟨rfl, (by first | (simp_all; done) | (simp_all; omega) | grind), (by first | (simp_all; done) | (simp_all; omega) | grind), (by first | (simp_all; done) | (simp_all; omega) | grind)⟩⟩
  refine g9 13 ?_
  refine W.sm 41 (fun h40 p40 => ?_) (fun h40 p40 => ?_)
  ·refine g9 10 ?_
   refine W.sm 47 (fun h44 p44 => ?_) (fun h44 p44 => ?_)
   ·refine g9 25 ?_
    exact YU
   refine g9 8 ?_
   refine W.sd 51 (fun h50 p50 => ?_) (fun h50 p50 => ?_)
   ·refine g9 8 ?_
    refine W.sd 55 (fun h54 p54 => ?_) (fun h54 p54 => ?_)
    ·refine g9 19 ?_
     exact YU
    refine g9 13 ?_
    refine WC.cd (fun h58 p58 => ?_) (fun h58 p58 => ?_)
    ·refine g9 8 ?_
     exact YU
    refine g9 2 ?_
    exact ⟨Le.rfl, (), hs9, ⟨rfl, (by first | (simp_all; done) | (simp_all; omega) | grind), (by first | (simp_all; done) | (simp_all; omega) | grind), (by first | (simp_all; done) | (simp_all; omega) | grind)⟩⟩
   refine g9 16 ?_
   exact ⟨Le.rfl, (), hs9, ⟨rfl, (by first | (simp_all; done) | (simp_all; omega) | grind), (by first | (simp_all; done) | (simp_all; omega) | grind), (by first | (simp_all; done) | (simp_all; omega) | grind)⟩⟩
  refine g9 15 ?_
  refine W.sd 51 (fun h50 p50 => ?_) (fun h50 p50 => ?_)
  ·refine g9 8 ?_
   refine W.sd 55 (fun h54 p54 => ?_) (fun h54 p54 => ?_)
   ·refine g9 19 ?_
    exact YU
   refine g9 13 ?_
   refine WC.cd (fun h58 p58 => ?_) (fun h58 p58 => ?_)
   ·refine g9 8 ?_
    exact YU
   refine g9 2 ?_
   exact ⟨Le.rfl, (), hs9, ⟨rfl, (by first | (simp_all; done) | (simp_all; omega) | grind), (by first | (simp_all; done) | (simp_all; omega) | grind), (by first | (simp_all; done) | (simp_all; omega) | grind)⟩⟩
  refine g9 16 ?_
  exact ⟨Le.rfl, (), hs9, ⟨rfl, (by first | (simp_all; done) | (simp_all; omega) | grind), (by first | (simp_all; done) | (simp_all; omega) | grind), (by first | (simp_all; done) | (simp_all; omega) | grind)⟩⟩
 rintro u5 gG9 G9 _ hG9 ⟨rfl, hj1, hj2, hj3⟩
 refine g9 7 ?_
 refine W.sd 65 (fun h64 p64 => ?_) (fun h64 p64 => ?_)
 ·refine g9 10 ?_
  refine W.qcall (Zf2 _ _ _ _ _ _ (by first | assumption | omega | (dsimp only; omega))) rfl (W.qcall (Zie _ _ _) rfl (g9 2 ?_))
  refine W.sp 74 rfl (fun h73 => ?_) (fun h73 => ?_)
  ·replace h73 : (!(Opr.span (⟨pk, pkey, phi, po, pv, pl⟩ : Opr)).empty) = true := h73
   refine g9 8 ?_
   refine W.sp 78 rfl (fun h77 => ?_) (fun h77 => ?_)
   ·refine g9 12 ?_
    exact YU
   refine g9 15 ?_
   exact YU
  replace h73 : (!(Opr.span (⟨pk, pkey, phi, po, pv, pl⟩ : Opr)).empty) = false := h73
  refine g9 15 ?_
  exact YU
 refine g9 9 ?_
 refine WC.cd (fun h68 p68 => ?_) (fun h68 p68 => ?_)
 ·refine g9 3 ?_
  refine W.qcall (Zf2 _ _ _ _ _ _ (by first | assumption | omega | (dsimp only; omega))) rfl (W.qcall (Zie _ _ _) rfl (g9 2 ?_))
  refine W.sp 74 rfl (fun h73 => ?_) (fun h73 => ?_)
  ·replace h73 : (!(Opr.span (⟨pk, pkey, phi, po, pv, pl⟩ : Opr)).empty) = true := h73
   refine g9 8 ?_
   refine W.sp 78 rfl (fun h77 => ?_) (fun h77 => ?_)
   ·refine g9 12 ?_
    exact YU
   refine g9 15 ?_
   exact YU
  replace h73 : (!(Opr.span (⟨pk, pkey, phi, po, pv, pl⟩ : Opr)).empty) = false := h73
  refine g9 15 ?_
  exact YU
 refine g9 8 ?_
 refine W.sd 87 (fun h86 p86 => ?_) (fun h86 p86 => ?_)
 ·refine g9 12 ?_
  exact YU
 refine g9 9 ?_
 exact YU

theorem Zkm {G : GH} (pk : Int) (pkey : Str) (phi : Str) (po : Bool) (pv : Str) (pl : Int) :
    Fc Tryz.prog 44 [.agg #[iV pk, sV pkey.b, sV phi.b, .bool po, sV pv.b, iV pl]] G [] (fun v _ _ => v = iV (if Opr.R (⟨pk, pkey, phi, po, pv, pl⟩ : Opr) then 0 else 3)) := by
 have h1 := pkey.le
 have h2 := phi.le
 have h3 := pv.le
 have hn : ∀ s : Str, s.b = ⟨#[]⟩ ↔ s = Str.nil := fun s => ⟨fun h => Str.ext' h, fun h => by rw [h]; rfl⟩
 refine Fc.go [.tmp 2] Tryz.func44 Tryz.ntmps44 rfl (fun w0 => (g9 2 ?_))
 refine W.box (L := [iV _, sV _, sV _, .bool _, sV _, iV _]) rfl rfl (fun b1 => (g9 3 ?_))
 refine WC.join (X := Bool) (fun ok => [(3, .bool ok), (1, pt9 b1)]) (fun ok _ Ml => Ml = [(b1, ce9 34 [iV pk, sV pkey.b, sV phi.b, .bool po, sV pv.b, iV pl])] ∧ ok = decide (1 ≤ pk ∧ pk ≤ 6 ∧ pkey.b.size ≤ 16 ∧ phi.b.size ≤ 16 ∧ pv.b.size ≤ 16)) ?_ ?_
 ·refine g9 5 ?_
  refine W.sd 7 (fun h6 p6 => ?_) (fun h6 p6 => ?_)
  ·refine g9 8 ?_
   refine W.sd 12 (fun h10 p10 => ?_) (fun h10 p10 => ?_)
   ·refine g9 5 ?_
    refine W.qcall (Zij _) rfl (g9 2 ?_)
    refine W.sp 17 rfl (fun h15 => ?_) (fun h15 => ?_)
    ·have k15 := odt h15
     refine g9 5 ?_
     refine W.qcall (Zij _) rfl (g9 2 ?_)
     refine W.sp 22 rfl (fun h20 => ?_) (fun h20 => ?_)
     ·have k20 := odt h20
      refine g9 5 ?_
      refine W.qcall (Zpj _) rfl (g9 4 ?_)
      exact ⟨Le.rfl, _, hs9, ⟨rfl, (by rw [Bool.eq_iff_iff, decide_eq_true_iff]; first | (simp_all; done) | (simp_all; omega) | grind)⟩⟩
     refine g9 7 ?_
     exact ⟨Le.rfl, _, hs9, ⟨rfl, (by rw [Bool.eq_iff_iff, decide_eq_true_iff]; first | (simp_all; done) | (simp_all; omega) | grind)⟩⟩
    refine g9 12 ?_
    exact ⟨Le.rfl, _, hs9, ⟨rfl, (by rw [Bool.eq_iff_iff, decide_eq_true_iff]; first | (simp_all; done) | (simp_all; omega) | grind)⟩⟩
   refine g9 17 ?_
   exact ⟨Le.rfl, _, hs9, ⟨rfl, (by rw [Bool.eq_iff_iff, decide_eq_true_iff]; first | (simp_all; done) | (simp_all; omega) | grind)⟩⟩
  refine g9 22 ?_
  exact ⟨Le.rfl, _, hs9, ⟨rfl, (by rw [Bool.eq_iff_iff, decide_eq_true_iff]; first | (simp_all; done) | (simp_all; omega) | grind)⟩⟩
 rintro ok gG2 G2 _ hG2 ⟨rfl, hok⟩
 refine WC.join (X := Bool) (fun ok => [(3, .bool ok), (1, pt9 b1)]) (fun ok _ Ml => Ml = [(b1, ce9 34 [iV pk, sV pkey.b, sV phi.b, .bool po, sV pv.b, iV pl])] ∧ ok = decide (1 ≤ pk ∧ pk ≤ 6 ∧ pkey.b.size ≤ 16 ∧ phi.b.size ≤ 16 ∧ pv.b.size ≤ 16 ∧ (2 < pk → pv = Str.nil) ∧ (po = false ∨ phi = Str.nil))) ?_ ?_
 ·refine g9 3 ?_
  refine W.sp 28 rfl (fun hokb => ?_) (fun hokb => ?_)
  ·have hP := odt (hok.symm.trans hokb)
   have hks : pkey.b.size < 140737488355328 := by omega
   refine g9 3 ?_
   refine W.qcall (ZrJ _ _ _ _ _ _) rfl (g9 2 ?_)
   refine W.sp 31 rfl (fun h30 => ?_) (fun h30 => ?_)
   ·refine g9 15 ?_
    refine W.sp 41 rfl (fun h40 => ?_) (fun h40 => ?_)
    ·refine g9 9 ?_
     exact ⟨Le.rfl, _, hs9, ⟨rfl, (by rw [Bool.eq_iff_iff, decide_eq_true_iff]; first | (simp_all; done) | (simp_all; omega) | grind)⟩⟩
    refine g9 12 ?_
    exact ⟨Le.rfl, _, hs9, ⟨rfl, (by rw [Bool.eq_iff_iff, decide_eq_true_iff]; first | (simp_all; done) | (simp_all; omega) | grind)⟩⟩
   refine g9 10 ?_
   refine W.sd 37 (fun h34 p34 => ?_) (fun h34 p34 => ?_)
   ·refine g9 8 ?_
    refine W.sp 41 rfl (fun h40 => ?_) (fun h40 => ?_)
    ·refine g9 9 ?_
     exact ⟨Le.rfl, _, hs9, ⟨rfl, (by rw [Bool.eq_iff_iff, decide_eq_true_iff]; first | (simp_all; done) | (simp_all; omega) | grind)⟩⟩
    refine g9 12 ?_
    exact ⟨Le.rfl, _, hs9, ⟨rfl, (by rw [Bool.eq_iff_iff, decide_eq_true_iff]; first | (simp_all; done) | (simp_all; omega) | grind)⟩⟩
   refine g9 12 ?_
   exact ⟨Le.rfl, _, hs9, ⟨rfl, (by rw [Bool.eq_iff_iff, decide_eq_true_iff]; first | (simp_all; done) | (simp_all; omega) | grind)⟩⟩
  refine g9 21 ?_
  exact ⟨Le.rfl, _, hs9, ⟨rfl, (by rw [Bool.eq_iff_iff, decide_eq_true_iff]; first | (simp_all; done) | (simp_all; omega) | grind)⟩⟩
 rintro ok gG3 G3 _ hG3 ⟨rfl, hok⟩
 refine WC.join (X := Bool) (fun ok => [(3, .bool ok), (1, pt9 b1)]) (fun ok _ Ml => Ml = [(b1, ce9 34 [iV pk, sV pkey.b, sV phi.b, .bool po, sV pv.b, iV pl])] ∧ ok = decide (1 ≤ pk ∧ pk ≤ 6 ∧ pkey.b.size ≤ 16 ∧ phi.b.size ≤ 16 ∧ pv.b.size ≤ 16 ∧ (2 < pk → pv = Str.nil) ∧ (po = false ∨ phi = Str.nil) ∧ if pk = 4 ∨ pk = 6 then (Opr.span (⟨pk, pkey, phi, po, pv, pl⟩ : Opr)).empty = false else phi = Str.nil ∧ po = false)) ?_ ?_
 ·refine g9 3 ?_
  refine W.qcall (Zkk _ _ _ _ _ _) rfl (g9 2 ?_)
  refine WC.cond rfl (fun h48 => ?_) (fun h48 => ?_)
  ·refine g9 3 ?_
   refine W.sp 50 rfl (fun hokb => ?_) (fun hokb => ?_)
   ·have hP := odt (hok.symm.trans hokb)
    have hks : pkey.b.size < 140737488355328 := by omega
    refine g9 3 ?_
    refine W.qcall (Zkl _ _ _ _ _ _ (by first | assumption | omega | (dsimp only; omega))) rfl (g9 1 ?_)
    refine W.qcall (Zcs _ _ _) rfl (g9 6 ?_)
    exact ⟨Le.rfl, _, hs9, ⟨rfl, (by rw [Bool.eq_iff_iff, decide_eq_true_iff]; show (!(Opr.span (⟨pk, pkey, phi, po, pv, pl⟩ : Opr)).empty) = true ↔ _; rw [if_pos (odt h48)]; first | (simp_all; done) | (simp_all; omega) | grind)⟩⟩
   refine g9 8 ?_
   exact ⟨Le.rfl, _, hs9, ⟨rfl, (by refine (decide_eq_false fun h => odf (hok.symm.trans hokb) ?_).symm; obtain ⟨a, b, c, d, e, f, g, _⟩ := h; exact ⟨a, b, c, d, e, f, g⟩)⟩⟩
  refine g9 3 ?_
  refine W.sp 57 rfl (fun hokb => ?_) (fun hokb => ?_)
  ·have hP := odt (hok.symm.trans hokb)
   have hks : pkey.b.size < 140737488355328 := by omega
   refine g9 8 ?_
   refine W.sd 62 (fun h60 p60 => ?_) (fun h60 p60 => ?_)
   ·refine g9 10 ?_
    exact ⟨Le.rfl, _, hs9, ⟨rfl, (by rw [Bool.eq_iff_iff, decide_eq_true_iff]; rw [if_neg (odf h48)]; first | (simp_all; done) | (simp_all; omega) | grind)⟩⟩
   refine g9 7 ?_
   exact ⟨Le.rfl, _, hs9, ⟨rfl, (by rw [Bool.eq_iff_iff, decide_eq_true_iff]; rw [if_neg (odf h48)]; first | (simp_all; done) | (simp_all; omega) | grind)⟩⟩
  refine g9 12 ?_
  exact ⟨Le.rfl, _, hs9, ⟨rfl, (by rw [Bool.eq_iff_iff, decide_eq_true_iff]; rw [if_neg (odf h48)]; first | (simp_all; done) | (simp_all; omega) | grind)⟩⟩
 rintro ok gG4 G4 _ hG4 ⟨rfl, hok⟩
 refine WC.join (X := Bool) (fun ok => [(3, .bool ok)]) (fun ok _ Ml => Ml = [(b1, ce9 34 [iV pk, sV pkey.b, sV phi.b, .bool po, sV pv.b, iV pl])] ∧ ok = decide (Opr.R (⟨pk, pkey, phi, po, pv, pl⟩ : Opr))) ?_ ?_
 ·refine g9 7 ?_
  refine WC.cd (fun h69 p69 => ?_) (fun h69 p69 => ?_)
  ·refine g9 3 ?_
   refine W.sp 71 rfl (fun hokb => ?_) (fun hokb => ?_)
   ·have hP := odt (hok.symm.trans hokb)
    have hks : pkey.b.size < 140737488355328 := by omega
    refine g9 8 ?_
    refine W.sd 76 (fun h74 p74 => ?_) (fun h74 p74 => ?_)
    ·refine g9 10 ?_
     exact ⟨Le.rfl, _, hs9, ⟨rfl, (by rw [Bool.eq_iff_iff, decide_eq_true_iff]; simp only [Opr.R]; first | (simp_all; done) | (simp_all; omega) | grind)⟩⟩
    refine g9 7 ?_
    exact ⟨Le.rfl, _, hs9, ⟨rfl, (by rw [Bool.eq_iff_iff, decide_eq_true_iff]; simp only [Opr.R]; first | (simp_all; done) | (simp_all; omega) | grind)⟩⟩
   refine g9 12 ?_
   exact ⟨Le.rfl, _, hs9, ⟨rfl, (by rw [Bool.eq_iff_iff, decide_eq_true_iff]; simp only [Opr.R]; first | (simp_all; done) | (simp_all; omega) | grind)⟩⟩
  refine g9 3 ?_
  refine W.sp 82 rfl (fun hokb => ?_) (fun hokb => ?_)
  ·have hP := odt (hok.symm.trans hokb)
   have hks : pkey.b.size < 140737488355328 := by omega
   refine g9 10 ?_
   exact ⟨Le.rfl, _, hs9, ⟨rfl, (by rw [Bool.eq_iff_iff, decide_eq_true_iff]; simp only [Opr.R]; first | (simp_all; done) | (simp_all; omega) | grind)⟩⟩
  refine g9 7 ?_
  exact ⟨Le.rfl, _, hs9, ⟨rfl, (by rw [Bool.eq_iff_iff, decide_eq_true_iff]; simp only [Opr.R]; first | (simp_all; done) | (simp_all; omega) | grind)⟩⟩
 rintro ok gG5 G5 _ hG5 ⟨rfl, hok⟩
 refine g9 7 ?_
 refine WC.cond rfl (fun h88 => ?_) (fun h88 => ?_)
 ·refine g9 8 ?_
  refine congrArg (Value.int .i64) ?_
  subst hok
  rw [if_neg (by simpa using h88)]
 refine g9 9 ?_
 refine congrArg (Value.int .i64) ?_
 subst hok
 rw [if_pos (by simpa using h88)]

theorem ZrM {G : GH} (pk : Int) (pkey : Str) (phi : Str) (po : Bool) (pv : Str) (pl : Int) (n : Int) :
    Fc Tryz.prog 28 [.agg #[iV pk, sV pkey.b, sV phi.b, .bool po, sV pv.b, iV pl], iV n] G [] (fun v _ _ => v = .bool (decide ((pkey.b.size : Int) ≤ n ∧ (phi.b.size : Int) ≤ n ∧ (pv.b.size : Int) ≤ n))) := by
 have h1 := pkey.le
 have h2 := phi.le
 have h3 := pv.le
 refine Fc.go [.tmp 4] Tryz.func28 Tryz.ntmps28 rfl (fun w0 => (g9 2 ?_))
 refine W.box (L := [iV _, sV _, sV _, .bool _, sV _, iV _]) rfl rfl (fun b6 => (g9 11 ?_))
 refine W.sd 10 (fun h9 p9 => ?_) (fun h9 p9 => ?_)
 ·refine g9 12 ?_
  refine W.sd 17 (fun h15 p15 => ?_) (fun h15 p15 => ?_)
  ·refine g9 16 ?_
   refine congrArg Value.bool ?_
   first | (simp_all; done) | (simp_all; omega) | (simp_all; intros; omega)
  refine g9 11 ?_
  refine congrArg Value.bool ?_
  first | (simp_all; done) | (simp_all; omega) | (simp_all; intros; omega)
 refine g9 18 ?_
 refine congrArg Value.bool ?_
 first | (simp_all; done) | (simp_all; omega) | (simp_all; intros; omega)

theorem ZrN {G : GH} (pk : Int) (pkey : Str) (phi : Str) (po : Bool) (pv : Str) (pl : Int) (s : Int) (hR : Opr.R (⟨pk, pkey, phi, po, pv, pl⟩ : Opr)) (hk4 : pk ≤ 4) (hs : 1 ≤ s) :
    Fc Tryz.prog 78 [.agg #[iV pk, sV pkey.b, sV phi.b, .bool po, sV pv.b, iV pl], iV s] G [] (fun v _ _ => v = .tuple #[.agg (List.toArray ((Opr.msg (⟨pk, pkey, phi, po, pv, pl⟩ : Opr) s).cells)), .bool (true)]) := by
 have hk1 := hR.1.1
 dsimp only at hk1
 refine Fc.go [.cell 4 87, .tmp 5] Tryz.func78 Tryz.ntmps78 rfl (fun w0 => (g9 2 ?_))
 refine W.box (L := [iV _, sV _, sV _, .bool _, sV _, iV _]) rfl rfl (fun b1 => (W.alloc ZT (fun b2 => (g9 7 ?_))))
 refine W.qcall (Zkm _ _ _ _ _ _) rfl (g9 2 ?_)
 refine W.sm 9 (fun h8 p8 => ?_) (fun h8 p8 => ?_)
 ·simp [hR] at h8
 refine g9 3 ?_
 refine W.qcall (ZrK _ _ _ _ _ _) rfl (g9 4 ?_)
 refine W.sp 14 rfl (fun h12 => ?_) (fun h12 => ?_)
 ·simp only [Bool.not_eq_true', decide_eq_false_iff_not] at h12
  exfalso; omega
 refine g9 7 ?_
 refine WC.cd (fun h16 p16 => ?_) (fun h16 p16 => ?_)
 ·exfalso; omega
 refine g9 15 ?_
 refine W.ok (ZE (L := [iV _, iV _, sV _, sV _, .bool _, sV _]) Zda ZT rfl rfl rfl) (g9 6 ?_)
 rfl

theorem ZrO {G : GH} {v_l : Value} {l : List Pair} (h_l : SlR Zl G v_l l) (pk : Int) (pkey : Str) (phi : Str) (po : Bool) (pv : Str) (pl : Int) (hP : PairsR l) (hn : l.length ≤ 1000000) :
    Fc Tryz.prog 12 [v_l, .agg #[iV pk, sV pkey.b, sV phi.b, .bool po, sV pv.b, iV pl]] G [] (fun v G' M' => M' = [] ∧ ∃ r : List Pair × Ans, r = doN l (⟨pk, pkey, phi, po, pv, pl⟩ : Opr) ∧ ∃ u0 u1, v = .tuple #[u0, .agg (List.toArray u1)] ∧ SlR Zl G' u0 (r.1) ∧ AnsC G' u1 (r.2)) := by
 obtain ⟨sa_l, sc_l, rfl⟩ := h_l.form
 have hr := hP.srt
 have hl := h_l.len47
 refine Fc.go [.tmp 4, .cell 5 38] Tryz.func12 Tryz.ntmps12 rfl (fun w0 => (g9 2 ?_))
 refine W.box (L := [iV _, sV _, sV _, .bool _, sV _, iV _]) rfl rfl (fun b3 => (W.as (W.alloc Za2 (fun b4 => (g9 4 ?_)))))
 refine W.ok (ZE (L := [iV _, .bool _, sV _, lV _ _ _]) Zh6 Za2 rfl rfl rfl) (W.alloc Za2 (fun b5 => (g9 7 ?_)))
 refine W.qcall (ZrL _ _ _ _ _ _) rfl (g9 3 ?_)
 refine WC.cond rfl (fun h10 => ?_) (fun h10 => ?_)
 ·refine g9 7 ?_
  refine WC.dw ((sr9.k9.cons _).k9) (d9 [0, 1, 2, 3] ?_)
  refine g9 5 ?_
  refine ⟨rfl, _, (ZjD (by simpa using h10)).symm, _, _, rfl, ?_, ?_⟩
  · exact h_l
  exact ⟨_, _, rfl, SlR.nil, (by first | assumption | exact ⟨by decide, by decide⟩ | exact ⟨by dsimp only; omega, by dsimp only; omega⟩ | (simp only [h3]; exact ⟨by decide, by decide⟩) | exact ⟨by rw [h3]; decide, by rw [h3]; decide⟩)⟩
 have hR : Opr.R (⟨pk, pkey, phi, po, pv, pl⟩ : Opr) := by simpa using h10
 have hks := hR.1.2.2.1
 dsimp only at hks
 have hkf : Msg.fit ⟨1, pk, pkey, phi, po, pv⟩ := hR.fit 1
 refine g9 10 ?_
 refine WC.cd (fun h16 p16 => ?_) (fun h16 p16 => ?_)
 ·refine g9 5 ?_
  refine W.qcall (Zil h_l _) rfl (g9 10 ?_)
  refine WC.dw ((sr9.k9.cons _).k9) (d9 [0, 1, 2, 3] ?_)
  refine g9 5 ?_
  refine ⟨rfl, _, (ZjE hR p16).symm, _, _, rfl, ?_, ?_⟩
  · exact h_l
  exact ⟨_, _, rfl, SlR.nil, (by first | assumption | exact ⟨by decide, by decide⟩ | exact ⟨by dsimp only; omega, by dsimp only; omega⟩ | (simp only [h3]; exact ⟨by decide, by decide⟩) | exact ⟨by rw [h3]; decide, by rw [h3]; decide⟩)⟩
 refine g9 10 ?_
 refine WC.cd (fun h30 p30 => ?_) (fun h30 p30 => ?_)
 ·refine WC.seq (WC.dw ((sr9.k9.k9).cons _) (d9 [0, 1, 3, 4] ?_))
  refine WD.a1 2 rfl (W.qcall (Zf2 _ _ _ _ _ _ (by first | assumption | omega | (dsimp only; omega))) rfl (W.nn (WD.a1 5 rfl (W.cS (Zps h_l _ _ _ _ (by first | assumption | omega | (simp; omega) | (exact PairsR.fold (by assumption) (by assumption)))) rfl (fun sa_hv7 sc_hv7 G6 hG6 hv7 => (W.nn (d9 [6, 7] ?_)))))))
  refine g9 3 ?_
  refine WC.dw ((sr9.k9.cons _).k9) (d9 [0, 1, 2, 3] ?_)
  refine g9 5 ?_
  refine ⟨rfl, _, (ZjF hR p30).symm, _, _, rfl, ?_, ?_⟩
  · exact (h_l.mono hG6)
  exact ⟨_, _, rfl, hv7, (by first | assumption | exact ⟨by decide, by decide⟩ | exact ⟨by dsimp only; omega, by dsimp only; omega⟩ | (simp only [h3]; exact ⟨by decide, by decide⟩) | exact ⟨by rw [h3]; decide, by rw [h3]; decide⟩)⟩
 refine g9 3 ?_
 refine WC.dw ((sr9.k9.cons _).k9) (d9 [0, 1, 2, 3, 4, 5, 6, 7, 8, 9, 10] ?_)
 refine WD.tk 11 rfl (ZE (L := [iV _, iV _, sV _, sV _, .bool _, sV _]) Zda ZT rfl rfl rfl) (d9 [13] ?_)
 refine WD.a1 12 rfl (W.cS (Zm8 h_l _ _ _ _ _ _ (by first | assumption | omega | (simp; omega) | (exact PairsR.fold (by assumption) (by assumption))) (by first | assumption | omega | (simp; omega) | (exact PairsR.fold (by assumption) (by assumption))) (by first | assumption | exact Zbt (by assumption))) rfl (fun sa_hv14 sc_hv14 G13 hG13 hv14 => (W.nn (d9 [14, 15] ?_))))
 refine g9 4 ?_
 refine ⟨rfl, _, (ZjG hR p16 p30).symm, _, _, rfl, ?_, ?_⟩
 · exact hv14
 exact ⟨_, _, rfl, SlR.nil, (by first | assumption | exact ⟨by decide, by decide⟩ | exact ⟨by dsimp only; omega, by dsimp only; omega⟩ | (simp only [h3]; exact ⟨by decide, by decide⟩) | exact ⟨by rw [h3]; decide, by rw [h3]; decide⟩)⟩

theorem ZrP {G : GH} {b_s : Nat} {c c2 : Cfg} {l : List Nd} {ss : List Seat} {Ms_s : MH} (h_s : StR 60 4 3 189 139 b_s c G l Ms_s) (t : Tree c2 l ss) (pk : Int) (pkey : Str) (phi : Str) (po : Bool) (pv : Str) (pl : Int) (hc9 : c = c2) (hR : Opr.R (⟨pk, pkey, phi, po, pv, pl⟩ : Opr)) (hk4 : pk ≤ 4) (hsn : 0 ≤ (Za l 0).seen ∧ (Za l 0).seen ≤ 1000000000000) :
    Fc Tryz.prog 148 [pt9 b_s, .agg #[iV pk, sV pkey.b, sV phi.b, .bool po, sV pv.b, iV pl]] G Ms_s (fun v G' M' => (∃ cs, v = .tuple #[.agg (List.toArray cs), iV (Zu c l (⟨pk, pkey, phi, po, pv, pl⟩ : Opr)).2.1] ∧ NodeC G' cs (XP c l (⟨pk, pkey, phi, po, pv, pl⟩ : Opr))) ∧ M' = Ms_s) := by
 subst hc9
 have hp9 := t.pos
 have hs1 : 1 ≤ (Za l 0).seen + 1 := by omega
 have hs2 : i64 ((Za l 0).seen + 1) := ⟨om9, om9⟩
 have hmR : Msg.R ((⟨pk, pkey, phi, po, pv, pl⟩ : Opr).msg ((Za l 0).seen + 1)) := ZfR hR hk4 hs1
 have hrs : (Za l 0).R c.fan c.leaf c.bud := by have h9 := (t.seat t.root).1; rwa [t.rootn] at h9
 obtain ⟨hli1, hli2⟩ := t.cfg.2.1
 have hli : i64 c.leaf := ⟨om9, om9⟩
 have hbu := t.cfg.2.2.1
 have hbn : 0 ≤ c.bud ∧ c.bud ≤ 9223372036854775807 := by omega
 have hPr : PairsR (Za l 0).rows := by have h9 := t.rows t.root; rwa [t.rootn] at h9
 have hNd := Zbe t.cfg hrs
 have hrl := hNd.2.2.2.1
 have hml : (Za l 0).msgs.length ≤ 1000000 := by have := hNd.2.2.1; omega
 have hmi1 : i64 ((Za l 0).seen + 1) := hs2
 have hmi2 : i64 pk := ⟨by have := hR.1.1; dsimp only at this; omega, om9⟩
 have hms9 : ∀ m ∈ (Za l 0).msgs, m.key.b.size ≤ 16 ∧ m.val.b.size ≤ 16 := fun m hm => YZ ((t.msgs t.root).2.1 m (by rw [t.rootn]; exact hm))
 refine Fc.go [.cell 4 60, .tmp 5] Tryz.func148 Tryz.ntmps148 rfl (fun w0 => (WC.perm (M' := (Ms_s ++ [])) (by simp) (g9 2 ?_)))
 refine W.box (L := [iV _, sV _, sV _, .bool _, sV _, iV _]) rfl rfl (fun b1 => (W.alloc Zp (fun b2 => (g9 6 ?_))))
 refine W.call (Mp := Ms_s) (Zax h_s 0) rfl (pmC (pmC pr9)) ?_
 intro v6 G3 Ms5 hG3 q4
 refine match q4 with | ⟨⟨_, e_8, ⟨_, _, _, _, _, _, _, _, e_9, hp_hR7, hk_hR7, hm_hR7, hr_hR7, hok_hR7⟩⟩, eeq4⟩ => ?_
 subst e_8
 subst e_9
 have eeq4 := eeq4.symm
 subst eeq4
 refine W.perm (pmC (pmC pr9)).symm (g9 3 ?_)
 refine W.alloc Zp (fun b10 => (g9 11 ?_))
 refine WC.cn (fun h15 p15 => ?_) (fun h15 p15 => ?_)
 ·try dsimp only at p15
  exact absurd h15 (by simp; omega)
 try dsimp only at p15
 refine g9 8 ?_
 refine W.qcall (ZrN pk pkey phi po pv pl ((Za l 0).seen + 1) hR hk4 hs1) rfl (g9 3 ?_)
 refine W.alloc ZT (fun b11 => (g9 22 ?_))
 refine WC.cd (fun h30 p30 => ?_) (fun h30 p30 => ?_)
 ·try dsimp only at p30
  refine WC.dw (((sn9.k9.k9).cons _).k9) (d9 [0, 2, 3] ?_)
  refine WD.any [1, 4] (by kernel_rfl) rfl ⟨WD.ap ?_, WD.ap ?_, trivial⟩
  ·refine g9 1 ?_
   refine W.nn (WD.a1 4 rfl (W.call (Mp := Ms_s) (JN (StR.mono hG3 h_s)) rfl (pmC (pmC (pmC (pmC pr9)))) ?_))
   intro v15 G12 Ms14 hG12 q13
   refine match q13 with | ⟨e_17, eeq13⟩ => ?_
   subst e_17
   have eeq13 := eeq13.symm
   subst eeq13
   refine W.perm (pmC (pmC (pmC (pmC pr9)))).symm (W.nn (WD.tk 5 rfl (Zee (L := [iV _, iV _, iV _, iV _, iV _]) (vs := ic9) Zib rfl rfl rfl) (WD.a1 6 rfl (W.call (Mp := []) (ZeG (hr_hR7.mono hG12) (((⟨pk, pkey, phi, po, pv, pl⟩ : Opr).msg ((Za l 0).seen + 1))).stamp (((⟨pk, pkey, phi, po, pv, pl⟩ : Opr).msg ((Za l 0).seen + 1))).kind (((⟨pk, pkey, phi, po, pv, pl⟩ : Opr).msg ((Za l 0).seen + 1))).key (((⟨pk, pkey, phi, po, pv, pl⟩ : Opr).msg ((Za l 0).seen + 1))).hi (((⟨pk, pkey, phi, po, pv, pl⟩ : Opr).msg ((Za l 0).seen + 1))).opn (((⟨pk, pkey, phi, po, pv, pl⟩ : Opr).msg ((Za l 0).seen + 1))).val c.leaf hPr om9 (hR.fit _)) rfl pr9 ?_))))
   intro _ G18 _ hG18 q20
   refine match q20 with | ⟨e_21, _, e_22, _, e_23, hv19⟩ => ?_
   subst e_21
   subst e_22
   subst e_23
   have q25 := hv19.form
   refine match q25 with | ⟨sa_hv19, sc_hv19, e_24⟩ => ?_
   subst e_24
   refine W.nn (d9 [7, 8, 9, 10, 11, 12] ?_)
   refine g9 9 ?_
   refine WC.cond rfl (fun h54 => ?_) (fun h54 => ?_)
   ·refine g9 9 ?_
    refine ⟨.inr rfl, [_, _], ⟨⟨_, _, _, _, _, rfl, YF (i := 2) rfl, Yp, (by simp), rfl, rfl⟩, rfl, trivial⟩, Ms_s, ((((List.sublist_append_left _ _).cons _).cons _).cons _).cons _, ?_⟩
    have hb9 : Yg (Za l 0).rows ((⟨pk, pkey, phi, po, pv, pl⟩ : Opr).msg ((Za l 0).seen + 1)) c.leaf = false := by rw [← ZdG]; simpa using h54
    have hE := Za6 (c := c) (o := (⟨pk, pkey, phi, po, pv, pl⟩ : Opr)) p30 hb9
    have hE2 : (Zu c l (⟨pk, pkey, phi, po, pv, pl⟩ : Opr)).2.1 = 4 := by rw [hE]
    rw [Zkh p30 om9, hE2]
    exact ⟨⟨_, rfl, _, _, _, _, _, _, _, _, rfl, (hp_hR7.mono lec), (hk_hR7.mono lec), (hm_hR7.mono lec), hv19, hok_hR7⟩, rfl⟩
   refine g9 18 ?_
   refine ⟨.inr rfl, [_, _], ⟨⟨_, _, _, _, _, rfl, YF (i := 2) rfl, Yp, (by simp), rfl, rfl⟩, rfl, trivial⟩, Ms_s, ((((List.sublist_append_left _ _).cons _).cons _).cons _).cons _, ?_⟩
   have hb9 : Yg (Za l 0).rows ((⟨pk, pkey, phi, po, pv, pl⟩ : Opr).msg ((Za l 0).seen + 1)) c.leaf = true := by rw [← ZdG]; simpa using h54
   have hE := ZbO (c := c) (o := (⟨pk, pkey, phi, po, pv, pl⟩ : Opr)) p30 hb9
   have hE2 : (Zu c l (⟨pk, pkey, phi, po, pv, pl⟩ : Opr)).2.1 = 0 := by rw [hE]
   rw [Zf0 p30 (by exact hE2), hE2]
   exact ⟨⟨_, rfl, _, _, _, _, _, _, _, _, rfl, (hp_hR7.mono lec), (hk_hR7.mono lec), (hm_hR7.mono lec), hv19, ⟨hok_hR7.1, hok_hR7.2.1, hok_hR7.2.2.1, hs2⟩⟩, rfl⟩
  refine W.call (Mp := Ms_s) (JN (StR.mono hG3 h_s)) rfl (pmC (pmC (pmC (pmC pr9)))) ?_
  intro v29 G26 Ms28 hG26 q27
  refine match q27 with | ⟨e_31, eeq27⟩ => ?_
  subst e_31
  have eeq27 := eeq27.symm
  subst eeq27
  refine W.perm (pmC (pmC (pmC (pmC pr9)))).symm (W.nn (WD.tk 5 rfl (Zee (L := [iV _, iV _, iV _, iV _, iV _]) (vs := ic9) Zib rfl rfl rfl) (WD.a1 1 rfl (g9 1 ?_))))
  refine W.nn (WD.a1 6 rfl (W.call (Mp := []) (ZeG (hr_hR7.mono hG26) (((⟨pk, pkey, phi, po, pv, pl⟩ : Opr).msg ((Za l 0).seen + 1))).stamp (((⟨pk, pkey, phi, po, pv, pl⟩ : Opr).msg ((Za l 0).seen + 1))).kind (((⟨pk, pkey, phi, po, pv, pl⟩ : Opr).msg ((Za l 0).seen + 1))).key (((⟨pk, pkey, phi, po, pv, pl⟩ : Opr).msg ((Za l 0).seen + 1))).hi (((⟨pk, pkey, phi, po, pv, pl⟩ : Opr).msg ((Za l 0).seen + 1))).opn (((⟨pk, pkey, phi, po, pv, pl⟩ : Opr).msg ((Za l 0).seen + 1))).val c.leaf hPr om9 (hR.fit _)) rfl pr9 ?_))
  intro _ G32 _ hG32 q34
  refine match q34 with | ⟨e_35, _, e_36, _, e_37, hv33⟩ => ?_
  subst e_35
  subst e_36
  subst e_37
  have q39 := hv33.form
  refine match q39 with | ⟨sa_hv33, sc_hv33, e_38⟩ => ?_
  subst e_38
  refine W.nn (d9 [7, 8, 9, 10, 11, 12] ?_)
  refine g9 9 ?_
  refine WC.cond rfl (fun h54 => ?_) (fun h54 => ?_)
  ·refine g9 9 ?_
   refine ⟨.inr rfl, [_, _], ⟨⟨_, _, _, _, _, rfl, YF (i := 2) rfl, Yp, (by simp), rfl, rfl⟩, rfl, trivial⟩, Ms_s, ((((List.sublist_append_left _ _).cons _).cons _).cons _).cons _, ?_⟩
   have hb9 : Yg (Za l 0).rows ((⟨pk, pkey, phi, po, pv, pl⟩ : Opr).msg ((Za l 0).seen + 1)) c.leaf = false := by rw [← ZdG]; simpa using h54
   have hE := Za6 (c := c) (o := (⟨pk, pkey, phi, po, pv, pl⟩ : Opr)) p30 hb9
   have hE2 : (Zu c l (⟨pk, pkey, phi, po, pv, pl⟩ : Opr)).2.1 = 4 := by rw [hE]
   rw [Zkh p30 om9, hE2]
   exact ⟨⟨_, rfl, _, _, _, _, _, _, _, _, rfl, (hp_hR7.mono lec), (hk_hR7.mono lec), (hm_hR7.mono lec), hv33, hok_hR7⟩, rfl⟩
  refine g9 18 ?_
  refine ⟨.inr rfl, [_, _], ⟨⟨_, _, _, _, _, rfl, YF (i := 2) rfl, Yp, (by simp), rfl, rfl⟩, rfl, trivial⟩, Ms_s, ((((List.sublist_append_left _ _).cons _).cons _).cons _).cons _, ?_⟩
  have hb9 : Yg (Za l 0).rows ((⟨pk, pkey, phi, po, pv, pl⟩ : Opr).msg ((Za l 0).seen + 1)) c.leaf = true := by rw [← ZdG]; simpa using h54
  have hE := ZbO (c := c) (o := (⟨pk, pkey, phi, po, pv, pl⟩ : Opr)) p30 hb9
  have hE2 : (Zu c l (⟨pk, pkey, phi, po, pv, pl⟩ : Opr)).2.1 = 0 := by rw [hE]
  rw [Zf0 p30 (by exact hE2), hE2]
  exact ⟨⟨_, rfl, _, _, _, _, _, _, _, _, rfl, (hp_hR7.mono lec), (hk_hR7.mono lec), (hm_hR7.mono lec), hv33, ⟨hok_hR7.1, hok_hR7.2.1, hok_hR7.2.2.1, hs2⟩⟩, rfl⟩
 try dsimp only at p30
 refine WC.dw (((sn9.k9.k9).cons _).k9) (d9 [0, 2, 3] ?_)
 refine WD.any [1, 4] (by kernel_rfl) rfl ⟨WD.ap ?_, WD.ap ?_, trivial⟩
 ·refine g9 1 ?_
  refine W.nn (WD.a1 4 rfl (W.call (Mp := Ms_s) (JN (StR.mono hG3 h_s)) rfl (pmC (pmC (pmC (pmC pr9)))) ?_))
  intro v43 G40 Ms42 hG40 q41
  refine match q41 with | ⟨e_45, eeq41⟩ => ?_
  subst e_45
  have eeq41 := eeq41.symm
  subst eeq41
  refine W.perm (pmC (pmC (pmC (pmC pr9)))).symm (W.nn (WD.tk 5 rfl (Zee (L := [iV _, iV _, iV _, iV _, iV _]) (vs := ic9) Zic rfl rfl rfl) (WD.a1 6 rfl (W.call (Mp := []) (Zfv (hm_hR7.mono hG40) (((⟨pk, pkey, phi, po, pv, pl⟩ : Opr).msg ((Za l 0).seen + 1))).stamp (((⟨pk, pkey, phi, po, pv, pl⟩ : Opr).msg ((Za l 0).seen + 1))).kind (((⟨pk, pkey, phi, po, pv, pl⟩ : Opr).msg ((Za l 0).seen + 1))).key (((⟨pk, pkey, phi, po, pv, pl⟩ : Opr).msg ((Za l 0).seen + 1))).hi (((⟨pk, pkey, phi, po, pv, pl⟩ : Opr).msg ((Za l 0).seen + 1))).opn (((⟨pk, pkey, phi, po, pv, pl⟩ : Opr).msg ((Za l 0).seen + 1))).val c.bud hms9 hbn ⟨hmi1, hmi2⟩ hml) rfl pr9 ?_))))
  intro _ G46 _ hG46 q48
  refine match q48 with | ⟨e_49, _, e_50, _, e_51, hv47⟩ => ?_
  subst e_49
  subst e_50
  subst e_51
  have q53 := hv47.form
  refine match q53 with | ⟨sa_hv47, sc_hv47, e_52⟩ => ?_
  subst e_52
  refine W.nn (d9 [7, 8, 9, 10, 11, 12] ?_)
  refine g9 9 ?_
  refine WC.cond rfl (fun h54 => ?_) (fun h54 => ?_)
  ·refine g9 9 ?_
   refine ⟨.inr rfl, [_, _], ⟨⟨_, _, _, _, _, rfl, YF (i := 2) rfl, Yp, (by simp), rfl, rfl⟩, rfl, trivial⟩, Ms_s, ((((List.sublist_append_left _ _).cons _).cons _).cons _).cons _, ?_⟩
   have hb9 : Yj c.bud (Za l 0).msgs ((⟨pk, pkey, phi, po, pv, pl⟩ : Opr).msg ((Za l 0).seen + 1)) = false := by rw [← ZdJ]; simpa using h54
   have hE := Za7 (c := c) (o := (⟨pk, pkey, phi, po, pv, pl⟩ : Opr)) p30 hb9
   have hE2 : (Zu c l (⟨pk, pkey, phi, po, pv, pl⟩ : Opr)).2.1 = 4 := by rw [hE]
   rw [Zki p30 om9, hE2]
   exact ⟨⟨_, rfl, _, _, _, _, _, _, _, _, rfl, (hp_hR7.mono lec), (hk_hR7.mono lec), hv47, (hr_hR7.mono lec), hok_hR7⟩, rfl⟩
  refine g9 18 ?_
  refine ⟨.inr rfl, [_, _], ⟨⟨_, _, _, _, _, rfl, YF (i := 2) rfl, Yp, (by simp), rfl, rfl⟩, rfl, trivial⟩, Ms_s, ((((List.sublist_append_left _ _).cons _).cons _).cons _).cons _, ?_⟩
  have hb9 : Yj c.bud (Za l 0).msgs ((⟨pk, pkey, phi, po, pv, pl⟩ : Opr).msg ((Za l 0).seen + 1)) = true := by rw [← ZdJ]; simpa using h54
  have hE := ZbP (c := c) (o := (⟨pk, pkey, phi, po, pv, pl⟩ : Opr)) p30 hb9
  have hE2 : (Zu c l (⟨pk, pkey, phi, po, pv, pl⟩ : Opr)).2.1 = 0 := by rw [hE]
  rw [Zf1 p30 (by exact hE2), hE2]
  exact ⟨⟨_, rfl, _, _, _, _, _, _, _, _, rfl, (hp_hR7.mono lec), (hk_hR7.mono lec), hv47, (hr_hR7.mono lec), ⟨hok_hR7.1, hok_hR7.2.1, hok_hR7.2.2.1, hs2⟩⟩, rfl⟩
 refine W.call (Mp := Ms_s) (JN (StR.mono hG3 h_s)) rfl (pmC (pmC (pmC (pmC pr9)))) ?_
 intro v57 G54 Ms56 hG54 q55
 refine match q55 with | ⟨e_59, eeq55⟩ => ?_
 subst e_59
 have eeq55 := eeq55.symm
 subst eeq55
 refine W.perm (pmC (pmC (pmC (pmC pr9)))).symm (W.nn (WD.tk 5 rfl (Zee (L := [iV _, iV _, iV _, iV _, iV _]) (vs := ic9) Zic rfl rfl rfl) (WD.a1 1 rfl (g9 1 ?_))))
 refine W.nn (WD.a1 6 rfl (W.call (Mp := []) (Zfv (hm_hR7.mono hG54) (((⟨pk, pkey, phi, po, pv, pl⟩ : Opr).msg ((Za l 0).seen + 1))).stamp (((⟨pk, pkey, phi, po, pv, pl⟩ : Opr).msg ((Za l 0).seen + 1))).kind (((⟨pk, pkey, phi, po, pv, pl⟩ : Opr).msg ((Za l 0).seen + 1))).key (((⟨pk, pkey, phi, po, pv, pl⟩ : Opr).msg ((Za l 0).seen + 1))).hi (((⟨pk, pkey, phi, po, pv, pl⟩ : Opr).msg ((Za l 0).seen + 1))).opn (((⟨pk, pkey, phi, po, pv, pl⟩ : Opr).msg ((Za l 0).seen + 1))).val c.bud hms9 hbn ⟨hmi1, hmi2⟩ hml) rfl pr9 ?_))
 intro _ G60 _ hG60 q62
 refine match q62 with | ⟨e_63, _, e_64, _, e_65, hv61⟩ => ?_
 subst e_63
 subst e_64
 subst e_65
 have q67 := hv61.form
 refine match q67 with | ⟨sa_hv61, sc_hv61, e_66⟩ => ?_
 subst e_66
 refine W.nn (d9 [7, 8, 9, 10, 11, 12] ?_)
 refine g9 9 ?_
 refine WC.cond rfl (fun h54 => ?_) (fun h54 => ?_)
 ·refine g9 9 ?_
  refine ⟨.inr rfl, [_, _], ⟨⟨_, _, _, _, _, rfl, YF (i := 2) rfl, Yp, (by simp), rfl, rfl⟩, rfl, trivial⟩, Ms_s, ((((List.sublist_append_left _ _).cons _).cons _).cons _).cons _, ?_⟩
  have hb9 : Yj c.bud (Za l 0).msgs ((⟨pk, pkey, phi, po, pv, pl⟩ : Opr).msg ((Za l 0).seen + 1)) = false := by rw [← ZdJ]; simpa using h54
  have hE := Za7 (c := c) (o := (⟨pk, pkey, phi, po, pv, pl⟩ : Opr)) p30 hb9
  have hE2 : (Zu c l (⟨pk, pkey, phi, po, pv, pl⟩ : Opr)).2.1 = 4 := by rw [hE]
  rw [Zki p30 om9, hE2]
  exact ⟨⟨_, rfl, _, _, _, _, _, _, _, _, rfl, (hp_hR7.mono lec), (hk_hR7.mono lec), hv61, (hr_hR7.mono lec), hok_hR7⟩, rfl⟩
 refine g9 18 ?_
 refine ⟨.inr rfl, [_, _], ⟨⟨_, _, _, _, _, rfl, YF (i := 2) rfl, Yp, (by simp), rfl, rfl⟩, rfl, trivial⟩, Ms_s, ((((List.sublist_append_left _ _).cons _).cons _).cons _).cons _, ?_⟩
 have hb9 : Yj c.bud (Za l 0).msgs ((⟨pk, pkey, phi, po, pv, pl⟩ : Opr).msg ((Za l 0).seen + 1)) = true := by rw [← ZdJ]; simpa using h54
 have hE := ZbP (c := c) (o := (⟨pk, pkey, phi, po, pv, pl⟩ : Opr)) p30 hb9
 have hE2 : (Zu c l (⟨pk, pkey, phi, po, pv, pl⟩ : Opr)).2.1 = 0 := by rw [hE]
 rw [Zf1 p30 (by exact hE2), hE2]
 exact ⟨⟨_, rfl, _, _, _, _, _, _, _, _, rfl, (hp_hR7.mono lec), (hk_hR7.mono lec), hv61, (hr_hR7.mono lec), ⟨hok_hR7.1, hok_hR7.2.1, hok_hR7.2.2.1, hs2⟩⟩, rfl⟩

theorem ZrQ {G : GH} {b_s : Nat} {c c2 : Cfg} {l : List Nd} {ss : List Seat} {Ms_s : MH} (h_s : StR 60 4 3 189 139 b_s c G l Ms_s) (t : Tree c2 l ss) (pk : Int) (pkey : Str) (phi : Str) (po : Bool) (pv : Str) (pl : Int) (hc9 : c = c2) (hR : Opr.R (⟨pk, pkey, phi, po, pv, pl⟩ : Opr)) (hk4 : pk ≤ 4) (hsn : 0 ≤ (Za l 0).seen ∧ (Za l 0).seen ≤ 1000000000000) :
    Fc Tryz.prog 104 [pt9 b_s, .agg #[iV pk, sV pkey.b, sV phi.b, .bool po, sV pv.b, iV pl]] G Ms_s (fun v G' M' => v = .tuple #[iV (Zu c l (⟨pk, pkey, phi, po, pv, pl⟩ : Opr)).1, iV (Zu c l (⟨pk, pkey, phi, po, pv, pl⟩ : Opr)).2.1] ∧ StR 60 4 3 189 139 b_s c G' (Zu c l (⟨pk, pkey, phi, po, pv, pl⟩ : Opr)).2.2 M') := by
 subst hc9
 have hc9 : c = c := rfl
 have hp9 := t.pos
 have hsl0 := (YI t.slot (i := 0) ⟨Int.le_refl _, om9⟩).1
 refine Fc.go [.tmp 4, .tmp 5] Tryz.func104 Tryz.ntmps104 rfl (fun w0 => (WC.perm (M' := (Ms_s ++ [])) (by simp) (g9 2 ?_)))
 refine W.box (L := [iV _, sV _, sV _, .bool _, sV _, iV _]) rfl rfl (fun b68 => (g9 8 ?_))
 refine W.call (Mp := Ms_s) (ZrP h_s t pk pkey phi po pv pl hc9 hR hk4 hsn) rfl (pmC pr9) ?_
 intro v72 G69 Ms71 hG69 q70
 refine match q70 with | ⟨⟨_, e_74, ⟨_, _, _, _, _, _, _, _, e_75, hp_hR73, hk_hR73, hm_hR73, hr_hR73, hok_hR73⟩⟩, eeq70⟩ => ?_
 subst e_74
 subst e_75
 have eeq70 := eeq70.symm
 subst eeq70
 refine W.perm (pmC pr9).symm (g9 3 ?_)
 refine W.alloc Zp (fun b76 => (g9 11 ?_))
 refine WC.cn (fun h15 p15 => ?_) (fun h15 p15 => ?_)
 ·try dsimp only at p15
  refine g9 9 ?_
  refine ⟨.inr rfl, [_, _], ⟨rfl, rfl, trivial⟩, Ms_s, ((List.sublist_append_left _ _).cons _).cons _, ?_⟩
  have hE := ZfT (c := c) (l := l) (o := (⟨pk, pkey, phi, po, pv, pl⟩ : Opr)) p15
  exact ⟨congrArg (fun q : Int => Value.tuple #[iV q, iV (Zu c l (⟨pk, pkey, phi, po, pv, pl⟩ : Opr)).2.1]) (show (0 : Int) = (Zu c l (⟨pk, pkey, phi, po, pv, pl⟩ : Opr)).1 by rw [hE]), StR.to (StR.mono hG69 h_s) (by rw [hE])⟩
 try dsimp only at p15
 refine g9 3 ?_
 refine WC.dw (sn9.k9.k9) (d9 [0, 1, 2, 3] ?_)
 refine WD.a1 4 rfl (W.call (Mp := Ms_s) (Yz (StR.mono hG69 h_s) (by rw [Zkj, hsl0]; omega) (nk9 hp_hR73 hk_hR73 hm_hR73 hr_hR73 hok_hR73)) rfl (pmC (pmC pr9)) ?_)
 intro v80 G77 Ms79 hG77 q78
 refine match q78 with | ⟨e_82, hR81⟩ => ?_
 subst e_82
 refine W.perm (pmC (pmC pr9)).symm (W.nn (d9 [5, 6] ?_))
 refine g9 3 ?_
 refine ⟨.inr rfl, [_, _], ⟨rfl, rfl, trivial⟩, Ms79, ((List.sublist_append_left _ _).cons _).cons _, ?_⟩
 have hE : (Zu c l (⟨pk, pkey, phi, po, pv, pl⟩ : Opr)).2.1 = 0 := by omega
 exact ⟨(congrArg (fun q : Int => Value.tuple #[iV q, iV 0]) (ZrF hE)).trans (congrArg (fun q : Int => Value.tuple #[iV (Zu c l (⟨pk, pkey, phi, po, pv, pl⟩ : Opr)).1, iV q]) hE.symm), StR.to hR81 (ZrG t hE)⟩

end Go.Proofs.YtbbemibbmbmamaaGreat
namespace Go.Fw
open Go Go.RowKit
def BtR (te tB ti tb TS TT bt bs : Nat) (c : Cfg) (G : GH) (X : List Nd × Str) (M : MH) : Prop := ∃ Ms, M = (bt, .cells (List.toArray [.pointer (some ⟨bs, 0, none⟩), .string X.2.b]) TT (0, 0)) :: Ms ∧ StR te tB ti tb TS bs c G X.1 Ms
theorem BtR.mono {te tB ti tb TS TT bt bs : Nat} {c : Cfg} {G G' : GH} {X : List Nd × Str} {M : MH} (hl : Le G G') (h : BtR te tB ti tb TS TT bt bs c G X M) : BtR te tB ti tb TS TT bt bs c G' X M := by
  obtain ⟨Ms, h1, h2⟩ := h; exact ⟨Ms, h1, h2.mono hl⟩
section
variable {c : Cfg} {l l' : List Nd} {ss : List Seat} {o : Opr} {k : Int} {q : Str} {e : Int}
def isM (n : Nd) : Bool := decide ((0 : Int) < (n.msgs.length : Int))
def X2 (l : List Nd) : Bool := l.all fun n => !isM n
theorem ZrR (l : List Nd) : (!decide ((0 : Int) ≤ Yw isM l)) = X2 l := by
  rcases Zcu isM l with ⟨h, h2⟩ | ⟨k, hk, h, h2, _⟩
  · rw [h]
    have : X2 l = true := List.all_eq_true.2 fun x hx => by rw [h2 x hx]; rfl
    rw [this]; rfl
  · rw [h]
    have : X2 l = false := Bool.eq_false_iff.2 fun hq => by
      have := List.all_eq_true.1 hq l[k] (List.getElem_mem hk)
      rw [h2] at this; cases this
    rw [this]; simp
theorem ZrS {l : List Nd} (h : ∀ j (h : j < l.length), (l[j]).msgs.length = 0) : X2 l = true := List.all_eq_true.2 fun x hx => by
  obtain ⟨j, hj, rfl⟩ := List.getElem_of_mem hx
  unfold isM
  rw [h j hj]; rfl
def RoomP (c : Cfg) (l : List Nd) (q : Str) (e : Int) (l' : List Nd) : Prop :=
  ((Za l 0).level = 0 ∧ e = (ZN c l).1 ∧ l' = (ZN c l).2) ∨
  (¬ (Za l 0).level = 0 ∧ ∃ N r, Yn c q N l 0 0 = some r ∧ l' = r.2.2 ∧ e = (if 0 < r.1 then 0 else if r.2.1 = 0 then 4 else r.2.1))
theorem Zkn (h : (ZN c l).1 = 0) : l.length < (ZN c l).2.length := by
  unfold ZN at h ⊢
  split at h
  · cases h
  · rename_i h4
    rw [if_neg h4]
    split at h
    · cases h
    · rename_i h5
      rw [if_neg h5]
      unfold YS
      simp
theorem Zko (t : Tree c l ss) (ho : o.R) (h4 : o.kind ≤ 4) (hg : Grown c k l) (hf : ¬ (Zu c l o).2.1 = 0) (h : RoomP c l q e l') :
    (∃ T, Tree c l' T) ∧ Zh l' = Zh l ∧ Grown c k l' ∧ (e = 0 → muL c l' < muL c l) ∧ (¬ e = 0 → e = 4 ∧ c.slots - (l'.length : Int) < 2) := by
  obtain ⟨_, hl, hi⟩ := Zro t ho h4 hg hf
  rcases h with ⟨h0, rfl, rfl⟩ | ⟨h0, N, r, hr, rfl, rfl⟩
  · obtain ⟨T, hT, hm⟩ := Zjn t
    refine ⟨⟨T, hT⟩, hm, hg.lift t hl, fun h1 => ZfX hT (Zkn h1), fun h1 => ?_⟩
    rcases Zkd t (Zkc (k := q) t (.inr ⟨h0, by have h8 := hl h0; have h9 := t.cfg.2.1.1; omega⟩)) with h2 | ⟨h2, h3⟩
    · exact absurd h2 h1
    · rw [h2]; exact ⟨rfl, h3⟩
  · have ha : (0 : Int) ≤ 0 ∧ (0 : Int) < l.length := ⟨Int.le_refl _, by have := t.pos; omega⟩
    obtain ⟨T, hT, hm⟩ := ZbN N t ha hr
    have hmu := ZdI N t ha hr
    have her := ZcD N t ha hr
    refine ⟨⟨T, hT⟩, hm, hg.cyc t hr, fun h1 => ?_, fun h1 => ?_⟩
    · by_cases h2 : 0 < r.1
      · exact hmu.1 h2
      · rw [if_neg h2] at h1
        split at h1
        · cases h1
        · rename_i h3; exact absurd h1 h3
    · by_cases h2 : 0 < r.1
      · rw [if_pos h2] at h1; exact absurd rfl h1
      · rw [if_neg h2]
        rcases ZjY t (hi h0) hr with h3 | h3
        · exact absurd h3 h2
        · rw [if_neg (by omega)]
          rcases her with h5 | ⟨h5, h6⟩
          · omega
          · exact ⟨h5, h6⟩
structure WrP (c : Cfg) (k : Int) (o : Opr) (l : List Nd) (e : Int) (l' : List Nd) : Prop where
  t : ∃ T, Tree c l' T
  g : Grown c (k + 1) l'
  r : (e = 0 ∧ Zh l' = takeN (Zh l) (o.msg 1)) ∨ (e = 4 ∧ Zh l' = Zh l ∧ c.slots - (l'.length : Int) < 2)
  x : (Zu c l o).2.1 = 0 → l' = (Zu c l o).2.2 ∧ e = 0
theorem Grown.up {k' : Int} (h : Grown c k l) (hk : k ≤ k') : Grown c k' l := ⟨h.all, by have := h.le; omega, h.pos, by have := h.val; omega⟩
theorem WrP.ok {l0 : List Nd} (t : Tree c l ss) (ho : o.R) (h4 : o.kind ≤ 4) (hg : Grown c k l) (hk : k < 1099511627776) (hm : Zh l = Zh l0) (hx : l = l0 ∨ ¬ (Zu c l0 o).2.1 = 0) (h : (Zu c l o).2.1 = 0) : WrP c k o l0 0 (Zu c l o).2.2 := by
  obtain ⟨h1, h2, h3, _, _⟩ := Zrn t ho h4 hg hk h
  exact ⟨h1, h3, .inl ⟨rfl, by rw [h2, hm]⟩, fun h0 => hx.elim (fun e => by subst e; exact ⟨rfl, rfl⟩) fun hn => absurd h0 hn⟩
theorem WrP.no {l0 : List Nd} (t : Tree c l ss) (ho : o.R) (h4 : o.kind ≤ 4) (hg : Grown c k l) (hm : Zh l = Zh l0) (hx : l = l0 ∨ ¬ (Zu c l0 o).2.1 = 0) (hf : ¬ (Zu c l o).2.1 = 0) (h : RoomP c l q e l') (he : ¬ e = 0) : WrP c k o l0 e l' := by
  obtain ⟨h1, h2, h3, _, h5⟩ := Zko t ho h4 hg hf h
  exact ⟨h1, h3.up (by omega), .inr ⟨(h5 he).1, by rw [h2, hm], (h5 he).2⟩, fun h0 => hx.elim (fun e => absurd (e ▸ h0) hf) fun hn => absurd h0 hn⟩
structure DoP (c : Cfg) (k : Int) (o : Opr) (l : List Nd) (a : Ans) (l' : List Nd) : Prop where
  t : ∃ T, Tree c l' T
  g : Grown c (k + 1) l'
  r : (a = (doN (Zh l) o).2 ∧ Zh l' = (doN (Zh l) o).1) ∨ (a = ⟨4, false, Str.nil, []⟩ ∧ Zh l' = Zh l ∧ o.kind ≤ 4 ∧ (doN (Zh l) o).2.err = 0 ∧ c.slots - (l'.length : Int) < 2)
  x : o.R → o.kind ≤ 4 → (Zu c l o).2.1 = 0 → l' = (Zu c l o).2.2 ∧ a = ⟨0, false, Str.nil, []⟩
  z : 4 < o.kind → l' = l
theorem DoP.bad (t : Tree c l ss) (hg : Grown c k l) (h : ¬ o.R) : DoP c k o l ⟨3, false, Str.nil, []⟩ l := ⟨⟨_, t⟩, hg.up (by omega), .inl (by rw [ZjD h]; exact ⟨rfl, rfl⟩), fun hR => absurd hR h, fun _ => rfl⟩
theorem DoP.get (t : Tree c l ss) (hg : Grown c k l) (h : o.R) (h5 : o.kind = 5) : DoP c k o l ⟨0, (Zg (Zh l) o.key).isSome, (Zg (Zh l) o.key).getD Str.nil, []⟩ l := ⟨⟨_, t⟩, hg.up (by omega), .inl (by rw [ZjE h h5]; exact ⟨rfl, rfl⟩), fun _ h4 => absurd h4 (by omega), fun _ => rfl⟩
theorem DoP.scan (t : Tree c l ss) (hg : Grown c k l) (h : o.R) (h6 : o.kind = 6) : DoP c k o l ⟨0, false, Str.nil, Ys (Zh l) o.span o.lim⟩ l := ⟨⟨_, t⟩, hg.up (by omega), .inl (by rw [ZjF h h6]; exact ⟨rfl, rfl⟩), fun _ h4 => absurd h4 (by omega), fun _ => rfl⟩
theorem DoP.wr {l' : List Nd} (h : o.R) (h5 : ¬ o.kind = 5) (h6 : ¬ o.kind = 6) (hw : WrP c k o l e l') : DoP c k o l ⟨e, false, Str.nil, []⟩ l' := by
  have h7 : o.kind ≤ 4 := by have h8 := h.1.1; have h9 := h.1.2.1; omega
  refine ⟨hw.t, hw.g, ?_, fun _ _ h0 => ⟨(hw.x h0).1, by rw [(hw.x h0).2]⟩, fun h8 => absurd h8 (by omega)⟩
  rw [ZjG h h5 h6]
  rcases hw.r with ⟨rfl, h1⟩ | ⟨rfl, h1, h2⟩
  · exact .inl ⟨rfl, h1⟩
  · exact .inr ⟨rfl, h1, h7, rfl, h2⟩
end
end Go.Fw
namespace Go.Proofs.YtbbemibbmbmamaaGreat
open Go Go.Fw Go.RowKit
attribute [local irreducible] Ok W WC
theorem ZrT {G : GH} (slo : Str) (shi : Str) (so : Bool) {v_ls : Value} {ls : List (List Msg)} (h_ls : SlR (eSl Zs) G v_ls ls) (ht : Y5 ls ≤ 100000000) (hln : ls.length ≤ 100000) (hks : ∀ i (h : i < ls.length), ∀ m ∈ ls[i], m.key.b.size < 140737488355328) :
    Fc Tryz.prog 144 [.agg #[sV slo.b, sV shi.b, .bool so], v_ls] G [] (fun v G' M' => M' = [] ∧ ∃ u0, v = u0 ∧ SlR Zs G' u0 (ZQ (ls.map (Zc ⟨slo, shi, so⟩)))) := by
 obtain ⟨sa_ls, sc_ls, rfl⟩ := h_ls.form
 have hl := h_ls.len47
 have htm := ZkD (f := (Zc ⟨slo, shi, so⟩)) (fun l => Zb9) ls
 refine Fc.go [.tmp 4] Tryz.func144 Tryz.ntmps144 rfl (fun w0 => (g9 2 ?_))
 refine W.box (L := [sV _, sV _, .bool _]) rfl rfl (fun b1 => (g9 17 ?_))
 refine WC.loop (X := (Nat) × Value × MH) (fun k => [(10, nt9 k.1), (2, pt9 b1), (8, lV sa_ls ls.length sc_ls), (9, nt9 ((ls).length)), (5, k.2.1)]) (fun k G Ml => Ml = ((b1, ce9 62 [sV slo.b, sV shi.b, .bool so]) :: (k.2.2 ++ [])) ∧ OwnR (eSl Zs) 58 G k.2.1 ((ls.take k.1).map (Zc ⟨slo, shi, so⟩)) k.2.2 ∧ k.1 ≤ ls.length) (fun k => ls.length - k.1) (0, lV none 0 0, ([] : MH)) hs9 ?_ ?_
 ·exact ⟨rfl, (by simpa using OwnR.nil), om9⟩
 rintro ⟨k, v_5, M_5⟩ gG2 G2 _ hG2 ⟨rfl, ho_5, hk⟩
 try dsimp only at ho_5 hk
 refine WC.fr (f := ZZ gG2 [(10, nt9 k), (2, pt9 b1), (8, lV sa_ls ls.length sc_ls), (9, nt9 ((ls).length)), (5, v_5)]) rfl (g9 6 ?_)
 refine WC.cd (fun h11 p11 => ?_) (fun h11 p11 => ?_)
 ·refine g9 6 ?_
  have q6 := (h_ls.mono hG2).at (i := k) om9
  refine match q6 with | ⟨_, he3, ⟨_, e_5, hs4⟩⟩ => ?_
  subst e_5
  obtain ⟨sa_hs4, sc_hs4, rfl⟩ := hs4.form
  refine g9 9 ?_
  refine W.cS (ZdZ hs4 slo shi so (hks k om9)) rfl (fun sa_hv8 sc_hv8 G7 hG7 hv8 => (W.lit (e := (eSl Zs)) (l := [Zc ⟨slo, shi, so⟩ (ls[k])]) (css := [[lV _ _ _]]) Zbz Zby Zdb rfl rfl rfl rfl rfl rfl ⟨⟨_, rfl, hv8⟩, trivial⟩ (fun bl14 G14 hG14 hv14 => (W.app (e := (eSl Zs)) Zbz Zby Zdb rfl Zh7 rfl rfl ((ho_5.mono lec)) (hv14) (pmC pr9) (by show (List.length _ + 1) * 24 ≤ _; rw [List.length_map, List.length_take]; omega) (fun v15 Ms16 ho17 => (W.perm (pmC pr9).symm (g9 9 ?_)))))))
  exact ⟨lec, (k + 1, v15, Ms16), hs9, ⟨rfl, (by have h := ho17; rw [List.take_succ_eq_append_getElem om9, List.map_append]; exact h), om9⟩, om9⟩
 refine g9 8 ?_
 refine W.giveO ho_5 (pmC pr9) (fun G18 hG18 hv18 => ?_)
 have hc19 := SlR.cast hv18 (l' := ls.map (Zc ⟨slo, shi, so⟩)) (by rw [List.take_of_length_le om9])
 have q21 := hc19.form
 refine match q21 with | ⟨_, _, e_20⟩ => ?_
 subst e_20
 refine W.cS (Ztz hc19 om9 (by rw [List.length_map]; omega)) rfl (fun sa_hv23 sc_hv23 G22 hG22 hv23 => (g9 5 ?_))
 refine ⟨rfl, _, rfl, ?_⟩
 · exact hv23

theorem Zf3 {G : GH} {b_s : Nat} {c c2 : Cfg} {l : List Nd} {ss : List Seat} {Ms_s : MH} (h_s : StR 60 4 3 189 139 b_s c G l Ms_s) (t : Tree c2 l ss) (k : Str) :
    Fc Tryz.prog 96 [pt9 b_s, sV k.b] G Ms_s (fun v G' M' => M' = Ms_s ∧ ∃ u0, v = .tuple #[.agg (List.toArray u0), .agg (List.toArray ((Zn l k).s.cells)), .bool (true)] ∧ NodeC G' u0 ((Zn l k).n)) := by
 have hwp := t.way_pos k
 have hwl := t.way_len k
 have hwn : ((ZB l k).map fun y : Seat => y.n).length = (ZB l k).length := List.length_map ..
 have hws : ((ZB l k).map fun y : Seat => y.s).length = (ZB l k).length := List.length_map ..
 refine Fc.go [.cell 4 60, .cell 5 62, .tmp 6] Tryz.func96 Tryz.ntmps96 rfl (fun w0 => (WC.perm (M' := (Ms_s ++ [])) (by simp) (g9 2 ?_)))
 refine W.alloc Zp (fun b24 => (W.alloc ZL (fun b25 => (g9 7 ?_))))
 refine W.call (Mp := Ms_s) (Zle h_s t _) rfl (pmC (pmC pr9)) ?_
 intro v31 G28 Ms30 hG28 q29
 refine match q29 with | ⟨eeq29, _, _, e_33, hv26, hv27⟩ => ?_
 subst e_33
 have eeq29 := eeq29.symm
 subst eeq29
 refine W.perm (pmC (pmC pr9)).symm ?_
 have q35 := hv26.form
 refine match q35 with | ⟨sa_hv26, sc_hv26, e_34⟩ => ?_
 subst e_34
 have q37 := hv27.form
 refine match q37 with | ⟨sa_hv27, sc_hv27, e_36⟩ => ?_
 subst e_36
 refine g9 15 ?_
 refine WC.cd (fun h17 p17 => ?_) (fun h17 p17 => ?_)
 ·exfalso; omega
 refine g9 3 ?_
 refine WC.dw ((sr9.cons _).cons _) (d9 [0, 1, 2, 3] ?_)
 refine hv26.aN (i := ((ZB l k).length - 1)) om9 (fun _ _ _ _ _ _ _ _ he38 hp_n39 hk_n39 hm_n39 hr_n39 hok_n39 => (WD.tk 4 rfl (Yt (i := ((ZB l k).length - 1)) Xj Yp hv26 rfl rfl ⟨om9, om9⟩) (d9 [5, 6, 7, 8, 9] ?_)))
 refine hv27.a1 (i := ((ZB l k).length - 1)) om9 (fun he42 => (WD.tk 10 rfl (Yt (i := ((ZB l k).length - 1)) XW Yq hv27 rfl rfl ⟨om9, om9⟩) (d9 [11, 12, 13, 14] ?_)))
 refine g9 3 ?_
 refine ⟨.inr rfl, [_, _, _], ⟨⟨_, _, _, _, _, rfl, YF (i := 1) rfl, Yp, (by simp), rfl, rfl⟩, ⟨_, _, _, _, _, rfl, YF (i := 0) rfl, Yq, (by simp), rfl, rfl⟩, rfl, trivial⟩, Ms_s, ((List.sublist_append_left _ _).cons _).cons _, ?_⟩
 exact ⟨rfl, _, congrArg (fun s : Span => Value.tuple #[.agg (List.toArray _), .agg (List.toArray s.cells), .bool true]) (t.last_s k om9 om9), NodeC.of (nk9 hp_n39 hk_n39 hm_n39 hr_n39 hok_n39) (t.last_n k om9 om9)⟩

theorem Zkp {G : GH} {b_s : Nat} {c c2 : Cfg} {l : List Nd} {ss : List Seat} {Ms_s : MH} (h_s : StR 60 4 3 189 139 b_s c G l Ms_s) (t : Tree c2 l ss) (k : Str) :
    Fc Tryz.prog 98 [pt9 b_s, sV k.b] G Ms_s (fun v G' M' => M' = Ms_s ∧ ∃ u0, v = u0 ∧ SlR Zs G' u0 ((Zn l k).ms)) := by
 have hwp := t.way_pos k
 have hwl := t.way_len k
 have hwn : ((ZB l k).map fun y : Seat => y.n).length = (ZB l k).length := List.length_map ..
 have hws : ((ZB l k).map fun y : Seat => y.s).length = (ZB l k).length := List.length_map ..
 have hmt := t.path_tot k
 refine Fc.go [.tmp 4] Tryz.func98 Tryz.ntmps98 rfl (fun w0 => (WC.perm (M' := (Ms_s ++ [])) (by simp) (g9 9 ?_)))
 refine W.call (Mp := Ms_s) (Zle h_s t _) rfl pr9 ?_
 intro v51 G48 Ms50 hG48 q49
 refine match q49 with | ⟨eeq49, _, _, e_53, hv46, hv47⟩ => ?_
 subst e_53
 have eeq49 := eeq49.symm
 subst eeq49
 have q55 := hv46.form
 refine match q55 with | ⟨sa_hv46, sc_hv46, e_54⟩ => ?_
 subst e_54
 have q57 := hv47.form
 refine match q57 with | ⟨sa_hv47, sc_hv47, e_56⟩ => ?_
 subst e_56
 refine g9 21 ?_
 refine WC.loop (X := (Nat) × Value × MH) (fun i => [(18, nt9 i.1), (5, lV sa_hv46 (((ZB (l) (k)).map fun y : Seat => y.n)).length sc_hv46), (6, lV sa_hv47 (((ZB (l) (k)).map fun y : Seat => y.s)).length sc_hv47), (16, lV sa_hv46 (((ZB (l) (k)).map fun y : Seat => y.n)).length sc_hv46), (17, nt9 ((((ZB (l) (k)).map fun y : Seat => y.n)).length)), (7, i.2.1)]) (fun i G Ml => Ml = (i.2.2 ++ (Ms_s ++ [])) ∧ OwnR (eSl Zs) 58 G i.2.1 ((((ZB l k).map fun y : Seat => y.n).map fun n : Nd => n.msgs).take i.1) i.2.2 ∧ i.1 ≤ (ZB l k).length) (fun i => (ZB l k).length - i.1) (0, lV none 0 0, ([] : MH)) hs9 ?_ ?_
 ·exact ⟨rfl, (by simpa using OwnR.nil), om9⟩
 rintro ⟨i, v_7, M_7⟩ gG58 G58 _ hG58 ⟨rfl, ho_7, hi⟩
 try dsimp only at ho_7 hi
 refine WC.fr (f := ZZ gG58 [(18, nt9 i), (5, lV sa_hv46 (((ZB (l) (k)).map fun y : Seat => y.n)).length sc_hv46), (6, lV sa_hv47 (((ZB (l) (k)).map fun y : Seat => y.s)).length sc_hv47), (16, lV sa_hv46 (((ZB (l) (k)).map fun y : Seat => y.n)).length sc_hv46), (17, nt9 ((((ZB (l) (k)).map fun y : Seat => y.n)).length)), (7, v_7)]) rfl (g9 6 ?_)
 refine WC.cd (fun h19 p19 => ?_) (fun h19 p19 => ?_)
 ·refine g9 6 ?_
  refine (hv46.mono hG58).aN (i := i) om9 (fun _ _ _ _ _ _ _ _ he59 hp_n60 hk_n60 hm_n60 hr_n60 hok_n60 => (g9 2 ?_))
  refine W.alloc Zp (fun b63 => (g9 7 ?_))
  refine W.lit (e := (eSl Zs)) (l := [((((ZB (l) (k)).map fun y : Seat => y.n))[i]).msgs]) (css := [[lV _ _ _]]) Zbz Zby Zdb rfl rfl rfl rfl rfl rfl ⟨⟨_, rfl, hm_n60⟩, trivial⟩ (fun bl64 G64 hG64 hv64 => (W.app (e := (eSl Zs)) Zbz Zby Zdb rfl Zh7 rfl rfl ((ho_7.mono hG64)) (hv64) (pmC pr9) (by show (List.length _ + 1) * 24 ≤ _; rw [List.length_take, List.length_map, List.length_map]; omega) (fun v65 Ms66 ho67 => (W.perm (pmC pr9).symm (g9 7 ?_)))))
  refine W.sub (sr9.cons _) (g9 2 ?_)
  exact ⟨hG64, (i + 1, v65, Ms66), hs9, ⟨rfl, (by have h := ho67; rw [List.take_succ_eq_append_getElem (by simp; omega), List.getElem_map]; exact h), om9⟩, om9⟩
 refine g9 13 ?_
 refine WC.cd (fun h30 p30 => ?_) (fun h30 p30 => ?_)
 ·exfalso; omega
 refine g9 8 ?_
 refine (hv47.mono hG58).a1 (i := ((ZB l k).length - 1)) om9 (fun he68 => (W.ok (Yt (i := ((ZB l k).length - 1)) XW Yq (hv47.mono hG58) rfl rfl ⟨om9, om9⟩) (g9 2 ?_)))
 refine W.giveO ho_7 pr9 (fun G72 hG72 hv72 => ?_)
 have hc73 := SlR.cast hv72 (l' := (((ZB l k).map fun y : Seat => y.n).map fun n : Nd => n.msgs)) (by rw [List.take_of_length_le (by simp; omega)])
 have q75 := hc73.form
 refine match q75 with | ⟨_, _, e_74⟩ => ?_
 subst e_74
 refine W.cS (ZrT _ _ _ hc73 om9 (by rw [List.length_map, List.length_map]; omega) (t.path_key k)) rfl (fun sa_hv77 sc_hv77 G76 hG76 hv77 => (g9 4 ?_))
 refine ⟨.inr rfl, [_], ⟨rfl, trivial⟩, Ms_s, List.sublist_append_left _ _, ?_⟩
 refine ⟨rfl, _, rfl, ?_⟩
 · exact SlR.cast hv77 (t.path_msgs k (t.last_s k om9 om9))

theorem ZrU {G : GH} {v_l : Value} {l : List Pair} (h_l : SlR Zl G v_l l) (slo : Str) (shi : Str) (so : Bool) {v_ms : Value} {ms : List Msg} (h_ms : SlR Zs G v_ms ms) (hP : PairsR l) (hn : l.length + ms.length ≤ 1000000) (hm : ∀ m ∈ ms, m.key.b.size ≤ 16 ∧ m.val.b.size ≤ 16) (hs : slo.b.size ≤ 300) :
    Fc Tryz.prog 145 [v_l, .agg #[sV slo.b, sV shi.b, .bool so], v_ms] G [] (fun v G' M' => M' = [] ∧ ∃ u0, v = u0 ∧ SlR Zl G' u0 (Zr (l.filter fun p => Span.has ⟨slo, shi, so⟩ p.key) (Zc ⟨slo, shi, so⟩ ms))) := by
 obtain ⟨sa_l, sc_l, rfl⟩ := h_l.form
 obtain ⟨sa_ms, sc_ms, rfl⟩ := h_ms.form
 have hPf : PairsR (l.filter fun p => Span.has ⟨slo, shi, so⟩ p.key) := hP.filter _
 have hcm := Zhw (s := ⟨slo, shi, so⟩) hs hm
 have hcl : (Zc ⟨slo, shi, so⟩ ms).length ≤ ms.length := Zb9
 have hfl := List.length_filter_le (fun p : Pair => Span.has ⟨slo, shi, so⟩ p.key) l
 have hks : ∀ m ∈ ms, m.key.b.size < 140737488355328 := fun m h => by have := (hm m h).1; omega
 refine Fc.go [.tmp 6] Tryz.func145 Tryz.ntmps145 rfl (fun w0 => (g9 2 ?_))
 refine W.box (L := [sV _, sV _, .bool _]) rfl rfl (fun b1 => (g9 4 ?_))
 refine WC.dw sr9.k9 (d9 [0, 1, 3, 4] ?_)
 refine WD.a1 2 rfl (W.cS (Zpt h_l _ _ _ (by first | assumption | omega | (simp; omega) | (exact PairsR.fold (by assumption) (by assumption)))) rfl (fun sa_hv3 sc_hv3 G2 hG2 hv3 => (W.nn (WD.a1 5 rfl (W.cS (ZdZ (h_ms.mono hG2) slo shi so hks) rfl (fun sa_hv10 sc_hv10 G9 hG9 hv10 => (W.nn (WD.a1 6 rfl (W.cS (Zm9 (hv3.mono hG9) hv10 hPf om9 hcm) rfl (fun sa_hv17 sc_hv17 G16 hG16 hv17 => (W.nn (d9 [7] ?_))))))))))))
 refine g9 4 ?_
 refine ⟨rfl, _, rfl, ?_⟩
 · exact hv17

theorem Zkq {G : GH} {b_s : Nat} {c c2 : Cfg} {l : List Nd} {ss : List Seat} {Ms_s : MH} (h_s : StR 60 4 3 189 139 b_s c G l Ms_s) (t : Tree c2 l ss) (k : Str) :
    Fc Tryz.prog 50 [pt9 b_s, sV k.b] G Ms_s (fun v G' M' => M' = Ms_s ∧ v = sV (Str.b ((if (Zn l k).s.opn = true then Str.nil else (Zn l k).s.hi)))) := by
 refine Fc.go [.tmp 4] Tryz.func50 Tryz.ntmps50 rfl (fun w0 => (WC.perm (M' := (Ms_s ++ [])) (by simp) (g9 9 ?_)))
 refine W.call (Mp := Ms_s) (Zf3 h_s t _) rfl pr9 ?_
 intro v13 G10 Ms12 hG10 q11
 refine match q11 with | ⟨eeq11, _, e_15, hv9⟩ => ?_
 subst e_15
 have eeq11 := eeq11.symm
 subst eeq11
 refine match hv9 with | ⟨_, _, _, _, _, _, _, _, e_16, hp_hv9, hk_hv9, hm_hv9, hr_hv9, hok_hv9⟩ => ?_
 subst e_16
 refine g9 4 ?_
 refine W.alloc Zp (fun b17 => (W.alloc ZL (fun b18 => (g9 12 ?_))))
 refine WC.cond rfl (fun h11_1_2 => ?_) (fun h11_1_2 => ?_)
 ·refine g9 7 ?_
  refine ⟨.inr rfl, [_], ⟨rfl, trivial⟩, Ms_s, ((List.sublist_append_left _ _).cons _).cons _, ?_⟩
  exact ⟨rfl, congrArg (fun s : Str => Value.string s.b) (if_pos h11_1_2 : (if (Zn l k).s.opn = true then Str.nil else (Zn l k).s.hi) = Str.nil).symm⟩
 refine g9 10 ?_
 refine ⟨.inr rfl, [_], ⟨rfl, trivial⟩, Ms_s, ((List.sublist_append_left _ _).cons _).cons _, ?_⟩
 exact ⟨rfl, congrArg (fun s : Str => Value.string s.b) (if_neg (by rw [h11_1_2]; simp) : (if (Zn l k).s.opn = true then Str.nil else (Zn l k).s.hi) = (Zn l k).s.hi).symm⟩

theorem ZrV {G : GH} {b_t : Nat} {b_s : Nat} {c : Cfg} {l : List Nd} {ss : List Seat} {Ms_s : MH} (h_s : StR 60 4 3 189 139 b_s c G l Ms_s) (t : Tree c l ss) {cur : Str} :
    Fc Tryz.prog 19 [pt9 b_t] G ((b_t, ce9 79 [pt9 b_s, sV cur.b]) :: (Ms_s)) (fun v G' M' => SlR ZF G' v l ∧ M' = (b_t, ce9 79 [pt9 b_s, sV cur.b]) :: Ms_s) := by
 refine Fc.go [.tmp 2] Tryz.func19 Tryz.ntmps19 rfl (fun w0 => (WC.perm (M' := ((b_t, ce9 79 [pt9 b_s, sV cur.b]) :: (Ms_s ++ []))) (by simp) (g9 9 ?_)))
 refine W.ok (XB Zbx rfl rfl) (g9 11 ?_)
 refine W.call (Mp := Ms_s) (Ztt h_s) rfl (pmC pr9) ?_
 intro v4 G1 Ms3 hG1 q2
 refine match q2 with | ⟨hR5, eeq2⟩ => ?_
 have eeq2 := eeq2.symm
 subst eeq2
 refine W.perm (pmC pr9).symm (g9 4 ?_)
 refine ⟨.inr rfl, [_], ⟨rfl, trivial⟩, ((b_t, ce9 79 [pt9 b_s, sV cur.b]) :: (Ms_s ++ [])), sr9.k9, ?_⟩
 exact ⟨hR5, congrArg _ (List.append_nil _)⟩

theorem ZrW {G : GH} {b_t b_s : Nat} {c : Cfg} {l : List Nd} {ss : List Seat} {cur : Str} {Ms_t : MH} (h_t : BtR 60 4 3 189 139 79 b_t b_s c G (l, cur) Ms_t) (t : Tree c l ss) (k : Str) :
    Fc Tryz.prog 105 [pt9 b_t, sV k.b] G Ms_t (fun v G' M' => ∃ e l', RoomP c l k e l' ∧ v = iV e ∧ BtR 60 4 3 189 139 79 b_t b_s c G' (l', cur) M') := by
 have hp9 := t.pos
 obtain ⟨N9, r9, hN9, hr9⟩ := ZfU t k
 refine Fc.go [.tmp 4] Tryz.func105 Tryz.ntmps105 rfl (fun w0 => (WC.perm (M' := (Ms_t ++ [])) (by simp) (g9 7 ?_)))
 obtain ⟨Msbt1, eMbt1, hBbt1⟩ := h_t
 subst eMbt1
 have hSbt1 : StR 60 4 3 189 139 b_s c G l Msbt1 := hBbt1
 refine WC.perm (M' := ((b_t, ce9 79 [pt9 b_s, sV cur.b]) :: (Msbt1 ++ []))) pr9.symm (g9 5 ?_)
 refine W.call (Mp := Msbt1) (Zax hSbt1 0) rfl (pmC pr9) ?_
 intro v5 G2 Ms4 hG2 q3
 refine match q3 with | ⟨⟨_, e_7, ⟨pa_hR6, pc_hR6, ka_hR6, kc_hR6, ma_hR6, mc_hR6, ra_hR6, rc_hR6, e_8, hp_hR6, hk_hR6, hm_hR6, hr_hR6, hok_hR6⟩⟩, eeq3⟩ => ?_
 subst e_7
 subst e_8
 have eeq3 := eeq3.symm
 subst eeq3
 refine W.perm (pmC pr9).symm (g9 3 ?_)
 refine W.alloc Zp (fun b9 => (g9 11 ?_))
 refine WC.cd (fun h19 p19 => ?_) (fun h19 p19 => ?_)
 ·try dsimp only at p19
  refine g9 6 ?_
  refine W.call (Mp := Msbt1) (Zlg (StR.mono hG2 hSbt1) t) rfl (pmC (pmC pr9)) ?_
  intro v13 G10 Ms12 hG10 q11
  refine match q11 with | ⟨e_15, hR14⟩ => ?_
  subst e_15
  refine W.perm (pmC (pmC pr9)).symm (g9 3 ?_)
  have hB16 : BtR 60 4 3 189 139 79 b_t b_s c G10 ((ZN c l).2, cur) ((b_t, ce9 79 [pt9 b_s, sV cur.b]) :: Ms12) := ⟨_, rfl, hR14⟩
  refine WC.perm (M' := ((b9, ce9 60 (ndl (Za l 0) pa_hR6 pc_hR6 ka_hR6 kc_hR6 ma_hR6 mc_hR6 ra_hR6 rc_hR6)) :: (((b_t, ce9 79 [pt9 b_s, sV cur.b]) :: Ms12) ++ []))) ((pmC pr9).symm.trans (((pmC pr9).cons _).trans ((List.Perm.swap _ _ _).trans (pr9.cons _)))) (g9 2 ?_)
  refine ⟨.inr rfl, [_], ⟨rfl, trivial⟩, ((b_t, ce9 79 [pt9 b_s, sV cur.b]) :: Ms12), (List.sublist_append_left _ _).cons _, ?_⟩
  exact ⟨_, _, .inl ⟨p19, rfl, rfl⟩, rfl, hB16⟩
 try dsimp only at p19
 refine g9 10 ?_
 refine W.call (Mp := Msbt1) (ZjC (StR.mono hG2 hSbt1) t k rfl N9 r9 hr9 om9) rfl (pmC (pmC pr9)) ?_
 intro v20 G17 Ms19 hG17 q18
 refine match q18 with | ⟨e_22, hR21⟩ => ?_
 subst e_22
 refine W.perm (pmC (pmC pr9)).symm (g9 15 ?_)
 refine WC.cd (fun h36 p36 => ?_) (fun h36 p36 => ?_)
 ·try dsimp only at p36
  refine g9 5 ?_
  have hB23 : BtR 60 4 3 189 139 79 b_t b_s c G17 (r9.2.2, cur) ((b_t, ce9 79 [pt9 b_s, sV cur.b]) :: Ms19) := ⟨_, rfl, hR21⟩
  refine WC.perm (M' := ((b9, ce9 60 (ndl (Za l 0) pa_hR6 pc_hR6 ka_hR6 kc_hR6 ma_hR6 mc_hR6 ra_hR6 rc_hR6)) :: (((b_t, ce9 79 [pt9 b_s, sV cur.b]) :: Ms19) ++ []))) ((pmC pr9).symm.trans (((pmC pr9).cons _).trans ((List.Perm.swap _ _ _).trans (pr9.cons _)))) (g9 3 ?_)
  refine ⟨.inr rfl, [_], ⟨rfl, trivial⟩, ((b_t, ce9 79 [pt9 b_s, sV cur.b]) :: Ms19), (List.sublist_append_left _ _).cons _, ?_⟩
  exact ⟨_, _, .inr ⟨p19, N9, r9, hr9, rfl, (if_pos p36).symm⟩, rfl, hB23⟩
 try dsimp only at p36
 refine g9 7 ?_
 refine WC.cn (fun h39 p39 => ?_) (fun h39 p39 => ?_)
 ·try dsimp only at p39
  refine g9 6 ?_
  have hB24 : BtR 60 4 3 189 139 79 b_t b_s c G17 (r9.2.2, cur) ((b_t, ce9 79 [pt9 b_s, sV cur.b]) :: Ms19) := ⟨_, rfl, hR21⟩
  refine WC.perm (M' := ((b9, ce9 60 (ndl (Za l 0) pa_hR6 pc_hR6 ka_hR6 kc_hR6 ma_hR6 mc_hR6 ra_hR6 rc_hR6)) :: (((b_t, ce9 79 [pt9 b_s, sV cur.b]) :: Ms19) ++ []))) ((pmC pr9).symm.trans (((pmC pr9).cons _).trans ((List.Perm.swap _ _ _).trans (pr9.cons _)))) (g9 3 ?_)
  refine ⟨.inr rfl, [_], ⟨rfl, trivial⟩, ((b_t, ce9 79 [pt9 b_s, sV cur.b]) :: Ms19), (List.sublist_append_left _ _).cons _, ?_⟩
  exact ⟨_, _, .inr ⟨p19, N9, r9, hr9, rfl, by rw [if_neg p36, if_neg p39]⟩, rfl, hB24⟩
 try dsimp only at p39
 refine g9 8 ?_
 have hB25 : BtR 60 4 3 189 139 79 b_t b_s c G17 (r9.2.2, cur) ((b_t, ce9 79 [pt9 b_s, sV cur.b]) :: Ms19) := ⟨_, rfl, hR21⟩
 refine WC.perm (M' := ((b9, ce9 60 (ndl (Za l 0) pa_hR6 pc_hR6 ka_hR6 kc_hR6 ma_hR6 mc_hR6 ra_hR6 rc_hR6)) :: (((b_t, ce9 79 [pt9 b_s, sV cur.b]) :: Ms19) ++ []))) ((pmC pr9).symm.trans (((pmC pr9).cons _).trans ((List.Perm.swap _ _ _).trans (pr9.cons _)))) (WC.ret ?_)
 refine ⟨.inr rfl, [_], ⟨rfl, trivial⟩, ((b_t, ce9 79 [pt9 b_s, sV cur.b]) :: Ms19), (List.sublist_append_left _ _).cons _, ?_⟩
 exact ⟨_, _, .inr ⟨p19, N9, r9, hr9, rfl, by rw [if_neg p36, if_pos om9]⟩, rfl, hB25⟩

theorem ZrX {G : GH} {b_t b_s : Nat} {c : Cfg} {l : List Nd} {ss : List Seat} {cur : Str} {Ms_t : MH} (h_t : BtR 60 4 3 189 139 79 b_t b_s c G (l, cur) Ms_t) (t : Tree c l ss) (pk : Int) (pkey : Str) (phi : Str) (po : Bool) (pv : Str) (pl : Int) (k : Int) (hR : Opr.R (⟨pk, pkey, phi, po, pv, pl⟩ : Opr)) (hk4 : pk ≤ 4) (hgr : Grown c k l) (hk9 : k ≤ 1000000000) :
    Fc Tryz.prog 48 [pt9 b_t, .agg #[iV pk, sV pkey.b, sV phi.b, .bool po, sV pv.b, iV pl]] G Ms_t (fun v G' M' => ∃ e l', WrP c k (⟨pk, pkey, phi, po, pv, pl⟩ : Opr) l e l' ∧ v = iV e ∧ BtR 60 4 3 189 139 79 b_t b_s c G' (l', cur) M') := by
 refine Fc.go [.tmp 4] Tryz.func48 Tryz.ntmps48 rfl (fun w0 => (WC.perm (M' := (Ms_t ++ [])) (by simp) (g9 2 ?_)))
 refine W.box (L := [iV _, sV _, sV _, .bool _, sV _, iV _]) rfl rfl (fun b26 => (g9 4 ?_))
 refine WC.loop (X := (List Nd) × MH) (fun x => [(3, pt9 b26), (0, pt9 b_t)]) (fun x G Ml => Ml = ((b26, ce9 34 [iV pk, sV pkey.b, sV phi.b, .bool po, sV pv.b, iV pl]) :: (x.2 ++ [])) ∧ BtR 60 4 3 189 139 79 b_t b_s c G ((x.1, cur)) x.2 ∧ (∃ T, Tree c x.1 T) ∧ Zh x.1 = Zh l ∧ Grown c k x.1 ∧ (x.1 = l ∨ ¬ (Zu c l (⟨pk, pkey, phi, po, pv, pl⟩ : Opr)).2.1 = 0)) (fun x => muL c x.1) (l, Ms_t) hs9 ?_ ?_
 ·exact ⟨rfl, (by exact h_t), ⟨ss, t⟩, rfl, hgr, .inl rfl⟩
 rintro ⟨L, M_0⟩ gG27 G27 _ hG27 ⟨rfl, ho_0, hTr, hmp, hg, hx9⟩
 try dsimp only at ho_0 hTr hmp hg hx9
 obtain ⟨T8, t9⟩ := hTr
 have hsn9 : 0 ≤ (Za L 0).seen ∧ (Za L 0).seen ≤ 1000000000000 := ⟨hg.pos, by have := hg.le; omega⟩
 refine WC.fr (f := ZZ gG27 [(3, pt9 b26), (0, pt9 b_t)]) rfl (g9 2 ?_)
 obtain ⟨Msbt28, eMbt28, hBbt28⟩ := ho_0
 subst eMbt28
 have hSbt28 : StR 60 4 3 189 139 b_s c G27 L Msbt28 := hBbt28
 refine WC.perm (M' := ((b_t, ce9 79 [pt9 b_s, sV cur.b]) :: ((b26, ce9 34 [iV pk, sV pkey.b, sV phi.b, .bool po, sV pv.b, iV pl]) :: (Msbt28 ++ [])))) (pmD pr9).symm (WC.dw (sn9.k9.k9) (d9 [0, 1, 2, 3, 4] ?_))
 refine WD.a1 5 rfl (W.call (Mp := Msbt28) (ZrQ hSbt28 t9 pk pkey phi po pv pl rfl hR hk4 hsn9) rfl (pmC (pmC pr9)) ?_)
 intro v32 G29 Ms31 hG29 q30
 refine match q30 with | ⟨e_34, hR33⟩ => ?_
 subst e_34
 refine W.perm (pmC (pmC pr9)).symm (W.nn (d9 [6, 7, 8, 9, 10] ?_))
 refine g9 9 ?_
 refine WC.cn (fun h17 p17 => ?_) (fun h17 p17 => ?_)
 ·try dsimp only at p17
  refine g9 6 ?_
  have hB35 : BtR 60 4 3 189 139 79 b_t b_s c G29 ((Zu c L (⟨pk, pkey, phi, po, pv, pl⟩ : Opr)).2.2, cur) ((b_t, ce9 79 [pt9 b_s, sV cur.b]) :: Ms31) := ⟨_, rfl, hR33⟩
  refine WC.perm (M' := ((b26, ce9 34 [iV pk, sV pkey.b, sV phi.b, .bool po, sV pv.b, iV pl]) :: (((b_t, ce9 79 [pt9 b_s, sV cur.b]) :: Ms31) ++ []))) ((pmC pr9).symm.trans (((pmC pr9).cons _).trans pr9)) (g9 5 ?_)
  refine ⟨.inr rfl, [_], ⟨rfl, trivial⟩, ((b_t, ce9 79 [pt9 b_s, sV cur.b]) :: Ms31), (List.sublist_append_left _ _).cons _, ?_⟩
  have hE : (Zu c L (⟨pk, pkey, phi, po, pv, pl⟩ : Opr)).2.1 = 0 := by
    by_cases h : (Zu c L (⟨pk, pkey, phi, po, pv, pl⟩ : Opr)).2.1 = 0
    · exact h
    exact absurd (by rw [ZfT h]) p17
  exact ⟨(Zu c L (⟨pk, pkey, phi, po, pv, pl⟩ : Opr)).2.1, (Zu c L (⟨pk, pkey, phi, po, pv, pl⟩ : Opr)).2.2, by rw [hE]; exact WrP.ok t9 hR hk4 hg om9 hmp hx9 hE, rfl, hB35⟩
 try dsimp only at p17
 refine g9 3 ?_
 have hf9 : ¬ (Zu c L (⟨pk, pkey, phi, po, pv, pl⟩ : Opr)).2.1 = 0 := by rw [p17]; decide
 have hS36 := StR.to hR33 (show (Zu c L (⟨pk, pkey, phi, po, pv, pl⟩ : Opr)).2.2 = L by rw [ZfT hf9])
 have hB37 : BtR 60 4 3 189 139 79 b_t b_s c G29 (L, cur) ((b_t, ce9 79 [pt9 b_s, sV cur.b]) :: Ms31) := ⟨_, rfl, hS36⟩
 refine WC.perm (M' := ((b26, ce9 34 [iV pk, sV pkey.b, sV phi.b, .bool po, sV pv.b, iV pl]) :: (((b_t, ce9 79 [pt9 b_s, sV cur.b]) :: Ms31) ++ []))) ((pmC pr9).symm.trans (((pmC pr9).cons _).trans pr9)) (g9 4 ?_)
 refine W.call (Mp := ((b_t, ce9 79 [pt9 b_s, sV cur.b]) :: Ms31)) (ZrW hB37 t9 pkey) rfl (pmC pr9) ?_
 intro v44 G41 Ms43 hG41 q42
 refine match q42 with | ⟨e38, l39, hRm40, e_46, hR45⟩ => ?_
 subst e_46
 refine W.perm (pmC pr9).symm ?_
 have hra9 := Zko t9 hR hk4 hg hf9 hRm40
 refine g9 9 ?_
 refine WC.cn (fun h24 p24 => ?_) (fun h24 p24 => ?_)
 ·try dsimp only at p24
  refine g9 10 ?_
  refine ⟨.inr rfl, [_], ⟨rfl, trivial⟩, Ms43, (List.sublist_append_left _ _).cons _, ?_⟩
  exact ⟨e38, l39, WrP.no t9 hR hk4 hg hmp hx9 hf9 hRm40 p24, rfl, hR45⟩
 try dsimp only at p24
 refine g9 3 ?_
 exact ⟨lec, (l39, Ms43), hs9, ⟨rfl, (by exact hR45), hra9.1, hra9.2.1.trans hmp, hra9.2.2.1, .inr (hx9.elim (fun e => e ▸ hf9) id)⟩, hra9.2.2.2.1 p24⟩

end Go.Proofs.YtbbemibbmbmamaaGreat
