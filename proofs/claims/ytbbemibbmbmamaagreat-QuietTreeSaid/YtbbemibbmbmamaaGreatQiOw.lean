/- A cycle does something where messages wait at the root, or tells that there is no room. Plain Lean; nothing of the program is named here. No condition. -/
import Derived.Test.YtbbemibbmbmamaaGreatQiNz
set_option linter.unusedVariables false
set_option linter.unusedSimpArgs false
set_option linter.unnecessarySimpa false
set_option maxRecDepth 100000

namespace Go.Fw
open Go Go.RowKit
theorem Zak {c : Cfg} {k : Str} : ∀ (m : Nat) {l : List Nd} {a n : Int} {r : Int × Int × List Nd}, Ym c k m l a n = some r → n ≤ r.1
 | 0, _, _, _, _, h => by cases h
 | m + 1, l, a, n, r, h => by
  by_cases h0 : (Zs c l a k).1.1 = 0
  ·rw [Y2 h0] at h; cases h; exact Int.le_refl _
  ·by_cases h5 : (Zs c l a k).1.1 = 5
   ·rw [Jc h5] at h; exact Zak m h
   ·rw [Xa h0 h5] at h
    have := Zak m h
    omega
theorem Zp9 {P : List Str} {l : List Msg} (hr : ZZ P = true) (hR : ∀ m ∈ l, m.R) (h : 0 < l.length) : 0 < (Zd P l (XE P l).1).length := by
 have h1 := Zpg (P := P) h
 rw [ZfI h]
 have h2 : ∃ m ∈ Zk l, Ze P m.key = YX (wOf P (Zk l)) (P.length + 1) := by
  apply Classical.byContradiction
  intro hn
  have : (Zk l).filter (fun m => decide (Ze P m.key = YX (wOf P (Zk l)) (P.length + 1))) = [] := by
   rw [List.filter_eq_nil_iff]
   intro m hm h3
   exact hn ⟨m, hm, of_decide_eq_true h3⟩
  unfold wOf at h1 this
  rw [this] at h1
  simp [Zz] at h1
 obtain ⟨m, hm, e⟩ := h2
 have hmR := hR m (Zd5 hm)
 have hb : YX (wOf P (Zk l)) (P.length + 1) ≤ P.length := by rw [← e]; exact List.length_filter_le _ _
 have hcl : (m.clip (Zf P ((YX (wOf P (Zk l)) (P.length + 1) : Nat) : Int))).2 = true := by
  have hne : ¬ (m.span.meet (Zf P ((YX (wOf P (Zk l)) (P.length + 1) : Nat) : Int))).empty = true := fun h => by
   have := YN.1 h m.key
   rw [ZH, Msg.has_key hmR, Xz hr _ hb, e] at this
   simp at this
  unfold Msg.clip
  rw [if_neg hne]
  split <;> rfl
 dsimp only
 refine List.length_pos_of_mem (a := (m.clip (Zf P ((YX (wOf P (Zk l)) (P.length + 1) : Nat) : Int))).1) (List.mem_filterMap.2 ⟨m, hm, ?_⟩)
 unfold XL
 rw [if_pos ⟨om9, hcl⟩]
theorem Zqa {c : Cfg} {p k : Nd} {i : Int} (hp : ZF c p = false) (hf : 0 < (Zd p.pivots p.msgs i).length) : ¬ ZV c p k i = 0 := by
 unfold ZV
 split
 ·rw [if_neg (by rw [hp]; simp)]; simp
 ·split
  ·simp
  ·split
   ·simp
   ·first
    | (rw [if_pos hf, if_neg (by rw [hp]; simp)]; simp; done)
    | (rw [if_neg (by rw [hp]; simp)]; simp)
theorem Zj1 {c : Cfg} {p k : Nd} {i : Int} (h : ZV c p k i = 3) : (0 < k.level ∧ ZF c k = true) ∨ (¬ 0 < k.level ∧ ¬ 0 < ZS c.leaf c.bud p k i) := by
 unfold ZV at h
 split at h
 ·rename_i h1; exact .inl h1
 ·split at h
  ·cases h
  ·rename_i h2
   split at h
   ·cases h
   ·rename_i h3; exact .inr ⟨h3, h2⟩
theorem Zj2 {m : Msg} (h : m.R) : m.size ≤ 36 := by
 have := Y1 h
 unfold Msg.size
 split <;> omega
theorem Zf7 {c : Cfg} {p k : Nd} {i : Int} (hc : CfgR c) (hk : KidOf p k i) (hR : ∀ m ∈ Zd p.pivots p.msgs i, m.R) (hf : 0 < (Zd p.pivots p.msgs i).length) (h : ¬ 0 < ZS c.leaf c.bud p k i) :
  (k.level = 0 → 2 ≤ k.rows.length) ∧ (¬ k.level = 0 → 0 < k.msgs.length) := by
 obtain ⟨_, ⟨l1, l2⟩, ⟨b1, b2⟩, _⟩ := hc
 rw [Zbn hk] at h
 obtain ⟨m, L, e⟩ : ∃ m L, Zd p.pivots p.msgs i = m :: L := by
  cases hh : Zd p.pivots p.msgs i with
  | nil => rw [hh] at hf; cases hf
  | cons m L => exact ⟨m, L, rfl⟩
 have hmR := hR m (by rw [e]; simp)
 rw [e] at h
 refine ⟨fun h0 => ?_, fun h0 => ?_⟩
 ·rw [ZfZ h0] at h
  dsimp only at h
  unfold Yc at h
  split at h
  ·dsimp only at h; omega
  ·rename_i h2
   rw [ZdA hmR] at h2
   unfold ZbP at h2
   simp only [Bool.or_eq_true, decide_eq_true_eq, not_or] at h2
   omega
 ·rw [Zf0 h0 rfl] at h
  dsimp only at h
  unfold Xl at h
  split at h
  ·omega
  ·rename_i h2
   apply Classical.byContradiction
   intro h3
   have h4 : k.msgs = [] := List.eq_nil_of_length_eq_zero om9
   apply h2
   rw [h4]
   have := Zj2 hmR
   simp [Yo, Zz]
   omega
theorem Zj3 {n : Nd} {y : Int} (h0 : n.level = 0) (h : 2 ≤ n.rows.length) : (Zo n y).2.2.2 = true := by
 rw [Jy, Zav h0]
 dsimp only
 rw [Zcm om9]
theorem Zf8 {n : Nd} {y : Int} (h0 : ¬ n.level = 0) (hr : YB n.pivots n.kids.length = true) (h : 4 ≤ n.kids.length) : (Zo n y).2.2.2 = true := by
 rw [Jy, Zaw h0 hr]
 dsimp only
 have := (YM hr).2
 rw [Zg6 om9]
theorem Zqb {n : Nd} {i : Nat} {k : Str} {v : Int} (h0 : ¬ n.level = 0) (hi : i < n.kids.length) (hk : (Zf n.pivots (i : Int)).has k = true) (hl : ¬ k = (Zf n.pivots (i : Int)).lo) : (Y9 n i k v).2 = true := by
 rw [Zfy h0]
 rw [ZdJ om9 hk hl]
 simp
theorem Zj4 {c : Cfg} {l : List Nd} {ss : List Seat} (t : Tree c l ss) {a i : Int} {P : Seat} (ha : 0 ≤ a ∧ a < l.length) (s : StepAt c l ss a i P) (hf : ZF c (Za l a) = false)
  (h : (0 < (Zh l a i).level ∧ ZF c (Zh l a i) = true) ∨ ((Zh l a i).level = 0 ∧ 2 ≤ (Zh l a i).rows.length)) : (ZD c l a i).1 = 0 ∨ (ZD c l a i).1 = 4 := by
 have hi := s.hi
 have hin : i.toNat < P.n.kids.length := om9
 have hat := t.at s.mem s.h0 hin
 have hkR := t.seat hat.1
 have ec : (Zo (Zh l a i) l.length).2.2.2 = true := by
  rcases h with ⟨h1, h2⟩ | ⟨h1, h2⟩
  ·have h3 : ¬ (Zh l a i).level = 0 := om9
   have h4 := t.inner hat.1 (by rw [s.kid]; exact h3)
   rw [s.kid] at h4
   refine Zf8 h3 h4.2.1 ?_
   unfold ZF at h2
   rw [if_neg h3] at h2
   have := of_decide_eq_true h2
   obtain ⟨⟨f1, _⟩, _⟩ := t.cfg
   omega
  ·exact Zj3 h1 h2
 unfold ZD
 rw [if_neg om9]
 have h3 : 0 ≤ kdN l a i.toNat ∧ kdN l a i.toNat < l.length := s.kin
 have e5 : (ZR l a i.toNat).2.2.2 = true := ec
 have e6 : (adP l a i.toNat).2 = true := by
  obtain ⟨x, y, q, hh, e, hv, _, _, _, _, _, _, hq⟩ := Zd2 hkR.1 (y := (l.length : Int)) (by rw [s.kid]; exact ec)
  obtain ⟨g1, g2⟩ := t.k_in hat.1 hv hq
  have hks : (Zb l P i.toNat).s = P.s.meet (Zf P.n.pivots ((i.toNat : Nat) : Int)) := rfl
  rw [hks, ZH, Bool.and_eq_true] at g1
  have eq : (ZR l a i.toNat).2.2.1 = q := by
   show (Zo (Zh l a i) l.length).2.2.1 = q
   rw [← s.kid, e]
  show (Y9 (Za l a) i.toNat (ZR l a i.toNat).2.2.1 l.length).2 = true
  rw [eq, ← s.n]
  refine Zqb s.h0 hin g1.2 (fun e7 => g2 ?_)
  rw [hks]
  have h8 : ¬ (P.s.meet (Zf P.n.pivots ((i.toNat : Nat) : Int))).empty = true := fun h => by
   have := YN.1 h q
   rw [ZH, g1.1, g1.2] at this
   cases this
  unfold Span.meet at h8 ⊢
  rw [Zjq h8]
  dsimp only
  split
  ·exact e7
  ·rename_i h9
   have h10 := (Yk.1 g1.1).1
   rw [e7] at h10
   rw [e7]
   cases h11 : P.s.lo.lt (Zf P.n.pivots ((i.toNat : Nat) : Int)).lo
   ·exact (Str.lt_total h10 h11)
   ·exact absurd h11 h9
 by_cases h7 : (l.length : Int) < c.slots
 ·rw [ZdO ha (by rw [← s.n]; omega) h3 hf e5 e6 h7]; exact .inl rfl
 ·rw [ZdN ha (by rw [← s.n]; omega) h3 hf e5 e6 h7]; exact .inr rfl
theorem prog {c : Cfg} {k : Str} : ∀ (m : Nat) {l : List Nd} {ss : List Seat} {a n : Int} {r : Int × Int × List Nd}, Tree c l ss → 0 ≤ a ∧ a < l.length → ¬ (Za l a).level = 0 → 0 < (Za l a).msgs.length → ZF c (Za l a) = false → Ym c k m l a n = some r → n < r.1 ∨ r.2.1 = 4
 | 0, _, _, _, _, _, _, _, _, _, _, h => by cases h
 | m + 1, l, ss, a, n, r, t, ha, h0, hm, hf, h => by
  obtain ⟨Q, hQ, eQ⟩ := t.seat_of ha
  have hin := t.inner hQ (by rw [eQ]; exact h0)
  rw [eQ] at hin
  have hmR : ∀ m ∈ (Za l a).msgs, m.R := (MsgsR.iff.1 hin.2.2.1).1
  have hri := (YM hin.2.1).1
  have hfor := Zp9 hri hmR hm
  have hc := ZfK (k := k) h0 (fun e => by rw [hf] at e; cases e.2) (show (XE (Za l a).pivots (Za l a).msgs).2 = true by rw [ZfI hm])
  have hc1 : (Zw c (Za l a) k).1 = 2 := by rw [hc]
  have hc2 : (Zw c (Za l a) k).2 = (XE (Za l a).pivots (Za l a).msgs).1 := by rw [hc]
  obtain ⟨_, hi1, hi2⟩ := JA t ha hc1
  obtain ⟨P, s⟩ := Jn t ha h0 ⟨hi1, hi2⟩
  have hst := XU hc1
  rw [← hc2] at hfor
  generalize (Zw c (Za l a) k).2 = i at *
  have hforR : ∀ m ∈ Zd (Za l a).pivots (Za l a).msgs i, m.R := ZcH (fun q hq => by
   obtain ⟨j, hj, rfl⟩ := List.getElem_of_mem hq
   exact (hin.2.2.2.2.2.1 j hj).2.1) hmR
  obtain ⟨k1, k2, k3, k4⟩ := ZaJ t s
  have hkl : 0 ≤ (Zh l a i).level := by have := s.kof.1; omega
  rcases XK c (Za l a) (Zh l a i) i with hd | hd | ⟨hd, _⟩ | hd
  ·exact absurd hd (Zqa hf hfor)
  ·have hpe : (ZD c l a i).1 = 0 ∨ (ZD c l a i).1 = 4 := by
    refine Zj4 t ha s hf ?_
    rcases Zj1 hd with h | ⟨h1, h2⟩
    ·exact .inl h
    ·have h3 : (Zh l a i).level = 0 := om9
     exact .inr ⟨h3, (Zf7 t.cfg s.kof hforR hfor h2).1 h3⟩
   rcases hpe with h3 | h3
   ·have e := hst.trans (XV hd h3)
    rw [Xa (by rw [e]; simp) (by rw [e]; simp)] at h
    have := Zak m h
    exact .inl om9
   ·have e := hst.trans (XW hd om9)
    rw [Y2 (by rw [e])] at h
    cases h
    exact .inr (by rw [e]; exact h3)
  ·have e := hst.trans (YO hd)
   rw [Xa (by rw [e]; simp) (by rw [e]; simp)] at h
   have := Zak m h
   exact .inl om9
  ·have e := hst.trans (XX hd)
   obtain ⟨d1, d2, d3⟩ := ZdV hd
   rw [Jc (by rw [e])] at h
   rw [e] at h
   dsimp only at h
   exact prog m t k4 (by rw [k3]; omega) (by rw [k3]; exact (Zf7 t.cfg s.kof hforR hfor d3).2 om9) (by rw [k3]; exact d2) h
theorem Zj5 {c : Cfg} {k : Str} {m : Nat} {l : List Nd} {ss : List Seat} {r : Int × Int × List Nd} (t : Tree c l ss) (hm : 0 < (Za l 0).msgs.length) (h : Ym c k m l 0 0 = some r) : 0 < r.1 ∨ r.2.1 = 4 := by
 have ha : (0 : Int) ≤ 0 ∧ (0 : Int) < l.length := ⟨Int.le_refl _, by have := t.pos; omega⟩
 obtain ⟨Q, hQ, eQ⟩ := t.seat_of ha
 have h0 : ¬ (Za l 0).level = 0 := fun e => by
  have := t.nomsgs hQ (by rw [eQ]; exact e)
  rw [eQ] at this
  rw [this] at hm
  cases hm
 cases hf : ZF c (Za l 0)
 ·exact prog m t ha h0 hm hf h
 ·obtain ⟨m2, rfl⟩ : ∃ m2, m = m2 + 1 := by
   cases m with
   | zero => cases h
   | succ m2 => exact ⟨m2, rfl⟩
  have hsl := (Yv t.slot ha).1
  have hc1 : (Zw c (Za l 0) k).1 = 1 := by rw [ZfJ h0 hsl hf]
  have hin := t.inner hQ (by rw [eQ]; exact h0)
  rw [eQ] at hin
  have hk4 : 4 ≤ (Za l 0).kids.length := by
   unfold ZF at hf
   rw [if_neg h0] at hf
   have := of_decide_eq_true hf
   obtain ⟨⟨f1, _⟩, _⟩ := t.cfg
   omega
  have hlf : (Z0 (Za l 0) 0 0).2.2.2 = true := by rw [J7]; exact Zf8 h0 hin.2.1 hk4
  by_cases hr : c.slots.toNat - l.length < 2
  ·have e := Ja hc1 (show ¬ (ZI c l).1 = 0 by rw [Zbl hlf hr]; simp)
   rw [Y2 (by rw [e])] at h
   cases h
   exact .inr (by rw [e, Zbl hlf hr])
  ·have e := X9 hc1 (show (ZI c l).1 = 0 by rw [ZbT hlf hr])
   rw [Xa (by rw [e]; simp) (by rw [e]; simp)] at h
   have := Zak m2 h
   exact .inl om9
section
variable {c : Cfg} {l : List Nd} {ss : List Seat}
def YP (ms : List Msg) : Nat := (ms.filter fun m => decide (m.kind = 1 ∨ m.kind = 2)).length
def YE (c : Cfg) (n : Nd) : Nat := if n.level = 0 then 1 + (n.rows.length - (c.leaf.toNat + 1) / 2) else YP n.msgs
def XM (c : Cfg) (l : List Nd) : Nat := (l.map (YE c)).sum
theorem ZaL {n : Nd} (h : n.level = 0) : YE c n = 1 + (n.rows.length - (c.leaf.toNat + 1) / 2) := if_pos h
theorem Jo {n : Nd} (h : ¬ n.level = 0) : YE c n = YP n.msgs := if_neg h
end
section
theorem Zal (m : Msg) (ms : List Msg) : YP (m :: ms) = (if m.kind = 1 ∨ m.kind = 2 then 1 else 0) + YP ms := by
  unfold YP
  rw [List.filter_cons]
  by_cases h : m.kind = 1 ∨ m.kind = 2
  · rw [if_pos (decide_eq_true h), if_pos h, List.length_cons]; omega
  · rw [if_neg (by simpa using h), if_neg h]; omega
theorem Zbo (A B : List Msg) : YP (A ++ B) = YP A + YP B := by unfold YP; rw [List.filter_append, List.length_append]
theorem Zf9 : YP [] = 0 := rfl
theorem Zga (m : Msg) (s : Span) (h : (m.clip s).2 = true) : (m.clip s).1.kind = m.kind := by
  unfold Msg.clip at h ⊢
  split at h
  · cases h
  · rename_i h1
    rw [if_neg h1]
    split <;> rfl
theorem Zj6 {m : Msg} (hR : m.R) (hk : m.kind = 1 ∨ m.kind = 2) (s : Span) (h : (m.clip s).2 = true) : s.has m.key = true := by
  cases hs : s.has m.key
  · exfalso
    have he : (m.span.meet s).empty = true := YN.2 fun q => by
      rw [ZH]
      cases hq : m.span.has q
      · rfl
      · have hsp : m.span = ⟨m.key, m.key.next, false⟩ := by unfold Msg.span; rw [if_neg (by omega)]
        rw [hsp, Zag (by have := (Y1 hR).1; omega)] at hq
        have e : q = m.key := of_decide_eq_true hq
        rw [e, hs]; rfl
    unfold Msg.clip at h
    rw [if_pos he] at h
    cases h
  · rfl
theorem Zj7 (s : Span) (m : Msg) (ms : List Msg) : Zc s (m :: ms) = (if (m.clip s).2 = true then [(m.clip s).1] else []) ++ Zc s ms := by
  unfold Zc
  rw [List.filterMap_cons]
  split <;> simp_all
theorem Zj8 {s u : Span} (h : ∀ q, s.has q = true → u.has q = false) : ∀ {ms : List Msg}, (∀ m ∈ ms, m.R) → YP (Zc s ms) + YP (Zc u ms) ≤ YP ms
  | [], _ => Nat.le_refl _
  | m :: ms, hR => by
    have ih := Zj8 h (ms := ms) fun x hx => hR x (List.mem_cons_of_mem _ hx)
    have hm := hR m (by simp)
    rw [Zj7, Zj7, Zal, Zbo, Zbo]
    have one : ∀ v : Span, YP (if (m.clip v).2 = true then [(m.clip v).1] else []) = if (m.clip v).2 = true ∧ (m.kind = 1 ∨ m.kind = 2) then 1 else 0 := fun v => by
      cases hc : (m.clip v).2
      · rfl
      · rw [if_pos rfl, Zal, Zga m v hc, Zf9]
        by_cases hk : m.kind = 1 ∨ m.kind = 2
        · rw [if_pos hk, if_pos ⟨rfl, hk⟩]
        · rw [if_neg hk, if_neg (fun h => hk h.2)]
    rw [one, one]
    by_cases hk : m.kind = 1 ∨ m.kind = 2
    · rw [if_pos hk]
      by_cases h1 : (m.clip s).2 = true
      · have h2 := h _ (Zj6 hm hk s h1)
        have h3 : ¬ (m.clip u).2 = true := fun h4 => by rw [Zj6 hm hk u h4] at h2; cases h2
        rw [if_pos ⟨h1, hk⟩, if_neg (fun h => h3 h.1)]; omega
      · rw [if_neg (fun h => h1 h.1)]
        split <;> omega
    · rw [if_neg hk, if_neg (fun h => hk h.2), if_neg (fun h => hk h.2)]; omega
end
end Go.Fw
set_option maxHeartbeats 1000000
namespace Go.Fw
open Go Go.RowKit
theorem ZaM {f : Nd → Nat} : ∀ {l : List Nd} {i : Nat} (h : i < l.length) (x : Nd), ((l.set i x).map f).sum + f l[i] = (l.map f).sum + f x
  | n :: l, 0, _, x => by simp only [List.set_cons_zero, List.map_cons, List.sum_cons, List.getElem_cons_zero]; omega
  | n :: l, i + 1, h, x => by
    have := ZaM (f := f) (l := l) (i := i) (by simpa using h) x
    simp only [List.set_cons_succ, List.map_cons, List.sum_cons, List.getElem_cons_succ]
    omega
theorem Zj9 {rows : List Pair} {m : Msg} {n : Int} (hp : PairsR rows) (hm : m.R) (h : Yj rows m n = true) (hl : (rows.length : Int) ≤ n) : ((takeN rows m).length : Int) ≤ n := by
  have h1 := Zfi n [m] rows hp (fun x hx => by simp at hx; subst hx; exact hm)
  have h2 : (Yc n rows [m]).1 = takeN rows m := by
    show (if Yj rows m n = true then ((Yc n (takeN rows m) []).1, (Yc n (takeN rows m) []).2 + 1) else (rows, 0)).1 = _
    rw [if_pos h]
    cases htk : takeN rows m <;> rfl
  rw [h2] at h1
  omega
def Zgb (m : Msg) : Nat := if m.kind = 1 ∨ m.kind = 2 then 1 else 0
theorem Zqc {rows : List Pair} {m : Msg} (hp : PairsR rows) (hm : m.R) : (takeN rows m).length ≤ rows.length + Zgb m := by
  unfold Zgb
  by_cases hk : m.kind = 1 ∨ m.kind = 2
  · rw [if_pos hk]; exact hp.take_len m
  · rw [if_neg hk]
    have h3 : 3 ≤ m.kind := by
      have h := hm.2
      split at h
      · omega
      · rcases h.2.2 with h | h | h <;> omega
    have := Zj9 (n := rows.length) hp hm (by rw [ZdA hm]; unfold ZbP; simp [h3]) (Int.le_refl _)
    omega
theorem Zka : ∀ {T : List Msg} {rows : List Pair}, PairsR rows → (∀ m ∈ T, m.R) → (Zt rows T).length ≤ rows.length + YP T
  | [], _, _, _ => Nat.le_refl _
  | m :: T, rows, hp, hT => by
    have hm := hT m (by simp)
    have h1 := Zqc hp hm
    have h2 := Zka (T := T) (hp.takeM hm.1.2.1 hm.1.2.2.1) fun x hx => hT x (List.mem_cons_of_mem _ hx)
    rw [Zal]
    unfold Zgb at h1
    show (Zt (takeN rows m) T).length ≤ _
    omega
theorem Zkb {m : Msg} (h : m.kind = 4) : YP [m] = 0 := by rw [Zal, if_neg (by omega)]; rfl
theorem Zkc (p : Msg → Bool) : ∀ (L : List Msg), YP (L.filter p) + YP (L.filter fun m => !p m) = YP L
  | [] => rfl
  | m :: L => by
    have ih := Zkc p L
    cases h : p m
    · rw [List.filter_cons_of_neg (by simp [h]), List.filter_cons_of_pos (by simp [h]), Zal, Zal]; omega
    · rw [List.filter_cons_of_pos h, List.filter_cons_of_neg (by simp [h]), Zal, Zal]; omega
theorem Zqd {P : List Str} {i : Nat} {l T : List Msg} (h : Moved P i l T) : YP (ZJ P i T l) + YP T ≤ YP l := by
  cases h with
  | none hT => rw [hT, ZfO, Zf9]; exact Nat.le_refl _
  | wipe w R hl hk hr hc hT hA =>
    rw [hA, hT, hl, Zbo, Zal w R, Zkb ((Zga w _ hc).trans hk)]
    have : YP (if (ZC w (Zf P (i : Int))).2 = true then [(ZC w (Zf P (i : Int))).1] else []) = 0 := by
      split
      · rename_i h
        unfold ZC at h ⊢
        split at h
        · cases h
        · rename_i h2
          rw [if_neg h2]
          exact Zkb ((Zga w _ h).trans hk)
      · rfl
    omega
  | points F R hl hF hT hA =>
    rw [hA, hT, hl, Zbo, Zbo]
    have := Zkc (fun m => decide (Ze P m.key = i)) F
    omega
section
variable {c : Cfg} {l : List Nd} {ss : List Seat}
theorem Zqe (t : Tree c l ss) {a i : Int} {P : Seat} (s : StepAt c l ss a i P) (h4 : 0 < ZS c.leaf c.bud (Za l a) (Zh l a i) i) :
    XM c (ZQ l (ZW c.leaf c.bud (Za l a) (Zh l a i) i).1 (ZW c.leaf c.bud (Za l a) (Zh l a i) i).2.1) ≤ XM c l := by
  obtain ⟨T, p⟩ := s.pour t h4
  have hmv := Zqd p.mv
  have hTR : ∀ m ∈ T, m.R := fun m hm => by
    obtain ⟨n, _, _, e⟩ := p.po.take
    have hm2 : m ∈ Zd P.n.pivots P.n.msgs (i.toNat : Int) := by rw [e] at hm; exact List.mem_of_mem_take hm
    exact ZcH (fun q hq => by
      obtain ⟨j, hj, rfl⟩ := List.getElem_of_mem hq
      exact (p.pin.2.2.2.2.2.1 j hj).2.1) ((MsgsR.iff.1 p.pin.2.2.1).1) m hm2
  have hrows := t.rows p.km.1
  generalize (ZW c.leaf c.bud (Za l a) (Zh l a i) i).1 = x at *
  generalize (ZW c.leaf c.bud (Za l a) (Zh l a i) i).2.1 = y at *
  have hx : 0 ≤ x.slot ∧ x.slot < l.length := by rw [p.al.1]; exact p.sin p.mem
  have hy : 0 ≤ y.slot ∧ y.slot < l.length := by rw [p.bl.1]; exact p.sin p.km.1
  have hne : x.slot.toNat ≠ y.slot.toNat := by
    have := p.ksl
    rw [← p.al.1, ← p.bl.1] at this
    omega
  have hxl : x.slot.toNat < l.length := by omega
  have hyl : y.slot.toNat < (l.set x.slot.toNat x).length := by rw [List.length_set]; omega
  have e1 := ZaM (f := YE c) hxl x
  have e2 := ZaM (f := YE c) hyl y
  have gx : l[x.slot.toNat] = P.n := by
    have h := (t.nd p.mem).2.1
    rw [X7 (p.sin p.mem)] at h
    have h2 := p.al.1
    simp only [h2]
    exact h.symm
  have gy : (l.set x.slot.toNat x)[y.slot.toNat] = (Zb l P i.toNat).n := by
    rw [List.getElem_set_ne hne]
    have h := (t.nd p.km.1).2.1
    rw [X7 (p.sin p.km.1)] at h
    have h2 := p.bl.1
    simp only [h2]
    exact h.symm
  rw [gx, Jo p.h0, Jo (by rw [p.al.2.1]; exact p.h0), p.al.2.2.2.2.2.2.2.2.2] at e1
  rw [gy] at e2
  have hv : YE c y ≤ YE c (Zb l P i.toNat).n + YP T := by
    by_cases h0 : (Zb l P i.toNat).n.level = 0
    · rw [ZaL h0, ZaL (by rw [p.bl.2.1]; exact h0), (p.po.leaf h0).2.1]
      have := Zka hrows hTR
      omega
    · rw [Jo h0, Jo (by rw [p.bl.2.1]; exact h0), (p.po.inner h0).2.1, Zbo]
      exact Nat.le_refl _
  unfold XM ZQ
  omega
theorem Zkd (t : Tree c l ss) (h : (Za l 0).level = 0 → c.leaf ≤ ((Za l 0).rows.length : Int)) : XM c (ZI c l).2 ≤ XM c l := by
  have hp := t.pos
  unfold ZI
  split
  · exact Nat.le_refl _
  · split
    · exact Nat.le_refl _
    · rename_i h1 h2
      have hc : (Z0 (Za l 0) l.length ((l.length : Int) + 1)).2.2.2 = true := by simpa using h1
      rw [J7] at hc
      have hh : (ZN (Za l 0)).2.2.2 = true := by rw [← Jy]; exact hc
      rw [ZaG hc, XQ hh]
      have e0 : Za l 0 = l[0] := X7 ⟨Int.le_refl _, by omega⟩
      have hR := (t.seat t.root).1
      rw [t.rootn] at hR
      dsimp only
      unfold XM YU
      have key : ∀ r a b : Nd, YE c r + YE c a + YE c b ≤ YE c (Za l 0) → (((l.set 0 r) ++ [a, b]).map (YE c)).sum ≤ (l.map (YE c)).sum := fun r a b hk => by
        have e1 := ZaM (f := YE c) hp r
        rw [← e0] at e1
        rw [List.map_append, List.sum_append]
        simp only [List.map_cons, List.map_nil, List.sum_cons, List.sum_nil]
        omega
      apply key
      have hlv := hR.1.2.1
      have er : ∀ k x y, YE c (Jl (Za l 0) k x y) = if (Za l 0).level = 0 then 0 else YP (Za l 0).msgs := fun k x y => by
        rw [Jo (show ¬ (Za l 0).level + 1 = 0 by omega)]
        show YP (if _ then _ else _) = _
        split <;> rfl
      rw [er]
      by_cases h0 : (Za l 0).level = 0
      · rw [if_pos h0, ZaL h0, Zav h0]
        have hL := hR.2.2.2
        rw [if_pos h0] at hL
        have h9 := h h0
        have hle := hL.2.1
        obtain ⟨_, ⟨f1, f2⟩, _⟩ := t.cfg
        have hA : ∀ z s, z.level = 0 → z.rows.length ≤ (c.leaf.toNat + 1) / 2 → YE c (Yl (Za l 0) z s) ≤ 1 := fun z s e1 e2 => by
          refine Nat.le_trans (Nat.le_of_eq (ZaL (show (Yl (Za l 0) z s).level = 0 from e1))) ?_
          show 1 + (z.rows.length - _) ≤ 1
          omega
        have hr := Zcm (l := (Za l 0).rows) (by omega)
        have hfin : 0 + 1 + 1 ≤ 1 + ((Za l 0).rows.length - (c.leaf.toNat + 1) / 2) := by omega
        refine Nat.le_trans (Nat.add_le_add (Nat.add_le_add_left (hA _ _ ?_ ?_) _) (hA _ _ ?_ ?_)) hfin
        · exact h0
        · show (XG (Za l 0).rows).1.length ≤ _
          rw [hr, List.length_take]; omega
        · exact h0
        · show (XG (Za l 0).rows).2.1.length ≤ _
          rw [hr, List.length_drop]; omega
      · rw [if_neg h0, Jo h0]
        have hz : ∀ z s, z.level = (Za l 0).level → YE c (Yl (Za l 0) z s) = 0 := fun z s e => by
          rw [Jo (show ¬ (Yl _ z _).level = 0 by show ¬ z.level = 0; rw [e]; exact h0)]; rfl
        have hlev : (ZN (Za l 0)).1.level = (Za l 0).level ∧ (ZN (Za l 0)).2.1.level = (Za l 0).level := by
          unfold ZN
          rw [if_neg h0]
          split <;> exact ⟨rfl, rfl⟩
        refine Nat.le_trans (Nat.add_le_add (Nat.add_le_add_left (Nat.le_of_eq (hz _ _ ?_)) _) (Nat.le_of_eq (hz _ _ ?_))) (Nat.le_refl _)
        · exact hlev.1
        · exact hlev.2
theorem Zqf {k : Str} : ∀ q, (⟨Str.nil, k, false⟩ : Span).has q = true → (⟨k, Str.nil, true⟩ : Span).has q = false := fun q h => by
  have h1 := (Yk.1 h).2
  rcases h1 with h1 | h1
  · cases h1
  · cases h2 : (⟨k, Str.nil, true⟩ : Span).has q
    · rfl
    · have h3 := (Yk.1 h2).1
      dsimp only at h1 h3
      rw [h1] at h3; cases h3
theorem Zqg (t : Tree c l ss) {p i : Int} (h : (Zh l p i).level = 0 → c.leaf ≤ ((Zh l p i).rows.length : Int)) : XM c (ZD c l p i).2 ≤ XM c l := by
  have hpos := t.pos
  unfold ZD
  split
  · exact Nat.le_refl _
  · unfold Zh at h
    generalize i.toNat = j at h ⊢
    unfold Xk
    split
    · exact Nat.le_refl _
    · rename_i h1
      split
      · exact Nat.le_refl _
      · split
        · exact Nat.le_refl _
        · rename_i h3
          split
          · exact Nat.le_refl _
          · rename_i h4
            have h3 : (ZR l p j).2.2.2 = true ∧ (adP l p j).2 = true := by
              constructor
              · cases h5 : (ZR l p j).2.2.2
                · exact absurd (.inl h5) h3
                · rfl
              · cases h5 : (adP l p j).2
                · exact absurd (.inr h5) h3
                · rfl
            obtain ⟨e3, hj⟩ := ZdU (n := Za l p) h3.2
            have hin : ¬ (¬ (0 ≤ p ∧ p < l.length) ∨ (Za l p).kids.length ≤ j ∨ ¬ (0 ≤ kdN l p j ∧ kdN l p j < l.length)) := h1
            have hp2 : 0 ≤ p ∧ p < l.length := Classical.byContradiction fun e => hin (.inl e)
            have hk2 : 0 ≤ kdN l p j ∧ kdN l p j < l.length := Classical.byContradiction fun e => hin (.inr (.inr e))
            have hcs := (ZfE h3.1).1
            obtain ⟨hks, hkm⟩ := Yv t.slot hk2
            obtain ⟨P, hP, eP⟩ := t.seat_of hp2
            have h0 : ¬ P.n.level = 0 := fun h0 => by have := (t.leaf hP h0).1; rw [eP] at this; omega
            obtain ⟨K, hK, eK⟩ := t.seat_of hk2
            have hjP : j < P.n.kids.length := by rw [eP]; exact hj
            have hat := t.at hP h0 hjP
            have ek : (Zb l P j).n = Za l (kdN l p j) := by
              rw [hat.2.2.1]
              unfold kdN
              rw [← eP, List.getD_eq_getElem?_getD, List.getElem?_eq_getElem hjP]; rfl
            have hne : kdN l p j ≠ p := fun e => by
              have := hat.2.2.2
              rw [ek, eP, e] at this
              omega
            have hcut : (ZN (Za l (kdN l p j))).2.2.2 = true := by rw [← Jy _ (l.length : Int)]; exact h3.1
            have hA : YE c (ZR l p j).1 + YE c (ZR l p j).2.1 ≤ YE c (Za l (kdN l p j)) := by
              unfold ZR
              rw [XQ hcut]
              have hR := (t.seat hK).1
              rw [eK] at hR
              have hms := (t.msgs hK).2.1
              rw [eK] at hms
              by_cases hl0 : (Za l (kdN l p j)).level = 0
              · have hL := hR.2.2.2
                rw [if_pos hl0] at hL
                have h9 := h hl0
                have hle := hL.2.1
                obtain ⟨_, ⟨f1, f2⟩, _⟩ := t.cfg
                have h9 : c.leaf ≤ ((Za l (kdN l p j)).rows.length : Int) := h9
                rw [Zav hl0, ZaL hl0]
                have hA : ∀ z : Nd, z.level = 0 → z.rows.length ≤ (c.leaf.toNat + 1) / 2 → YE c z ≤ 1 := fun z e1 e2 => by rw [ZaL e1]; omega
                have hr := Zcm (l := (Za l (kdN l p j)).rows) (by omega)
                have hfin : 1 + 1 ≤ 1 + ((Za l (kdN l p j)).rows.length - (c.leaf.toNat + 1) / 2) := by omega
                refine Nat.le_trans (Nat.add_le_add (hA _ ?_ ?_) (hA _ ?_ ?_)) hfin
                · exact hl0
                · show (XG (Za l (kdN l p j)).rows).1.length ≤ _
                  rw [hr, List.length_take]; omega
                · exact hl0
                · show (XG (Za l (kdN l p j)).rows).2.1.length ≤ _
                  rw [hr, List.length_drop]; omega
              · cases hr : YB (Za l (kdN l p j)).pivots (Za l (kdN l p j)).kids.length
                · rw [Za8 hl0 hr] at hcut; cases hcut
                · rw [Zaw hl0 hr, Jo hl0]
                  exact Nat.le_trans (Nat.add_le_add (Nat.le_of_eq (Jo hl0)) (Nat.le_of_eq (Jo hl0))) (Zj8 Zqf hms)
            have hB : YE c (adP l p j).1 = YE c (Za l p) := by
              show YE c (Y9 (Za l p) j _ _).1 = _
              rw [e3]
              rw [eP] at h0
              exact (Jo (show ¬ (Xc (Za l p) j _ _).level = 0 from h0)).trans (Jo h0).symm
            have hkl : (ZR l p j).1.slot.toNat < l.length := by rw [hcs, hks]; omega
            have e1 := ZaM (f := YE c) hkl (ZR l p j).1
            have hpl : p.toNat < (l.set (ZR l p j).1.slot.toNat (ZR l p j).1).length := by rw [List.length_set]; omega
            have e2 := ZaM (f := YE c) hpl (adP l p j).1
            have g1 : l[(ZR l p j).1.slot.toNat] = Za l (kdN l p j) := by
              rw [X7 hk2]
              have h2 := hcs.trans hks
              simp only [h2]
            have g2 : (l.set (ZR l p j).1.slot.toNat (ZR l p j).1)[p.toNat] = Za l p := by
              rw [List.getElem_set_ne (by rw [hcs, hks]; omega), X7 hp2]
            rw [g1] at e1
            rw [g2, hB] at e2
            unfold XM Jz
            rw [List.map_append, List.sum_append]
            simp only [List.map_cons, List.map_nil, List.sum_cons, List.sum_nil]
            omega
theorem Zqh {p k : Nd} {i : Int} (hk : KidOf p k i) (hR : ∀ m ∈ Zd p.pivots p.msgs i, m.R) (hf : 0 < (Zd p.pivots p.msgs i).length) (h : ¬ 0 < ZS c.leaf c.bud p k i) (h0 : k.level = 0) : c.leaf ≤ (k.rows.length : Int) := by
  rw [Zbn hk] at h
  obtain ⟨m, L, e⟩ : ∃ m L, Zd p.pivots p.msgs i = m :: L := by
    cases hh : Zd p.pivots p.msgs i with
    | nil => rw [hh] at hf; cases hf
    | cons m L => exact ⟨m, L, rfl⟩
  have hmR := hR m (by rw [e]; simp)
  rw [e, ZfZ h0] at h
  dsimp only at h
  unfold Yc at h
  split at h
  · dsimp only at h; omega
  · rename_i h2
    rw [ZdA hmR] at h2
    unfold ZbP at h2
    simp only [Bool.or_eq_true, decide_eq_true_eq, not_or] at h2
    omega
theorem Zqi {p k : Nd} {i : Int} (h : ZV c p k i = 3) : 0 < k.level ∨ (0 < (Zd p.pivots p.msgs i).length ∧ ¬ 0 < ZS c.leaf c.bud p k i) := by
  unfold ZV at h
  split at h
  · rename_i h1; exact .inl h1.1
  · split at h
    · cases h
    · rename_i h2
      split at h
      · cases h
      · split at h
        · rename_i h4; exact .inr ⟨h4, h2⟩
        · cases h
theorem Zqj (t : Tree c l ss) {a : Int} (ha : 0 ≤ a ∧ a < l.length) (k : Str) : XM c (Zs c l a k).2 ≤ XM c l := by
  rcases Jb c (Za l a) k with h1 | h1 | ⟨h1, _⟩
  · rw [X8 h1]; exact Nat.le_refl _
  · obtain ⟨g1, g2, _⟩ := ZbW h1
    have hs := (Yv t.slot ha).1
    have e0 : a = 0 := by omega
    subst e0
    have hl := Zkd t (fun h => absurd h g1)
    by_cases h3 : (ZI c l).1 = 0
    · rw [X9 h1 h3]; exact hl
    · rw [Ja h1 h3]; exact hl
  · obtain ⟨h0, hi⟩ := JA t ha h1
    obtain ⟨P, s⟩ := Jn t ha h0 hi
    rw [XU h1]
    generalize (Zw c (Za l a) k).2 = i at *
    rcases XK c (Za l a) (Zh l a i) i with hd | hd | ⟨hd, hd2⟩ | hd
    · rw [Jm hd]; exact Nat.le_refl _
    · have hin := t.inner s.mem s.h0
      rw [s.n] at hin
      have hl := Zqg t (p := a) (i := i) fun h9 => by
        rcases Zqi hd with h | ⟨h5, h6⟩
        · omega
        · exact Zqh s.kof (ZcH (fun q hq => by
            obtain ⟨j, hj, rfl⟩ := List.getElem_of_mem hq
            exact (hin.2.2.2.2.2.1 j hj).2.1) ((MsgsR.iff.1 hin.2.2.1).1)) h5 h6 h9
      by_cases h3 : (ZD c l a i).1 = 0
      · rw [XV hd h3]; exact hl
      · rw [XW hd h3]; exact hl
    · rw [YO hd]; exact Zqe t s hd2
    · rw [XX hd]; exact Nat.le_refl _
theorem Zgc {k : Str} : ∀ (m : Nat) {l : List Nd} {ss : List Seat} {a n : Int} {r : Int × Int × List Nd}, Tree c l ss → 0 ≤ a ∧ a < l.length → Ym c k m l a n = some r → XM c r.2.2 ≤ XM c l
  | 0, _, _, _, _, _, _, _, h => by cases h
  | m + 1, l, ss, a, n, r, t, ha, h => by
    obtain ⟨T, hT, _⟩ := J8 t ha k
    have hnx := Zaj t ha k
    have hq2 := Zqj t ha k
    by_cases h1 : (Zs c l a k).1.1 = 0
    · rw [Y2 h1] at h
      cases h
      exact hq2
    · by_cases h2 : (Zs c l a k).1.1 = 5
      · rw [Jc h2] at h; exact Nat.le_trans (Zgc m hT hnx h) hq2
      · rw [Xa h1 h2] at h; exact Nat.le_trans (Zgc m hT hnx h) hq2
end
end Go.Fw
set_option maxHeartbeats 1000000
namespace Go.Fw
open Go Go.RowKit
def JB (c : Cfg) (n : Nd) : Prop := n.slot = 0 ∨ n.level = 0 ∨ c.fan.tdiv 2 ≤ (n.kids.length : Int)
instance (c : Cfg) (n : Nd) : Decidable (JB c n) := by unfold JB; infer_instance
def FillL (c : Cfg) (l : List Nd) : Prop := ∀ n ∈ l, JB c n
section
variable {c : Cfg} {l : List Nd} {ss : List Seat}
theorem Zke (h : 4 ≤ c.fan) : c.fan.tdiv 2 = c.fan / 2 := Int.tdiv_eq_ediv_of_nonneg (by omega)
theorem Zqk (hc4 : 4 ≤ c.fan) {n : Nd} (h0 : ¬ n.level = 0) (hf : c.fan ≤ (n.kids.length : Int)) (hh : (ZN n).2.2.2 = true) : c.fan.tdiv 2 ≤ ((ZN n).1.kids.length : Int) ∧ c.fan.tdiv 2 ≤ ((ZN n).2.1.kids.length : Int) := by
  rw [Zke hc4]
  cases hr : YB n.pivots n.kids.length
  · rw [Za8 h0 hr] at hh; cases hh
  · rw [Zaw h0 hr] at hh ⊢
    dsimp only at hh ⊢
    unfold Xe at hh ⊢
    split at hh
    · cases hh
    · rename_i h1
      rw [if_neg h1]
      dsimp only
      rw [List.length_take, List.length_drop]
      omega
theorem Zkf {n : Nd} : (ZN n).1.level = n.level ∧ (ZN n).2.1.level = n.level := by
  unfold ZN
  split
  · exact ⟨rfl, rfl⟩
  · split <;> exact ⟨rfl, rfl⟩
theorem Zd7 (t : Tree c l ss) {n : Nd} (hf : ¬ n.level = 0 → c.fan ≤ (n.kids.length : Int)) (hh : (ZN n).2.2.2 = true) : ∀ z : Nd, (z.level = (ZN n).1.level ∧ z.kids = (ZN n).1.kids) ∨ (z.level = (ZN n).2.1.level ∧ z.kids = (ZN n).2.1.kids) → JB c z := by
  intro z hz
  obtain ⟨⟨c1, _⟩, _⟩ := t.cfg
  by_cases h0 : n.level = 0
  · refine .inr (.inl ?_)
    rcases hz with ⟨e, _⟩ | ⟨e, _⟩
    · rw [e, Zkf.1]; exact h0
    · rw [e, Zkf.2]; exact h0
  · have h1 := Zqk c1 h0 (hf h0) hh
    refine .inr (.inr ?_)
    rcases hz with ⟨_, e⟩ | ⟨_, e⟩
    · rw [e]; exact h1.1
    · rw [e]; exact h1.2
theorem Zkg (t : Tree c l ss) (hF : FillL c l) (hf : ¬ (Za l 0).level = 0 → c.fan ≤ ((Za l 0).kids.length : Int)) : FillL c (ZI c l).2 := by
  have hp := t.pos
  unfold ZI
  split
  · exact hF
  · split
    · exact hF
    · rename_i h1 h2
      have hc : (Z0 (Za l 0) l.length ((l.length : Int) + 1)).2.2.2 = true := by simpa using h1
      rw [J7] at hc
      have hh : (ZN (Za l 0)).2.2.2 = true := by rw [← Jy]; exact hc
      rw [ZaG hc, XQ hh]
      dsimp only
      unfold YU
      intro n hn
      rcases List.mem_append.1 hn with hn | hn
      · rcases List.mem_or_eq_of_mem_set hn with hn | rfl
        · exact hF n hn
        · exact .inl (Yv t.slot ⟨Int.le_refl 0, by omega⟩).1
      · simp only [List.mem_cons, List.not_mem_nil, or_false] at hn
        rcases hn with rfl | rfl
        · exact Zd7 t hf hh _ (.inl ⟨rfl, rfl⟩)
        · exact Zd7 t hf hh _ (.inr ⟨rfl, rfl⟩)
theorem Zql (t : Tree c l ss) (hF : FillL c l) {p i : Int} (hf : ¬ (Zh l p i).level = 0 → c.fan ≤ ((Zh l p i).kids.length : Int)) : FillL c (ZD c l p i).2 := by
  have hpos := t.pos
  unfold ZD
  split
  · exact hF
  · unfold Zh at hf
    generalize i.toNat = j at hf ⊢
    unfold Xk
    split
    · exact hF
    · rename_i h1
      split
      · exact hF
      · split
        · exact hF
        · rename_i h3
          split
          · exact hF
          · have h3 : (ZR l p j).2.2.2 = true ∧ (adP l p j).2 = true := by
              constructor
              · cases h5 : (ZR l p j).2.2.2
                · exact absurd (.inl h5) h3
                · rfl
              · cases h5 : (adP l p j).2
                · exact absurd (.inr h5) h3
                · rfl
            obtain ⟨e3, hj⟩ := ZdU (n := Za l p) h3.2
            have hin : ¬ (¬ (0 ≤ p ∧ p < l.length) ∨ (Za l p).kids.length ≤ j ∨ ¬ (0 ≤ kdN l p j ∧ kdN l p j < l.length)) := h1
            have hp2 : 0 ≤ p ∧ p < l.length := Classical.byContradiction fun e => hin (.inl e)
            have hcut : (ZN (Za l (kdN l p j))).2.2.2 = true := by rw [← Jy _ (l.length : Int)]; exact h3.1
            have hpF : JB c (Za l p) := hF _ (Yv t.slot hp2).2
            intro n hn
            unfold Jz at hn
            rcases List.mem_append.1 hn with hn | hn
            · rcases List.mem_or_eq_of_mem_set hn with hn | rfl
              · rcases List.mem_or_eq_of_mem_set hn with hn | rfl
                · exact hF n hn
                · unfold ZR
                  rw [XQ hcut]
                  exact Zd7 t hf hcut _ (.inl ⟨rfl, rfl⟩)
              · show JB c (Y9 (Za l p) j _ _).1
                rw [e3]
                rcases hpF with h | h | h
                · exact .inl h
                · exact .inr (.inl h)
                · refine .inr (.inr ?_)
                  show c.fan.tdiv 2 ≤ ((((Za l p).kids.take (j + 1) ++ [_]) ++ (Za l p).kids.drop (j + 1)).length : Int)
                  simp only [List.length_append, List.length_take, List.length_drop, List.length_cons, List.length_nil]
                  omega
            · rw [List.mem_singleton] at hn
              rw [hn]
              unfold ZR
              rw [XQ hcut]
              exact Zd7 t hf hcut _ (.inr ⟨rfl, rfl⟩)
theorem Zqm (t : Tree c l ss) (hF : FillL c l) {a i : Int} {P : Seat} (s : StepAt c l ss a i P) (h4 : 0 < ZS c.leaf c.bud (Za l a) (Zh l a i) i) :
    FillL c (ZQ l (ZW c.leaf c.bud (Za l a) (Zh l a i) i).1 (ZW c.leaf c.bud (Za l a) (Zh l a i) i).2.1) := by
  obtain ⟨T, p⟩ := s.pour t h4
  have same : ∀ {x y : Nd}, x.slot = y.slot → x.level = y.level → x.kids = y.kids → JB c y → JB c x := fun e1 e2 e3 h => by
    unfold JB at h ⊢
    rw [e1, e2, e3]; exact h
  intro n hn
  unfold ZQ at hn
  rcases List.mem_or_eq_of_mem_set hn with hn | rfl
  · rcases List.mem_or_eq_of_mem_set hn with hn | rfl
    · exact hF n hn
    · exact same p.al.1 p.al.2.1 p.al.2.2.2.1 (hF _ (t.nd p.mem).2.2)
  · exact same p.bl.1 p.bl.2.1 p.bl.2.2.2.1 (hF _ (t.nd p.km.1).2.2)
theorem Zqn {p k : Nd} {i : Int} (h : ZV c p k i = 3) : ¬ k.level = 0 → c.fan ≤ (k.kids.length : Int) ∨ ¬ 0 < k.level := fun h0 => by
  unfold ZV at h
  split at h
  · rename_i h1
    have := h1.2
    unfold ZF at this
    rw [if_neg h0] at this
    exact .inl (of_decide_eq_true this)
  · split at h
    · cases h
    · split at h
      · cases h
      · rename_i h4; exact .inr h4
theorem Zqo (t : Tree c l ss) (hF : FillL c l) {a : Int} (ha : 0 ≤ a ∧ a < l.length) (k : Str) : FillL c (Zs c l a k).2 := by
  rcases Jb c (Za l a) k with h1 | h1 | ⟨h1, _⟩
  · rw [X8 h1]; exact hF
  · obtain ⟨g1, g2, g3⟩ := ZbW h1
    have hs := (Yv t.slot ha).1
    have e0 : a = 0 := by omega
    subst e0
    have hl := Zkg t hF (fun h => by unfold ZF at g3; rw [if_neg h] at g3; exact of_decide_eq_true g3)
    by_cases h3 : (ZI c l).1 = 0
    · rw [X9 h1 h3]; exact hl
    · rw [Ja h1 h3]; exact hl
  · obtain ⟨h0, hi⟩ := JA t ha h1
    obtain ⟨P, s⟩ := Jn t ha h0 hi
    rw [XU h1]
    have hkl : 0 ≤ (Zh l a (Zw c (Za l a) k).2).level := by
      have h2 := (ZaJ t s).2.1
      have h3 := t.lvl s.mem
      have h4 := s.h0
      rw [s.n] at h3 h4
      omega
    generalize (Zw c (Za l a) k).2 = i at *
    rcases XK c (Za l a) (Zh l a i) i with hd | hd | ⟨hd, hd2⟩ | hd
    · rw [Jm hd]; exact hF
    · have hl := Zql t hF (p := a) (i := i) fun h9 => (Zqn hd h9).resolve_right (fun h => h (by omega))
      by_cases h3 : (ZD c l a i).1 = 0
      · rw [XV hd h3]; exact hl
      · rw [XW hd h3]; exact hl
    · rw [YO hd]; exact Zqm t hF s hd2
    · rw [XX hd]; exact hF
theorem Zgd {k : Str} : ∀ (m : Nat) {l : List Nd} {ss : List Seat} {a n : Int} {r : Int × Int × List Nd}, Tree c l ss → FillL c l → 0 ≤ a ∧ a < l.length → Ym c k m l a n = some r → FillL c r.2.2
  | 0, _, _, _, _, _, _, _, _, h => by cases h
  | m + 1, l, ss, a, n, r, t, hF, ha, h => by
    obtain ⟨T, hT, _⟩ := J8 t ha k
    have hnx := Zaj t ha k
    have hq2 := Zqo t hF ha k
    by_cases h1 : (Zs c l a k).1.1 = 0
    · rw [Y2 h1] at h
      cases h
      exact hq2
    · by_cases h2 : (Zs c l a k).1.1 = 5
      · rw [Jc h2] at h; exact Zgd m hT hq2 hnx h
      · rw [Xa h1 h2] at h; exact Zgd m hT hq2 hnx h
end
def SeenB (S : Int) (l : List Nd) : Prop := ∀ n ∈ l, n.seen ≤ S
structure Grown (c : Cfg) (k : Int) (l : List Nd) : Prop where
  all : SeenB (Za l 0).seen l
  le : (Za l 0).seen ≤ k
  pos : 0 ≤ (Za l 0).seen
  val : (XM c l : Int) ≤ 1 + k
  fill : FillL c l
section
variable {c : Cfg} {l : List Nd} {ss : List Seat}
theorem Tree.one_leaf (t : Tree c l ss) (h : (Za l 0).level = 0) : l = [Za l 0] := by
  have h0 : (Zg l 0).n.level = 0 := by rw [t.rootn]; exact h
  have h1 : ∀ x ∈ ss, x = Zg l 0 := t.ind rfl fun x hx hl e => absurd (by rw [e]; exact h0) hl
  have h2 : ss.length = 1 := by
    have h3 := t.nodup_s
    have h4 := t.fix
    cases hs : ss with
    | nil => rw [hs] at h4; cases h4
    | cons x L =>
      cases hL : L with
      | nil => rfl
      | cons y L2 =>
        exfalso
        rw [hs, hL] at h3 h1
        have e1 := h1 x (by simp)
        have e2 := h1 y (by simp)
        rw [e1, e2] at h3
        simp at h3
  have h3 : l.length = 1 := by rw [← t.len, h2]
  match l, h3 with
  | [n], _ => rfl
def JO (n : Nd) (m : Msg) : Nd := { n with rows := takeN n.rows m, seen := m.stamp }
theorem Zqp (t : Tree c l ss) (h : (Za l 0).level = 0) {m : Msg} (hm : m.R) (hf : Yj (Za l 0).rows m c.leaf = true) (hle : m.stamp ≤ 1099511627776) :
    (∃ T, Tree c (Z9 l (JO (Za l 0) m)) T) ∧ Zl (Z9 l (JO (Za l 0) m)) = takeN (Zl l) m := by
  have e := t.one_leaf h
  have hS := t.seat t.root
  have hg := t.rootn
  have hsl := Yv t.slot ⟨Int.le_refl _, by have := t.pos; omega⟩
  have hR := hS.1
  rw [hg] at hR
  have htop : (Za l 0).top = true := by have := hS.2.1.1.1; rw [hg] at this; exact this
  have hseen : (Za l 0).seen ≤ 1099511627776 := by
    obtain ⟨j, hj, e2⟩ := List.getElem_of_mem hsl.2
    rw [← e2]; exact (t.slot j hj).2
  generalize Za l 0 = n at *
  obtain ⟨⟨r1, r2, r3⟩, r4, r5, r6⟩ := hR
  rw [if_pos h] at r6
  obtain ⟨f1, f2, f3, f4⟩ := r6
  have e2 : Z9 l (JO n m) = [JO n m] := by rw [e]; rfl
  have hst := hm.1.1
  have hR2 : (JO n m).R c.fan c.leaf c.bud := by
    refine ⟨⟨r1, r2, by show 0 ≤ m.stamp; omega⟩, r4, r5, ?_⟩
    rw [if_pos (show (JO n m).level = 0 from h)]
    refine ⟨f1, Zj9 f3 hm hf f2, f3.takeM hm.1.2.1 hm.1.2.2.1, fun i hi => ?_⟩
    show (n.top || _) = true
    rw [htop]; rfl
  rw [e2]
  refine ⟨⟨_, ZiT t.cfg h hsl.1 hle hR2 htop (Zbm t.cfg hR2)⟩, ?_⟩
  rw [ZiU (show (JO n m).level = 0 from h) hsl.1 hle, e, ZiU h hsl.1 hseen]; rfl

def Zy (c : Cfg) (l : List Nd) (o : Opr) : Int × Int × List Nd :=
  if (Za l 0).level = 0 then (if Yj (Za l 0).rows (o.msg ((Za l 0).seen + 1)) c.leaf = true then ((Za l 0).seen + 1, 0, Z9 l (JO (Za l 0) (o.msg ((Za l 0).seen + 1)))) else (0, 4, l))
  else if Yo c.bud (Za l 0).msgs (o.msg ((Za l 0).seen + 1)) = true then ((Za l 0).seen + 1, 0, Z9 l (Yg (Za l 0) (o.msg ((Za l 0).seen + 1)))) else (0, 4, l)
theorem Zb2 (h : (Za l 0).level = 0) {o : Opr} (h2 : Yj (Za l 0).rows (o.msg ((Za l 0).seen + 1)) c.leaf = true) : Zy c l o = ((Za l 0).seen + 1, 0, Z9 l (JO (Za l 0) (o.msg ((Za l 0).seen + 1)))) := by unfold Zy; rw [if_pos h, if_pos h2]
theorem Zbp (h : (Za l 0).level = 0) {o : Opr} (h2 : Yj (Za l 0).rows (o.msg ((Za l 0).seen + 1)) c.leaf = false) : Zy c l o = (0, 4, l) := by unfold Zy; rw [if_pos h, if_neg (by simp [h2])]
theorem Zb3 (h : ¬ (Za l 0).level = 0) {o : Opr} (h2 : Yo c.bud (Za l 0).msgs (o.msg ((Za l 0).seen + 1)) = true) : Zy c l o = ((Za l 0).seen + 1, 0, Z9 l (Yg (Za l 0) (o.msg ((Za l 0).seen + 1)))) := by unfold Zy; rw [if_neg h, if_pos h2]
theorem Zbq (h : ¬ (Za l 0).level = 0) {o : Opr} (h2 : Yo c.bud (Za l 0).msgs (o.msg ((Za l 0).seen + 1)) = false) : Zy c l o = (0, 4, l) := by unfold Zy; rw [if_neg h, if_neg (by simp [h2])]
theorem Zge {o : Opr} (h : o.R) (h4 : o.kind ≤ 4) {s : Int} (hs : 1 ≤ s) : (o.msg s).R := by
  obtain ⟨⟨h1, h2, h3, h5, h6⟩, h7, _, _, h8⟩ := h
  refine ⟨⟨hs, h3, h6, h5⟩, ?_⟩
  show if o.kind = 4 then _ else _
  split
  · rename_i h9
    rw [if_pos (.inl h9)] at h8
    refine ⟨h7 (by omega), h8.2, ?_⟩
    have : (o.msg s).span = o.span := by
      show (if o.kind = 4 then _ else _) = _
      unfold Opr.span
      rw [if_pos h9, if_pos (.inl h9)]; rfl
    rw [this]; exact h8.1
  · rename_i h9
    rw [if_neg (by omega)] at h8
    refine ⟨h8.1, h8.2, ?_⟩
    show o.kind = 1 ∨ o.kind = 2 ∨ (o.kind = 3 ∧ o.val = Str.nil)
    rcases (by omega : o.kind = 1 ∨ o.kind = 2 ∨ o.kind = 3) with h | h | h
    · exact .inl h
    · exact .inr (.inl h)
    · exact .inr (.inr ⟨h, h7 (by omega)⟩)
theorem Zgf {r : Nd} (hp : 0 < l.length) : Za (Z9 l r) 0 = r := by
  rw [X7 ⟨Int.le_refl _, by unfold Z9; rw [List.length_set]; omega⟩]
  unfold Z9
  simp
theorem Zkh {r n : Nd} (h : n ∈ Z9 l r) : n ∈ l ∨ n = r := List.mem_or_eq_of_mem_set h
theorem Zqq (t : Tree c l ss) {o : Opr} (ho : o.R) (h4 : o.kind ≤ 4) {k : Int} (hg : Grown c k l) (hk : k < 1099511627776) (h : (Zy c l o).2.1 = 0) :
    (∃ T, Tree c (Zy c l o).2.2 T) ∧ Zl (Zy c l o).2.2 = takeN (Zl l) (o.msg 1) ∧ Grown c (k + 1) (Zy c l o).2.2 ∧ (Zy c l o).2.2.length = l.length ∧ (Zy c l o).1 = (Za l 0).seen + 1 := by
  have hp := hg.pos
  have hl := hg.le
  have hpos := t.pos
  have hmR := Zge ho h4 (s := (Za l 0).seen + 1) (by omega)
  have grown : ∀ r : Nd, r.slot = (Za l 0).slot → r.seen = (Za l 0).seen + 1 → YE c r ≤ YE c (Za l 0) + 1 → Grown c (k + 1) (Z9 l r) := fun r hsl hr hv => by
    refine ⟨fun n hn => ?_, ?_, ?_, ?_, fun n hn => ?_⟩
    · rw [Zgf hpos, hr]
      rcases Zkh hn with hn | rfl
      · have := hg.all n hn; omega
      · omega
    · rw [Zgf hpos, hr]; omega
    · rw [Zgf hpos, hr]; omega
    · have h1 := ZaM (f := YE c) hpos r
      have h2 := hg.val
      have e0 : Za l 0 = l[0] := X7 ⟨Int.le_refl _, by omega⟩
      rw [← e0] at h1
      unfold XM at h2 ⊢
      unfold Z9
      omega
    · rcases Zkh hn with hn | rfl
      · exact hg.fill n hn
      · exact .inl (hsl.trans (Yv t.slot ⟨Int.le_refl 0, by omega⟩).1)
  by_cases h0 : (Za l 0).level = 0
  · cases hf : Yj (Za l 0).rows (o.msg ((Za l 0).seen + 1)) c.leaf
    · rw [Zbp h0 hf] at h; cases h
    · rw [Zb2 h0 hf]
      obtain ⟨h1, h2⟩ := Zqp t h0 hmR hf (by show (Za l 0).seen + 1 ≤ _; omega)
      have hrows := t.rows t.root
      rw [t.rootn] at hrows
      have h3 := hrows.take_len (o.msg ((Za l 0).seen + 1))
      refine ⟨h1, h2, grown _ rfl rfl ?_, by show (Z9 l _).length = _; unfold Z9; rw [List.length_set], rfl⟩
      rw [ZaL h0, ZaL (show (JO _ _).level = 0 from h0)]
      show 1 + ((takeN _ _).length - _) ≤ _
      omega
  · cases hf : Yo c.bud (Za l 0).msgs (o.msg ((Za l 0).seen + 1))
    · rw [Zbq h0 hf] at h; cases h
    · rw [Zb3 h0 hf]
      unfold Yo at hf
      rw [Bool.and_eq_true] at hf
      have p : InjOf c l ss (o.msg ((Za l 0).seen + 1)) := ⟨t, h0, hmR, rfl, by show (Za l 0).seen + 1 ≤ _; omega, hg.all, of_decide_eq_true hf.1⟩
      refine ⟨⟨_, p.tree⟩, p.map, grown _ rfl rfl ?_, by show (Z9 l _).length = _; unfold Z9; rw [List.length_set], rfl⟩
      rw [Jo h0, Jo (show ¬ (Yg _ _).level = 0 from h0)]
      show YP (_ ++ [_]) ≤ _
      rw [Zbo, Zal, Zf9]
      split <;> omega
theorem Zqr (t : Tree c l ss) {o : Opr} (ho : o.R) (h4 : o.kind ≤ 4) {k : Int} (hg : Grown c k l) (h : ¬ (Zy c l o).2.1 = 0) :
    Zy c l o = (0, 4, l) ∧ ((Za l 0).level = 0 → c.leaf ≤ ((Za l 0).rows.length : Int)) ∧ (¬ (Za l 0).level = 0 → 0 < (Za l 0).msgs.length) := by
  have hmR := Zge ho h4 (s := (Za l 0).seen + 1) (by have := hg.pos; omega)
  obtain ⟨_, ⟨f1, _⟩, ⟨b1, _⟩, _⟩ := t.cfg
  by_cases h0 : (Za l 0).level = 0
  · cases hf : Yj (Za l 0).rows (o.msg ((Za l 0).seen + 1)) c.leaf
    · refine ⟨Zbp h0 hf, fun _ => ?_, fun h => absurd h0 h⟩
      unfold Yj Zbd at hf
      simp only [Bool.or_eq_false_iff, decide_eq_false_iff_not] at hf
      omega
    · rw [Zb2 h0 hf] at h; exact absurd rfl h
  · cases hf : Yo c.bud (Za l 0).msgs (o.msg ((Za l 0).seen + 1))
    · refine ⟨Zbq h0 hf, fun h => absurd h h0, fun _ => ?_⟩
      apply Classical.byContradiction
      intro hn
      have e : (Za l 0).msgs = [] := List.eq_nil_of_length_eq_zero (by omega)
      rw [e] at hf
      have := Zj2 hmR
      unfold Yo at hf
      simp [Zz] at hf
      omega
    · rw [Zb3 h0 hf] at h; exact absurd rfl h
def Zd8 (l : List Nd) (o : Opr) : Nd := if (Za l 0).level = 0 then JO (Za l 0) (o.msg ((Za l 0).seen + 1)) else Yg (Za l 0) (o.msg ((Za l 0).seen + 1))
theorem Zki (h : (Za l 0).level = 0) (o : Opr) : Zd8 l o = JO (Za l 0) (o.msg ((Za l 0).seen + 1)) := if_pos h
theorem Zkj (h : ¬ (Za l 0).level = 0) (o : Opr) : Zd8 l o = Yg (Za l 0) (o.msg ((Za l 0).seen + 1)) := if_neg h
theorem Zkk {o : Opr} (h : (Zy c l o).2.1 = 0) : (Zy c l o).2.2 = l.set 0 (Zd8 l o) ∧ (Zy c l o).1 = (Za l 0).seen + 1 := by
  by_cases h0 : (Za l 0).level = 0
  · rw [Zki h0]
    cases hf : Yj (Za l 0).rows (o.msg ((Za l 0).seen + 1)) c.leaf
    · rw [Zbp h0 hf] at h; cases h
    · rw [Zb2 h0 hf]; exact ⟨rfl, rfl⟩
  · rw [Zkj h0]
    cases hf : Yo c.bud (Za l 0).msgs (o.msg ((Za l 0).seen + 1))
    · rw [Zbq h0 hf] at h; cases h
    · rw [Zb3 h0 hf]; exact ⟨rfl, rfl⟩
theorem Zgg {o : Opr} (h : ¬ (Zy c l o).2.1 = 0) : Zy c l o = (0, 4, l) := by
  by_cases h0 : (Za l 0).level = 0
  · cases hf : Yj (Za l 0).rows (o.msg ((Za l 0).seen + 1)) c.leaf
    · exact Zbp h0 hf
    · rw [Zb2 h0 hf] at h; exact absurd rfl h
  · cases hf : Yo c.bud (Za l 0).msgs (o.msg ((Za l 0).seen + 1))
    · exact Zbq h0 hf
    · rw [Zb3 h0 hf] at h; exact absurd rfl h
theorem Zd9 (l : List Pair) (m : Msg) (n : Int) : (ZaD l m n).2 = Yj l m n := by
  cases h : Yj l m n
  · rw [Zfg h]
  · rw [Zcy h]
theorem Zqs {l : List Pair} {m : Msg} {n : Int} (h : Yj l m n = true) : (ZaD l m n).1 = takeN l m := by rw [Zcy h]
end
section
variable {c : Cfg} {l : List Nd} {ss : List Seat}
theorem Zgh (t : Tree c l ss) (k : Str) : ∃ N r, N ≤ 200000 ∧ Ym c k N l 0 0 = some r := by
  by_cases h0 : (Za l 0).level = 0
  · exact ⟨1, _, by omega, Y2 (by rw [X8 (by rw [Zjk h0])])⟩
  · have hw := ZdT t ⟨Int.le_refl _, by have := t.pos; omega⟩ h0
    have h8 := t.height
    rw [t.rootn] at h8
    obtain ⟨r, hr⟩ := Zpz (k := k) (Za l 0).level.toNat 8256 (n := 0) t rfl hw (by omega)
    exact ⟨_, r, by omega, hr⟩
theorem Zqt {p i : Int} (h : (ZD c l p i).1 = 4) : (ZD c l p i).2 = l ∧ ¬ (l.length : Int) < c.slots := by
  unfold ZD at h ⊢
  split at h
  · cases h
  · rename_i h1
    rw [if_neg h1]
    unfold Xk at h ⊢
    split at h
    · cases h
    · rename_i h2
      rw [if_neg h2]
      split at h
      · cases h
      · rename_i h3
        rw [if_neg h3]
        split at h
        · cases h
        · rename_i h4
          rw [if_neg h4]
          split at h
          · rename_i h5
            exact ⟨by rw [if_pos h5], h5⟩
          · cases h
theorem Zqu {p k : Nd} {i : Int} (h : ZV c p k i = 3) : ZF c p = false := by
  cases hf : ZF c p
  · rfl
  · exfalso
    unfold ZV at h
    rw [hf] at h
    split at h
    · rw [if_pos rfl] at h; cases h
    · split at h
      · cases h
      · split at h
        · cases h
        · split at h
          · rw [if_pos rfl] at h; cases h
          · cases h
theorem Zqv {p k : Nd} {i : Int} (h : ZV c p k i = 3) (h2 : ¬ 0 < k.level) : 0 < (Zd p.pivots p.msgs i).length := by
  apply Classical.byContradiction
  intro hn
  unfold ZV at h
  rw [if_neg (fun e => h2 e.1)] at h
  split at h
  · cases h
  · simp [h2, hn] at h
theorem Zkl {k : Str} (t : Tree c l ss) (h : (Zw c (Za l 0) k).1 = 1 ∨ ((Za l 0).level = 0 ∧ 2 ≤ (Za l 0).rows.length)) : (Z0 (Za l 0) 0 0).2.2.2 = true := by
  rw [J7]
  rcases h with h | ⟨h1, h2⟩
  · obtain ⟨h0, _, h3⟩ := ZbW h
    have hin := t.inner t.root (by rw [t.rootn]; exact h0)
    rw [t.rootn] at hin
    refine Zf8 h0 hin.2.1 ?_
    unfold ZF at h3
    rw [if_neg h0] at h3
    have := of_decide_eq_true h3
    obtain ⟨⟨f1, _⟩, _⟩ := t.cfg
    omega
  · exact Zj3 h1 h2
theorem Zkm (t : Tree c l ss) (h : (Z0 (Za l 0) 0 0).2.2.2 = true) : (ZI c l).1 = 0 ∨ (ZI c l = (4, l) ∧ c.slots - (l.length : Int) < 2) := by
  by_cases h2 : c.slots.toNat - l.length < 2
  · exact .inr ⟨Zbl h h2, by omega⟩
  · exact .inl (by rw [ZbT h h2])
theorem Zqw (t : Tree c l ss) {a : Int} (ha : 0 ≤ a ∧ a < l.length) (k : Str) : (Zs c l a k).1.2.2 = 0 ∨ ((Zs c l a k).1.1 = 0 ∧ (Zs c l a k).1.2.2 = 4 ∧ (Zs c l a k).2 = l ∧ c.slots - (l.length : Int) < 2) := by
  rcases Jb c (Za l a) k with h | h | ⟨h, _⟩
  · rw [X8 h]; exact .inl rfl
  · obtain ⟨_, hs, _⟩ := ZbW h
    have hsl := (Yv t.slot ha).1
    have ea : a = 0 := by omega
    subst ea
    rcases Zkm t (Zkl (k := k) t (.inl h)) with h3 | ⟨h3, h4⟩
    · rw [X9 h h3]; exact .inl rfl
    · rw [Ja h (by rw [h3]; simp), h3]; exact .inr ⟨rfl, rfl, rfl, h4⟩
  · obtain ⟨h0, hi⟩ := JA t ha h
    obtain ⟨P, s⟩ := Jn t ha h0 hi
    rw [XU h]
    generalize (Zw c (Za l a) k).2 = i at *
    rcases XK c (Za l a) (Zh l a i) i with hd | hd | ⟨hd, _⟩ | hd
    · rw [Jm hd]; exact .inl rfl
    · have hf := Zqu hd
      have hkl : 0 ≤ (Zh l a i).level := by have := s.kof.1; have := (ZaJ t s).2.1; omega
      have hin := t.inner s.mem s.h0
      rw [s.n] at hin
      have hpe : (ZD c l a i).1 = 0 ∨ (ZD c l a i).1 = 4 := by
        refine Zj4 t ha s hf ?_
        rcases Zj1 hd with h | ⟨h1, h2⟩
        · exact .inl h
        · have h3 : (Zh l a i).level = 0 := by omega
          have hfor := Zqv hd h1
          have hforR : ∀ m ∈ Zd (Za l a).pivots (Za l a).msgs i, m.R := ZcH (fun q hq => by
            obtain ⟨j, hj, rfl⟩ := List.getElem_of_mem hq
            exact (hin.2.2.2.2.2.1 j hj).2.1) (MsgsR.iff.1 hin.2.2.1).1
          exact .inr ⟨h3, (Zf7 t.cfg s.kof hforR hfor h2).1 h3⟩
      rcases hpe with h3 | h3
      · rw [XV hd h3]; exact .inl rfl
      · obtain ⟨e1, e2⟩ := Zqt h3
        rw [XW hd (by omega)]
        exact .inr ⟨rfl, h3, e1, by omega⟩
    · rw [YO hd]; exact .inl rfl
    · rw [XX hd]; exact .inl rfl
theorem ZcI {k : Str} : ∀ (m : Nat) {l : List Nd} {ss : List Seat} {a n : Int} {r : Int × Int × List Nd}, Tree c l ss → 0 ≤ a ∧ a < l.length → Ym c k m l a n = some r → r.2.1 = 0 ∨ (r.2.1 = 4 ∧ c.slots - (r.2.2.length : Int) < 2)
  | 0, _, _, _, _, _, _, _, h => by cases h
  | m + 1, l, ss, a, n, r, t, ha, h => by
    obtain ⟨T, hT, _⟩ := J8 t ha k
    have hnx := Zaj t ha k
    by_cases h1 : (Zs c l a k).1.1 = 0
    · rw [Y2 h1] at h
      cases h
      rcases Zqw t ha k with h2 | ⟨_, h2, h3, h4⟩
      · exact .inl h2
      · exact .inr ⟨h2, by show c.slots - ((Zs c l a k).2.length : Int) < 2; rw [h3]; exact h4⟩
    · by_cases h2 : (Zs c l a k).1.1 = 5
      · rw [Jc h2] at h; exact ZcI m hT hnx h
      · rw [Xa h1 h2] at h; exact ZcI m hT hnx h
end
section
variable {c : Cfg} {l : List Nd} {ss : List Seat}
theorem Zqx (n : Nd) : (ZN n).1.seen = n.seen ∧ (ZN n).2.1.seen = n.seen := by
  unfold ZN
  split
  · exact ⟨rfl, rfl⟩
  · split <;> exact ⟨rfl, rfl⟩
theorem Zkn {n : Nd} {i : Int} (h : (Zo n i).2.2.2 = true) : (Zo n i).1.seen = n.seen ∧ (Zo n i).2.1.seen = n.seen := by
  rw [Jy] at h
  rw [XQ h]
  exact Zqx n
theorem ZcJ {S : Int} {l : List Nd} {i : Nat} {x : Nd} (h : SeenB S l) (hx : x.seen ≤ S) : SeenB S (l.set i x) := fun n hn => by
  rcases List.mem_or_eq_of_mem_set hn with hn | rfl
  · exact h n hn
  · exact hx
theorem Zqy {S : Int} {l : List Nd} {x : Nd} (h : SeenB S l) (hx : x.seen ≤ S) : SeenB S (l ++ [x]) := fun n hn => by
  rcases List.mem_append.1 hn with hn | hn
  · exact h n hn
  · simp at hn; subst hn; exact hx
theorem Zgi {S : Int} (h : SeenB S l) (hs : 0 ≤ S) (i : Int) : (Za l i).seen ≤ S := by
  by_cases hi : 0 ≤ i ∧ i < l.length
  · rw [X7 hi]; exact h _ (List.getElem_mem _)
  · rw [Zpl hi]; exact hs
def SeenQ (S : Int) (l : List Nd) : Prop := SeenB S l ∧ (Za l 0).seen = S
theorem Zko (t : Tree c l ss) {S : Int} (hs : 0 ≤ S) (h : SeenQ S l) : SeenQ S (ZI c l).2 := by
  have hp := t.pos
  unfold ZI
  split
  · exact h
  · split
    · exact h
    · rename_i h1 h2
      have h1 : (Z0 (Za l 0) l.length ((l.length : Int) + 1)).2.2.2 = true := by simpa using h1
      have hc := h1
      rw [J7] at hc
      obtain ⟨e1, e2⟩ := Zkn hc
      rw [ZaG hc]
      dsimp only
      have er : (Jl (Za l 0) (Zo (Za l 0) ((l.length : Int) + 1)).2.2.1 l.length ((l.length : Int) + 1)).seen = S := h.2
      have ha : ∀ z s, z.seen = (Za l 0).seen → (Yl (Za l 0) z s).seen ≤ S := fun z s e => by
        unfold Yl
        dsimp only
        split
        · rw [e, h.2]; exact Int.le_refl _
        · exact hs
      refine ⟨?_, ?_⟩
      · unfold YU
        refine fun n hn => ?_
        rcases List.mem_append.1 hn with hn | hn
        · exact ZcJ h.1 (by rw [er]; exact Int.le_refl _) n hn
        · simp at hn
          rcases hn with rfl | rfl
          · exact ha _ _ e1
          · exact ha _ _ e2
      · unfold YU
        rw [X7 ⟨Int.le_refl _, by rw [List.length_append, List.length_set]; omega⟩]
        rw [List.getElem_append_left (by rw [List.length_set]; show 0 < _; omega)]
        simp
        exact er
theorem Zea {i : Nat} {x : Nd} (hp : 0 < l.length) : Za (l.set i x) 0 = if i = 0 then x else Za l 0 := by
  rw [X7 ⟨Int.le_refl _, by rw [List.length_set]; omega⟩, X7 ⟨Int.le_refl _, by omega⟩]
  simp only [List.getElem_set]
  rfl
theorem Zqz (t : Tree c l ss) {p i : Int} {S : Int} (hs : 0 ≤ S) (h : SeenQ S l) : SeenQ S (ZD c l p i).2 := by
  have hp := t.pos
  unfold ZD
  split
  · exact h
  · generalize i.toNat = j
    unfold Xk
    split
    · exact h
    · rename_i h1
      split
      · exact h
      · split
        · exact h
        · rename_i h3
          split
          · exact h
          · rename_i h4
            have h3 : (ZR l p j).2.2.2 = true ∧ (adP l p j).2 = true := by
              constructor
              · cases h5 : (ZR l p j).2.2.2
                · exact absurd (.inl h5) h3
                · rfl
              · cases h5 : (adP l p j).2
                · exact absurd (.inr h5) h3
                · rfl
            obtain ⟨e1, e2⟩ := Zkn (n := Za l (kdN l p j)) (i := (l.length : Int)) h3.1
            obtain ⟨e3, _⟩ := ZdU (n := Za l p) h3.2
            have ha : (adP l p j).1.seen = (Za l p).seen := by
              show (Y9 (Za l p) j _ _).1.seen = _
              rw [e3]; rfl
            have hk := Zgi h.1 hs (kdN l p j)
            have hq := Zgi h.1 hs p
            have hin : ¬ (¬ (0 ≤ p ∧ p < l.length) ∨ (Za l p).kids.length ≤ j ∨ ¬ (0 ≤ kdN l p j ∧ kdN l p j < l.length)) := h1
            have hp2 : 0 ≤ p ∧ p < l.length := Classical.byContradiction fun e => hin (.inl e)
            have hk2 : 0 ≤ kdN l p j ∧ kdN l p j < l.length := Classical.byContradiction fun e => hin (.inr (.inr e))
            have hcs := (ZfE h3.1).1
            have hks := (Yv t.slot hk2).1
            unfold Jz
            refine ⟨Zqy (ZcJ (ZcJ h.1 ?_) ?_) ?_, ?_⟩
            · show (Zo _ _).1.seen ≤ S; rw [e1]; exact hk
            · rw [ha]; exact hq
            · show (Zo _ _).2.1.seen ≤ S; rw [e2]; exact hk
            · have hl1 : 0 < (l.set (ZR l p j).1.slot.toNat (ZR l p j).1).length := by rw [List.length_set]; exact hp
              rw [ZcG, if_neg (by simp only [List.length_set]; omega), Zea hl1, Zea hp]
              split
              · rename_i e
                have : p = 0 := by omega
                rw [ha, this]; exact h.2
              · split
                · rename_i e
                  rw [hcs, hks] at e
                  have : kdN l p j = 0 := by omega
                  show (Zo _ _).1.seen = S
                  rw [e1, this]; exact h.2
                · exact h.2
theorem ZqA (t : Tree c l ss) {a i : Int} {P : Seat} (s : StepAt c l ss a i P) (h4 : 0 < ZS c.leaf c.bud (Za l a) (Zh l a i) i) {S : Int} (hs : 0 ≤ S) (h : SeenQ S l) :
    SeenQ S (ZQ l (ZW c.leaf c.bud (Za l a) (Zh l a i) i).1 (ZW c.leaf c.bud (Za l a) (Zh l a i) i).2.1) := by
  obtain ⟨T, p⟩ := s.pour t h4
  have hp := t.pos
  have hn := s.n
  have tk := ZcF p.may p.po
  obtain ⟨⟨xl, hxl, exl⟩, _⟩ := Zd1 tk.rst p.po.ne
  have hm : xl ∈ Zc (Zb l P i.toNat).s P.n.msgs := by rw [p.hcl]; exact List.mem_append_left _ hxl
  obtain ⟨m, hm, e⟩ := JL hm
  obtain ⟨j, hj, rfl⟩ := List.getElem_of_mem hm
  have h5 := (p.pin.2.2.2.2.2.2 j hj).1
  have h6 := Zgi h.1 hs a
  rw [← hn] at h6
  have h7 := p.al.2.2.2.2.2.2.2.1
  have h8 := p.po.seen
  have hx : 0 ≤ (ZW c.leaf c.bud (Za l a) (Zh l a i) i).1.slot ∧ (ZW c.leaf c.bud (Za l a) (Zh l a i) i).1.slot < l.length := by rw [p.al.1]; exact p.sin p.mem
  have hk0 := (ZaJ t s).1
  have hy : (ZW c.leaf c.bud (Za l a) (Zh l a i) i).2.1.slot = (Zh l a i).slot := p.bl.1.trans (by rw [s.kid])
  have hy2 : 0 ≤ (ZW c.leaf c.bud (Za l a) (Zh l a i) i).2.1.slot := by rw [p.bl.1]; exact (p.sin p.km.1).1
  unfold ZQ
  refine ⟨ZcJ (ZcJ h.1 (by rw [h7]; exact h6)) (by rw [h8, exl, e]; exact Int.le_trans h5 h6), ?_⟩
  rw [Zea (by rw [List.length_set]; exact hp), if_neg (by omega), Zea hp]
  split
  · rename_i e0
    rw [h7]
    have e1 := p.al.1
    have : P.n.slot = 0 := by omega
    have e2 : P.n = Za l 0 := by have := (t.nd p.mem).2.1; rw [‹P.n.slot = 0›] at this; exact this
    rw [e2]; exact h.2
  · exact h.2
theorem ZqB (t : Tree c l ss) {a : Int} (ha : 0 ≤ a ∧ a < l.length) (k : Str) {S : Int} (hs : 0 ≤ S) (h : SeenQ S l) : SeenQ S (Zs c l a k).2 := by
  rcases Jb c (Za l a) k with h1 | h1 | ⟨h1, _⟩
  · rw [X8 h1]; exact h
  · have hl := Zko t hs h
    by_cases h3 : (ZI c l).1 = 0
    · rw [X9 h1 h3]; exact hl
    · rw [Ja h1 h3]; exact hl
  · obtain ⟨h0, hi⟩ := JA t ha h1
    obtain ⟨P, s⟩ := Jn t ha h0 hi
    rw [XU h1]
    generalize (Zw c (Za l a) k).2 = i at *
    rcases XK c (Za l a) (Zh l a i) i with hd | hd | ⟨hd, hd2⟩ | hd
    · rw [Jm hd]; exact h
    · have hl := Zqz t (p := a) (i := i) hs h
      by_cases h3 : (ZD c l a i).1 = 0
      · rw [XV hd h3]; exact hl
      · rw [XW hd h3]; exact hl
    · rw [YO hd]; exact ZqA t s hd2 hs h
    · rw [XX hd]; exact h
theorem Zgj {k : Str} {S : Int} (hs : 0 ≤ S) : ∀ (m : Nat) {l : List Nd} {ss : List Seat} {a n : Int} {r : Int × Int × List Nd}, Tree c l ss → 0 ≤ a ∧ a < l.length → SeenQ S l → Ym c k m l a n = some r → SeenQ S r.2.2
  | 0, _, _, _, _, _, _, _, _, h => by cases h
  | m + 1, l, ss, a, n, r, t, ha, hq, h => by
    obtain ⟨T, hT, _⟩ := J8 t ha k
    have hnx := Zaj t ha k
    have hq2 := ZqB t ha k hs hq
    by_cases h1 : (Zs c l a k).1.1 = 0
    · rw [Y2 h1] at h
      cases h
      exact hq2
    · by_cases h2 : (Zs c l a k).1.1 = 5
      · rw [Jc h2] at h; exact Zgj hs m hT hnx hq2 h
      · rw [Xa h1 h2] at h; exact Zgj hs m hT hnx hq2 h
theorem Grown.q {k : Int} (h : Grown c k l) : SeenQ (Za l 0).seen l := ⟨h.all, rfl⟩
theorem Grown.of {k S : Int} (h : SeenQ S l) (h1 : S ≤ k) (h0 : 0 ≤ S) (hv : (XM c l : Int) ≤ 1 + k) (hf : FillL c l) : Grown c k l := ⟨by rw [h.2]; exact h.1, by rw [h.2]; exact h1, by rw [h.2]; exact h0, hv, hf⟩
theorem Grown.lift {k : Int} (t : Tree c l ss) (h : Grown c k l) (hl : (Za l 0).level = 0 → c.leaf ≤ ((Za l 0).rows.length : Int)) (h0 : (Za l 0).level = 0) : Grown c k (ZI c l).2 := Grown.of (Zko t h.pos h.q) h.le h.pos (by have := Zkd t hl; have := h.val; omega) (Zkg t h.fill fun h9 => absurd h0 h9)
theorem Grown.cyc {k : Int} {q : Str} {m : Nat} {r : Int × Int × List Nd} (t : Tree c l ss) (h : Grown c k l) (hr : Ym c q m l 0 0 = some r) : Grown c k r.2.2 := Grown.of (Zgj h.pos m t ⟨Int.le_refl _, by have := t.pos; omega⟩ h.q hr) h.le h.pos (by have := Zgc m t ⟨Int.le_refl _, by have := t.pos; omega⟩ hr; have := h.val; omega) (Zgd m t h.fill ⟨Int.le_refl _, by have := t.pos; omega⟩ hr)

/-! ### What goes down -/
def Jp : Nat := 9000 ^ 12
noncomputable def wtL (c : Cfg) (n : Nd) : Nat := if n.level = 0 then 0 else wtN c n * 9000 ^ n.level.toNat
noncomputable def Zb4 (c : Cfg) (l : List Nd) : Nat := (l.map (wtL c)).sum
noncomputable def muL (c : Cfg) (l : List Nd) : Nat := (c.slots.toNat - l.length) * (4097 * Jp) + Zb4 c l
theorem Tree.low (t : Tree c l ss) : ∀ x ∈ ss, x.n.level ≤ 11 := by
  have h : ∀ x ∈ ss, x.n.level ≤ 11 := t.ind t.height fun x hx h0 hl j hj => by
    have := (t.at hx h0 hj).2.2.2
    omega
  exact h
theorem Tree.wt_lt (t : Tree c l ss) {n : Nd} (hn : n ∈ l) : wtL c n < Jp := by
  have := (t.perm.mem_iff).2 hn
  obtain ⟨x, hx, rfl⟩ := List.mem_map.1 this
  unfold wtL
  split
  · exact Nat.pow_pos (by omega)
  · rename_i h0
    have h1 := ZfN t.cfg (t.inner hx h0)
    have h2 := t.low x hx
    have h3 : 9000 ^ x.n.level.toNat ≤ 9000 ^ 11 := Nat.pow_le_pow_right (by omega) (by omega)
    have h4 : wtN c x.n * 9000 ^ x.n.level.toNat ≤ 8256 * 9000 ^ 11 := Nat.mul_le_mul h1 h3
    have h5 : (8256 : Nat) * 9000 ^ 11 < Jp := by unfold Jp; decide
    exact Nat.lt_of_le_of_lt h4 h5
theorem Zkp {f : Nd → Nat} {b : Nat} : ∀ {l : List Nd}, (∀ n ∈ l, f n < b) → (l.map f).sum ≤ l.length * b
  | [], _ => by simp
  | n :: l, h => by
    have h1 := h n (by simp)
    have h2 := Zkp (l := l) fun x hx => h x (List.mem_cons_of_mem _ hx)
    rw [List.map_cons, List.sum_cons, List.length_cons, Nat.add_mul]
    omega
theorem Tree.pot_lt (t : Tree c l ss) : Zb4 c l < 4097 * Jp := by
  have h1 := Zkp (f := wtL c) (b := Jp) (l := l) fun n hn => t.wt_lt hn
  have h2 := t.sml.1
  have h3 : l.length * Jp ≤ 4096 * Jp := Nat.mul_le_mul_right _ h2
  have h4 : 0 < Jp := Nat.pow_pos (by omega)
  unfold Zb4
  have h5 : 4097 * Jp = 4096 * Jp + Jp := by rw [← Nat.succ_mul]
  omega
theorem Zgk {l' : List Nd} {T : List Seat} (t' : Tree c l' T) (h : l.length < l'.length) : muL c l' < muL c l := by
  have h1 := t'.pot_lt
  have h2 := t'.q.1.2.2
  unfold muL
  have h3 : (c.slots.toNat - l'.length + 1) * (4097 * Jp) ≤ (c.slots.toNat - l.length) * (4097 * Jp) := Nat.mul_le_mul_right _ (by omega)
  rw [Nat.add_mul] at h3
  omega
theorem ZqC (t : Tree c l ss) {a i : Int} {P : Seat} (s : StepAt c l ss a i P) (h4 : 0 < ZS c.leaf c.bud (Za l a) (Zh l a i) i) :
    muL c (ZQ l (ZW c.leaf c.bud (Za l a) (Zh l a i) i).1 (ZW c.leaf c.bud (Za l a) (Zh l a i) i).2.1) < muL c l := by
  obtain ⟨T, p⟩ := s.pour t h4
  have hf : i.toNat < c.fan.toNat := by
    have h1 := s.hi
    have h2 := p.pin.1.2.2
    omega
  have hlt := Poured.lighter p.po p.rt.1 hf
  have hm := (ZfV p.may p.po).1
  generalize (ZW c.leaf c.bud (Za l a) (Zh l a i) i).1 = x at *
  generalize (ZW c.leaf c.bud (Za l a) (Zh l a i) i).2.1 = y at *
  have hx : 0 ≤ x.slot ∧ x.slot < l.length := by rw [p.al.1]; exact p.sin p.mem
  have hy : 0 ≤ y.slot ∧ y.slot < l.length := by rw [p.bl.1]; exact p.sin p.km.1
  have hne : x.slot.toNat ≠ y.slot.toNat := by
    have := p.ksl
    rw [← p.al.1, ← p.bl.1] at this
    omega
  have hxl : x.slot.toNat < l.length := by omega
  have hyl : y.slot.toNat < (l.set x.slot.toNat x).length := by rw [List.length_set]; omega
  have e1 := ZaM (f := wtL c) hxl x
  have e2 := ZaM (f := wtL c) hyl y
  have gx : l[x.slot.toNat] = P.n := by
    have h := (t.nd p.mem).2.1
    rw [X7 (p.sin p.mem)] at h
    have h2 := p.al.1
    simp only [h2]
    exact h.symm
  have gy : (l.set x.slot.toNat x)[y.slot.toNat] = (Zb l P i.toNat).n := by
    rw [List.getElem_set_ne hne]
    have h := (t.nd p.km.1).2.1
    rw [X7 (p.sin p.km.1)] at h
    have h2 := p.bl.1
    simp only [h2]
    exact h.symm
  rw [gx] at e1
  rw [gy] at e2
  have w1 : wtL c x + 9000 ^ P.n.level.toNat ≤ wtL c P.n := by
    unfold wtL
    rw [p.al.2.1, if_neg p.h0, if_neg p.h0]
    have := Nat.mul_le_mul_right (9000 ^ P.n.level.toNat) hlt
    rw [Nat.add_mul, Nat.one_mul] at this
    exact this
  have w2 : wtL c y < 9000 ^ P.n.level.toNat := by
    unfold wtL
    split
    · exact Nat.pow_pos (by omega)
    · rename_i h0
      have hI : y.innerR c.fan c.bud := by have h := hm.1.2.1.2.2.2; rwa [if_neg h0] at h
      have h1 := ZfN t.cfg hI
      have h2 := p.km.2
      have h3 := p.bl.2.1
      have h5 := t.lvl p.km.1
      have h6 := t.lvl p.mem
      have h7 : P.n.level.toNat = y.level.toNat + 1 := by omega
      rw [h7, Nat.pow_succ]
      have h8 : 0 < 9000 ^ y.level.toNat := Nat.pow_pos (by omega)
      have h9 := Nat.mul_le_mul_right (9000 ^ y.level.toNat) h1
      omega
  have hlen : (ZQ l x y).length = l.length := p.len
  unfold muL
  rw [hlen]
  have : Zb4 c (ZQ l x y) < Zb4 c l := by
    unfold Zb4 ZQ
    omega
  omega
theorem ZqD (t : Tree c l ss) {a : Int} (ha : 0 ≤ a ∧ a < l.length) (k : Str) (h1 : ¬ (Zs c l a k).1.1 = 0) (h2 : ¬ (Zs c l a k).1.1 = 5) : muL c (Zs c l a k).2 < muL c l := by
  obtain ⟨T, hT, _⟩ := J8 t ha k
  rcases Jb c (Za l a) k with h | h | ⟨h, _⟩
  · rw [X8 h] at h1; exact absurd rfl h1
  · by_cases h3 : (ZI c l).1 = 0
    · rw [X9 h h3] at hT ⊢
      refine Zgk hT ?_
      unfold ZI at h3 ⊢
      split at h3
      · cases h3
      · rename_i h4
        rw [if_neg h4]
        split at h3
        · cases h3
        · rename_i h5
          rw [if_neg h5]
          unfold YU
          simp
    · rw [Ja h h3] at h1; exact absurd rfl h1
  · obtain ⟨h0, hi⟩ := JA t ha h
    obtain ⟨P, s⟩ := Jn t ha h0 hi
    rw [XU h] at h1 h2 hT ⊢
    generalize (Zw c (Za l a) k).2 = i at *
    rcases XK c (Za l a) (Zh l a i) i with hd | hd | ⟨hd, hd2⟩ | hd
    · rw [Jm hd] at h1; exact absurd rfl h1
    · by_cases h3 : (ZD c l a i).1 = 0
      · rw [XV hd h3] at hT ⊢
        refine Zgk hT ?_
        unfold ZD at h3 ⊢
        split at h3
        · cases h3
        · rename_i h4
          rw [if_neg h4]
          unfold Xk at h3 ⊢
          split at h3
          · cases h3
          · rename_i h5
            rw [if_neg h5]
            split at h3
            · cases h3
            · rename_i h6
              rw [if_neg h6]
              split at h3
              · cases h3
              · rename_i h7
                rw [if_neg h7]
                split at h3
                · cases h3
                · rename_i h8
                  rw [if_neg h8]
                  unfold Jz
                  simp
      · rw [XW hd h3] at h1; exact absurd rfl h1
    · rw [YO hd]; exact ZqC t s hd2
    · rw [XX hd] at h2; exact absurd rfl h2
theorem Zgl {p i : Int} (h : ¬ (ZD c l p i).1 = 0) : (ZD c l p i).2 = l := by
  unfold ZD at h ⊢
  split at h
  · rename_i h4; rw [if_pos h4]
  · rename_i h4
    rw [if_neg h4]
    unfold Xk at h ⊢
    split at h
    · rename_i h5; rw [if_pos h5]
    · rename_i h5
      rw [if_neg h5]
      split at h
      · rename_i h6; rw [if_pos h6]
      · rename_i h6
        rw [if_neg h6]
        split at h
        · rename_i h7; rw [if_pos h7]
        · rename_i h7
          rw [if_neg h7]
          split at h
          · rename_i h8; rw [if_pos h8]
          · exact absurd rfl h
theorem Zgm (h : ¬ (ZI c l).1 = 0) : (ZI c l).2 = l := by
  unfold ZI at h ⊢
  split at h
  · rename_i h4; rw [if_pos h4]
  · rename_i h4
    rw [if_neg h4]
    split at h
    · rename_i h5; rw [if_pos h5]
    · exact absurd rfl h
theorem ZqE (t : Tree c l ss) {a : Int} (ha : 0 ≤ a ∧ a < l.length) {k : Str} (h1 : (Zs c l a k).1.1 = 0) : (Zs c l a k).2 = l := by
  rcases Jb c (Za l a) k with h | h | ⟨h, _⟩
  · rw [X8 h]
  · by_cases h3 : (ZI c l).1 = 0
    · rw [X9 h h3] at h1; cases h1
    · rw [Ja h h3]; exact Zgm h3
  · rw [XU h] at h1 ⊢
    generalize (Zw c (Za l a) k).2 = i at *
    rcases XK c (Za l a) (Zh l a i) i with hd | hd | ⟨hd, hd2⟩ | hd
    · rw [Jm hd]
    · by_cases h3 : (ZD c l a i).1 = 0
      · rw [XV hd h3] at h1; cases h1
      · rw [XW hd h3]; exact Zgl h3
    · rw [YO hd] at h1; cases h1
    · rw [XX hd]
theorem ZqF (t : Tree c l ss) {a : Int} (ha : 0 ≤ a ∧ a < l.length) {k : Str} (h1 : (Zs c l a k).1.1 = 5) : (Zs c l a k).2 = l := by
  rcases Jb c (Za l a) k with h | h | ⟨h, _⟩
  · rw [X8 h]
  · by_cases h3 : (ZI c l).1 = 0
    · rw [X9 h h3] at h1; cases h1
    · rw [Ja h h3]; exact Zgm h3
  · rw [XU h] at h1 ⊢
    generalize (Zw c (Za l a) k).2 = i at *
    rcases XK c (Za l a) (Zh l a i) i with hd | hd | ⟨hd, hd2⟩ | hd
    · rw [Jm hd]
    · by_cases h3 : (ZD c l a i).1 = 0
      · rw [XV hd h3] at h1; cases h1
      · rw [XW hd h3]; exact Zgl h3
    · rw [YO hd] at h1; cases h1
    · rw [XX hd]
theorem Zeb {k : Str} : ∀ (m : Nat) {l : List Nd} {ss : List Seat} {a n : Int} {r : Int × Int × List Nd}, Tree c l ss → 0 ≤ a ∧ a < l.length → Ym c k m l a n = some r → (n < r.1 → muL c r.2.2 < muL c l) ∧ (r.1 ≤ n → r.2.2 = l)
  | 0, _, _, _, _, _, _, _, h => by cases h
  | m + 1, l, ss, a, n, r, t, ha, h => by
    obtain ⟨T, hT, _⟩ := J8 t ha k
    have hnx := Zaj t ha k
    by_cases h1 : (Zs c l a k).1.1 = 0
    · rw [Y2 h1] at h
      cases h
      refine ⟨fun e => absurd e (Int.lt_irrefl _), fun _ => ?_⟩
      exact ZqE t ha h1
    · by_cases h2 : (Zs c l a k).1.1 = 5
      · have hst := ZqF t ha h2
        rw [Jc h2] at h
        rw [hst] at h hT hnx
        exact Zeb m hT hnx h
      · have hmu := ZqD t ha k h1 h2
        rw [Xa h1 h2] at h
        have ih := Zeb m hT hnx h
        have hmo := Zak m h
        refine ⟨fun _ => ?_, fun e => by omega⟩
        by_cases h3 : n + 1 < r.1
        · exact Nat.lt_trans (ih.1 h3) hmu
        · rw [ih.2 (by omega)]; exact hmu
end
theorem Zec (bud : Int) (ms : List Msg) (m : Msg) : (JN bud ms m).2 = Yo bud ms m := Zf1 bud ms m
theorem ZqG {bud : Int} {ms : List Msg} {m : Msg} (h : Yo bud ms m = true) : (JN bud ms m).1 = ms ++ [m] := by rw [ZbZ h]
noncomputable def XY (c : Cfg) (l : List Nd) (o : Opr) : Nd :=
  if (Za l 0).level = 0 then { Za l 0 with rows := (ZaD (Za l 0).rows (o.msg ((Za l 0).seen + 1)) c.leaf).1, seen := (Za l 0).seen + (if (Zy c l o).2.1 = 0 then 1 else 0) }
  else { Za l 0 with msgs := (JN c.bud (Za l 0).msgs (o.msg ((Za l 0).seen + 1))).1, seen := (Za l 0).seen + (if (Zy c l o).2.1 = 0 then 1 else 0) }
section
variable {c : Cfg} {l : List Nd} {ss : List Seat} {o : Opr}
theorem Zgn (h : (Za l 0).level = 0) (e : (Zy c l o).2.1 = 0) : XY c l o = { Za l 0 with rows := (ZaD (Za l 0).rows (o.msg ((Za l 0).seen + 1)) c.leaf).1, seen := (Za l 0).seen + 1 } := by unfold XY; rw [if_pos h, if_pos e]
theorem Zkq (h : (Za l 0).level = 0) (e : ¬ (Zy c l o).2.1 = 0) : XY c l o = { Za l 0 with rows := (ZaD (Za l 0).rows (o.msg ((Za l 0).seen + 1)) c.leaf).1, seen := (Za l 0).seen } := by unfold XY; rw [if_pos h, if_neg e, Int.add_zero]
theorem Zgo (h : ¬ (Za l 0).level = 0) (e : (Zy c l o).2.1 = 0) : XY c l o = { Za l 0 with msgs := (JN c.bud (Za l 0).msgs (o.msg ((Za l 0).seen + 1))).1, seen := (Za l 0).seen + 1 } := by unfold XY; rw [if_neg h, if_pos e]
theorem Zkr (h : ¬ (Za l 0).level = 0) (e : ¬ (Zy c l o).2.1 = 0) : XY c l o = { Za l 0 with msgs := (JN c.bud (Za l 0).msgs (o.msg ((Za l 0).seen + 1))).1, seen := (Za l 0).seen } := by unfold XY; rw [if_neg h, if_neg e, Int.add_zero]
theorem ZqH (e : (Zy c l o).2.1 = 0) : XY c l o = Zd8 l o := by
  by_cases h : (Za l 0).level = 0
  · rw [Zgn h e, Zki h]
    cases hf : Yj (Za l 0).rows (o.msg ((Za l 0).seen + 1)) c.leaf
    · rw [Zbp h hf] at e; cases e
    · rw [Zqs hf]; rfl
  · rw [Zgo h e, Zkj h]
    cases hf : Yo c.bud (Za l 0).msgs (o.msg ((Za l 0).seen + 1))
    · rw [Zbq h hf] at e; cases e
    · rw [ZqG hf]; rfl
theorem Zks : (XY c l o).slot = (Za l 0).slot := by unfold XY; split <;> rfl
theorem ZqI (e : (Zy c l o).2.1 = 0) : (XY c l o).seen = (Zy c l o).1 := by rw [(Zkk e).2]; unfold XY; split <;> simp [e]
theorem ZqJ (t : Tree c l ss) (e : (Zy c l o).2.1 = 0) : l.set (XY c l o).slot.toNat (XY c l o) = (Zy c l o).2.2 := by
  rw [(Zkk e).1, Zks, ZqH e, (Yv t.slot ⟨Int.le_refl _, by have := t.pos; omega⟩).1]; rfl
end
def BtR (te tB ti tb TS TT bt bs : Nat) (c : Cfg) (G : GH) (X : List Nd × Str) (M : MH) : Prop := ∃ Ms, M = (bt, .cells (List.toArray [.pointer (some ⟨bs, 0, none⟩), .string X.2.b]) TT (0, 0)) :: Ms ∧ StR te tB ti tb TS bs c G X.1 Ms
theorem BtR.mono {te tB ti tb TS TT bt bs : Nat} {c : Cfg} {G G' : GH} {X : List Nd × Str} {M : MH} (hl : Le G G') (h : BtR te tB ti tb TS TT bt bs c G X M) : BtR te tB ti tb TS TT bt bs c G' X M := by
  obtain ⟨Ms, h1, h2⟩ := h; exact ⟨Ms, h1, h2.mono hl⟩
section
variable {c : Cfg} {l l' : List Nd} {ss : List Seat} {o : Opr} {k : Int} {q : Str} {e : Int}
def isM (n : Nd) : Bool := decide ((0 : Int) < (n.msgs.length : Int))
def Xd (l : List Nd) : Bool := l.all fun n => !isM n
theorem ZqK (l : List Nd) : (!decide ((0 : Int) ≤ Yf isM l)) = Xd l := by
  rcases ZbO isM l with ⟨h, h2⟩ | ⟨k, hk, h, h2, _⟩
  · rw [h]
    have : Xd l = true := List.all_eq_true.2 fun x hx => by rw [h2 x hx]; rfl
    rw [this]; rfl
  · rw [h]
    have : Xd l = false := Bool.eq_false_iff.2 fun hq => by
      have := List.all_eq_true.1 hq l[k] (List.getElem_mem hk)
      rw [h2] at this; cases this
    rw [this]; simp
theorem ZqL {l : List Nd} (h : ∀ j (h : j < l.length), (l[j]).msgs.length = 0) : Xd l = true := List.all_eq_true.2 fun x hx => by
  obtain ⟨j, hj, rfl⟩ := List.getElem_of_mem hx
  unfold isM
  rw [h j hj]; rfl
def RoomP (c : Cfg) (l : List Nd) (q : Str) (e : Int) (l' : List Nd) : Prop :=
  ((Za l 0).level = 0 ∧ e = (ZI c l).1 ∧ l' = (ZI c l).2) ∨
  (¬ (Za l 0).level = 0 ∧ ∃ N r, Ym c q N l 0 0 = some r ∧ l' = r.2.2 ∧ e = (if 0 < r.1 then 0 else if r.2.1 = 0 then 4 else r.2.1))
theorem Zkt (h : (ZI c l).1 = 0) : l.length < (ZI c l).2.length := by
  unfold ZI at h ⊢
  split at h
  · cases h
  · rename_i h4
    rw [if_neg h4]
    split at h
    · cases h
    · rename_i h5
      rw [if_neg h5]
      unfold YU
      simp
theorem Zku (t : Tree c l ss) (ho : o.R) (h4 : o.kind ≤ 4) (hg : Grown c k l) (hf : ¬ (Zy c l o).2.1 = 0) (h : RoomP c l q e l') :
    (∃ T, Tree c l' T) ∧ Zl l' = Zl l ∧ Grown c k l' ∧ (e = 0 → muL c l' < muL c l) ∧ (¬ e = 0 → e = 4 ∧ c.slots - (l'.length : Int) < 2) := by
  obtain ⟨_, hl, hi⟩ := Zqr t ho h4 hg hf
  rcases h with ⟨h0, rfl, rfl⟩ | ⟨h0, N, r, hr, rfl, rfl⟩
  · obtain ⟨T, hT, hm⟩ := Zjd t
    refine ⟨⟨T, hT⟩, hm, hg.lift t hl h0, fun h1 => Zgk hT (Zkt h1), fun h1 => ?_⟩
    rcases Zkm t (Zkl (k := q) t (.inr ⟨h0, by have h8 := hl h0; have h9 := t.cfg.2.1.1; omega⟩)) with h2 | ⟨h2, h3⟩
    · exact absurd h2 h1
    · rw [h2]; exact ⟨rfl, h3⟩
  · have ha : (0 : Int) ≤ 0 ∧ (0 : Int) < l.length := ⟨Int.le_refl _, by have := t.pos; omega⟩
    obtain ⟨T, hT, hm⟩ := ZbV N t ha hr
    have hmu := Zeb N t ha hr
    have her := ZcI N t ha hr
    refine ⟨⟨T, hT⟩, hm, hg.cyc t hr, fun h1 => ?_, fun h1 => ?_⟩
    · by_cases h2 : 0 < r.1
      · exact hmu.1 h2
      · rw [if_neg h2] at h1
        split at h1
        · cases h1
        · rename_i h3; exact absurd h1 h3
    · by_cases h2 : 0 < r.1
      · rw [if_pos h2] at h1; exact absurd rfl h1
      · rw [if_neg h2]
        rcases Zj5 t (hi h0) hr with h3 | h3
        · exact absurd h3 h2
        · rw [if_neg (by omega)]
          rcases her with h5 | ⟨h5, h6⟩
          · omega
          · exact ⟨h5, h6⟩
structure WrP (c : Cfg) (k : Int) (o : Opr) (l : List Nd) (e : Int) (l' : List Nd) : Prop where
  t : ∃ T, Tree c l' T
  g : Grown c (k + 1) l'
  r : (e = 0 ∧ Zl l' = takeN (Zl l) (o.msg 1)) ∨ (e = 4 ∧ Zl l' = Zl l ∧ c.slots - (l'.length : Int) < 2)
  x : (Zy c l o).2.1 = 0 → l' = (Zy c l o).2.2 ∧ e = 0
theorem Grown.up {k' : Int} (h : Grown c k l) (hk : k ≤ k') : Grown c k' l := ⟨h.all, by have := h.le; omega, h.pos, by have := h.val; omega, h.fill⟩
theorem WrP.ok {l0 : List Nd} (t : Tree c l ss) (ho : o.R) (h4 : o.kind ≤ 4) (hg : Grown c k l) (hk : k < 1099511627776) (hm : Zl l = Zl l0) (hx : l = l0 ∨ ¬ (Zy c l0 o).2.1 = 0) (h : (Zy c l o).2.1 = 0) : WrP c k o l0 0 (Zy c l o).2.2 := by
  obtain ⟨h1, h2, h3, _, _⟩ := Zqq t ho h4 hg hk h
  exact ⟨h1, h3, .inl ⟨rfl, by rw [h2, hm]⟩, fun h0 => hx.elim (fun e => by subst e; exact ⟨rfl, rfl⟩) fun hn => absurd h0 hn⟩
theorem WrP.no {l0 : List Nd} (t : Tree c l ss) (ho : o.R) (h4 : o.kind ≤ 4) (hg : Grown c k l) (hm : Zl l = Zl l0) (hx : l = l0 ∨ ¬ (Zy c l0 o).2.1 = 0) (hf : ¬ (Zy c l o).2.1 = 0) (h : RoomP c l q e l') (he : ¬ e = 0) : WrP c k o l0 e l' := by
  obtain ⟨h1, h2, h3, _, h5⟩ := Zku t ho h4 hg hf h
  exact ⟨h1, h3.up (by omega), .inr ⟨(h5 he).1, by rw [h2, hm], (h5 he).2⟩, fun h0 => hx.elim (fun e => absurd (e ▸ h0) hf) fun hn => absurd h0 hn⟩
structure DoP (c : Cfg) (k : Int) (o : Opr) (l : List Nd) (a : Ans) (l' : List Nd) : Prop where
  t : ∃ T, Tree c l' T
  g : Grown c (k + 1) l'
  r : (a = (doN (Zl l) o).2 ∧ Zl l' = (doN (Zl l) o).1) ∨ (a = ⟨4, false, Str.nil, []⟩ ∧ Zl l' = Zl l ∧ o.kind ≤ 4 ∧ (doN (Zl l) o).2.err = 0 ∧ c.slots - (l'.length : Int) < 2)
  x : o.R → o.kind ≤ 4 → (Zy c l o).2.1 = 0 → l' = (Zy c l o).2.2 ∧ a = ⟨0, false, Str.nil, []⟩
  z : 4 < o.kind → l' = l
theorem DoP.bad (t : Tree c l ss) (hg : Grown c k l) (h : ¬ o.R) : DoP c k o l ⟨3, false, Str.nil, []⟩ l := ⟨⟨_, t⟩, hg.up (by omega), .inl (by rw [ZpN h]; exact ⟨rfl, rfl⟩), fun hR => absurd hR h, fun _ => rfl⟩
theorem DoP.get (t : Tree c l ss) (hg : Grown c k l) (h : o.R) (h5 : o.kind = 5) : DoP c k o l ⟨0, (Zi (Zl l) o.key).isSome, (Zi (Zl l) o.key).getD Str.nil, []⟩ l := ⟨⟨_, t⟩, hg.up (by omega), .inl (by rw [ZpO h h5]; exact ⟨rfl, rfl⟩), fun _ h4 => absurd h4 (by omega), fun _ => rfl⟩
theorem DoP.scan (t : Tree c l ss) (hg : Grown c k l) (h : o.R) (h6 : o.kind = 6) : DoP c k o l ⟨0, false, Str.nil, Ji (Zl l) o.span o.lim⟩ l := ⟨⟨_, t⟩, hg.up (by omega), .inl (by rw [ZpP h h6]; exact ⟨rfl, rfl⟩), fun _ h4 => absurd h4 (by omega), fun _ => rfl⟩
theorem DoP.wr {l' : List Nd} (h : o.R) (h5 : ¬ o.kind = 5) (h6 : ¬ o.kind = 6) (hw : WrP c k o l e l') : DoP c k o l ⟨e, false, Str.nil, []⟩ l' := by
  have h7 : o.kind ≤ 4 := by have h8 := h.1.1; have h9 := h.1.2.1; omega
  refine ⟨hw.t, hw.g, ?_, fun _ _ h0 => ⟨(hw.x h0).1, by rw [(hw.x h0).2]⟩, fun h8 => absurd h8 (by omega)⟩
  rw [ZpQ h h5 h6]
  rcases hw.r with ⟨rfl, h1⟩ | ⟨rfl, h1, h2⟩
  · exact .inl ⟨rfl, h1⟩
  · exact .inr ⟨rfl, h1, h7, rfl, h2⟩
end
structure Act32 where
  o : Opr
  fl : Int
instance : Inhabited Act32 := ⟨⟨default, 0⟩⟩
def ActC32 (cs : List Value) (x : Act32) : Prop := cs = [.int .i64 x.o.kind, .string x.o.key.b, .string x.o.hi.b, .bool x.o.opn, .string x.o.val.b, .int .i64 x.o.lim, .int .i64 x.fl] ∧ x.o.Ok ∧ i64 x.fl
def Zkv : Enc Act32 where
  k := 7
  w := 80
  R := fun _ cs x => ActC32 cs x
  mono := fun _ h => h
  len := fun h => by rw [h.1]; rfl
  one := fun h u hu => by rw [h.1] at hu; simp at hu; rcases hu with rfl | rfl | rfl | rfl | rfl | rfl | rfl <;> rfl
theorem ZqM {P : Program} {t i tn : TypeId} (ht : Zbx P t = some [(tn, 0, 6), (i, 6, 1)]) (hi : P.underlying i = some (.int .i64)) (hn : Dec P tn eOp) (hc : P.cellsOf t = 7) : Dec P t Zkv := by
  intro H enc w fuel cs x h hw
  obtain ⟨hl, hf⟩ := Zg7 ht h hw
  obtain ⟨y0, n0, t0, w0⟩ := hf 0 _ _ _ rfl
  obtain ⟨y1, n1, t1, w1⟩ := hf 1 _ _ _ rfl
  obtain ⟨a0, e0, q0⟩ := hn enc w n0 _ y0 t0 w0
  obtain ⟨a1, e1, q1⟩ := Za5 hi t1 w1
  rw [hc] at hl
  match cs, hl with
  | [_, _, _, _, _, _, _], _ =>
    simp at e0 e1
    obtain ⟨e2, e3, e4, e5, e6, e7⟩ := e0
    subst e1 e2 e3 e4 e5 e6 e7
    exact ⟨⟨a0, a1⟩, rfl, q0, q1⟩
section
variable {c : Cfg} {l l' : List Nd} {ss : List Seat} {o : Opr} {k : Int} {q : Str} {a : Ans}
theorem ZqN (hc : CfgR c) : Tree c [XR 0] [J6 (XR 0)] := by
  have hR : (XR 0).R c.fan c.leaf c.bud := by
    obtain ⟨_, ⟨h1, _⟩, _⟩ := hc
    refine ⟨⟨by decide, by decide, by decide⟩, fun _ => ⟨rfl, rfl⟩, fun h => (by cases h), ?_⟩
    rw [if_pos (show (XR 0).level = 0 from rfl)]
    refine ⟨rfl, by show (0 : Int) ≤ _; omega, (fun i h => absurd h (Nat.not_lt_zero i)), fun i hi => absurd hi (Nat.not_lt_zero i)⟩
  exact ZiT hc rfl rfl (by decide) hR rfl (Zbm hc hR)
theorem ZqO : Grown c 0 [XR 0] := ⟨fun n hn => by simp at hn; subst hn; exact Int.le_refl _, Int.le_refl _, Int.le_refl _, by
  have : XM c [XR 0] = 1 := by
    show YE c (XR 0) + 0 = 1
    rw [ZaL (show (XR 0).level = 0 from rfl)]
    show 1 + (0 - _) + 0 = 1
    omega
  omega, fun n hn => by simp at hn; subst hn; exact .inl rfl⟩
theorem ZqP {N : Nat} {r : Int × Int × List Nd} (t : Tree c l ss) (hg : Grown c k l) (hr : Ym c q N l 0 0 = some r) : (∃ T, Tree c r.2.2 T) ∧ Zl r.2.2 = Zl l ∧ Grown c k r.2.2 ∧ (r.2.1 = 0 ∨ (r.2.1 = 4 ∧ c.slots - (r.2.2.length : Int) < 2)) := by
  have ha : (0 : Int) ≤ 0 ∧ (0 : Int) < l.length := ⟨Int.le_refl _, by have := t.pos; omega⟩
  obtain ⟨T, hT, hm⟩ := ZbV N t ha hr
  exact ⟨⟨T, hT⟩, hm, hg.cyc t hr, ZcI N t ha hr⟩
theorem ZqQ (t : Tree c l ss) : Za l 0 = l[0]'(t.pos) := X7 ⟨Int.le_refl _, by have := t.pos; omega⟩
theorem ZqR (t : Tree c l ss) : 0 ≤ (l[0]'(t.pos)).level ∧ (l[0]'(t.pos)).level ≤ 11 := by
  have h1 := t.height
  have h2 := (t.seat t.root).1.1.2.1
  rw [t.rootn, ZqQ t] at h1 h2
  exact ⟨h2, h1⟩
end
section
variable {c : Cfg} {l : List Nd} {ss : List Seat} {k : Str}
theorem Zkw (t : Tree c l ss) (k : Str) : ∀ (n : Nat) (x : Seat), x ∈ ss → x.n.level.toNat = n → x.s.has k = true → ∀ q, (Zn l k).s.has q = true → x.s.has q = true
  | 0, x, hx, hn, hk, q, hq => by
    have := t.lvl hx
    rw [t.leaf_eq hx hk (by omega)]; exact hq
  | n + 1, x, hx, hn, hk, q, hq => by
    have h0 : ¬ x.n.level ≤ 0 := by omega
    have hj := t.route hx h0 k
    have ha := t.at hx (by omega) hj
    have hr := t.right hx h0
    have hkid : (Zb l x (Ze x.n.pivots k)).s.has k = true := by
      have e : (Zb l x (Ze x.n.pivots k)).s.has k = (x.s.has k && (Zf x.n.pivots ((Ze x.n.pivots k : Nat) : Int)).has k) := ZH _ _ _
      rw [e, hk, Xz (j := Ze x.n.pivots k) (YM hr).1 k (List.length_filter_le _ _)]
      simp
    have := Zkw t k n (Zb l x (Ze x.n.pivots k)) ha.1 (by omega) hkid q hq
    exact Zbi q this
theorem ZqS {p n : Nd} {i : Int} (hp : ZF c p = false) (hl : 0 < n.level) : ¬ ZV c p n i = 0 := by
  unfold ZV
  split
  · rw [hp]; simp
  · split
    · simp
    · simp [hl]
theorem ZqT {N : Nat} {r : Int × Int × List Nd} (t : Tree c l ss) (hr : Ym c k N l 0 0 = some r) (h1 : r.1 = 0) (h2 : r.2.1 = 0) : ∀ x ∈ ss, x.s.has k = true → x.n.msgs = [] := by
  have key : ∀ x ∈ ss, x.s.has k = true → x.n.msgs = [] ∧ (x.n.level = 0 ∨ (ZF c x.n = false ∧ ∃ m n, Ym c k m l x.n.slot n = some r ∧ r.1 = n)) := by
    have ha0 : (0 : Int) ≤ 0 ∧ (0 : Int) < l.length := ⟨Int.le_refl _, by have := t.pos; omega⟩
    refine t.ind (fun _ => ?_) fun x hx h0 hP j hj hk => ?_
    · have hm : (Za l 0).msgs = [] := by
        apply Classical.byContradiction
        intro hn
        rcases Zj5 t (List.length_pos_iff.2 hn) hr with h | h <;> omega
      rw [t.root0, t.rootn]
      refine ⟨hm, ?_⟩
      by_cases h0 : (Za l 0).level = 0
      · exact .inl h0
      · refine .inr ⟨?_, N, 0, hr, h1⟩
        cases hf : ZF c (Za l 0)
        · rfl
        · exfalso
          have hc1 : (Zw c (Za l 0) k).1 = 1 := by rw [ZfJ h0 (Yv t.slot ha0).1 hf]
          obtain ⟨m, rfl⟩ : ∃ m, N = m + 1 := by
            cases N with
            | zero => cases hr
            | succ m => exact ⟨m, rfl⟩
          by_cases h3 : (ZI c l).1 = 0
          · have e := X9 (k := k) hc1 h3
            rw [Xa (by rw [e]; simp) (by rw [e]; simp)] at hr
            have := Zak m hr
            omega
          · have e := Ja (k := k) hc1 h3
            rw [Y2 (by rw [e])] at hr
            cases hr
            rw [e] at h2
            exact h3 h2
    · have hx2 := Zbi k hk
      obtain ⟨hm, hc⟩ := hP hx2
      rcases hc with hc | ⟨hf, m, n, hcy, hrn⟩
      · exact absurd hc h0
      · have hat := t.at hx h0 hj
        have hnd := t.nd hx
        have hlx := t.lvl hx
        have ha : 0 ≤ x.n.slot ∧ x.n.slot < l.length := hnd.1
        have eg : Za l x.n.slot = x.n := hnd.2.1.symm
        have hje : j = Ze x.n.pivots k := by
          have e : (Zb l x j).s.has k = (x.s.has k && (Zf x.n.pivots (j : Int)).has k) := ZH _ _ _
          have hrr := (Z5 (t.kids hx) h0)
          have hR := t.right hx (by omega)
          have hl9 := (YM hR).2
          rw [e, hx2, Xz (YM hR).1 k (by omega)] at hk
          simpa using hk
        have hch : Zw c (Za l x.n.slot) k = (2, ((Ze x.n.pivots k : Nat) : Int)) := by
          rw [eg]
          exact ZfL h0 (fun e => by rw [hf] at e; cases e.2) (by rw [hm, Zji (by simp)])
        have hc1 : (Zw c (Za l x.n.slot) k).1 = 2 := by rw [hch]
        obtain ⟨h00, hi⟩ := JA t ha hc1
        obtain ⟨Q, s⟩ := Jn t ha h00 hi
        have hst := XU hc1
        rw [hch] at hst hi s
        dsimp only at hst hi s
        rw [← hje] at hst hi s
        have hQ : Q = x := t.uniq s.mem hx s.slot
        subst hQ
        have hkn : (Zb l Q j).n = Zh l Q.n.slot (j : Int) := s.kid
        obtain ⟨k1, k2, k3, k4⟩ := ZaJ t s
        obtain ⟨m2, rfl⟩ : ∃ m2, m = m2 + 1 := by
          cases m with
          | zero => cases hcy
          | succ m2 => exact ⟨m2, rfl⟩
        rcases XK c (Za l Q.n.slot) (Zh l Q.n.slot (j : Int)) (j : Int) with hd | hd | ⟨hd, _⟩ | hd
        · have hl0 : (Zb l Q j).n.level = 0 := by
            have h3 := t.lvl hat.1
            apply Classical.byContradiction
            intro hn
            rw [hkn] at h3 hn
            exact ZqS (by rw [eg]; exact hf) (by omega) hd
          exact ⟨t.nomsgs hat.1 hl0, .inl hl0⟩
        · exfalso
          by_cases h3 : (ZD c l Q.n.slot (j : Int)).1 = 0
          · have e := hst.trans (XV hd h3)
            rw [Xa (by rw [e]; simp) (by rw [e]; simp)] at hcy
            have := Zak m2 hcy
            omega
          · have e := hst.trans (XW hd h3)
            rw [Y2 (by rw [e])] at hcy
            cases hcy
            rw [e] at h2
            exact h3 h2
        · exfalso
          have e := hst.trans (YO hd)
          rw [Xa (by rw [e]; simp) (by rw [e]; simp)] at hcy
          have := Zak m2 hcy
          omega
        · have e := hst.trans (XX hd)
          obtain ⟨d1, d2, d3⟩ := ZdV hd
          rw [Jc (by rw [e])] at hcy
          rw [e] at hcy
          dsimp only at hcy
          rw [hkn]
          refine ⟨?_, .inr ⟨d2, m2, n, hcy, hrn⟩⟩
          apply Classical.byContradiction
          intro hn
          rcases prog m2 t k4 (by rw [k3]; omega) (by rw [k3]; exact List.length_pos_iff.2 hn) (by rw [k3]; exact d2) hcy with h | h <;> omega
  exact fun x hx hk => (key x hx hk).1
theorem Tree.span_ne (t : Tree c l ss) {x : Seat} (hx : x ∈ ss) : x.s.empty = false := by
  rcases t.from hx with rfl | ⟨y, hy, h0, j, hj, rfl⟩
  · rfl
  · cases h : (Zb l y j).s.empty
    · rfl
    · exfalso
      have hz : (Zb l y j).s = Span.zero := by
        have := XT y.s (Zf y.n.pivots (j : Int))
        have e : (Zb l y j).s = (Zb l y j).s.norm := this.symm
        rw [e]; unfold Span.norm; rw [if_pos h]
      have sK := t.seat hx
      obtain ⟨⟨p1, p2⟩, _⟩ := sK.2.1
      rw [hz] at p1 p2
      exact absurd p2 (sK.1.2.2.1 p1).1
def CleanTo (ss : List Seat) (cur : Str) : Prop := ∀ x ∈ ss, x.s.lo.lt cur = true → x.n.msgs = []
theorem ZqU (ss : List Seat) : CleanTo ss Str.nil := fun x _ h => by
  have : x.s.lo.lt Str.nil = false := Str.nil_le _
  rw [this] at h; cases h
theorem ZqV {cur : Str} {N : Nat} {r : Int × Int × List Nd} (t : Tree c l ss) (hC : CleanTo ss cur) (hr : Ym c cur N l 0 0 = some r) (h1 : r.1 = 0) (h2 : r.2.1 = 0) :
    ∀ x ∈ ss, ((Zn l cur).s.opn = true ∨ x.s.lo.lt (Zn l cur).s.hi = true) → x.n.msgs = [] := fun x hx hh => by
  cases h3 : x.s.lo.lt cur
  · have hy := t.leafOk cur
    have hyl : (Zn l cur).s.has x.s.lo = true := by
      have h4 := (Yk.1 hy.has).1
      exact Yk.2 ⟨Str.le_trans h4 h3, hh⟩
    have e := t.leaf_eq hy.mem hyl hy.lvl
    have hxl := Zi4 (t.span_ne hx)
    have h5 := Zkw t x.s.lo _ x hx rfl hxl cur (by rw [← e]; exact hy.has)
    exact ZqT t hr h1 h2 x hx h5
  · exact hC x hx h3
theorem ZqW (t : Tree c l ss) (h : ∀ x ∈ ss, x.n.msgs = []) : Xd l = true := ZqL fun j hj => by
  have hm : l[j] ∈ l := List.getElem_mem hj
  have := (t.perm.mem_iff).2 hm
  obtain ⟨x, hx, e⟩ := List.mem_map.1 this
  rw [← e, h x hx]; rfl
end
end Go.Fw
