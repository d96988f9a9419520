/- A node and its kid behind messages that are moved on: both may be, and they stand for the same. Plain Lean; nothing of the program is named here. No condition. -/
import Derived.Test.YtcngningbcaggaaQkOk
set_option linter.unusedVariables false
set_option linter.unusedSimpArgs false
set_option linter.unnecessarySimpa false

namespace Go.Fw
open Go Go.RowKit
def roomB (bud : Int) (ms : List Msg) (m : Msg) : Bool := decide (m.size ≤ bud - sizesN ms) && (ms.getLast?.all fun x => decide (x.stamp < m.stamp))
def addsN (bud : Int) : List Msg → List Msg → Nat
 | _, [] => 0
 | ms, m :: l => if roomB bud ms m = true then addsN bud (ms ++ [m]) l + 1 else 0
def movedN (leaf bud : Int) (k : Nd) (l : List Msg) : Nd × Nat :=
 if k.level = 0 then ({ k with rows := (drainN leaf k.rows l).1 }, (drainN leaf k.rows l).2) else ({ k with msgs := k.msgs ++ l.take (addsN bud k.msgs l) }, addsN bud k.msgs l)
def KidOf (p k : Nd) (i : Int) : Prop := 1 ≤ p.level ∧ k.level = p.level - 1 ∧ 0 ≤ i ∧ i < (p.kids.length : Int)
instance (p k : Nd) (i : Int) : Decidable (KidOf p k i) := by unfold KidOf; infer_instance
noncomputable def countN (leaf bud : Int) (p k : Nd) (i : Int) : Nat := if KidOf p k i then (movedN leaf bud k (forN p.pivots p.msgs i)).2 else 0
noncomputable def pourN (leaf bud : Int) (p k : Nd) (i : Int) : Nd × Nd × Nat :=
 if countN leaf bud p k i = 0 then (p, k, 0)
 else ({ p with msgs := restN p.pivots i ((forN p.pivots p.msgs i).take (countN leaf bud p k i)) p.msgs },
  { (movedN leaf bud k (forN p.pivots p.msgs i)).1 with seen := (((forN p.pivots p.msgs i).take (countN leaf bud p k i)).getLast?.getD Msg.zero).stamp }, countN leaf bud p k i)
theorem adds_le (bud : Int) : ∀ (l ms : List Msg), addsN bud ms l ≤ l.length
 | [], _ => Nat.le_refl _
 | m :: l, ms => by
  unfold addsN
  split
  ·have := adds_le bud l (ms ++ [m]); simp; omega
  ·omega
theorem moved_le (leaf bud : Int) (k : Nd) (l : List Msg) : (movedN leaf bud k l).2 ≤ l.length := by
 unfold movedN
 split
 ·exact drain_le _ _ _
 ·exact adds_le _ _ _
theorem sizes_app (A B : List Msg) : sizesN (A ++ B) = sizesN A + sizesN B := by simp [sizesN]
theorem adds_size (bud : Int) : ∀ (l ms : List Msg), sizesN ms ≤ bud → sizesN (ms ++ l.take (addsN bud ms l)) ≤ bud
 | [], ms, h => by simpa using h
 | m :: l, ms, h => by
  unfold addsN
  split
  ·rename_i hr
   have hr2 : m.size ≤ bud - sizesN ms := by unfold roomB at hr; rw [Bool.and_eq_true, decide_eq_true_eq] at hr; exact hr.1
   have := adds_size bud l (ms ++ [m]) (by rw [sizes_app]; show _ + (m.size + 0) ≤ _; omega)
   rw [List.append_assoc] at this
   exact this
  ·simpa using h
def Nd.spanN (n : Nd) : Span := if n.top = true then Span.all else Span.norm ⟨Str.nil, n.high, false⟩
theorem spanN_has (n : Nd) (k : Str) : n.spanN.has k = n.has k := by
 unfold Nd.spanN Nd.has
 cases n.top
 ·rw [if_neg (by simp), norm_has]
  unfold Span.has
  simp [Str.nil_le]
 ·rw [if_pos rfl, all_has]; rfl
def kidS (p : Nd) (i : Int) : Span := p.spanN.meet (rangeN p.pivots i)
def MayP (c : Cfg) (p k : Nd) (i : Int) : Prop := (p.R c.fan c.leaf c.bud ∧ k.R c.fan c.leaf c.bud ∧ KidOf p k i) ∧ (k.top = (kidS p i).opn ∧ k.high = (kidS p i).hi) ∧ ∀ j (h : j < p.msgs.length), (p.msgs[j].span.meet (kidS p i)).empty = false → k.seen < p.msgs[j].stamp
instance (c : Cfg) (p k : Nd) (i : Int) : Decidable (MayP c p k i) := by unfold MayP; infer_instance
theorem fits_iff {n : Nd} {m : Msg} (hm : m.R) : (n.top = true ∨ (m.span.opn = false ∧ n.high.lt m.span.hi = false)) ↔ ∀ k, m.span.has k = true → n.has k = true := by
 have hne : m.span.empty = false := by
  cases h : m.span.empty
  ·rfl
  ·have := empty_iff.1 h m.key; rw [Msg.has_key hm] at this; cases this
 have hlo : m.span.opn = true ∨ m.span.lo.lt m.span.hi = true := by
  have := hne; unfold Span.empty at this
  cases h : m.span.opn
  ·right; simpa [h] using this
  ·exact .inl rfl
 constructor
 ·rintro (h | ⟨h1, h2⟩) k hk
  ·unfold Nd.has; rw [h]; rfl
  ·have := (span_has.1 hk).2
   rcases this with h3 | h3
   ·rw [h1] at h3; cases h3
   ·unfold Nd.has; rw [Str.lt_of_lt_of_le h3 h2]; simp
 ·intro h
  cases ht : n.top
  ·right
   have key : ∀ q, m.span.has q = true → q.lt n.high = true := fun q hq => by
    have := h q hq; unfold Nd.has at this; rw [ht] at this; simpa using this
   -- the greater one of two texts
   have mx : m.span.has (if m.span.lo.lt n.high = true then n.high else m.span.lo) = true → False := fun hq => by
    have := key _ hq
    split at this
    ·rw [Str.lt_irrefl] at this; cases this
    ·rename_i h1; exact h1 this
   have hmx : (if m.span.lo.lt n.high = true then n.high else m.span.lo).lt m.span.lo = false := by
    split
    ·rename_i h1; exact Str.lt_asymm h1
    ·exact Str.lt_irrefl _
   cases ho : m.span.opn
   ·refine ⟨rfl, ?_⟩
    cases h2 : n.high.lt m.span.hi
    ·rfl
    ·exfalso
     refine mx (span_has.2 ⟨hmx, .inr ?_⟩)
     split
     ·exact h2
     ·rcases hlo with h3 | h3
      ·rw [ho] at h3; cases h3
      ·exact h3
   ·exact absurd (span_has.2 ⟨hmx, .inl ho⟩) (fun hq => mx hq)
  ·exact .inl rfl
theorem leftN_of {P : List Str} {i : Int} {T : List Msg} {m m' : Msg} (h : leftN P i T m = some m') : m' = m ∨ ((rangeN P i).opn = false ∧ (m.clip ⟨(rangeN P i).hi, Str.nil, true⟩).2 = true ∧ m' = (m.clip ⟨(rangeN P i).hi, Str.nil, true⟩).1) := by
 unfold leftN at h
 split at h
 ·split at h
  ·rename_i h2
   cases h
   right
   have h3 := h2.2
   unfold withoutN at h3 ⊢
   split at h3
   ·cases h3
   ·rename_i h4
    rw [if_neg h4]
    exact ⟨by simpa using h4, h3, rfl⟩
  ·cases h
 ·cases h; exact .inl rfl
theorem leftN_stamp {P : List Str} {i : Int} {T : List Msg} {m m' : Msg} (h : leftN P i T m = some m') : m'.stamp = m.stamp ∧ m'.size = m.size := by
 rcases leftN_of h with rfl | ⟨_, h2, rfl⟩
 ·exact ⟨rfl, rfl⟩
 ·exact ⟨clip_stamp h2, clip_size h2⟩
theorem rest_mem {P : List Str} {i : Int} {T l : List Msg} {m' : Msg} (h : m' ∈ restN P i T l) : ∃ m ∈ l, leftN P i T m = some m' := List.mem_filterMap.1 h
theorem rest_rst {P : List Str} {i : Int} {T l : List Msg} (h : Rst l) : Rst (restN P i T l) := by
 unfold Rst restN
 rw [List.pairwise_filterMap]
 refine List.Pairwise.imp (fun {a b} hab x hx y hy => ?_) h
 have := (leftN_stamp hx).1
 have := (leftN_stamp hy).1
 omega
theorem size_pos (m : Msg) : 0 ≤ m.size := by unfold Msg.size; split <;> omega
theorem rest_size (P : List Str) (i : Int) (T : List Msg) : ∀ (l : List Msg), sizesN (restN P i T l) ≤ sizesN l
 | [] => Int.le_refl _
 | m :: l => by
  have ih := rest_size P i T l
  have hp := size_pos m
  unfold restN at ih ⊢
  rw [List.filterMap_cons]
  have e : sizesN (m :: l) = m.size + sizesN l := by simp [sizesN]
  split
  ·omega
  ·rename_i m' h
   have := (leftN_stamp h).2
   have e2 : ∀ L, sizesN (m' :: L) = m'.size + sizesN L := fun L => by simp [sizesN]
   rw [e2]; omega
theorem rest_R {P : List Str} {i : Int} {T l : List Msg} (hP : ∀ k ∈ P, k.b.size ≤ 16) (hl : ∀ m ∈ l, m.R) {m' : Msg} (h : m' ∈ restN P i T l) : m'.R ∧ ∃ m ∈ l, m'.stamp = m.stamp ∧ ∀ q, m'.span.has q = true → m.span.has q = true := by
 obtain ⟨m, hm, h2⟩ := rest_mem h
 rcases leftN_of h2 with rfl | ⟨_, h3, rfl⟩
 ·exact ⟨hl _ hm, m', hm, rfl, fun q hq => hq⟩
 ·have hr := range_sizes (p := P) (i := i) (n := 16) hP
  exact ⟨clip_R (hl m hm) hr.2 (by show Str.nil.b.size ≤ 16; decide) h3, m, hm, clip_stamp h3, fun q hq => (clip_in (hl m hm) h3 hq).1⟩
theorem last_take {l : List Msg} {n : Nat} (h : 0 < n) (hl : n ≤ l.length) : ∃ x ∈ l.take n, (l.take n).getLast?.getD Msg.zero = x ∧ ∀ y ∈ l.take n, Rst l → y.stamp ≤ x.stamp := by
 obtain ⟨j, rfl⟩ : ∃ j, n = j + 1 := ⟨n - 1, om9⟩
 have e : l.take (j + 1) = l.take j ++ [l[j]] := List.take_succ_eq_append_getElem om9
 refine ⟨l[j], by rw [e]; exact List.mem_append_right _ (List.mem_singleton.2 rfl), by rw [e, List.getLast?_concat]; rfl, fun y hy hr => ?_⟩
 rw [e, List.mem_append, List.mem_singleton] at hy
 rcases hy with hy | rfl
 ·obtain ⟨q, hq, rfl⟩ := List.getElem_of_mem hy
  rw [List.length_take] at hq
  rw [List.getElem_take]
  have := List.pairwise_iff_getElem.1 hr q j om9 om9 om9
  omega
 ·omega
structure Poured (c : Cfg) (p k : Nd) (i : Int) (a b : Nd) (T : List Msg) : Prop where
 ne : 0 < T.length
 ea : a = { p with msgs := restN p.pivots i T p.msgs }
 eb : b = { k with rows := b.rows, msgs := b.msgs, seen := b.seen }
 leaf : k.level = 0 → b.msgs = k.msgs ∧ b.rows = foldN k.rows T ∧ (PairsR k.rows → (∀ m ∈ forN p.pivots p.msgs i, m.R) → (k.rows.length : Int) ≤ c.leaf → (b.rows.length : Int) ≤ c.leaf)
 inner : ¬ k.level = 0 → b.rows = k.rows ∧ b.msgs = k.msgs ++ T ∧ (sizesN k.msgs ≤ c.bud → sizesN b.msgs ≤ c.bud)
 seen : b.seen = (T.getLast?.getD Msg.zero).stamp
 take : ∃ n, 0 < n ∧ n ≤ (forN p.pivots p.msgs i).length ∧ T = (forN p.pivots p.msgs i).take n
theorem pour_cases (c : Cfg) (p k : Nd) (i : Int) : (pourN c.leaf c.bud p k i = (p, k, 0)) ∨ (KidOf p k i ∧ ∃ T, Poured c p k i (pourN c.leaf c.bud p k i).1 (pourN c.leaf c.bud p k i).2.1 T ∧ (pourN c.leaf c.bud p k i).2.2 = T.length) := by
 by_cases h : countN c.leaf c.bud p k i = 0
 ·left; unfold pourN; rw [if_pos h]
 ·right
  have hk : KidOf p k i := by
   unfold countN at h
   by_cases hk : KidOf p k i
   ·exact hk
   ·rw [if_neg hk] at h; exact absurd rfl h
  have hc : countN c.leaf c.bud p k i = (movedN c.leaf c.bud k (forN p.pivots p.msgs i)).2 := if_pos hk
  have hle := moved_le c.leaf c.bud k (forN p.pivots p.msgs i)
  rw [← hc] at hle
  refine ⟨hk, (forN p.pivots p.msgs i).take (countN c.leaf c.bud p k i), ?_, by unfold pourN; rw [if_neg h, List.length_take]; show countN c.leaf c.bud p k i = _; omega⟩
  unfold pourN
  rw [if_neg h]
  refine ⟨by rw [List.length_take]; omega, rfl, ?_, fun h0 => ?_, fun h0 => ?_, rfl, _, om9, hle, rfl⟩
  ·dsimp only
   unfold movedN
   split <;> rfl
  ·have hm : movedN c.leaf c.bud k (forN p.pivots p.msgs i) = ({ k with rows := (drainN c.leaf k.rows (forN p.pivots p.msgs i)).1 }, (drainN c.leaf k.rows (forN p.pivots p.msgs i)).2) := if_pos h0
   rw [hc, hm]
   dsimp only
   refine ⟨rfl, drain_fold _ _ _, fun h1 h2 hl => ?_⟩
   have := drain_len c.leaf (forN p.pivots p.msgs i) k.rows h1 h2
   omega
  ·have hm : movedN c.leaf c.bud k (forN p.pivots p.msgs i) = ({ k with msgs := k.msgs ++ (forN p.pivots p.msgs i).take (addsN c.bud k.msgs (forN p.pivots p.msgs i)) }, addsN c.bud k.msgs (forN p.pivots p.msgs i)) := if_neg h0
   rw [hc, hm]
   exact ⟨rfl, rfl, adds_size _ _ _⟩
theorem for_mem {P : List Str} {l : List Msg} {i : Int} {m : Msg} (h : m ∈ forN P l i) : ∃ a ∈ l, (a.clip (rangeN P i)).2 = true ∧ (a.clip (rangeN P i)).1 = m := by
 obtain ⟨a, ha, h2⟩ := List.mem_filterMap.1 h
 unfold forF at h2
 split at h2
 ·rename_i h3
  cases h2
  refine ⟨a, ?_, h3.2, rfl⟩
  unfold frontN at ha
  split at ha
  ·exact ha
  ·split at ha
   ·exact List.mem_of_mem_take ha
   ·exact List.mem_of_mem_take ha
 ·cases h2
theorem nd_pivots {c : Cfg} {n : Nd} (h : n.R c.fan c.leaf c.bud) : ∀ k ∈ n.pivots, k.b.size ≤ 16 := fun k hk => by
 have h4 := h.2.2.2
 by_cases h0 : n.level = 0
 ·rw [if_pos h0] at h4
  have := h4.1
  have e : n.pivots = [] := List.eq_nil_of_length_eq_zero om9
  rw [e] at hk; cases hk
 ·rw [if_neg h0] at h4
  obtain ⟨j, hj, rfl⟩ := List.getElem_of_mem hk
  exact (h4.2.2.2.2.2.1 j hj).2.1
theorem nd_high {c : Cfg} {n : Nd} (h : n.R c.fan c.leaf c.bud) : n.high.b.size ≤ 16 := by
 cases ht : n.top
 ·exact (h.2.2.1 ht).2.1
 ·rw [(h.2.1 ht).1]; decide
theorem span_sizes {c : Cfg} {n : Nd} (h : n.R c.fan c.leaf c.bud) : n.spanN.lo.b.size ≤ 16 ∧ n.spanN.hi.b.size ≤ 16 := by
 have h1 := nd_high h
 unfold Nd.spanN
 split
 ·exact ⟨by decide, by decide⟩
 ·unfold Span.norm
  split
  ·exact ⟨by decide, by decide⟩
  ·split
   ·exact ⟨by show Str.nil.b.size ≤ 16; decide, by show Str.nil.b.size ≤ 16; decide⟩
   ·exact ⟨by show Str.nil.b.size ≤ 16; decide, h1⟩
theorem kidS_has (p : Nd) (i : Int) (k : Str) : (kidS p i).has k = (p.has k && (rangeN p.pivots i).has k) := by unfold kidS; rw [meet_has, spanN_has]
structure Takes (c : Cfg) (p k : Nd) (i : Int) (T : List Msg) : Prop where
 R : ∀ m ∈ T, m.R
 up : ∀ m ∈ T, k.seen < m.stamp
 sp : ∀ m ∈ T, ∀ q, m.span.has q = true → (kidS p i).has q = true
 rst : Rst T
 late : ∀ m ∈ restN p.pivots i T p.msgs, (m.span.meet (kidS p i)).empty = false → ∀ x ∈ T, x.stamp < m.stamp
 clip : clips (kidS p i) p.msgs = T ++ clips (kidS p i) (restN p.pivots i T p.msgs)
theorem takes_of {c : Cfg} {p k : Nd} {i : Int} {a b : Nd} {T : List Msg} (h : MayP c p k i) (hp : Poured c p k i a b T) : Takes c p k i T := by
 obtain ⟨⟨hpR, hkR, hk⟩, hsp, hst⟩ := h
 obtain ⟨k1, k2, k3, k4⟩ := hk
 have hin : p.innerR c.fan c.bud := by have := hpR.2.2.2; rwa [if_neg om9] at this
 obtain ⟨j, rfl⟩ : ∃ j : Nat, i = j := ⟨i.toNat, om9⟩
 obtain ⟨hr1, hr2⟩ := rightN_spec hin.2.1
 have hj : j ≤ p.pivots.length := om9
 have hm := hin.2.2.1
 have hmR := (MsgsR.iff.1 hm).1
 obtain ⟨n, n1, n2, rfl⟩ := hp.take
 have mv := moved_of (P := p.pivots) hr1 hj hm n
 have hs : ∀ q, (kidS p j).has q = true → (rangeN p.pivots j).has q = true := fun q hq => by rw [kidS_has, Bool.and_eq_true] at hq; exact hq.2
 have hfit : ∀ m ∈ p.msgs, ∀ q, m.span.has q = true → p.has q = true := fun m hm' => by
  obtain ⟨x, hx, rfl⟩ := List.getElem_of_mem hm'
  exact (fits_iff (hmR _ hm')).1 (hin.2.2.2.2.2.2 x hx).2
 have hcl := mv.clips_in hr1 hj hm hs fun m hm' q h1 h2 => by rw [kidS_has, hfit m hm' q h1, h2]; rfl
 have hmem : ∀ m ∈ (forN p.pivots p.msgs (j : Int)).take n, ∃ a ∈ p.msgs, (a.clip (kidS p j)).2 = true ∧ (a.clip (kidS p j)).1 = m := fun m hm' => clips_mem (by rw [hcl]; exact List.mem_append_left _ hm')
 have hsz := meet_sizes (span_sizes hpR) (range_sizes (p := p.pivots) (i := (j : Int)) (nd_pivots hpR))
 have hrst := clips_rst (s := kidS p j) (rst_of hm)
 rw [hcl] at hrst
 refine ⟨fun m h => ?_, fun m h => ?_, fun m h q hq => ?_, (rst_app hrst).1, fun m h he x hx => ?_, hcl⟩
 ·obtain ⟨a, ha, h1, rfl⟩ := hmem m h
  exact clip_R (hmR a ha) hsz.1 hsz.2 h1
 ·obtain ⟨a, ha, h1, rfl⟩ := hmem m h
  rw [clip_stamp h1]
  obtain ⟨x, hx, rfl⟩ := List.getElem_of_mem ha
  exact hst x hx (clip_of h1).1
 ·obtain ⟨a, ha, h1, rfl⟩ := hmem m h
  exact (clip_in (hmR a ha) h1 hq).2
 ·have h1 : (m.clip (kidS p j)).2 = true := by
   cases h2 : (m.clip (kidS p j)).2
   ·rw [clip_no.1 h2] at he; cases he
   ·rfl
  have := (rst_app hrst).2.2 x hx (m.clip (kidS p j)).1 (List.mem_filterMap.2 ⟨m, h, if_pos h1⟩)
  rwa [clip_stamp h1] at this
theorem last_of {T : List Msg} (hr : Rst T) (hn : 0 < T.length) : (∃ x ∈ T, T.getLast?.getD Msg.zero = x) ∧ ∀ y ∈ T, y.stamp ≤ (T.getLast?.getD Msg.zero).stamp := by
 obtain ⟨x, h1, h2, h3⟩ := last_take (l := T) hn (Nat.le_refl _)
 rw [List.take_length] at h1 h2 h3
 rw [h2]
 exact ⟨⟨x, h1, rfl⟩, fun y hy => h3 y hy hr⟩
theorem rows_in {X : Span} {l : List Pair} {T : List Msg} (hl : PairsR l) (hT : ∀ m ∈ T, m.R) (h1 : ∀ p ∈ l, X.has p.key = true) (h2 : ∀ m ∈ T, ∀ q, m.span.has q = true → X.has q = true) : ∀ p ∈ foldN l T, X.has p.key = true := by
 induction T generalizing l with
 | nil => exact h1
 | cons m T ih =>
  have hR := hT m (by simp)
  have hR' := hR
  unfold Msg.R at hR'
  refine ih (l := takeN l m) (hl.takeM hR'.1.2.1 hR'.1.2.2.1) (fun x hx => hT x (List.mem_cons_of_mem _ hx)) (fun p hp => ?_) fun x hx => h2 x (List.mem_cons_of_mem _ hx)
  unfold takeN at hp
  split at hp
  ·exact h1 p ((List.mem_filter.1 hp).1)
  ·rw [withN_mid, List.mem_append, List.mem_append] at hp
   rcases hp with (hp | hp) | hp
   ·exact h1 p ((List.mem_filter.1 hp).1)
   ·unfold midN at hp
    split at hp
    ·rw [List.mem_singleton] at hp
     subst hp
     exact h2 m (by simp) _ (Msg.has_key hR)
    ·cases hp
   ·exact h1 p ((List.mem_filter.1 hp).1)
theorem pour_may {c : Cfg} {p k : Nd} {i : Int} {a b : Nd} {T : List Msg} (h : MayP c p k i) (hp : Poured c p k i a b T) : MayP c a b i ∧ k.seen < b.seen := by
 have tk := takes_of h hp
 obtain ⟨⟨hpR, hkR, hk⟩, hsp, hst⟩ := h
 obtain ⟨⟨xl, hxl, exl⟩, hlast⟩ := last_of tk.rst hp.ne
 have hseen : k.seen < b.seen := by rw [hp.seen, exl]; exact tk.up xl hxl
 have hin : p.innerR c.fan c.bud := by have h9 := hk.1; have := hpR.2.2.2; rwa [if_neg om9] at this
 have hmR := (MsgsR.iff.1 hin.2.2.1).1
 have aR : a.R c.fan c.leaf c.bud := by
  rw [hp.ea]
  refine ⟨hpR.1, hpR.2.1, hpR.2.2.1, ?_⟩
  rw [if_neg (show ¬ p.level = 0 by have := hk.1; omega)]
  obtain ⟨h1, h2, h3, h4, h5, h6, h7⟩ := hin
  refine ⟨h1, h2, MsgsR.iff.2 ⟨fun m hm => (rest_R (nd_pivots hpR) hmR hm).1, rest_rst (rst_of h3)⟩, Int.le_trans (rest_size _ _ _ _) h4, h5, h6, fun j hj => ?_⟩
  have hm := List.getElem_mem hj
  obtain ⟨r1, m, hm2, r2, r3⟩ := rest_R (nd_pivots hpR) hmR hm
  obtain ⟨x, hx, rfl⟩ := List.getElem_of_mem hm2
  have f := h7 x hx
  exact ⟨by show _ ≤ p.seen; rw [r2]; exact f.1, (fits_iff (n := { p with msgs := restN p.pivots i T p.msgs }) r1).2 fun q hq => (fits_iff (hmR _ hm2)).1 f.2 q (r3 q hq)⟩
 have hsame : kidS a i = kidS p i := by rw [hp.ea]; rfl
 have hb : b.top = k.top ∧ b.high = k.high ∧ b.level = k.level ∧ b.slot = k.slot ∧ b.right = k.right ∧ b.kids = k.kids ∧ b.pivots = k.pivots := by rw [hp.eb]; exact ⟨rfl, rfl, rfl, rfl, rfl, rfl, rfl⟩
 obtain ⟨b1, b2, b3, b4, b5, b6, b7⟩ := hb
 have kin : ∀ q, (kidS p i).has q = true → k.has q = true := fun q hq => by
  have := (span_has.1 hq).2
  unfold Nd.has
  rw [hsp.1, hsp.2]
  rcases this with h | h <;> simp [h]
 have bR : b.R c.fan c.leaf c.bud := by
  refine ⟨by rw [b3, b4]; have := hkR.1; omega, by rw [b1, b2, b5]; exact hkR.2.1, by rw [b1, b2, b5]; exact hkR.2.2.1, ?_⟩
  have h4 := hkR.2.2.2
  rw [b3]
  by_cases h0 : k.level = 0
  ·rw [if_pos h0] at h4 ⊢
   obtain ⟨e1, e2, e3⟩ := hp.leaf h0
   obtain ⟨l1, l2, l3, l4⟩ := h4
   have hrows : ∀ p ∈ b.rows, (Span.mk Str.nil k.high k.top).has p.key = true := by
    rw [e2]
    refine rows_in l3 tk.R (fun x hx => ?_) fun m hm q hq => ?_
    ·obtain ⟨j, hj, rfl⟩ := List.getElem_of_mem hx
     have := l4 j hj
     unfold Nd.has at this
     unfold Span.has
     simp [Str.nil_le] at this ⊢
     exact this
    ·have := kin q (tk.sp m hm q hq)
     unfold Nd.has at this
     unfold Span.has
     simp [Str.nil_le] at this ⊢
     exact this
   refine ⟨by rw [b7, b6, e1]; exact l1, e3 l3 (fun m hm => ?_) l2, by rw [e2]; exact PairsR.fold l3 fun m hm => msgR_sizes (tk.R m hm), fun j hj => ?_⟩
   ·obtain ⟨x, hx, h2, rfl⟩ := for_mem hm
    have hr := range_sizes (p := p.pivots) (i := i) (nd_pivots hpR)
    exact clip_R (hmR x hx) hr.1 hr.2 h2
   ·have := hrows _ (List.getElem_mem hj)
    unfold Span.has at this
    unfold Nd.has
    rw [b1, b2]
    simp [Str.nil_le] at this ⊢
    exact this
  ·rw [if_neg h0] at h4 ⊢
   obtain ⟨e1, e2, e3⟩ := hp.inner h0
   obtain ⟨l1, l2, l3, l4, l5, l6, l7⟩ := h4
   have hkm := (MsgsR.iff.1 l3).1
   have hold : ∀ m ∈ k.msgs, m.stamp ≤ k.seen := fun m hm => by
    obtain ⟨x, hx, rfl⟩ := List.getElem_of_mem hm
    exact (l7 x hx).1
   refine ⟨by rw [e1, b6]; exact l1, by rw [b6, b7]; exact l2, ?_, e3 l4, by rw [b6]; exact l5, fun j hj => ?_, fun j hj => ?_⟩
   ·rw [e2]
    refine MsgsR.iff.2 ⟨fun m hm => ?_, List.pairwise_append.2 ⟨rst_of l3, tk.rst, fun x hx y hy => ?_⟩⟩
    ·rcases List.mem_append.1 hm with hm | hm
     ·exact hkm m hm
     ·exact tk.R m hm
    ·have := hold x hx
     have := tk.up y hy
     omega
   ·have hh : b.has b.pivots[j] = k.has b.pivots[j] := by unfold Nd.has; rw [b1, b2]
    obtain ⟨q1, q2, q3⟩ := l6 j (by rw [← b7]; exact hj)
    have eb : b.pivots[j] = k.pivots[j]'(by rw [← b7]; exact hj) := by simp only [b7]
    exact ⟨by rw [eb]; exact q1, by rw [eb]; exact q2, by rw [hh, eb]; exact q3⟩
   ·have hm := List.getElem_mem hj
    have hbm : ∀ m ∈ b.msgs, b.fits m := fun m hm => by
     rw [e2] at hm
     rcases List.mem_append.1 hm with hm | hm
     ·obtain ⟨x, hx, rfl⟩ := List.getElem_of_mem hm
      have f := l7 x hx
      exact ⟨by have := f.1; omega, by rw [b1, b2]; exact f.2⟩
     ·refine ⟨by rw [hp.seen]; exact hlast m hm, ?_⟩
      rw [b1, b2]
      exact (fits_iff (n := k) (tk.R m hm)).2 fun q hq => kin q (tk.sp m hm q hq)
    exact hbm _ hm
 refine ⟨⟨⟨aR, bR, by rw [hp.ea]; unfold KidOf; rw [b3]; exact hk⟩, ⟨by rw [hsame, b1]; exact hsp.1, by rw [hsame, b2]; exact hsp.2⟩, fun j hj he => ?_⟩, hseen⟩
 rw [hsame] at he
 have e : a.msgs = restN p.pivots i T p.msgs := by rw [hp.ea]
 have hm : a.msgs[j] ∈ restN p.pivots i T p.msgs := by rw [← e]; exact List.getElem_mem hj
 rw [hp.seen, exl]
 exact tk.late _ hm he xl hxl
end Go.Fw
