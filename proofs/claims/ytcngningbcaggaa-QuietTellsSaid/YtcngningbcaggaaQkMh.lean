/- Where the first element stands that meets a test; deletion of elements in place. Plain Lean; nothing of the program is named here. No condition. -/
import Derived.Test.YtcngningbcaggaaQkX3
set_option linter.unusedVariables false
set_option linter.unusedSimpArgs false
set_option linter.unnecessarySimpa false

namespace Go.Fw
section
variable {α : Type} {q : α → Bool} {l m : List α}
def idxN (q : α → Bool) (l : List α) : Int := match l.findIdx? q with
 | some i => i
 | none => -1
theorem idxN_at {k : Nat} (hk : k < l.length) (h : q l[k] = true) (hj : ∀ j (h : j < l.length), j < k → q l[j] = false) : idxN q l = k := by
 have e : l.findIdx? q = some k := by
  rw [List.findIdx?_eq_some_iff_getElem]
  exact ⟨hk, h, fun j hji => by have := hj j om9 hji; simp [this]⟩
 unfold idxN; rw [e]
theorem idxN_no (h : ∀ j (h : j < l.length), q l[j] = false) : idxN q l = -1 := by
 have e : l.findIdx? q = none := by
  rw [List.findIdx?_eq_none_iff]
  intro x hx
  obtain ⟨j, hj, rfl⟩ := List.getElem_of_mem hx
  exact h j hj
 unfold idxN; rw [e]
theorem idxN_cases (q : α → Bool) (l : List α) : (idxN q l = -1 ∧ ∀ x ∈ l, q x = false) ∨ ∃ k, ∃ h : k < l.length, idxN q l = (k : Nat) ∧ q l[k] = true ∧ ∀ j (h : j < l.length), j < k → q l[j] = false := by
 cases e : l.findIdx? q with
 | none =>
  left
  refine ⟨by unfold idxN; rw [e], ?_⟩
  exact List.findIdx?_eq_none_iff.1 e
 | some k =>
  right
  obtain ⟨h1, h2, h3⟩ := List.findIdx?_eq_some_iff_getElem.1 e
  exact ⟨k, h1, by unfold idxN; rw [e], h2, fun j hj hji => by have := h3 j hji; simpa using this⟩
theorem idxN_le (q : α → Bool) (l : List α) : -1 ≤ idxN q l ∧ idxN q l < (l.length : Nat) := by
 rcases idxN_cases q l with ⟨h, _⟩ | ⟨k, h1, h2, _⟩
 ·omega
 ·omega
end
end Go.Fw

namespace Go.Fw
def effR (e : Eff) : Bool := if e.kind = 1 ∨ e.kind = 2 then decide (e.val.b.size ≤ 16) else (decide (e.kind = 0) || decide (e.kind = 3)) && decide (e.val = Str.nil)
def fitsN (l : List Pair) (k : Str) (e : Eff) (n : Int) : Bool := (getN l k).isSome || !(decide (e.kind = 1) || decide (e.kind = 2)) || decide ((l.length : Int) < n)
def rowWithN (l : List Pair) (k : Str) (e : Eff) (n : Int) : List Pair × Bool := if fitsN l k e n = true then (withN l k e, true) else ([], false)
def lfitsN (l : List Pair) (m : Msg) (n : Int) : Bool := decide (m.kind = 4) || fitsN l m.key (m.on m.key) n
def rfits20N (l : List Pair) (m : Msg) (n : Int) : Bool := decide (3 ≤ m.kind) || (getN l m.key).isSome || decide ((l.length : Int) < n)
theorem Msg.has_key {m : Msg} (h : m.R) : m.span.has m.key = true := by
 unfold Msg.R at h
 obtain ⟨h1, h2⟩ := h
 unfold Msg.span
 by_cases hk : m.kind = 4
 ·rw [if_pos hk] at h2 ⊢
  have h3 := h2.2.2
  rw [Msg.span, if_pos hk] at h3
  have := Span.empty_eq ⟨m.key, m.hi, m.opn⟩
  rw [h3] at this
  simpa using this
 ·rw [if_neg hk, point_has om9]; simp
theorem lfits_eq {l : List Pair} {m : Msg} {n : Int} (h : m.R) : lfitsN l m n = rfits20N l m n := by
 have hk := Msg.has_key h
 unfold Msg.R at h
 obtain ⟨h1, h2⟩ := h
 unfold lfitsN rfits20N fitsN Msg.on
 rw [hk]
 by_cases h4 : m.kind = 4
 ·simp [h4]
 ·rw [if_neg h4] at h2
  rcases h2.2.2 with h5 | h5 | ⟨h5, _⟩ <;> rw [h5] <;> simp
def leafTakeN (l : List Pair) (m : Msg) (n : Int) : List Pair × Bool := if lfitsN l m n = true then (takeN l m, true) else ([], false)
def drainN (n : Int) : List Pair → List Msg → List Pair × Nat
 | l, [] => (l, 0)
 | l, m :: ms => if lfitsN l m n = true then ((drainN n (takeN l m) ms).1, (drainN n (takeN l m) ms).2 + 1) else (l, 0)
theorem drain_le (n : Int) : ∀ (ms : List Msg) (l : List Pair), (drainN n l ms).2 ≤ ms.length
 | [], l => by simp [drainN]
 | m :: ms, l => by
  unfold drainN; split
  ·have := drain_le n ms (takeN l m); simp; exact this
  ·simp
theorem drain_fold (n : Int) : ∀ (ms : List Msg) (l : List Pair), (drainN n l ms).1 = foldN l (ms.take (drainN n l ms).2)
 | [], l => by simp [drainN, foldN]
 | m :: ms, l => by
  unfold drainN; split
  ·rw [drain_fold n ms (takeN l m)]; simp [foldN]
  ·simp [foldN]
theorem drain_step {n : Int} {l : List Pair} {ms : List Msg} {k : Nat} (hk : k < ms.length) (h : lfitsN (foldN l (ms.take k)) ms[k] n = true) :
  drainN n (foldN l (ms.take k)) (ms.drop k) = ((drainN n (foldN l (ms.take (k + 1))) (ms.drop (k + 1))).1, (drainN n (foldN l (ms.take (k + 1))) (ms.drop (k + 1))).2 + 1) := by
 rw [List.drop_eq_getElem_cons hk, drainN, if_pos h, foldN_succ hk]
theorem drain_stop {n : Int} {l : List Pair} {ms : List Msg} {k : Nat} (hk : k < ms.length) (h : lfitsN (foldN l (ms.take k)) ms[k] n = false) :
  drainN n (foldN l (ms.take k)) (ms.drop k) = (foldN l (ms.take k), 0) := by
 rw [List.drop_eq_getElem_cons hk, drainN, if_neg (by simp [h])]
def DrainAt (n : Int) (l : List Pair) (ms : List Msg) (k : Nat) : Prop := drainN n l ms = ((drainN n (foldN l (ms.take k)) (ms.drop k)).1, k + (drainN n (foldN l (ms.take k)) (ms.drop k)).2)
theorem DrainAt.zero (n : Int) (l : List Pair) (ms : List Msg) : DrainAt n l ms 0 := by simp [DrainAt, foldN]
theorem DrainAt.succ {n : Int} {l : List Pair} {ms : List Msg} {k : Nat} (h : DrainAt n l ms k) (hk : k < ms.length) (hf : lfitsN (foldN l (ms.take k)) ms[k] n = true) : DrainAt n l ms (k + 1) := by
 unfold DrainAt at h ⊢
 rw [h, drain_step hk hf]
 simp only [Prod.mk.injEq, true_and]; omega
theorem DrainAt.stop {n : Int} {l : List Pair} {ms : List Msg} {k : Nat} (h : DrainAt n l ms k) (hk : k < ms.length) (hf : lfitsN (foldN l (ms.take k)) ms[k] n = false) : drainN n l ms = (foldN l (ms.take k), k) := by
 unfold DrainAt at h
 rw [h, drain_stop hk hf]; rfl
theorem DrainAt.all {n : Int} {l : List Pair} {ms : List Msg} {k : Nat} (h : DrainAt n l ms k) (hk : ms.length ≤ k) : drainN n l ms = (foldN l ms, k) := by
 unfold DrainAt at h
 rw [h, List.drop_eq_nil_of_le hk, List.take_of_length_le hk]; rfl
theorem drain_len (n : Int) : ∀ (ms : List Msg) (l : List Pair), PairsR l → (∀ m ∈ ms, m.R) → (((drainN n l ms).1.length : Nat) : Int) ≤ max (l.length : Int) n
 | [], l, _, _ => by first | (simp [drainN]; done) | (simp only [drainN]; omega)
 | m :: ms, l, hP, hm => by
  unfold drainN; split
  ·rename_i hf
   have hR := hm m (by simp)
   have hR' := hR
   unfold Msg.R at hR'
   have h1 := drain_len n ms (takeN l m) (hP.takeM hR'.1.2.1 hR'.1.2.2.1) (fun m h => hm m (by simp [h]))
   have h2 : (((takeN l m).length : Nat) : Int) ≤ max (l.length : Int) n := by
    rw [lfits_eq hR] at hf
    have h3 := hP.take_len m
    unfold takeN
    split
    ·have := List.length_filter_le (fun p : Pair => !m.span.has p.key) l; clear h3; omega
    ·rename_i h4
     clear h3
     have hr := hP.srt
     have key : ∀ {e : Eff}, ((getN l m.key).isSome = true ∨ e.kind = 3) → (withN l m.key e).length ≤ l.length := fun {e} h => by
      rw [withN_mid, hr.front]
      cases hs : (getN l m.key).isSome
      ·rw [hr.back_no hs]
       rcases h with h | h
       ·rw [hs] at h; cases h
       ·have : Eff.apply e (getN l m.key) = none := by simp [Eff.apply, h]
        rw [this]
        have := fndN_le l m.key
        simp [midN] <;> omega
      ·have hh := hr.has m.key
       rw [hs] at hh
       obtain ⟨q1, q2⟩ := of_decide_eq_true hh.symm
       rw [hr.back_yes q1 q2]
       have := midN_le (Eff.apply e (getN l m.key)) m.key
       simp; omega
     unfold rfits20N at hf
     simp only [Bool.or_eq_true, decide_eq_true_eq] at hf
     have hk := Msg.has_key hR
     rcases hf with (hf | hf) | hf
     ·have hq := hR'.2
      rw [if_neg h4] at hq
      have hq3 : m.kind = 3 := by rcases hq.2.2 with h | h | h <;> omega
      have := key (e := m.on m.key) (.inr (by unfold Msg.on; rw [hk, hq3]; rfl))
      omega
     ·have := key (e := m.on m.key) (.inl hf); omega
     ·have := hr.with_len m.key (m.on m.key); omega
   have h5 : max ((takeN l m).length : Int) n ≤ max (l.length : Int) n := om9
   dsimp only; omega
  ·dsimp only; omega
theorem msgR_sizes {m : Msg} (h : m.R) : m.key.b.size ≤ 16 ∧ m.val.b.size ≤ 16 := ⟨h.1.2.1, h.1.2.2.1⟩
theorem scan_whole (l : List Pair) (s : Span) : scanN l s (l.length : Int) = l.filter fun p => s.has p.key := by
 unfold scanN
 exact List.take_of_length_le (by have := List.length_filter_le (fun p : Pair => s.has p.key) l; omega)
theorem norm_size {s : Span} {n : Nat} (h : s.lo.b.size ≤ n) : s.norm.lo.b.size ≤ n := by
 unfold Span.norm
 split
 ·show 0 ≤ n; omega
 ·split <;> exact h
def Msg.fit (m : Msg) : Prop := m.key.b.size ≤ 1000 ∧ (m.kind = 4 ∨ m.key.b.size ≤ 16) ∧ m.val.b.size ≤ 16
theorem fit_of {m : Msg} (h : m.key.b.size ≤ 16 ∧ m.val.b.size ≤ 16) : m.fit := ⟨om9, .inr h.1, h.2⟩
theorem PairsR.takeF {l : List Pair} {m : Msg} (h : PairsR l) (hf : m.fit) : PairsR (takeN l m) := by
 unfold takeN
 split
 ·exact h.filter _
 ·rename_i h4
  exact h.with (hf.2.1.resolve_left h4) (on_val _ hf.2.2)
theorem PairsR.foldF {ms : List Msg} : ∀ {l : List Pair}, PairsR l → (∀ m ∈ ms, m.fit) → PairsR (foldN l ms) := by
 induction ms with
 | nil => exact fun h _ => h
 | cons m ms ih => exact fun h hm => ih (h.takeF (hm m (by simp))) (fun m h => hm m (by simp [h]))
theorem fold_lenF {l : List Pair} {ms : List Msg} (h : PairsR l) (hm : ∀ m ∈ ms, m.fit) : (foldN l ms).length ≤ l.length + ms.length := by
 induction ms generalizing l with
 | nil => simp [foldN]
 | cons m ms ih =>
  have h1 := ih (h.takeF (hm m (by simp))) (fun m h => hm m (by simp [h]))
  have h2 := h.take_len m
  simp only [foldN, List.foldl_cons, List.length_cons] at h1 ⊢; omega
theorem clips_fit {s : Span} {ms : List Msg} (hs : s.lo.b.size ≤ 300) (hm : ∀ m ∈ ms, m.key.b.size ≤ 16 ∧ m.val.b.size ≤ 16) : ∀ m ∈ clips s ms, m.fit := by
 intro m hmm
 unfold clips at hmm
 obtain ⟨a, ha, he⟩ := List.mem_filterMap.1 hmm
 split at he
 ·cases he
  have h1 := hm a ha
  have h0 : ∀ x : Str, x = Str.nil → x.b.size ≤ 300 := fun x hx => by rw [hx]; show 0 ≤ 300; omega
  unfold Msg.clip
  split
  ·exact ⟨by show 0 ≤ 1000; omega, .inr (by show 0 ≤ 16; omega), by show 0 ≤ 16; omega⟩
  ·split
   ·rename_i h4
    refine ⟨?_, .inl h4, h1.2⟩
    show (a.span.meet s).lo.b.size ≤ 1000
    have hl : (if a.span.lo.lt s.lo = true then s.lo else a.span.lo).b.size ≤ 300 := by
     split
     ·exact hs
     ·rw [Msg.span, if_pos h4]; show a.key.b.size ≤ 300; omega
    unfold Span.meet
    exact Nat.le_trans (norm_size hl) om9
   ·exact fit_of h1
 ·cases he
theorem meet_has (a b : Span) (k : Str) : (a.meet b).has k = (a.has k && b.has k) := by
 unfold Span.meet
 rw [norm_has]
 rw [Bool.eq_iff_iff]
 simp only [Span.has, Bool.and_eq_true, Bool.not_eq_true', Bool.or_eq_true]
 have hlo : (k.lt (if a.lo.lt b.lo = true then b.lo else a.lo) = false) ↔ (k.lt a.lo = false ∧ k.lt b.lo = false) := by
  by_cases h : a.lo.lt b.lo = true
  ·rw [if_pos h]
   refine ⟨fun h1 => ⟨?_, h1⟩, fun h1 => h1.2⟩
   cases h2 : k.lt a.lo
   ·rfl
   ·rw [Str.lt_trans h2 h] at h1; cases h1
  ·rw [if_neg h]
   refine ⟨fun h1 => ⟨h1, ?_⟩, fun h1 => h1.1⟩
   cases h2 : k.lt b.lo
   ·rfl
   ·rw [Str.lt_of_lt_of_le h2 (by simpa using h)] at h1; cases h1
 rw [hlo]
 cases ha : a.opn <;> cases hb : b.opn <;> simp
 ·by_cases h : b.hi.lt a.hi = true
  ·rw [if_pos h]
   grind [Str.lt_trans]
  ·rw [if_neg h]
   have h : b.hi.lt a.hi = false := by simpa using h
   have : ∀ {x : Str}, x.lt a.hi = true → x.lt b.hi = true := fun hx => Str.lt_of_lt_of_le hx h
   grind
 all_goals grind
theorem clips_cons (s : Span) (m : Msg) (ms : List Msg) : clips s (m :: ms) = if (m.clip s).2 = true then (m.clip s).1 :: clips s ms else clips s ms := by
 unfold clips; rw [List.filterMap_cons]; split <;> simp_all
theorem take_clip {l : List Pair} {m : Msg} {s : Span} (hr : Srt l) (hk : m.key.b.size < 140737488355328) : (if (m.clip s).2 = true then takeN (l.filter fun p => s.has p.key) (m.clip s).1 else l.filter fun p => s.has p.key) = (takeN l m).filter fun p => s.has p.key := by
 have hmh := fun k => meet_has m.span s k
 cases he : (m.span.meet s).empty
 ·by_cases h4 : m.kind = 4
  ·rw [clip_4 he h4, if_pos rfl]
   unfold takeN
   rw [if_pos h4, if_pos h4, List.filter_filter, List.filter_filter]
   congr 1
   funext p
   have e1 : Msg.span { m with key := (m.span.meet s).lo, hi := (m.span.meet s).hi, opn := (m.span.meet s).opn } = m.span.meet s := by rw [Msg.span, if_pos h4]
   rw [e1, hmh]
   cases s.has p.key <;> simp
  ·rw [clip_n he h4, if_pos rfl]
   unfold takeN
   rw [if_neg h4, if_neg h4]
   have hsp : ∀ x, m.span.has x = decide (x = m.key) := fun x => by rw [Msg.span, if_neg h4]; exact point_has hk
   have hin : s.has m.key = true := by
    have := Span.empty_eq (m.span.meet s)
    rw [he, hmh, hsp] at this
    simp only [Bool.not_eq_false', Bool.and_eq_true, decide_eq_true_eq] at this
    rw [← this.1]; exact this.2
   rw [withN_mid, withN_mid, getN_filter (fun k => s.has k), if_pos hin, List.filter_append, List.filter_append, List.filter_filter, List.filter_filter, List.filter_filter, List.filter_filter]
   congr 1
   ·congr 1
    ·congr 1; funext p; exact Bool.and_comm _ _
    ·cases Eff.apply (m.on m.key) (getN l m.key) <;> simp [midN, hin]
   ·congr 1; funext p; exact Bool.and_comm _ _
 ·rw [clip_e he]
  simp only [Bool.false_eq_true, if_false]
  have hno : ∀ k, m.span.has k = true → s.has k = false := fun k h1 => by
   have h2 := hmh k
   have h3 : (m.span.meet s).has k = false := by
    cases h : (m.span.meet s).has k
    ·rfl
    ·simp only [Span.empty, Bool.and_eq_true, Bool.not_eq_true'] at he
     simp only [Span.has, he.1, Bool.false_or, Bool.and_eq_true, Bool.not_eq_true'] at h
     rw [Str.lt_of_le_of_lt h.1 h.2] at he; cases he.2
   rw [h3, h1] at h2; simpa using h2.symm
  unfold takeN
  by_cases h4 : m.kind = 4
  ·rw [if_pos h4, List.filter_filter]
   refine List.filter_congr fun p _ => ?_
   cases h : m.span.has p.key
   ·simp
   ·rw [hno _ h]; rfl
  ·rw [if_neg h4]
   have hsp : ∀ x, m.span.has x = decide (x = m.key) := fun x => by rw [Msg.span, if_neg h4]; exact point_has hk
   have hout : s.has m.key = false := hno _ (by rw [hsp]; simp)
   rw [withN_mid, List.filter_append, List.filter_append]
   have e2 : (midN (Eff.apply (m.on m.key) (getN l m.key)) m.key).filter (fun p => s.has p.key) = [] := by
    cases Eff.apply (m.on m.key) (getN l m.key) <;> simp [midN, hout]
   rw [e2, List.append_nil, hr.front]
   cases hs : (getN l m.key).isSome
   ·rw [hr.back_no hs, ← List.filter_append, List.take_append_drop]
   ·have hh := hr.has m.key
    rw [hs] at hh
    obtain ⟨q1, q2⟩ := of_decide_eq_true hh.symm
    rw [hr.back_yes q1 q2]
    have e3 : l = l.take (fndN l m.key) ++ l[fndN l m.key] :: l.drop (fndN l m.key + 1) := by rw [← List.drop_eq_getElem_cons q1, List.take_append_drop]
    conv => lhs; rw [e3]
    rw [List.filter_append, List.filter_cons_of_neg (by rw [q2, hout]; simp)]
theorem view_fold {s : Span} : ∀ {ms : List Msg} {l : List Pair}, Srt l → (∀ m ∈ ms, m.key.b.size < 140737488355328) → foldN (l.filter fun p => s.has p.key) (clips s ms) = (foldN l ms).filter fun p => s.has p.key
 | [], l, _, _ => by simp [clips, foldN]
 | m :: ms, l, hr, hm => by
  have h1 := take_clip (s := s) hr (hm m (by simp))
  have hrt : Srt (takeN l m) := by
   unfold takeN; split
   ·exact hr.filter _
   ·exact hr.with _ _
  have h2 := view_fold (s := s) (ms := ms) hrt (fun m h => hm m (List.mem_cons_of_mem _ h))
  rw [clips_cons]
  show _ = (foldN (takeN l m) ms).filter _
  rw [← h2]
  split
  ·rename_i hc
   rw [if_pos hc] at h1
   rw [← h1]; rfl
  ·rename_i hc
   rw [if_neg hc] at h1
   rw [← h1]
end Go.Fw
