/- What rows, leaves and merges compute, as plain functions, and their laws. Plain Lean; nothing of the program is named here. No condition. -/
import Derived.Test.YtcngningbcaggaaQgMh
set_option linter.unusedVariables false
set_option linter.unusedSimpArgs false
set_option linter.unnecessarySimpa false

namespace Go.Fw
theorem isSome_getD {α : Type} {o : Option α} {d : α} (h : o.isSome = true) : o = some (o.getD d) := by cases o <;> simp_all
def effR (e : Eff) : Bool := if e.kind = 1 ∨ e.kind = 2 then decide (e.val.b.size ≤ 16) else (decide (e.kind = 0) || decide (e.kind = 3)) && decide (e.val = Str.nil)
def fitsN (l : List Pair) (k : Str) (e : Eff) (n : Int) : Bool := (getN l k).isSome || !(decide (e.kind = 1) || decide (e.kind = 2)) || decide ((l.length : Int) < n)
def rowWithN (l : List Pair) (k : Str) (e : Eff) (n : Int) : List Pair × Bool := if fitsN l k e n = true then (withN l k e, true) else ([], false)
def lfitsN (l : List Pair) (m : Msg) (n : Int) : Bool := decide (m.kind = 4) || fitsN l m.key (m.on m.key) n
def rfits20N (l : List Pair) (m : Msg) (n : Int) : Bool := decide (3 ≤ m.kind) || (getN l m.key).isSome || decide ((l.length : Int) < n)
def leafTakeN (l : List Pair) (m : Msg) (n : Int) : List Pair × Bool := if lfitsN l m n = true then (takeN l m, true) else ([], false)
def drainN (n : Int) : List Pair → List Msg → List Pair × Nat
 | l, [] => (l, 0)
 | l, m :: ms => if lfitsN l m n = true then ((drainN n (takeN l m) ms).1, (drainN n (takeN l m) ms).2 + 1) else (l, 0)
theorem drain_step {n : Int} {l : List Pair} {ms : List Msg} {k : Nat} (hk : k < ms.length) (h : lfitsN (foldN l (ms.take k)) ms[k] n = true) :
  drainN n (foldN l (ms.take k)) (ms.drop k) = ((drainN n (foldN l (ms.take (k + 1))) (ms.drop (k + 1))).1, (drainN n (foldN l (ms.take (k + 1))) (ms.drop (k + 1))).2 + 1) := by
 rw [List.drop_eq_getElem_cons hk, drainN, if_pos h, foldN_succ hk]
theorem drain_stop {n : Int} {l : List Pair} {ms : List Msg} {k : Nat} (hk : k < ms.length) (h : lfitsN (foldN l (ms.take k)) ms[k] n = false) :
  drainN n (foldN l (ms.take k)) (ms.drop k) = (foldN l (ms.take k), 0) := by
 rw [List.drop_eq_getElem_cons hk, drainN, if_neg (by simp [h])]
def DrainAt (n : Int) (l : List Pair) (ms : List Msg) (k : Nat) : Prop := drainN n l ms = ((drainN n (foldN l (ms.take k)) (ms.drop k)).1, k + (drainN n (foldN l (ms.take k)) (ms.drop k)).2)
theorem DrainAt.zero (n : Int) (l : List Pair) (ms : List Msg) : DrainAt n l ms 0 := by simp [DrainAt, foldN]
theorem DrainAt.succ {n : Int} {l : List Pair} {ms : List Msg} {k : Nat} (h : DrainAt n l ms k) (hk : k < ms.length) (hf : lfitsN (foldN l (ms.take k)) ms[k] n = true) : DrainAt n l ms (k + 1) := by
 unfold DrainAt at h ⊢
 rw [h, drain_step hk hf]
 simp only [Prod.mk.injEq, true_and]; omega
theorem DrainAt.stop {n : Int} {l : List Pair} {ms : List Msg} {k : Nat} (h : DrainAt n l ms k) (hk : k < ms.length) (hf : lfitsN (foldN l (ms.take k)) ms[k] n = false) : drainN n l ms = (foldN l (ms.take k), k) := by
 unfold DrainAt at h
 rw [h, drain_stop hk hf]; rfl
theorem DrainAt.all {n : Int} {l : List Pair} {ms : List Msg} {k : Nat} (h : DrainAt n l ms k) (hk : ms.length ≤ k) : drainN n l ms = (foldN l ms, k) := by
 unfold DrainAt at h
 rw [h, List.drop_eq_nil_of_le hk, List.take_of_length_le hk]; rfl
def Msg.fit (m : Msg) : Prop := m.key.b.size ≤ 1000 ∧ (m.kind = 4 ∨ m.key.b.size ≤ 16) ∧ m.val.b.size ≤ 16
theorem meet_has (a b : Span) (k : Str) : (a.meet b).has k = (a.has k && b.has k) := by
 unfold Span.meet
 rw [norm_has]
 rw [Bool.eq_iff_iff]
 simp only [Span.has, Bool.and_eq_true, Bool.not_eq_true', Bool.or_eq_true]
 have hlo : (k.lt (if a.lo.lt b.lo = true then b.lo else a.lo) = false) ↔ (k.lt a.lo = false ∧ k.lt b.lo = false) := by
  by_cases h : a.lo.lt b.lo = true
  ·rw [if_pos h]
   refine ⟨fun h1 => ⟨?_, h1⟩, fun h1 => h1.2⟩
   cases h2 : k.lt a.lo
   ·rfl
   ·rw [Str.lt_trans h2 h] at h1; cases h1
  ·rw [if_neg h]
   refine ⟨fun h1 => ⟨h1, ?_⟩, fun h1 => h1.1⟩
   cases h2 : k.lt b.lo
   ·rfl
   ·rw [Str.lt_of_lt_of_le h2 (by simpa using h)] at h1; cases h1
 rw [hlo]
 cases ha : a.opn <;> cases hb : b.opn <;> simp
 ·by_cases h : b.hi.lt a.hi = true
  ·rw [if_pos h]
   grind [Str.lt_trans]
  ·rw [if_neg h]
   have h : b.hi.lt a.hi = false := by simpa using h
   have : ∀ {x : Str}, x.lt a.hi = true → x.lt b.hi = true := fun hx => Str.lt_of_lt_of_le hx h
   grind
 all_goals grind
theorem clips_cons (s : Span) (m : Msg) (ms : List Msg) : clips s (m :: ms) = if (m.clip s).2 = true then (m.clip s).1 :: clips s ms else clips s ms := by
 unfold clips; rw [List.filterMap_cons]; split <;> simp_all
theorem take_clip {l : List Pair} {m : Msg} {s : Span} (hr : Srt l) (hk : m.key.b.size < 140737488355328) : (if (m.clip s).2 = true then takeN (l.filter fun p => s.has p.key) (m.clip s).1 else l.filter fun p => s.has p.key) = (takeN l m).filter fun p => s.has p.key := by
 have hmh := fun k => meet_has m.span s k
 cases he : (m.span.meet s).empty
 ·by_cases h4 : m.kind = 4
  ·rw [clip_4 he h4, if_pos rfl]
   unfold takeN
   rw [if_pos h4, if_pos h4, List.filter_filter, List.filter_filter]
   congr 1
   funext p
   have e1 : Msg.span { m with key := (m.span.meet s).lo, hi := (m.span.meet s).hi, opn := (m.span.meet s).opn } = m.span.meet s := by rw [Msg.span, if_pos h4]
   rw [e1, hmh]
   cases s.has p.key <;> simp
  ·rw [clip_n he h4, if_pos rfl]
   unfold takeN
   rw [if_neg h4, if_neg h4]
   have hsp : ∀ x, m.span.has x = decide (x = m.key) := fun x => by rw [Msg.span, if_neg h4]; exact point_has hk
   have hin : s.has m.key = true := by
    have := Span.empty_eq (m.span.meet s)
    rw [he, hmh, hsp] at this
    simp only [Bool.not_eq_false', Bool.and_eq_true, decide_eq_true_eq] at this
    rw [← this.1]; exact this.2
   rw [withN_mid, withN_mid, getN_filter (fun k => s.has k), if_pos hin, List.filter_append, List.filter_append, List.filter_filter, List.filter_filter, List.filter_filter, List.filter_filter]
   congr 1
   ·congr 1
    ·congr 1; funext p; exact Bool.and_comm _ _
    ·cases Eff.apply (m.on m.key) (getN l m.key) <;> simp [midN, hin]
   ·congr 1; funext p; exact Bool.and_comm _ _
 ·rw [clip_e he]
  simp only [Bool.false_eq_true, if_false]
  have hno : ∀ k, m.span.has k = true → s.has k = false := fun k h1 => by
   have h2 := hmh k
   have h3 : (m.span.meet s).has k = false := by
    cases h : (m.span.meet s).has k
    ·rfl
    ·simp only [Span.empty, Bool.and_eq_true, Bool.not_eq_true'] at he
     simp only [Span.has, he.1, Bool.false_or, Bool.and_eq_true, Bool.not_eq_true'] at h
     rw [Str.lt_of_le_of_lt h.1 h.2] at he; cases he.2
   rw [h3, h1] at h2; simpa using h2.symm
  unfold takeN
  by_cases h4 : m.kind = 4
  ·rw [if_pos h4, List.filter_filter]
   refine List.filter_congr fun p _ => ?_
   cases h : m.span.has p.key
   ·simp
   ·rw [hno _ h]; rfl
  ·rw [if_neg h4]
   have hsp : ∀ x, m.span.has x = decide (x = m.key) := fun x => by rw [Msg.span, if_neg h4]; exact point_has hk
   have hout : s.has m.key = false := hno _ (by rw [hsp]; simp)
   rw [withN_mid, List.filter_append, List.filter_append]
   have e2 : (midN (Eff.apply (m.on m.key) (getN l m.key)) m.key).filter (fun p => s.has p.key) = [] := by
    cases Eff.apply (m.on m.key) (getN l m.key) <;> simp [midN, hout]
   rw [e2, List.append_nil, hr.front]
   cases hs : (getN l m.key).isSome
   ·rw [hr.back_no hs, ← List.filter_append, List.take_append_drop]
   ·have hh := hr.has m.key
    rw [hs] at hh
    obtain ⟨q1, q2⟩ := of_decide_eq_true hh.symm
    rw [hr.back_yes q1 q2]
    have e3 : l = l.take (fndN l m.key) ++ l[fndN l m.key] :: l.drop (fndN l m.key + 1) := by rw [← List.drop_eq_getElem_cons q1, List.take_append_drop]
    conv => lhs; rw [e3]
    rw [List.filter_append, List.filter_cons_of_neg (by rw [q2, hout]; simp)]
theorem view_fold {s : Span} : ∀ {ms : List Msg} {l : List Pair}, Srt l → (∀ m ∈ ms, m.key.b.size < 140737488355328) → foldN (l.filter fun p => s.has p.key) (clips s ms) = (foldN l ms).filter fun p => s.has p.key
 | [], l, _, _ => by simp [clips, foldN]
 | m :: ms, l, hr, hm => by
  have h1 := take_clip (s := s) hr (hm m (by simp))
  have hrt : Srt (takeN l m) := by
   unfold takeN; split
   ·exact hr.filter _
   ·exact hr.with _ _
  have h2 := view_fold (s := s) (ms := ms) hrt (fun m h => hm m (List.mem_cons_of_mem _ h))
  rw [clips_cons]
  show _ = (foldN (takeN l m) ms).filter _
  rw [← h2]
  split
  ·rename_i hc
   rw [if_pos hc] at h1
   rw [← h1]; rfl
  ·rename_i hc
   rw [if_neg hc] at h1
   rw [← h1]
end Go.Fw
