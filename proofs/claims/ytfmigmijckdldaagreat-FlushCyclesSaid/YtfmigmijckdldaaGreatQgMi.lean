/- What rows, leaves and merges compute, as plain functions, and their laws. Plain Lean; nothing of the program is named here. No condition. -/
import Derived.Test.YtfmigmijckdldaaGreatQgW1
set_option linter.unusedVariables false
set_option linter.unusedSimpArgs false
set_option linter.unnecessarySimpa false
set_option maxRecDepth 100000
set_option maxHeartbeats 1600000

namespace Go.Fw
theorem isSome_getD {α : Type} {o : Option α} {d : α} (h : o.isSome = true) : o = some (o.getD d) := by cases o <;> simp_all
def fitsN (l : List Pair) (k : Str) (e : Eff) (n : Int) : Bool := (getN l k).isSome || !(decide (e.kind = 1) || decide (e.kind = 2)) || decide ((l.length : Int) < n)
def lfitsN (l : List Pair) (m : Msg) (n : Int) : Bool := decide (m.kind = 4) || fitsN l m.key (m.on m.key) n
def rfits20N (l : List Pair) (m : Msg) (n : Int) : Bool := decide (3 ≤ m.kind) || (getN l m.key).isSome || decide ((l.length : Int) < n)
theorem Msg.has_key {m : Msg} (h : m.R) : m.span.has m.key = true := by
 unfold Msg.R at h
 obtain ⟨h1, h2⟩ := h
 unfold Msg.span
 by_cases hk : m.kind = 4
 ·rw [if_pos hk] at h2 ⊢
  have h3 := h2.2.2
  rw [Msg.span, if_pos hk] at h3
  have := Span.empty_eq ⟨m.key, m.hi, m.opn⟩
  rw [h3] at this
  simpa using this
 ·rw [if_neg hk, point_has om9]; simp
theorem lfits_eq {l : List Pair} {m : Msg} {n : Int} (h : m.R) : lfitsN l m n = rfits20N l m n := by
 have hk := Msg.has_key h
 unfold Msg.R at h
 obtain ⟨h1, h2⟩ := h
 unfold lfitsN rfits20N fitsN Msg.on
 rw [hk]
 by_cases h4 : m.kind = 4
 ·simp [h4]
 ·rw [if_neg h4] at h2
  rcases h2.2.2 with h5 | h5 | ⟨h5, _⟩ <;> rw [h5] <;> simp
def leafTakeN (l : List Pair) (m : Msg) (n : Int) : List Pair × Bool := if lfitsN l m n = true then (takeN l m, true) else ([], false)
theorem leafTakeN_t {l : List Pair} {m : Msg} {n : Int} (h : lfitsN l m n = true) : leafTakeN l m n = (takeN l m, true) := if_pos h
theorem leafTakeN_f {l : List Pair} {m : Msg} {n : Int} (h : lfitsN l m n = false) : leafTakeN l m n = ([], false) := if_neg (by simp [h])
def drainN (n : Int) : List Pair → List Msg → List Pair × Nat
 | l, [] => (l, 0)
 | l, m :: ms => if lfitsN l m n = true then ((drainN n (takeN l m) ms).1, (drainN n (takeN l m) ms).2 + 1) else (l, 0)
theorem drain_le (n : Int) : ∀ (ms : List Msg) (l : List Pair), (drainN n l ms).2 ≤ ms.length
 | [], l => by simp [drainN]
 | m :: ms, l => by
  unfold drainN; split
  ·have := drain_le n ms (takeN l m); simp; exact this
  ·simp
theorem drain_fold (n : Int) : ∀ (ms : List Msg) (l : List Pair), (drainN n l ms).1 = foldN l (ms.take (drainN n l ms).2)
 | [], l => by simp [drainN, foldN]
 | m :: ms, l => by
  unfold drainN; split
  ·rw [drain_fold n ms (takeN l m)]; simp [foldN]
  ·simp [foldN]
theorem drain_step {n : Int} {l : List Pair} {ms : List Msg} {k : Nat} (hk : k < ms.length) (h : lfitsN (foldN l (ms.take k)) ms[k] n = true) :
  drainN n (foldN l (ms.take k)) (ms.drop k) = ((drainN n (foldN l (ms.take (k + 1))) (ms.drop (k + 1))).1, (drainN n (foldN l (ms.take (k + 1))) (ms.drop (k + 1))).2 + 1) := by
 rw [List.drop_eq_getElem_cons hk, drainN, if_pos h, foldN_succ hk]
theorem drain_stop {n : Int} {l : List Pair} {ms : List Msg} {k : Nat} (hk : k < ms.length) (h : lfitsN (foldN l (ms.take k)) ms[k] n = false) :
  drainN n (foldN l (ms.take k)) (ms.drop k) = (foldN l (ms.take k), 0) := by
 rw [List.drop_eq_getElem_cons hk, drainN, if_neg (by simp [h])]
def DrainAt (n : Int) (l : List Pair) (ms : List Msg) (k : Nat) : Prop := drainN n l ms = ((drainN n (foldN l (ms.take k)) (ms.drop k)).1, k + (drainN n (foldN l (ms.take k)) (ms.drop k)).2)
theorem DrainAt.zero (n : Int) (l : List Pair) (ms : List Msg) : DrainAt n l ms 0 := by simp [DrainAt, foldN]
theorem DrainAt.succ {n : Int} {l : List Pair} {ms : List Msg} {k : Nat} (h : DrainAt n l ms k) (hk : k < ms.length) (hf : lfitsN (foldN l (ms.take k)) ms[k] n = true) : DrainAt n l ms (k + 1) := by
 unfold DrainAt at h ⊢
 rw [h, drain_step hk hf]
 simp only [Prod.mk.injEq, true_and]; omega
theorem DrainAt.stop {n : Int} {l : List Pair} {ms : List Msg} {k : Nat} (h : DrainAt n l ms k) (hk : k < ms.length) (hf : lfitsN (foldN l (ms.take k)) ms[k] n = false) : drainN n l ms = (foldN l (ms.take k), k) := by
 unfold DrainAt at h
 rw [h, drain_stop hk hf]; rfl
theorem DrainAt.all {n : Int} {l : List Pair} {ms : List Msg} {k : Nat} (h : DrainAt n l ms k) (hk : ms.length ≤ k) : drainN n l ms = (foldN l ms, k) := by
 unfold DrainAt at h
 rw [h, List.drop_eq_nil_of_le hk, List.take_of_length_le hk]; rfl
theorem drain_len (n : Int) : ∀ (ms : List Msg) (l : List Pair), PairsR l → (∀ m ∈ ms, m.R) → (((drainN n l ms).1.length : Nat) : Int) ≤ max (l.length : Int) n
 | [], l, _, _ => by first | (simp [drainN]; done) | (simp only [drainN]; omega)
 | m :: ms, l, hP, hm => by
  unfold drainN; split
  ·rename_i hf
   have hR := hm m (by simp)
   have hR' := hR
   unfold Msg.R at hR'
   have h1 := drain_len n ms (takeN l m) (hP.takeM hR'.1.2.1 hR'.1.2.2.1) (fun m h => hm m (by simp [h]))
   have h2 : (((takeN l m).length : Nat) : Int) ≤ max (l.length : Int) n := by
    rw [lfits_eq hR] at hf
    have h3 := hP.take_len m
    unfold takeN
    split
    ·have := List.length_filter_le (fun p : Pair => !m.span.has p.key) l; clear h3; omega
    ·rename_i h4
     clear h3
     have hr := hP.srt
     have key : ∀ {e : Eff}, ((getN l m.key).isSome = true ∨ e.kind = 3) → (withN l m.key e).length ≤ l.length := fun {e} h => by
      rw [withN_mid, hr.front]
      cases hs : (getN l m.key).isSome
      ·rw [hr.back_no hs]
       rcases h with h | h
       ·rw [hs] at h; cases h
       ·have : Eff.apply e (getN l m.key) = none := by simp [Eff.apply, h]
        rw [this]
        have := fndN_le l m.key
        simp [midN] <;> omega
      ·have hh := hr.has m.key
       rw [hs] at hh
       obtain ⟨q1, q2⟩ := of_decide_eq_true hh.symm
       rw [hr.back_yes q1 q2]
       have := midN_le (Eff.apply e (getN l m.key)) m.key
       simp; omega
     unfold rfits20N at hf
     simp only [Bool.or_eq_true, decide_eq_true_eq] at hf
     have hk := Msg.has_key hR
     rcases hf with (hf | hf) | hf
     ·have hq := hR'.2
      rw [if_neg h4] at hq
      have hq3 : m.kind = 3 := by rcases hq.2.2 with h | h | h <;> omega
      have := key (e := m.on m.key) (.inr (by unfold Msg.on; rw [hk, hq3]; rfl))
      omega
     ·have := key (e := m.on m.key) (.inl hf); omega
     ·have := hr.with_len m.key (m.on m.key); omega
   have h5 : max ((takeN l m).length : Int) n ≤ max (l.length : Int) n := om9
   dsimp only; omega
  ·dsimp only; omega
theorem msgR_sizes {m : Msg} (h : m.R) : m.key.b.size ≤ 16 ∧ m.val.b.size ≤ 16 := ⟨h.1.2.1, h.1.2.2.1⟩
def Msg.fit (m : Msg) : Prop := m.key.b.size ≤ 1000 ∧ (m.kind = 4 ∨ m.key.b.size ≤ 16) ∧ m.val.b.size ≤ 16
theorem fit_of {m : Msg} (h : m.key.b.size ≤ 16 ∧ m.val.b.size ≤ 16) : m.fit := ⟨om9, .inr h.1, h.2⟩
theorem PairsR.takeF {l : List Pair} {m : Msg} (h : PairsR l) (hf : m.fit) : PairsR (takeN l m) := by
 unfold takeN
 split
 ·exact h.filter _
 ·rename_i h4
  exact h.with (hf.2.1.resolve_left h4) (on_val _ hf.2.2)
theorem PairsR.foldF {ms : List Msg} : ∀ {l : List Pair}, PairsR l → (∀ m ∈ ms, m.fit) → PairsR (foldN l ms) := by
 induction ms with
 | nil => exact fun h _ => h
 | cons m ms ih => exact fun h hm => ih (h.takeF (hm m (by simp))) (fun m h => hm m (by simp [h]))
theorem fold_lenF {l : List Pair} {ms : List Msg} (h : PairsR l) (hm : ∀ m ∈ ms, m.fit) : (foldN l ms).length ≤ l.length + ms.length := by
 induction ms generalizing l with
 | nil => simp [foldN]
 | cons m ms ih =>
  have h1 := ih (h.takeF (hm m (by simp))) (fun m h => hm m (by simp [h]))
  have h2 := h.take_len m
  simp only [foldN, List.foldl_cons, List.length_cons] at h1 ⊢; omega
theorem meet_has (a b : Span) (k : Str) : (a.meet b).has k = (a.has k && b.has k) := by
 unfold Span.meet
 rw [norm_has]
 rw [Bool.eq_iff_iff]
 simp only [Span.has, Bool.and_eq_true, Bool.not_eq_true', Bool.or_eq_true]
 have hlo : (k.lt (if a.lo.lt b.lo = true then b.lo else a.lo) = false) ↔ (k.lt a.lo = false ∧ k.lt b.lo = false) := by
  by_cases h : a.lo.lt b.lo = true
  ·rw [if_pos h]
   refine ⟨fun h1 => ⟨?_, h1⟩, fun h1 => h1.2⟩
   cases h2 : k.lt a.lo
   ·rfl
   ·rw [Str.lt_trans h2 h] at h1; cases h1
  ·rw [if_neg h]
   refine ⟨fun h1 => ⟨h1, ?_⟩, fun h1 => h1.1⟩
   cases h2 : k.lt b.lo
   ·rfl
   ·rw [Str.lt_of_lt_of_le h2 (by simpa using h)] at h1; cases h1
 rw [hlo]
 cases ha : a.opn <;> cases hb : b.opn <;> simp
 ·by_cases h : b.hi.lt a.hi = true
  ·rw [if_pos h]
   grind [Str.lt_trans]
  ·rw [if_neg h]
   have h : b.hi.lt a.hi = false := by simpa using h
   have : ∀ {x : Str}, x.lt a.hi = true → x.lt b.hi = true := fun hx => Str.lt_of_lt_of_le hx h
   grind
 all_goals grind
theorem clips_cons (s : Span) (m : Msg) (ms : List Msg) : clips s (m :: ms) = if (m.clip s).2 = true then (m.clip s).1 :: clips s ms else clips s ms := by
 unfold clips; rw [List.filterMap_cons]; split <;> simp_all
theorem take_clip {l : List Pair} {m : Msg} {s : Span} (hr : Srt l) (hk : m.key.b.size < 140737488355328) : (if (m.clip s).2 = true then takeN (l.filter fun p => s.has p.key) (m.clip s).1 else l.filter fun p => s.has p.key) = (takeN l m).filter fun p => s.has p.key := by
 have hmh := fun k => meet_has m.span s k
 cases he : (m.span.meet s).empty
 ·by_cases h4 : m.kind = 4
  ·rw [clip_4 he h4, if_pos rfl]
   unfold takeN
   rw [if_pos h4, if_pos h4, List.filter_filter, List.filter_filter]
   congr 1
   funext p
   have e1 : Msg.span { m with key := (m.span.meet s).lo, hi := (m.span.meet s).hi, opn := (m.span.meet s).opn } = m.span.meet s := by rw [Msg.span, if_pos h4]
   rw [e1, hmh]
   cases s.has p.key <;> simp
  ·rw [clip_n he h4, if_pos rfl]
   unfold takeN
   rw [if_neg h4, if_neg h4]
   have hsp : ∀ x, m.span.has x = decide (x = m.key) := fun x => by rw [Msg.span, if_neg h4]; exact point_has hk
   have hin : s.has m.key = true := by
    have := Span.empty_eq (m.span.meet s)
    rw [he, hmh, hsp] at this
    simp only [Bool.not_eq_false', Bool.and_eq_true, decide_eq_true_eq] at this
    rw [← this.1]; exact this.2
   rw [withN_mid, withN_mid, getN_filter (fun k => s.has k), if_pos hin, List.filter_append, List.filter_append, List.filter_filter, List.filter_filter, List.filter_filter, List.filter_filter]
   congr 1
   ·congr 1
    ·congr 1; funext p; exact Bool.and_comm _ _
    ·cases Eff.apply (m.on m.key) (getN l m.key) <;> simp [midN, hin]
   ·congr 1; funext p; exact Bool.and_comm _ _
 ·rw [clip_e he]
  simp only [Bool.false_eq_true, if_false]
  have hno : ∀ k, m.span.has k = true → s.has k = false := fun k h1 => by
   have h2 := hmh k
   have h3 : (m.span.meet s).has k = false := by
    cases h : (m.span.meet s).has k
    ·rfl
    ·simp only [Span.empty, Bool.and_eq_true, Bool.not_eq_true'] at he
     simp only [Span.has, he.1, Bool.false_or, Bool.and_eq_true, Bool.not_eq_true'] at h
     rw [Str.lt_of_le_of_lt h.1 h.2] at he; cases he.2
   rw [h3, h1] at h2; simpa using h2.symm
  unfold takeN
  by_cases h4 : m.kind = 4
  ·rw [if_pos h4, List.filter_filter]
   refine List.filter_congr fun p _ => ?_
   cases h : m.span.has p.key
   ·simp
   ·rw [hno _ h]; rfl
  ·rw [if_neg h4]
   have hsp : ∀ x, m.span.has x = decide (x = m.key) := fun x => by rw [Msg.span, if_neg h4]; exact point_has hk
   have hout : s.has m.key = false := hno _ (by rw [hsp]; simp)
   rw [withN_mid, List.filter_append, List.filter_append]
   have e2 : (midN (Eff.apply (m.on m.key) (getN l m.key)) m.key).filter (fun p => s.has p.key) = [] := by
    cases Eff.apply (m.on m.key) (getN l m.key) <;> simp [midN, hout]
   rw [e2, List.append_nil, hr.front]
   cases hs : (getN l m.key).isSome
   ·rw [hr.back_no hs, ← List.filter_append, List.take_append_drop]
   ·have hh := hr.has m.key
    rw [hs] at hh
    obtain ⟨q1, q2⟩ := of_decide_eq_true hh.symm
    rw [hr.back_yes q1 q2]
    have e3 : l = l.take (fndN l m.key) ++ l[fndN l m.key] :: l.drop (fndN l m.key + 1) := by rw [← List.drop_eq_getElem_cons q1, List.take_append_drop]
    conv => lhs; rw [e3]
    rw [List.filter_append, List.filter_cons_of_neg (by rw [q2, hout]; simp)]
theorem view_fold {s : Span} : ∀ {ms : List Msg} {l : List Pair}, Srt l → (∀ m ∈ ms, m.key.b.size < 140737488355328) → foldN (l.filter fun p => s.has p.key) (clips s ms) = (foldN l ms).filter fun p => s.has p.key
 | [], l, _, _ => by simp [clips, foldN]
 | m :: ms, l, hr, hm => by
  have h1 := take_clip (s := s) hr (hm m (by simp))
  have hrt : Srt (takeN l m) := by
   unfold takeN; split
   ·exact hr.filter _
   ·exact hr.with _ _
  have h2 := view_fold (s := s) (ms := ms) hrt (fun m h => hm m (List.mem_cons_of_mem _ h))
  rw [clips_cons]
  show _ = (foldN (takeN l m) ms).filter _
  rw [← h2]
  split
  ·rename_i hc
   rw [if_pos hc] at h1
   rw [← h1]; rfl
  ·rename_i hc
   rw [if_neg hc] at h1
   rw [← h1]
end Go.Fw
namespace Go.Proofs.YtfmigmijckdldaaGreat
open Go Go.Fw Go.RowKit
attribute [local irreducible] Ok W WC
theorem clonepo_fc {G : GH} {v_a : Value} {a : List Pair} (h_a : SlR ePair G v_a a) :
    Fc Tryz.prog 100 [v_a] G [] (fun v G' M' => OwnR ePair 92 G' v (a) M') := by
 obtain ⟨sa_a, sc_a, rfl⟩ := h_a.form
 have ha := h_a.bytes
 refine Fc.go [.tmp 2] Tryz.func100 Tryz.ntmps100 rfl (fun w0 => (g9 9 ?_))
 refine W.ok (ok_eqlNil sl42 rfl rfl) (g9 2 ?_)
 refine WC.cond rfl (fun h4 => ?_) (fun h4 => ?_)
 ·have hn := SlR.isNone h_a h4
  subst hn
  refine g9 8 ?_
  exact OwnR.nil
 refine g9 4 ?_
 refine W.lit0 (e := ePair) sl42 ty92 zr92 rfl (fun v1 Ms2 ho3 => (W.mv (W.app (e := ePair) sl42 ty92 zr92 rfl by92 rfl rfl (ho3) (h_a) pr9 (by simpa using ha) (fun v4 Ms5 ho6 => (g9 4 ?_)))))
 refine ⟨.inr rfl, [_], ⟨rfl, trivial⟩, Ms5, List.sublist_append_left _ _, ?_⟩
 have h := ho6
 rw [List.nil_append] at h
 exact h

theorem mwith_fc {G : GH} {v_l : Value} {l : List Pair} (h_l : SlR ePair G v_l l) (k : Str) (ek : Int) (ev : Str) (hP : PairsR l) (hn : l.length ≤ 1000000) (he : ev.b.size ≤ 1048576) :
    Fc Tryz.prog 172 [v_l, sV k.b, .agg #[iV ek, sV ev.b]] G [] (fun v G' M' => M' = [] ∧ ∃ u0, v = u0 ∧ SlR ePair G' u0 (withN l k (⟨ek, ev⟩ : Eff))) := by
 obtain ⟨sa_l, sc_l, rfl⟩ := h_l.form
 have hl := h_l.len47
 have hgv := hP.val k
 have hr := hP.srt
 have hh := hr.has k
 have hfl := fndN_le l k
 refine Fc.go [.tmp 6] Tryz.func172 Tryz.ntmps172 rfl (fun w0 => (g9 2 ?_))
 refine W.box (L := [iV _, sV _]) rfl rfl (fun b7 => (g9 7 ?_))
 refine W.qcall (find_fc h_l _ (by assumption)) rfl (g9 18 ?_)
 refine WC.cond rfl (fun h16_1 => ?_) (fun h16_1 => ?_)
 ·have hs1 : (getN l k).isSome = true := h16_1
  obtain ⟨q1, q2⟩ := odt (hh.symm.trans hs1)
  have hvk := hr.val q1 q2
  refine g9 3 ?_
  refine h_l.a1 (i := fndN l k) (q1) (fun he8 => (W.ok (ok_indexAddr (i := fndN l k) sl42 ty92 h_l rfl rfl ⟨om9, q1⟩) (g9 8 ?_)))
  refine W.call (Mp := []) (clonepo_fc h_l) rfl pr9 ?_
  rintro v12 G11 Ms13 hG11 ho14
  refine W.perm (pmC pr9).symm (g9 9 ?_)
  refine W.qcall (eapply_fc ek ev (getN l k).isSome l[fndN l k].val om9 (by rw [hvk] at hgv; simpa using Nat.le_trans hgv (by decide))) rfl (g9 12 ?_)
  refine W.sp 36 rfl (fun h31_0 => ?_) (fun h31_0 => ?_)
  ·have hap : Eff.apply (⟨ek, ev⟩ : Eff) (getN l k) = some ((Eff.apply (⟨ek, ev⟩ : Eff) (optS (getN l k).isSome l[fndN l k].val)).getD Str.nil) := by
     rw [hs1, hvk] at *; simp only [optS, if_true] at *; exact isSome_getD h31_0
   refine g9 11 ?_
   refine ho14.a1 (i := fndN l k) (q1) (fun he15 => (W.ok (ok_indexAddrO (i := fndN l k) sl42 ty92 ho14 rfl rfl ⟨om9, q1⟩) (g9 1 ?_)))
   refine W.storeO (i := fndN l k) (o := 1) (vs := sc9) (a' := ⟨l[fndN l k].key, (((Eff.apply (⟨ek, ev⟩ : Eff) (optS (getN l k).isSome l[fndN l k].val))).getD Str.nil)⟩) ty9 rfl rfl rfl rfl rfl (ho14) (pmC pr9) om9 (by decide) (fun cs h => by rw [h]; rfl) (fun Ms18 ho19 => (W.perm (pmC pr9).symm (g9 9 ?_)))
   refine WC.giveO ho19 (pmC pr9) (fun G20 hG20 hv20 => (g9 2 ?_))
   refine ⟨rfl, _, rfl, ?_⟩
   · have h := hv20; rw [with_set hr q1 q2 hap] at h; exact h
  have hap : Eff.apply (⟨ek, ev⟩ : Eff) (getN l k) = none := by
    rw [hs1, hvk] at *; simp only [optS, if_true] at *; simpa using h31_0
  refine g9 24 ?_
  refine W.ok (Ok.int (n := ((fndN l k + 1 : Nat) : Int)) (ok_add rfl rfl om9) om9) (W.call (Mp := Ms13) (delp_fc ho14 _ _ (by first | assumption | omega)) rfl (pmC pr9) ?_)
  rintro v22 G21 Ms23 hG21 ho24
  refine W.perm (pmC pr9).symm (g9 10 ?_)
  refine WC.giveO ho24 (pmC pr9) (fun G25 hG25 hv25 => (g9 2 ?_))
  refine ⟨rfl, _, rfl, ?_⟩
  · have h := hv25; rw [with_del hr q1 q2 hap] at h; exact h
 have hn0 : (getN l k).isSome = false := h16_1
 have hnn : getN l k = none := by simpa using hn0
 refine g9 5 ?_
 refine W.call (Mp := []) (clonepo_fc h_l) rfl pr9 ?_
 rintro v27 G26 Ms28 hG26 ho29
 refine W.perm (pmC pr9).symm (g9 9 ?_)
 refine W.qcall (eapply_fc ek ev (getN l k).isSome Str.nil om9 (by show (ByteArray.mk #[]).size ≤ _; decide)) rfl (g9 12 ?_)
 refine W.sp 36 rfl (fun h31_0 => ?_) (fun h31_0 => ?_)
 ·have hap : Eff.apply (⟨ek, ev⟩ : Eff) (getN l k) = some ((Eff.apply (⟨ek, ev⟩ : Eff) (optS (getN l k).isSome Str.nil)).getD Str.nil) := by
    rw [hn0, hnn] at *; simp only [optS] at *; exact isSome_getD h31_0
  refine g9 19 ?_
  refine W.ok (ok_build (L := [sV _, sV _]) pl92 zr92 rfl rfl rfl) (W.litO (e := ePair) (l := [⟨k, (((Eff.apply (⟨ek, ev⟩ : Eff) (optS (getN l k).isSome Str.nil))).getD Str.nil)⟩]) (css := [[sV _, sV _]]) sl42 ty92 zr92 rfl rfl rfl rfl rfl rfl ⟨rfl, trivial⟩ (fun v30 Ms31 ho32 => (W.perm (pmC pr9).symm (W.call (Mp := Ms28 ++ Ms31) (insp_fc ho29 _ ho32 (by first | assumption | omega) (by first | assumption | omega | simp) (by first | assumption | omega | (simp; omega))) rfl ((List.Perm.of_eq (List.append_assoc _ _ _)).trans ((List.Perm.append_left _ (pmC pr9)).trans (pmC (pmA pr9)))) ?_))))
  rintro v34 G33 Ms35 hG33 ho36
  refine W.perm (pmC pr9).symm (g9 10 ?_)
  refine WC.giveO ho36 (pmC pr9) (fun G37 hG37 hv37 => (g9 2 ?_))
  refine ⟨rfl, _, rfl, ?_⟩
  · have h := hv37; rw [with_ins hr hn0 hap] at h; exact h
 have hap : Eff.apply (⟨ek, ev⟩ : Eff) (getN l k) = none := by
   rw [hn0, hnn] at *; simp only [optS] at *; simpa using h31_0
 refine g9 29 ?_
 refine WC.giveO ho29 (pmC pr9) (fun G38 hG38 hv38 => (g9 2 ?_))
 refine ⟨rfl, _, rfl, ?_⟩
 · have h := hv38; rw [with_not hr hn0 hap] at h; exact h

theorem rwith_fc {G : GH} {v_l : Value} {l : List Pair} (h_l : SlR ePair G v_l l) (k : Str) (ek : Int) (ev : Str) (hP : PairsR l) (hn : l.length ≤ 1000000) (he : ev.b.size ≤ 1048576) :
    Fc Tryz.prog 138 [v_l, sV k.b, .agg #[iV ek, sV ev.b]] G [] (fun v G' M' => M' = [] ∧ ∃ u0, v = u0 ∧ SlR ePair G' u0 (withN l k (⟨ek, ev⟩ : Eff))) := by
 obtain ⟨sa_l, sc_l, rfl⟩ := h_l.form
 have hl := h_l.len47
 have hgv := hP.val k
 refine Fc.go [.tmp 6] Tryz.func138 Tryz.ntmps138 rfl (fun w0 => (g9 2 ?_))
 refine W.box (L := [iV _, sV _]) rfl rfl (fun b1 => (g9 15 ?_))
 refine WC.loop (X := (Nat) × Value × MH) (fun i => [(8, nt9 i.1), (5, pt9 b1), (0, lV sa_l l.length sc_l), (1, sV k.b), (7, i.2.1)]) (fun i G Ml => Ml = ((b1, ce9 187 [iV ek, sV ev.b]) :: (i.2.2 ++ [])) ∧ OwnR ePair 92 G i.2.1 (List.filter (fun p : Pair => p.key.lt k) (l.take i.1)) i.2.2 ∧ i.1 ≤ l.length) (fun i => l.length - i.1) (0, lV none 0 0, ([] : MH)) hs9 ?_ ?_
 ·exact ⟨rfl, (by simpa using OwnR.nil), om9⟩
 rintro ⟨i, v_7, M_7⟩ gG2 G2 _ hG2 ⟨rfl, ho_7, hi⟩
 try dsimp only at ho_7 hi
 have hfl := filt_le (fun p : Pair => p.key.lt k) l i
 refine WC.fr (f := setL gG2 [(8, nt9 i), (5, pt9 b1), (0, lV sa_l l.length sc_l), (1, sV k.b), (7, v_7)]) rfl (g9 9 ?_)
 refine WC.cd (fun h17 p17 => ?_) (fun h17 p17 => ?_)
 ·refine g9 8 ?_
  refine (h_l.mono hG2).a1 (i := i) om9 (fun he3 => (g9 4 ?_))
  refine W.qcall (less_fc _ _) rfl (g9 2 ?_)
  refine WC.cond rfl (fun h26 => ?_) (fun h26 => ?_)
  ·refine g9 4 ?_
   refine (h_l.mono hG2).a1 (i := i) om9 (fun he6 => (g9 2 ?_))
   refine W.lit (e := ePair) (l := [((l)[i])]) (css := [[sV _, sV _]]) sl42 ty92 zr92 rfl rfl rfl rfl rfl rfl ⟨rfl, trivial⟩ (fun bl9 G9 hG9 hv9 => (W.app (e := ePair) sl42 ty92 zr92 rfl by92 rfl rfl ((ho_7.mono hG9)) (hv9) (pmC pr9) (by show (_ + 1) * 32 ≤ _; (try simp only [List.length_append] at *); omega) (fun v10 Ms11 ho12 => (W.perm (pmC pr9).symm (g9 10 ?_)))))
   exact ⟨hG9, (i + 1, v10, Ms11), hs9, ⟨rfl, (by have h := ho12; rw [filt_t (p := (fun p : Pair => p.key.lt k)) om9 (by simpa using h26)]; exact h), om9⟩, om9⟩
  refine g9 9 ?_
  exact ⟨Le.rfl, (i + 1, v_7, M_7), hs9, ⟨rfl, (by have h := ho_7; rw [filt_f (p := (fun p : Pair => p.key.lt k)) om9 (by simpa using h26)]; exact h), om9⟩, om9⟩
 refine g9 9 ?_
 refine W.qcall (rget_fc (h_l.mono hG2) _) rfl (g9 12 ?_)
 refine W.qcall (rapply_fc _ _ _ _ (by first | assumption | omega | (dsimp only; omega) | (simp; omega)) (by first | assumption | omega | (dsimp only; omega) | (simp; omega))) rfl (g9 13 ?_)
 refine WC.cond rfl (fun h44_0 => ?_) (fun h44_0 => ?_)
 ·refine g9 4 ?_
  refine W.ok (ok_build (L := [sV _, sV _]) pl92 zr92 rfl rfl rfl) (W.lit (e := ePair) (l := [⟨k, (((Eff.apply (⟨(ek), (ev)⟩ : Eff) (optS (((getN (l) (k)).isSome)) (((getN (l) (k)).getD Str.nil))))).getD Str.nil)⟩]) (css := [[sV _, sV _]]) sl42 ty92 zr92 rfl rfl rfl rfl rfl rfl ⟨rfl, trivial⟩ (fun bl13 G13 hG13 hv13 => (W.app (e := ePair) sl42 ty92 zr92 rfl by92 rfl rfl ((ho_7.mono hG13)) (hv13) (pmC pr9) (by show (_ + 1) * 32 ≤ _; (try simp only [List.length_append] at *); omega) (fun v14 Ms15 ho16 => (W.perm (pmC pr9).symm (g9 10 ?_))))))
  refine WC.loop (X := (Nat) × Value × MH) (fun i => [(13, nt9 i.1), (0, lV sa_l l.length sc_l), (1, sV k.b), (7, i.2.1)]) (fun i G Ml => Ml = ((b1, ce9 187 [iV ek, sV ev.b]) :: (i.2.2 ++ [])) ∧ OwnR ePair 92 G i.2.1 ((List.filter (fun p : Pair => p.key.lt k) l ++ midN (Eff.apply (⟨ek, ev⟩ : Eff) (getN l k)) k) ++ List.filter (fun p : Pair => k.lt p.key) (l.take i.1)) i.2.2 ∧ i.1 ≤ l.length) (fun i => l.length - i.1) (0, v14, Ms15) hs9 ?_ ?_
  ·exact ⟨rfl, (by have h := ho16; rw [List.take_of_length_le om9] at h; have hs := h44_0; rw [optS_get] at hs; rw [midN_some hs]; rw [optS_get] at h; simpa using h), om9⟩
  rintro ⟨i, v_7, M_7⟩ gG17 G17 _ hG17 ⟨rfl, ho_7, hi⟩
  try dsimp only at ho_7 hi
  have hfl := filt_le (fun p : Pair => k.lt p.key) l i
  have hfl2 := List.length_filter_le (fun p : Pair => p.key.lt k) l
  have hml := midN_le (Eff.apply (⟨ek, ev⟩ : Eff) (getN l k)) k
  refine WC.fr (f := setL gG17 [(13, nt9 i), (0, lV sa_l l.length sc_l), (1, sV k.b), (7, v_7)]) rfl (g9 9 ?_)
  refine WC.cd (fun h57 p57 => ?_) (fun h57 p57 => ?_)
  ·refine g9 9 ?_
   refine (h_l.mono ((hG2.trans hG13).trans hG17)).a1 (i := i) om9 (fun he18 => (g9 3 ?_))
   refine W.qcall (less_fc _ _) rfl (g9 2 ?_)
   refine WC.cond rfl (fun h66 => ?_) (fun h66 => ?_)
   ·refine g9 4 ?_
    refine (h_l.mono ((hG2.trans hG13).trans hG17)).a1 (i := i) om9 (fun he21 => (g9 2 ?_))
    refine W.lit (e := ePair) (l := [((l)[i])]) (css := [[sV _, sV _]]) sl42 ty92 zr92 rfl rfl rfl rfl rfl rfl ⟨rfl, trivial⟩ (fun bl24 G24 hG24 hv24 => (W.app (e := ePair) sl42 ty92 zr92 rfl by92 rfl rfl ((ho_7.mono hG24)) (hv24) (pmC pr9) (by show (_ + 1) * 32 ≤ _; (try simp only [List.length_append] at *); omega) (fun v25 Ms26 ho27 => (W.perm (pmC pr9).symm (g9 10 ?_)))))
    exact ⟨hG24, (i + 1, v25, Ms26), hs9, ⟨rfl, (by have h := ho27; rw [filt_t (p := (fun p : Pair => k.lt p.key)) om9 (by simpa using h66), ← List.append_assoc]; exact h), om9⟩, om9⟩
   refine g9 9 ?_
   exact ⟨Le.rfl, (i + 1, v_7, M_7), hs9, ⟨rfl, (by have h := ho_7; rw [filt_f (p := (fun p : Pair => k.lt p.key)) om9 (by simpa using h66)]; exact h), om9⟩, om9⟩
  refine g9 11 ?_
  refine WC.giveO ho_7 (pmC pr9) (fun G28 hG28 hv28 => (g9 2 ?_))
  refine ⟨rfl, _, rfl, ?_⟩
  · have h := hv28; rw [List.take_of_length_le om9, ← withN_mid] at h; exact h
 refine g9 9 ?_
 refine WC.loop (X := (Nat) × Value × MH) (fun i => [(13, nt9 i.1), (0, lV sa_l l.length sc_l), (1, sV k.b), (7, i.2.1)]) (fun i G Ml => Ml = ((b1, ce9 187 [iV ek, sV ev.b]) :: (i.2.2 ++ [])) ∧ OwnR ePair 92 G i.2.1 ((List.filter (fun p : Pair => p.key.lt k) l ++ midN (Eff.apply (⟨ek, ev⟩ : Eff) (getN l k)) k) ++ List.filter (fun p : Pair => k.lt p.key) (l.take i.1)) i.2.2 ∧ i.1 ≤ l.length) (fun i => l.length - i.1) (0, v_7, M_7) hs9 ?_ ?_
 ·exact ⟨rfl, (by have h := ho_7; rw [List.take_of_length_le om9] at h; have hs := h44_0; rw [optS_get] at hs; rw [midN_none hs]; simpa using h), om9⟩
 rintro ⟨i, v_7, M_7⟩ gG29 G29 _ hG29 ⟨rfl, ho_7, hi⟩
 try dsimp only at ho_7 hi
 have hfl := filt_le (fun p : Pair => k.lt p.key) l i
 have hfl2 := List.length_filter_le (fun p : Pair => p.key.lt k) l
 have hml := midN_le (Eff.apply (⟨ek, ev⟩ : Eff) (getN l k)) k
 refine WC.fr (f := setL gG29 [(13, nt9 i), (0, lV sa_l l.length sc_l), (1, sV k.b), (7, v_7)]) rfl (g9 9 ?_)
 refine WC.cd (fun h57 p57 => ?_) (fun h57 p57 => ?_)
 ·refine g9 9 ?_
  refine (h_l.mono (hG2.trans hG29)).a1 (i := i) om9 (fun he30 => (g9 3 ?_))
  refine W.qcall (less_fc _ _) rfl (g9 2 ?_)
  refine WC.cond rfl (fun h66 => ?_) (fun h66 => ?_)
  ·refine g9 4 ?_
   refine (h_l.mono (hG2.trans hG29)).a1 (i := i) om9 (fun he33 => (g9 2 ?_))
   refine W.lit (e := ePair) (l := [((l)[i])]) (css := [[sV _, sV _]]) sl42 ty92 zr92 rfl rfl rfl rfl rfl rfl ⟨rfl, trivial⟩ (fun bl36 G36 hG36 hv36 => (W.app (e := ePair) sl42 ty92 zr92 rfl by92 rfl rfl ((ho_7.mono hG36)) (hv36) (pmC pr9) (by show (_ + 1) * 32 ≤ _; (try simp only [List.length_append] at *); omega) (fun v37 Ms38 ho39 => (W.perm (pmC pr9).symm (g9 10 ?_)))))
   exact ⟨hG36, (i + 1, v37, Ms38), hs9, ⟨rfl, (by have h := ho39; rw [filt_t (p := (fun p : Pair => k.lt p.key)) om9 (by simpa using h66), ← List.append_assoc]; exact h), om9⟩, om9⟩
  refine g9 9 ?_
  exact ⟨Le.rfl, (i + 1, v_7, M_7), hs9, ⟨rfl, (by have h := ho_7; rw [filt_f (p := (fun p : Pair => k.lt p.key)) om9 (by simpa using h66)]; exact h), om9⟩, om9⟩
 refine g9 11 ?_
 refine WC.giveO ho_7 (pmC pr9) (fun G40 hG40 hv40 => (g9 2 ?_))
 refine ⟨rfl, _, rfl, ?_⟩
 · have h := hv40; rw [List.take_of_length_le om9, ← withN_mid] at h; exact h

theorem mright_fc {G : GH} (ms : Int) (mk : Int) (mkey : Str) (mhi : Str) (mo : Bool) (mv : Str) :
    Fc Tryz.prog 140 [.agg #[iV ms, iV mk, sV mkey.b, sV mhi.b, .bool mo, sV mv.b]] G [] (fun v _ _ => v = .bool (decide (Msg.R (⟨ms, mk, mkey, mhi, mo, mv⟩ : Msg)))) := by
 have h1 := mkey.le
 have h2 := mv.le
 have h3 := mhi.le
 refine Fc.go [.tmp 2] Tryz.func140 Tryz.ntmps140 rfl (fun w0 => (g9 2 ?_))
 refine W.box (L := [iV _, iV _, sV _, sV _, .bool _, sV _]) rfl rfl (fun b1 => (g9 10 ?_))
 refine W.sd 6 (fun h5 p5 => ?_) (fun h5 p5 => ?_)
 ·refine g9 28 ?_
  refine congrArg Value.bool ?_
  rw [Bool.eq_iff_iff, decide_eq_true_iff]
  simp only [Msg.R]
  first | (simp_all [← Str.b_inj, Str.nil]; done) | (simp_all [← Str.b_inj, Str.nil]; omega)
 refine g9 10 ?_
 refine W.sd 12 (fun h10 p10 => ?_) (fun h10 p10 => ?_)
 ·refine g9 22 ?_
  refine congrArg Value.bool ?_
  rw [Bool.eq_iff_iff, decide_eq_true_iff]
  simp only [Msg.R]
  first | (simp_all [← Str.b_inj, Str.nil]; done) | (simp_all [← Str.b_inj, Str.nil]; omega)
 refine g9 10 ?_
 refine W.sd 18 (fun h16 p16 => ?_) (fun h16 p16 => ?_)
 ·refine g9 16 ?_
  refine congrArg Value.bool ?_
  rw [Bool.eq_iff_iff, decide_eq_true_iff]
  simp only [Msg.R]
  first | (simp_all [← Str.b_inj, Str.nil]; done) | (simp_all [← Str.b_inj, Str.nil]; omega)
 refine g9 11 ?_
 refine WC.cd (fun h22 p22 => ?_) (fun h22 p22 => ?_)
 ·refine g9 8 ?_
  refine congrArg Value.bool ?_
  rw [Bool.eq_iff_iff, decide_eq_true_iff]
  simp only [Msg.R]
  first | (simp_all [← Str.b_inj, Str.nil]; done) | (simp_all [← Str.b_inj, Str.nil]; omega)
 refine g9 10 ?_
 refine WC.cd (fun h26 p26 => ?_) (fun h26 p26 => ?_)
 ·refine g9 6 ?_
  refine W.sd 30 (fun h29 p29 => ?_) (fun h29 p29 => ?_)
  ·refine g9 8 ?_
   refine W.sp 34 rfl (fun h33 => ?_) (fun h33 => ?_)
   ·refine g9 10 ?_
    refine W.qcall (rspan_fc _ _ _ _ _ _ (by first | assumption | omega | (dsimp only; omega))) rfl (g9 1 ?_)
    refine W.qcall (empty_fc _ _ _) rfl (g9 9 ?_)
    refine congrArg Value.bool ?_
    rw [Bool.eq_iff_iff, decide_eq_true_iff]
    simp only [Msg.R]
    first | (simp_all [← Str.b_inj, Str.nil]; done) | (simp_all [← Str.b_inj, Str.nil]; omega)
   refine g9 10 ?_
   refine W.sd 40 (fun h37 p37 => ?_) (fun h37 p37 => ?_)
   ·refine g9 3 ?_
    refine W.qcall (rspan_fc _ _ _ _ _ _ (by first | assumption | omega | (dsimp only; omega))) rfl (g9 1 ?_)
    refine W.qcall (empty_fc _ _ _) rfl (g9 9 ?_)
    refine congrArg Value.bool ?_
    rw [Bool.eq_iff_iff, decide_eq_true_iff]
    simp only [Msg.R]
    first | (simp_all [← Str.b_inj, Str.nil]; done) | (simp_all [← Str.b_inj, Str.nil]; omega)
   refine g9 11 ?_
   refine congrArg Value.bool ?_
   rw [Bool.eq_iff_iff, decide_eq_true_iff]
   simp only [Msg.R]
   first | (simp_all [← Str.b_inj, Str.nil]; done) | (simp_all [← Str.b_inj, Str.nil]; omega)
  refine g9 21 ?_
  refine congrArg Value.bool ?_
  rw [Bool.eq_iff_iff, decide_eq_true_iff]
  simp only [Msg.R]
  first | (simp_all [← Str.b_inj, Str.nil]; done) | (simp_all [← Str.b_inj, Str.nil]; omega)
 refine g9 8 ?_
 refine W.sd 49 (fun h48 p48 => ?_) (fun h48 p48 => ?_)
 ·refine g9 8 ?_
  refine W.sp 54 rfl (fun h52 => ?_) (fun h52 => ?_)
  ·refine g9 8 ?_
   refine W.sd 58 (fun h57 p57 => ?_) (fun h57 p57 => ?_)
   ·refine g9 23 ?_
    refine congrArg Value.bool ?_
    rw [Bool.eq_iff_iff, decide_eq_true_iff]
    simp only [Msg.R]
    first | (simp_all [← Str.b_inj, Str.nil]; done) | (simp_all [← Str.b_inj, Str.nil]; omega)
   refine g9 10 ?_
   refine W.sd 63 (fun h61 p61 => ?_) (fun h61 p61 => ?_)
   ·refine g9 16 ?_
    refine congrArg Value.bool ?_
    rw [Bool.eq_iff_iff, decide_eq_true_iff]
    simp only [Msg.R]
    first | (simp_all [← Str.b_inj, Str.nil]; done) | (simp_all [← Str.b_inj, Str.nil]; omega)
   refine g9 8 ?_
   refine W.sd 67 (fun h66 p66 => ?_) (fun h66 p66 => ?_)
   ·refine g9 16 ?_
    refine congrArg Value.bool ?_
    rw [Bool.eq_iff_iff, decide_eq_true_iff]
    simp only [Msg.R]
    first | (simp_all [← Str.b_inj, Str.nil]; done) | (simp_all [← Str.b_inj, Str.nil]; omega)
   refine g9 13 ?_
   refine congrArg Value.bool ?_
   rw [Bool.eq_iff_iff, decide_eq_true_iff]
   simp only [Msg.R]
   first | (simp_all [← Str.b_inj, Str.nil]; done) | (simp_all [← Str.b_inj, Str.nil]; omega)
  refine g9 24 ?_
  refine congrArg Value.bool ?_
  rw [Bool.eq_iff_iff, decide_eq_true_iff]
  simp only [Msg.R]
  first | (simp_all [← Str.b_inj, Str.nil]; done) | (simp_all [← Str.b_inj, Str.nil]; omega)
 refine g9 29 ?_
 refine congrArg Value.bool ?_
 rw [Bool.eq_iff_iff, decide_eq_true_iff]
 simp only [Msg.R]
 first | (simp_all [← Str.b_inj, Str.nil]; done) | (simp_all [← Str.b_inj, Str.nil]; omega)

theorem mall_fc {G : GH} {v_l : Value} {l : List Msg} (h_l : SlR eMsg G v_l l) :
    Fc Tryz.prog 120 [v_l] G [] (fun v _ _ => v = .bool (decide (MsgsR l))) := by
 obtain ⟨sa_l, sc_l, rfl⟩ := h_l.form
 have hl := h_l.len47
 refine Fc.go [.tmp 2] Tryz.func120 Tryz.ntmps120 rfl (fun w0 => (g9 12 ?_))
 refine WC.loop (X := Nat) (fun k => [(3, nt9 k), (0, lV sa_l l.length sc_l)]) (fun k _ Ml => Ml = [] ∧ ∀ i (h : i < l.length), i < k → l[i].R ∧ (0 < i → (l[i - 1]'om9).stamp < l[i].stamp)) (fun k => l.length - k) 0 hs9 ?_ ?_
 ·exact ⟨rfl, fun i _ h => by omega⟩
 rintro k gG2 G2 _ hG2 ⟨rfl, hk⟩
 refine g9 9 ?_
 refine WC.cd (fun h7 p7 => ?_) (fun h7 p7 => ?_)
 ·refine g9 8 ?_
  refine (h_l.mono hG2).a2 (i := k) om9 (fun he3 hm4 => (g9 2 ?_))
  refine W.qcall (mright_fc _ _ _ _ _ _) rfl (g9 2 ?_)
  refine W.sp 16 rfl (fun h15 => ?_) (fun h15 => ?_)
  ·refine g9 32 ?_
   refine congrArg Value.bool ?_
   exact (decide_eq_false fun h => by obtain ⟨q1, q2⟩ := h k om9; first | (have := q2 om9; omega) | (simp [q1] at h15)).symm
  refine g9 6 ?_
  refine W.sd 19 (fun h18 p18 => ?_) (fun h18 p18 => ?_)
  ·refine g9 5 ?_
   refine (h_l.mono hG2).a2 (i := k) om9 (fun he8 hm9 => (g9 12 ?_))
   refine (h_l.mono hG2).a2 (i := k - 1) om9 (fun he13 hm14 => (W.ok (ok_indexAddr (i := k - 1) sl51 ty90 (h_l.mono hG2) rfl rfl ⟨om9, om9⟩) (g9 11 ?_)))
   refine WC.cd (fun h31 p31 => ?_) (fun h31 p31 => ?_)
   ·refine g9 12 ?_
    refine congrArg Value.bool ?_
    exact (decide_eq_false fun h => by obtain ⟨q1, q2⟩ := h k om9; first | (have := q2 om9; omega) | (simp [q1] at h15)).symm
   refine g9 9 ?_
   exact ⟨Le.rfl, k + 1, hs9, ⟨rfl, fun i h hi => by
      by_cases e : i = k
      · subst e; exact ⟨by simpa using h15, fun h0 => by omega⟩
      · exact hk i h om9⟩, om9⟩
  refine g9 27 ?_
  exact ⟨Le.rfl, k + 1, hs9, ⟨rfl, fun i h hi => by
      by_cases e : i = k
      · subst e; exact ⟨by simpa using h15, fun h0 => by omega⟩
      · exact hk i h om9⟩, om9⟩
 refine g9 12 ?_
 refine congrArg Value.bool ?_
 exact (decide_eq_true fun i h => hk i h om9).symm

theorem msizes_fc {G : GH} {v_l : Value} {l : List Msg} (h_l : SlR eMsg G v_l l) (hs : ∀ m ∈ l, m.key.b.size ≤ 16 ∧ m.val.b.size ≤ 16) :
    Fc Tryz.prog 116 [v_l] G [] (fun v _ _ => v = iV (sizesN l)) := by
 obtain ⟨sa_l, sc_l, rfl⟩ := h_l.form
 have hl := h_l.len47
 refine Fc.go [.tmp 2] Tryz.func116 Tryz.ntmps116 rfl (fun w0 => (g9 17 ?_))
 refine WC.loop (X := Nat) (fun k => [(3, iV (sizesN (l.take k))), (4, nt9 k), (0, lV sa_l l.length sc_l)]) (fun k _ Ml => Ml = [] ∧ k ≤ l.length ∧ 0 ≤ sizesN (l.take k) ∧ sizesN (l.take k) ≤ 36 * k) (fun k => l.length - k) 0 hs9 ?_ ?_
 ·exact ⟨rfl, om9, by simp [sizesN], by simp [sizesN]⟩
 rintro k gG18 G18 _ hG18 ⟨rfl, hk, h0, h36⟩
 refine g9 9 ?_
 refine WC.cd (fun h8 p8 => ?_) (fun h8 p8 => ?_)
 ·have hz := sizes_succ (l := l) (k := k) om9
  have hz2 := size_36 (hs l[k] (List.getElem_mem _))
  have he : Msg.size ⟨l[k].stamp, l[k].kind, l[k].key, l[k].hi, l[k].opn, l[k].val⟩ = l[k].size := rfl
  refine g9 8 ?_
  refine (h_l.mono hG18).a2 (i := k) om9 (fun he19 hm20 => (g9 2 ?_))
  refine W.qcall (msize_fc _ _ _ _ _ _) rfl (g9 11 ?_)
  exact ⟨Le.rfl, k + 1, ⟨(iv om9), eqv, eqv, trivial⟩, ⟨rfl, om9, om9, om9⟩, om9⟩
 refine g9 13 ?_
 refine congrArg (Value.int .i64) ?_
 rw [List.take_of_length_le om9]

theorem mwithout_fc {G : GH} {v_l : Value} {l : List Pair} (h_l : SlR ePair G v_l l) (slo : Str) (shi : Str) (so : Bool) :
    Fc Tryz.prog 171 [v_l, .agg #[sV slo.b, sV shi.b, .bool so]] G [] (fun v G' M' => M' = [] ∧ ∃ u0, v = u0 ∧ SlR ePair G' u0 (l.filter (fun p : Pair => !Span.has ⟨slo, shi, so⟩ p.key))) := by
 obtain ⟨sa_l, sc_l, rfl⟩ := h_l.form
 refine Fc.go [.tmp 4] Tryz.func171 Tryz.ntmps171 rfl (fun w0 => (g9 2 ?_))
 refine W.box (L := [sV _, sV _, .bool _]) rfl rfl (fun b1 => (g9 6 ?_))
 refine W.call (Mp := []) (clonepo_fc h_l) rfl pr9 ?_
 rintro v3 G2 Ms4 hG2 ho5
 refine W.perm (pmC pr9).symm (W.giveB (b := b1) (L := [sV _, sV _, .bool _]) pr9 (fun G6 hG6 hc6 => (W.ok (ok_makeFn (fst := []) (caps := [.tmp 3]) (vs := []) (ws := [pt9 b1]) rfl rfl) (W.call (Mp := Ms4) (dfp_fc (ho5.mono hG6) _ _ _ hc6) rfl pr9 ?_))))
 rintro v8 G7 Ms9 hG7 ho10
 refine g9 3 ?_
 refine WC.giveO ho10 pr9 (fun G11 hG11 hv11 => (g9 2 ?_))
 refine ⟨rfl, _, rfl, ?_⟩
 · exact hv11

theorem mtake_fc {G : GH} {v_l : Value} {l : List Pair} (h_l : SlR ePair G v_l l) (ms : Int) (mk : Int) (mkey : Str) (mhi : Str) (mo : Bool) (mv : Str) (hP : PairsR l) (hn : l.length ≤ 1000000) (hk : Msg.fit (⟨ms, mk, mkey, mhi, mo, mv⟩ : Msg)) :
    Fc Tryz.prog 161 [v_l, .agg #[iV ms, iV mk, sV mkey.b, sV mhi.b, .bool mo, sV mv.b]] G [] (fun v G' M' => M' = [] ∧ ∃ u0, v = u0 ∧ SlR ePair G' u0 (takeN l (⟨ms, mk, mkey, mhi, mo, mv⟩ : Msg))) := by
 obtain ⟨sa_l, sc_l, rfl⟩ := h_l.form
 obtain ⟨hk1, hk2, hk3⟩ := hk
 dsimp only at hk1 hk2 hk3
 have hl := h_l.len47
 have hov := on_val (m := (⟨ms, mk, mkey, mhi, mo, mv⟩ : Msg)) mkey hk3
 refine Fc.go [.tmp 4] Tryz.func161 Tryz.ntmps161 rfl (fun w0 => (g9 2 ?_))
 refine W.box (L := [iV _, iV _, sV _, sV _, .bool _, sV _]) rfl rfl (fun b12 => (g9 11 ?_))
 refine WC.cd (fun h7 p7 => ?_) (fun h7 p7 => ?_)
 ·refine g9 4 ?_
  refine W.qcall (mspan_fc _ _ _ _ _ _ (by first | assumption | omega | (dsimp only; omega))) rfl (W.cS (mwithout_fc h_l (Msg.span (⟨ms, mk, mkey, mhi, mo, mv⟩ : Msg)).lo (Msg.span (⟨ms, mk, mkey, mhi, mo, mv⟩ : Msg)).hi (Msg.span (⟨ms, mk, mkey, mhi, mo, mv⟩ : Msg)).opn) rfl (fun sa_hv14 sc_hv14 G13 hG13 hv14 => (g9 6 ?_)))
  refine ⟨rfl, _, rfl, ?_⟩
  · have h := hv14; rw [takeN, if_pos p7]; exact h
 refine g9 3 ?_
 refine WC.dw sr9.k9 (d9 [0, 1, 2, 3, 4, 5] ?_)
 refine WD.a1 6 rfl (W.qcall (mon_fc ms mk mkey mhi mo mv mkey om9) rfl (W.nn (WD.a1 7 rfl (W.cS (mwith_fc h_l mkey (Msg.on (⟨ms, mk, mkey, mhi, mo, mv⟩ : Msg) mkey).kind (Msg.on (⟨ms, mk, mkey, mhi, mo, mv⟩ : Msg) mkey).val hP hn om9) rfl (fun sa_hv21 sc_hv21 G20 hG20 hv21 => (W.nn (d9 [8] ?_)))))))
 refine g9 4 ?_
 refine ⟨rfl, _, rfl, ?_⟩
 · have h := hv21; rw [takeN, if_neg p7]; exact h

theorem rtakeF_fc {G : GH} {v_l : Value} {l : List Pair} (h_l : SlR ePair G v_l l) (ms : Int) (mk : Int) (mkey : Str) (mhi : Str) (mo : Bool) (mv : Str) (hP : PairsR l) (hn : l.length ≤ 1000000) (hk : Msg.fit (⟨ms, mk, mkey, mhi, mo, mv⟩ : Msg)) :
    Fc Tryz.prog 117 [v_l, .agg #[iV ms, iV mk, sV mkey.b, sV mhi.b, .bool mo, sV mv.b]] G [] (fun v G' M' => M' = [] ∧ ∃ u0, v = u0 ∧ SlR ePair G' u0 (takeN l (⟨ms, mk, mkey, mhi, mo, mv⟩ : Msg))) := by
 obtain ⟨sa_l, sc_l, rfl⟩ := h_l.form
 obtain ⟨hk1, hk2, hk3⟩ := hk
 dsimp only at hk1 hk2 hk3
 have hl := h_l.len47
 have hov := on_val (m := (⟨ms, mk, mkey, mhi, mo, mv⟩ : Msg)) mkey hk3
 refine Fc.go [.tmp 4] Tryz.func117 Tryz.ntmps117 rfl (fun w0 => (g9 2 ?_))
 refine W.box (L := [iV _, iV _, sV _, sV _, .bool _, sV _]) rfl rfl (fun b27 => (g9 11 ?_))
 refine WC.cn (fun h9 p9 => ?_) (fun h9 p9 => ?_)
 ·refine WC.seq (WC.dw sr9.k9 (d9 [0, 1, 2, 3, 4, 5] ?_))
  refine WD.a1 6 rfl (W.qcall (ron_fc ms mk mkey mhi mo mv mkey om9) rfl (W.nn (WD.a1 7 rfl (W.cS (rwith_fc h_l mkey (Msg.on (⟨ms, mk, mkey, mhi, mo, mv⟩ : Msg) mkey).kind (Msg.on (⟨ms, mk, mkey, mhi, mo, mv⟩ : Msg) mkey).val hP hn om9) rfl (fun sa_hv29 sc_hv29 G28 hG28 hv29 => (W.nn (d9 [8] ?_)))))))
  refine g9 5 ?_
  refine ⟨rfl, _, rfl, ?_⟩
  · have h := hv29; rw [takeN, if_neg (by simpa using h9)]; exact h
 refine g9 14 ?_
 refine WC.loop (X := (Nat) × Value × MH) (fun i => [(6, nt9 i.1), (3, pt9 b27), (0, lV sa_l l.length sc_l), (5, i.2.1)]) (fun i G Ml => Ml = ((b27, ce9 90 [iV ms, iV mk, sV mkey.b, sV mhi.b, .bool mo, sV mv.b]) :: (i.2.2 ++ [])) ∧ OwnR ePair 92 G i.2.1 (List.filter (fun p : Pair => !(Msg.span (⟨ms, mk, mkey, mhi, mo, mv⟩ : Msg)).has p.key) (l.take i.1)) i.2.2 ∧ i.1 ≤ l.length) (fun i => l.length - i.1) (0, lV none 0 0, ([] : MH)) hs9 ?_ ?_
 ·exact ⟨rfl, (by simpa using OwnR.nil), om9⟩
 rintro ⟨i, v_5, M_5⟩ gG35 G35 _ hG35 ⟨rfl, ho_5, hi⟩
 try dsimp only at ho_5 hi
 have hfl := filt_le (fun p : Pair => !(Msg.span (⟨ms, mk, mkey, mhi, mo, mv⟩ : Msg)).has p.key) l i
 refine WC.fr (f := setL gG35 [(6, nt9 i), (3, pt9 b27), (0, lV sa_l l.length sc_l), (5, v_5)]) rfl (g9 9 ?_)
 refine WC.cd (fun h21 p21 => ?_) (fun h21 p21 => ?_)
 ·refine g9 7 ?_
  refine W.qcall (rspan_fc _ _ _ _ _ _ (by first | assumption | omega | (dsimp only; omega))) rfl (g9 2 ?_)
  refine (h_l.mono hG35).a1 (i := i) om9 (fun he36 => (g9 3 ?_))
  refine W.qcall (has_fc _ _ _ _) rfl (g9 3 ?_)
  refine WC.cond rfl (fun h32 => ?_) (fun h32 => ?_)
  ·refine g9 4 ?_
   refine (h_l.mono hG35).a1 (i := i) om9 (fun he39 => (g9 2 ?_))
   refine W.lit (e := ePair) (l := [((l)[i])]) (css := [[sV _, sV _]]) sl42 ty92 zr92 rfl rfl rfl rfl rfl rfl ⟨rfl, trivial⟩ (fun bl42 G42 hG42 hv42 => (W.app (e := ePair) sl42 ty92 zr92 rfl by92 rfl rfl ((ho_5.mono hG42)) (hv42) (pmC pr9) (by show (_ + 1) * 32 ≤ _; (try simp only [List.length_append] at *); omega) (fun v43 Ms44 ho45 => (W.perm (pmC pr9).symm (g9 10 ?_)))))
   exact ⟨hG42, (i + 1, v43, Ms44), hs9, ⟨rfl, (by have h := ho45; rw [filt_t (p := (fun p : Pair => !(Msg.span (⟨ms, mk, mkey, mhi, mo, mv⟩ : Msg)).has p.key)) om9 (by simpa using h32)]; exact h), om9⟩, om9⟩
  refine g9 9 ?_
  exact ⟨Le.rfl, (i + 1, v_5, M_5), hs9, ⟨rfl, (by have h := ho_5; rw [filt_f (p := (fun p : Pair => !(Msg.span (⟨ms, mk, mkey, mhi, mo, mv⟩ : Msg)).has p.key)) om9 (by simpa using h32)]; exact h), om9⟩, om9⟩
 refine g9 11 ?_
 refine WC.giveO ho_5 (pmC pr9) (fun G46 hG46 hv46 => (g9 2 ?_))
 refine ⟨rfl, _, rfl, ?_⟩
 · have h := hv46; rw [List.take_of_length_le om9] at h; rw [takeN, if_pos (by simpa using h9)]; exact h

theorem rfoldF_fc {G : GH} {v_l : Value} {l : List Pair} (h_l : SlR ePair G v_l l) {v_ms : Value} {ms : List Msg} (h_ms : SlR eMsg G v_ms ms) (hP : PairsR l) (hn : l.length + ms.length ≤ 1000000) (hm : ∀ m ∈ ms, m.fit) :
    Fc Tryz.prog 81 [v_l, v_ms] G [] (fun v G' M' => M' = [] ∧ ∃ u0, v = u0 ∧ SlR ePair G' u0 (foldN l ms)) := by
 obtain ⟨sa_l, sc_l, rfl⟩ := h_l.form
 obtain ⟨sa_ms, sc_ms, rfl⟩ := h_ms.form
 have hl := h_l.len47
 have hlm := h_ms.len47
 refine Fc.go [.tmp 4] Tryz.func81 Tryz.ntmps81 rfl (fun w0 => (g9 7 ?_))
 refine W.lit0 (e := ePair) sl42 ty92 zr92 rfl (fun v47 Ms48 ho49 => (W.mv (W.app (e := ePair) sl42 ty92 zr92 rfl by92 rfl rfl (ho49) (h_l) pr9 (by show (0 + _) * 32 ≤ _; omega) (fun v50 Ms51 ho52 => (g9 10 ?_)))))
 refine WC.giveO (ho52) pr9 (fun G53 hG53 hv53 => ?_)
 refine WC.loop (X := (Nat) × Value) (fun k => [(6, nt9 k.1), (1, lV sa_ms ms.length sc_ms), (5, k.2)]) (fun k G Ml => Ml = [] ∧ SlR ePair G k.2 (foldN l (ms.take k.1)) ∧ k.1 ≤ ms.length) (fun k => ms.length - k.1) (0, v50) hs9 ?_ ?_
 ·exact ⟨rfl, (by simpa [foldN] using hv53), om9⟩
 rintro ⟨k, v_5⟩ gG54 G54 _ hG54 ⟨rfl, ho_5, hk⟩
 try dsimp only at ho_5 hk
 have hPk := PairsR.foldF (ms := ms.take k) hP (fun m h => hm m (List.mem_of_mem_take h))
 have hnk := fold_lenF (ms := ms.take k) hP (fun m h => hm m (List.mem_of_mem_take h))
 have hkl : (ms.take k).length ≤ k := by simp; omega
 refine WC.fr (f := setL gG54 [(6, nt9 k), (1, lV sa_ms ms.length sc_ms), (5, v_5)]) rfl (g9 9 ?_)
 refine WC.cd (fun h13 p13 => ?_) (fun h13 p13 => ?_)
 ·refine g9 8 ?_
  refine (h_ms.mono (hG53.trans hG54)).a2 (i := k) om9 (fun he55 hm56 => (g9 2 ?_))
  refine W.cS (rtakeF_fc ho_5 ms[k].stamp ms[k].kind ms[k].key ms[k].hi ms[k].opn ms[k].val hPk om9 (hm _ (List.getElem_mem _))) rfl (fun sa_hv61 sc_hv61 G60 hG60 hv61 => (g9 10 ?_))
  exact ⟨hG60, (k + 1, lV sa_hv61 (takeN (foldN l (ms.take k)) ms[k]).length sc_hv61), hs9, ⟨rfl, (by have h := hv61; rw [foldN_succ om9]; exact h), om9⟩, om9⟩
 refine g9 13 ?_
 refine ⟨rfl, _, rfl, ?_⟩
 · have h := ho_5; rw [List.take_of_length_le om9] at h; exact h

theorem hdown_fc {G : GH} {α : Type} [Inhabited α] {lt : α → α → Bool} {x0 : Value} {Rep : GH → List α → MH → Prop} {EV : GH → Value → α → Prop} {pu : Prop} (hK : HeapK Tryz.prog lt x0 Rep EV pu) {l : List α} {Ms_l : MH} (h_l : Rep G l Ms_l) (i0 : Nat) (n : Nat) (f : Nat) (hf : n ≤ i0 + f) (hn : n ≤ l.length) (hi : i0 ≤ 1000000000000000) :
    Fc Tryz.prog 125 [x0, nt9 i0, nt9 n] G Ms_l (fun v G' M' => (∃ b, v = .bool b) ∧ Rep G' (downL lt f l i0 n) M') := by
 have hbd := hK.bound h_l
 refine Fc.go [.tmp 6] Tryz.func125 Tryz.ntmps125 rfl (fun w0 => (WC.perm (M' := (Ms_l ++ [])) (by simp) (g9 13 ?_)))
 refine WC.loop (X := (Nat × Nat × List α) × MH) (fun x => [(7, nt9 x.1.1), (1, nt9 i0), (2, nt9 n), (0, x0)]) (fun x G Ml => Ml = (x.2 ++ []) ∧ Rep G (x.1.2.2) x.2 ∧ downL lt x.1.2.1 x.1.2.2 x.1.1 n = downL lt f l i0 n ∧ n ≤ x.1.1 + x.1.2.1 ∧ x.1.2.2.length = l.length ∧ x.1.1 ≤ n + 1000000000000000) (fun x => n - x.1.1) (((i0, f, l) : Nat × Nat × List α), Ms_l) hs9 ?_ ?_
 ·exact ⟨rfl, (by simpa using h_l), rfl, hf, rfl, by dsimp only; omega⟩
 rintro ⟨⟨i, f9, L⟩, M_0⟩ gG1 G1 _ hG1 ⟨rfl, ho_0, hd, hfi, hL, hib⟩
 try dsimp only at ho_0 hd hfi hL hib
 have hbL : L.length ≤ 140737488355328 := by omega
 refine WC.fr (f := setL gG1 [(7, nt9 i), (1, nt9 i0), (2, nt9 n), (0, x0)]) rfl (g9 4 ?_)
 refine W.ok (ok_mul rfl rfl om9) (W.ok (Ok.int (n := ((2 * i + 1 : Nat) : Int)) (ok_add rfl rfl om9) om9) (g9 10 ?_))
 refine W.sd 18 (fun h17 p17 => ?_) (fun h17 p17 => ?_)
 ·try dsimp only at p17
  refine g9 21 ?_
  refine ⟨.inr rfl, [_], ⟨rfl, trivial⟩, M_0, List.sublist_append_left _ _, ?_⟩
  refine ⟨⟨_, rfl⟩, ?_⟩
  have h := ho_0
  rw [downL_stop om9] at hd
  rw [← hd]; exact h
 try dsimp only at p17
 refine g9 7 ?_
 refine WC.cd (fun h20 p20 => ?_) (fun h20 p20 => ?_)
 ·try dsimp only at p20
  exfalso; omega
 try dsimp only at p20
 have hkj := kidJ_lt (lt := lt) (l := L) (i := i) (n := n) om9
 refine g9 8 ?_
 refine WC.join (X := Unit) (fun u8 => [(9, nt9 ((kidJ lt L i n))), (0, x0), (1, nt9 i0), (2, nt9 n), (7, nt9 i)]) (fun u8 _ Ml => Ml = (M_0 ++ [])) ?_ ?_
 ·refine g9 3 ?_
  refine W.ok (Ok.int (n := ((2 * i + 2 : Nat) : Int)) (ok_add rfl rfl om9) om9) (g9 9 ?_)
  refine W.sd 28 (fun h27 p27 => ?_) (fun h27 p27 => ?_)
  ·try dsimp only at p27
   refine g9 7 ?_
   refine W.inv (hK.less (i := 2 * i + 2) (j := 2 * i + 1) ho_0 om9 om9) rfl rfl pr9 ?_
   intro _ G2 Ms4 hG2 q3
   refine match q3 with | ⟨e_6, eeq3⟩ => ?_
   subst e_6
   have eeq3 := eeq3.symm
   subst eeq3
   refine g9 3 ?_
   refine WC.cond rfl (fun h32 => ?_) (fun h32 => ?_)
   ·refine g9 5 ?_
    exact ⟨hG2, (), ⟨(by exact iv (congrArg Nat.cast (kidJ_t om9 h32).symm)), eqv, eqv, eqv, eqv, trivial⟩, rfl⟩
   refine g9 2 ?_
   exact ⟨hG2, (), ⟨(by exact iv (congrArg Nat.cast (kidJ_f (.inr h32)).symm)), eqv, eqv, eqv, eqv, trivial⟩, rfl⟩
  try dsimp only at p27
  refine g9 10 ?_
  exact ⟨Le.rfl, (), ⟨(by exact iv (congrArg Nat.cast (kidJ_f (.inl om9)).symm)), eqv, eqv, eqv, eqv, trivial⟩, rfl⟩
 rintro u8 gG7 G7 _ hG7 rfl
 refine g9 6 ?_
 refine W.inv (hK.less (i := (kidJ lt L i n)) (j := i) (hK.mono hG7 ho_0) om9 om9) rfl rfl pr9 ?_
 intro _ G8 Ms10 hG8 q9
 refine match q9 with | ⟨e_12, eeq9⟩ => ?_
 subst e_12
 have eeq9 := eeq9.symm
 subst eeq9
 refine g9 3 ?_
 refine WC.cond rfl (fun h39 => ?_) (fun h39 => ?_)
 ·refine g9 15 ?_
  refine ⟨.inr rfl, [_], ⟨rfl, trivial⟩, M_0, List.sublist_append_left _ _, ?_⟩
  refine ⟨⟨_, rfl⟩, ?_⟩
  have h := (hK.mono (hG7.trans hG8) ho_0)
  rw [downL_end om9 (by simpa using h39)] at hd
  rw [← hd]; exact h
 refine g9 7 ?_
 refine W.inv (hK.swap (i := i) (j := (kidJ lt L i n)) (hK.mono lec ho_0) om9 om9) rfl rfl pr9 ?_
 intro _ G13 Ms15 hG13 q14
 refine match q14 with | ⟨e_18, hR17⟩ => ?_
 subst e_18
 refine g9 8 ?_
 exact ⟨lec, ((((kidJ lt L i n), f9 - 1, swapL L i (kidJ lt L i n)) : Nat × Nat × List α), Ms15), hs9, ⟨rfl, (by simpa using hR17), by dsimp only; rw [← hd, downL_go hfi om9 (by simpa using h39)], by dsimp only; omega, by dsimp only; rw [swapL_length]; exact hL, by dsimp only; omega⟩, by dsimp only; omega⟩

theorem hpop_fc {G : GH} {α : Type} [Inhabited α] {lt : α → α → Bool} {x0 : Value} {Rep : GH → List α → MH → Prop} {EV : GH → Value → α → Prop} {pu : Prop} (hK : HeapK Tryz.prog lt x0 Rep EV pu) {l : List α} {Ms_l : MH} (h_l : Rep G l Ms_l) (h0 : 0 < l.length) :
    Fc Tryz.prog 95 [x0] G Ms_l (fun v G' M' => EV G' v (nth l 0) ∧ Rep G' (popL lt l) M') := by
 have hbd := hK.bound h_l
 refine Fc.go [.tmp 2] Tryz.func95 Tryz.ntmps95 rfl (fun w0 => (WC.perm (M' := (Ms_l ++ [])) (by simp) (g9 8 ?_)))
 refine W.inv (hK.len h_l) rfl rfl pr9 ?_
 intro _ G19 Ms21 hG19 q20
 refine match q20 with | ⟨e_23, eeq20⟩ => ?_
 subst e_23
 have eeq20 := eeq20.symm
 subst eeq20
 refine W.ok (Ok.int (n := ((l.length - 1 : Nat) : Int)) (ok_sub rfl rfl om9) om9) (g9 7 ?_)
 refine W.inv (hK.swap (i := 0) (j := l.length - 1) (hK.mono hG19 h_l) om9 om9) rfl rfl pr9 ?_
 intro _ G24 Ms26 hG24 q25
 refine match q25 with | ⟨e_29, hR28⟩ => ?_
 subst e_29
 refine g9 6 ?_
 refine W.call (Mp := Ms26) (hdown_fc hK hR28 0 _ l.length om9 (by first | omega | (simp only [swapL_length]; omega)) om9) rfl pr9 ?_
 intro _ G30 Ms32 hG30 q31
 refine match q31 with | ⟨⟨_, e_35⟩, hR34⟩ => ?_
 subst e_35
 refine g9 5 ?_
 refine W.inv (hK.pop hR34 (by rw [downL_length, swapL_length]; omega)) rfl rfl pr9 ?_
 intro v39 G36 Ms38 hG36 q37
 refine match q37 with | ⟨hvhR40, hR40⟩ => ?_
 refine g9 4 ?_
 refine ⟨.inr rfl, [_], ⟨rfl, trivial⟩, Ms38, List.sublist_append_left _ _, ?_⟩
 refine ⟨(by have h := hvhR40; rw [(popL_eq (lt := lt) h0).2] at h; exact h), ?_⟩
 have h := hR40
 rw [(popL_eq h0).1] at h; exact h

theorem hinit_fc {G : GH} {α : Type} [Inhabited α] {lt : α → α → Bool} {x0 : Value} {Rep : GH → List α → MH → Prop} {EV : GH → Value → α → Prop} {pu : Prop} (hK : HeapK Tryz.prog lt x0 Rep EV pu) {l : List α} {Ms_l : MH} (h_l : Rep G l Ms_l) (hh : Heap lt l) (hb : l.length < 1000000) :
    Fc Tryz.prog 91 [x0] G Ms_l (fun v G' M' => v = .tuple #[] ∧ Rep G' (l) M') := by
 have hbd := hK.bound h_l
 refine Fc.go [] Tryz.func91 Tryz.ntmps91 rfl (fun w0 => (WC.perm (M' := (Ms_l ++ [])) (by simp) (g9 3 ?_)))
 refine W.inv (hK.len h_l) rfl rfl pr9 ?_
 intro _ G41 Ms43 hG41 q42
 refine match q42 with | ⟨e_45, eeq42⟩ => ?_
 subst e_45
 have eeq42 := eeq42.symm
 subst eeq42
 refine g9 6 ?_
 refine W.ok (Ok.int (n := ((l.length / 2 : Nat) : Int)) (ok_quo' rfl rfl om9 om9 om9) om9) (g9 5 ?_)
 refine WC.loop (X := (Int) × MH) (fun z => [(3, iV z.1), (2, nt9 ((l).length)), (0, x0)]) (fun z G Ml => Ml = (z.2 ++ []) ∧ Rep G (l) z.2 ∧ -1 ≤ z.1 ∧ z.1 ≤ l.length) (fun z => (z.1 + 1).toNat) (((((l.length / 2 : Nat) : Int) - 1) : Int), Ms_l) hs9 ?_ ?_
 ·exact ⟨rfl, (by simpa using (hK.mono hG41 h_l)), om9, om9⟩
 rintro ⟨z, M_0⟩ gG46 G46 _ hG46 ⟨rfl, ho_0, hz1, hz2⟩
 try dsimp only at ho_0 hz1 hz2
 refine WC.fr (f := setL gG46 [(3, iV z), (2, nt9 ((l).length)), (0, x0)]) rfl (g9 7 ?_)
 refine WC.cd (fun h10 p10 => ?_) (fun h10 p10 => ?_)
 ·try dsimp only at p10
  obtain ⟨m, rfl⟩ : ∃ m : Nat, z = (m : Int) := ⟨z.toNat, om9⟩
  refine g9 8 ?_
  refine W.call (Mp := M_0) (hdown_fc hK ho_0 _ _ l.length om9 (by first | omega | (simp only [swapL_length]; omega)) om9) rfl pr9 ?_
  intro _ G47 Ms49 hG47 q48
  refine match q48 with | ⟨⟨_, e_52⟩, hR51⟩ => ?_
  subst e_52
  refine g9 9 ?_
  exact ⟨hG47, (((m : Int) - 1), Ms49), hs9, ⟨rfl, (by have h := hR51; rw [downL_id hh] at h; exact h), by dsimp only; omega, by dsimp only; omega⟩, by dsimp only; omega⟩
 try dsimp only at p10
 refine g9 4 ?_
 refine ⟨.inl rfl, [], trivial, M_0, List.sublist_append_left _ _, ?_⟩
 refine ⟨rfl, ?_⟩
 exact ho_0

theorem llen_fc {G : GH} {v_l : Value} {l : List Int} {Ms_l : MH} (h_l : OwnR eInt 3 G v_l l Ms_l) :
    Fc Tryz.prog 212 [v_l] G Ms_l (fun v _ M' => v = iV ((l.length : Int)) ∧ Ms_l = M') := by
 refine Fc.go [.tmp 2] Tryz.func212 Tryz.ntmps212 rfl (fun w0 => (WC.perm (M' := (Ms_l ++ [])) (by simp) (g9 13 ?_)))
 refine ⟨.inr rfl, [_], ⟨rfl, trivial⟩, Ms_l, List.sublist_append_left _ _, ?_⟩
 exact ⟨rfl, rfl⟩

theorem lless_fc {G : GH} {v_l : Value} {l : List Int} {Ms_l : MH} (h_l : OwnR eInt 3 G v_l l Ms_l) (i : Nat) (j : Nat) (hi : i < l.length) (hj : j < l.length) :
    Fc Tryz.prog 213 [v_l, nt9 i, nt9 j] G Ms_l (fun v _ M' => v = .bool (decide (nth l i < nth l j)) ∧ Ms_l = M') := by
 have hl := h_l.len47
 refine Fc.go [.tmp 6] Tryz.func213 Tryz.ntmps213 rfl (fun w0 => (WC.perm (M' := (Ms_l ++ [])) (by simp) (g9 9 ?_)))
 refine h_l.a2 (i := i) om9 (fun he1 hi2 => (W.ok (ok_indexAddrO (i := i) sl123 ty3 h_l rfl rfl ⟨om9, om9⟩) (W.ok (ok_loadO (vs := ic9) ty3 he1 pr9 rfl rfl rfl (by simp)) (g9 2 ?_))))
 refine h_l.a2 (i := j) om9 (fun he5 hi6 => (W.ok (ok_indexAddrO (i := j) sl123 ty3 h_l rfl rfl ⟨om9, om9⟩) (W.ok (ok_loadO (vs := ic9) ty3 he5 pr9 rfl rfl rfl (by simp)) (g9 5 ?_))))
 refine ⟨.inr rfl, [_], ⟨rfl, trivial⟩, Ms_l, List.sublist_append_left _ _, ?_⟩
 exact ⟨by rw [nth_lt hi, nth_lt hj]; rfl, rfl⟩

theorem lswap_fc {G : GH} {v_l : Value} {l : List Int} {Ms_l : MH} (h_l : OwnR eInt 3 G v_l l Ms_l) (i : Nat) (j : Nat) (hi : i < l.length) (hj : j < l.length) :
    Fc Tryz.prog 214 [v_l, nt9 i, nt9 j] G Ms_l (fun v G' M' => v = .tuple #[] ∧ OwnR eInt 3 G' v_l (swapL l i j) M') := by
 have hl := h_l.len47
 have ho_i : i64 l[i] := by obtain ⟨_, _, _, h⟩ := h_l.at hi; exact h
 have ho_j : i64 l[j] := by obtain ⟨_, _, _, h⟩ := h_l.at hj; exact h
 have hls : (l.set i l[j]).length = l.length := List.length_set ..
 refine Fc.go [] Tryz.func214 Tryz.ntmps214 rfl (fun w0 => (WC.perm (M' := (Ms_l ++ [])) (by simp) (WC.dw sn9 (d9 [0, 1, 2, 3, 4, 5] ?_))))
 refine h_l.a2 (i := j) om9 (fun he9 hi10 => (WD.tk 6 rfl (ok_indexAddrO (i := j) sl123 ty3 h_l rfl rfl ⟨om9, om9⟩) (d9 [8, 9] ?_)))
 refine h_l.a2 (i := i) om9 (fun he13 hi14 => (WD.tk 10 rfl (ok_indexAddrO (i := i) sl123 ty3 h_l rfl rfl ⟨om9, om9⟩) ?_))
 refine WD.any [7, 11] (by kernel_rfl) rfl ⟨WD.ap ?_, WD.ap ?_, trivial⟩
 ·refine W.ok (ok_loadO (vs := ic9) ty3 he9 pr9 rfl rfl rfl (by simp)) (W.nn (WD.a1 11 rfl (W.ok (ok_loadO (vs := ic9) ty3 he13 pr9 rfl rfl rfl (by simp)) (W.nn (h_l.a2 (i := i) om9 (fun he17 hi18 => (WD.tk 12 rfl (ok_indexAddrO (i := i) sl123 ty3 h_l rfl rfl ⟨om9, om9⟩) (WD.a1 13 rfl (W.storeO (i := i) (o := 0) (vs := ic9) (a' := l[j]) ty3 rfl rfl rfl rfl rfl (h_l) pr9 om9 (by decide) (fun cs h => by rw [h.1]; exact ⟨rfl, ho_j⟩) (fun Ms21 ho22 => (W.nn (ho22.a2 (i := j) om9 (fun he23 hi24 => (WD.tk 14 rfl (ok_indexAddrO (i := j) sl123 ty3 ho22 rfl rfl ⟨om9, om9⟩) (WD.a1 15 rfl (W.storeO (i := j) (o := 0) (vs := ic9) (a' := l[i]) ty3 rfl rfl rfl rfl rfl (ho22) pr9 om9 (by decide) (fun cs h => by rw [h.1]; exact ⟨rfl, ho_i⟩) (fun Ms27 ho28 => ?_)))))))))))))))))
  refine W.nn (WD.done (by kernel_rfl) ?_)
  refine ⟨.inl rfl, [], trivial, (Ms27 ++ []), sr9, ?_⟩
  have h := ho28
  refine ⟨rfl, ?_⟩
  rw [swapL, nth_lt hi, nth_lt hj, List.append_nil]; exact h
 refine W.ok (ok_loadO (vs := ic9) ty3 he13 pr9 rfl rfl rfl (by simp)) (W.nn (WD.a1 7 rfl (W.ok (ok_loadO (vs := ic9) ty3 he9 pr9 rfl rfl rfl (by simp)) (W.nn (h_l.a2 (i := i) om9 (fun he29 hi30 => (WD.tk 12 rfl (ok_indexAddrO (i := i) sl123 ty3 h_l rfl rfl ⟨om9, om9⟩) (WD.a1 13 rfl (W.storeO (i := i) (o := 0) (vs := ic9) (a' := l[j]) ty3 rfl rfl rfl rfl rfl (h_l) pr9 om9 (by decide) (fun cs h => by rw [h.1]; exact ⟨rfl, ho_j⟩) (fun Ms33 ho34 => (W.nn (ho34.a2 (i := j) om9 (fun he35 hi36 => (WD.tk 14 rfl (ok_indexAddrO (i := j) sl123 ty3 ho34 rfl rfl ⟨om9, om9⟩) (WD.a1 15 rfl (W.storeO (i := j) (o := 0) (vs := ic9) (a' := l[i]) ty3 rfl rfl rfl rfl rfl (ho34) pr9 om9 (by decide) (fun cs h => by rw [h.1]; exact ⟨rfl, ho_i⟩) (fun Ms39 ho40 => ?_)))))))))))))))))
 refine W.nn (WD.done (by kernel_rfl) ?_)
 refine ⟨.inl rfl, [], trivial, (Ms39 ++ []), sr9, ?_⟩
 have h := ho40
 refine ⟨rfl, ?_⟩
 rw [swapL, nth_lt hi, nth_lt hj, List.append_nil]; exact h

theorem lpop_fc {G : GH} {b_b : Nat} {Tb : TypeId} {c0 : Value} {c1 : Value} {v_l : Value} {l : List Int} {Ms_l : MH} (h_l : OwnR eInt 3 G v_l l Ms_l) (h0 : 0 < l.length) :
    Fc Tryz.prog 215 [.pointer (some ⟨b_b, 2, none⟩)] G ((b_b, ce9 Tb [c0, c1, v_l]) :: (Ms_l)) (fun v G' M' => v = .iface 3 (iV (nth l (l.length - 1))) ∧ i64 (nth l (l.length - 1)) ∧ ∃ v' Ms', M' = (b_b, ce9 Tb [c0, c1, v']) :: Ms' ∧ OwnR eInt 3 G' v' (l.take (l.length - 1)) Ms') := by
 obtain ⟨sa_l, sc_l, rfl⟩ := h_l.form
 have hl := h_l.len47
 have hlast : nth l (l.length - 1) = l[l.length - 1] := nth_lt om9
 have ho_z : i64 l[l.length - 1] := by obtain ⟨_, _, _, h⟩ := h_l.at (i := l.length - 1) om9; exact h
 refine Fc.go [.tmp 2] Tryz.func215 Tryz.ntmps215 rfl (fun w0 => (WC.perm (M' := ((b_b, ce9 Tb [c0, c1, lV sa_l l.length sc_l]) :: (Ms_l ++ []))) (by simp) (g9 11 ?_)))
 refine W.ok (Ok.int (n := ((l.length - 1 : Nat) : Int)) (ok_sub rfl rfl om9) om9) (g9 9 ?_)
 refine h_l.a2 (i := l.length - 1) om9 (fun he41 hi42 => (W.ok (ok_indexAddrO (i := l.length - 1) sl123 ty3 h_l rfl rfl ⟨om9, om9⟩) (W.ok (ok_loadO (vs := ic9) ty3 he41 (pmC pr9) rfl rfl rfl (by simp)) (g9 10 ?_))))
 refine W.shortO (l.length - 1) sl123 ty3 h_l rfl ⟨_, _, rfl, om9⟩ om9 (fun v45 ho46 => ?_)
 have q50 := ho46.form
 refine match q50 with | ⟨sa47, sc48, e_49⟩ => ?_
 subst e_49
 refine g9 7 ?_
 refine W.ok (ok_mkI pi3 rfl) (g9 4 ?_)
 refine ⟨.inr rfl, [_], ⟨rfl, trivial⟩, ((b_b, ce9 Tb [c0, c1, lV sa47 (((l).take (l.length - 1))).length sc48]) :: (Ms_l ++ [])), sr9.k9, ?_⟩
 exact ⟨by rw [hlast]; rfl, by rw [hlast]; exact ho_z, _, _, congrArg _ (List.append_nil _), ho46⟩


abbrev LeastR (b : Nat) (Tb : TypeId) (c0 c1 : Value) (G : GH) (l : List Int) (M : MH) : Prop := ∃ v Ms, M = (b, ce9 Tb [c0, c1, v]) :: Ms ∧ OwnR eInt 3 G v l Ms
theorem least_heap {b : Nat} {Tb : TypeId} {c0 c1 : Value} : HeapK Tryz.prog (fun a b : Int => decide (a < b)) (.iface 144 (.pointer (some ⟨b, 2, none⟩))) (LeastR b Tb c0 c1) (fun _ u a => u = .iface 3 (iV a) ∧ i64 a) False where
  mono := fun hl ⟨v, Ms, h1, h2⟩ => ⟨v, Ms, h1, h2.mono hl⟩
  bound := fun ⟨v, Ms, h1, h2⟩ => h2.len47
  len := fun {G l M} ⟨v, Ms, h1, h2⟩ => by
    subst h1
    exact Inv.val (e := 123) (by kernel_rfl) (by kernel_rfl) rfl (llen_fc h2) (fun v' G' M' hl ⟨e1, e2⟩ => ⟨e1, by rw [← e2]⟩)
  less := fun {G l M i j} ⟨v, Ms, h1, h2⟩ hi hj => by
    subst h1
    exact Inv.val (e := 123) (by kernel_rfl) (by kernel_rfl) rfl (lless_fc h2 i j hi hj) (fun v' G' M' hl ⟨e1, e2⟩ => ⟨e1, by rw [← e2]⟩)
  swap := fun {G l M i j} ⟨v, Ms, h1, h2⟩ hi hj => by
    subst h1
    exact Inv.val (e := 123) (by kernel_rfl) (by kernel_rfl) rfl (lswap_fc h2 i j hi hj) (fun v' G' M' hl ⟨e1, e2⟩ => ⟨e1, v, M', rfl, e2⟩)
  push := fun h => h.elim
  pop := fun {G l M} ⟨v, Ms, h1, h2⟩ h0 => by
    subst h1
    exact Inv.ptr (g := 215) (by kernel_rfl) (lpop_fc h2 h0) (fun v' G' M' hl ⟨e1, e4, v2, M2, e2, e3⟩ => ⟨⟨e1, e4⟩, v2, M2, e2, e3⟩)
end Go.Proofs.YtfmigmijckdldaaGreat
