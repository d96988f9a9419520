/- What rows, leaves and merges compute, as plain functions, and their laws. Plain Lean; nothing of the program is named here. No condition. -/
import Derived.Test.YtmbafmifalppaaaGreatQcMh
set_option linter.unusedVariables false
set_option linter.unusedSimpArgs false
set_option linter.unnecessarySimpa false
set_option maxRecDepth 100000
set_option maxHeartbeats 1600000

namespace Go.Fw
theorem isSome_getD {α : Type} {o : Option α} {d : α} (h : o.isSome = true) : o = some (o.getD d) := by cases o <;> simp_all
def effR (e : Eff) : Bool := if e.kind = 1 ∨ e.kind = 2 then decide (e.val.b.size ≤ 16) else (decide (e.kind = 0) || decide (e.kind = 3)) && decide (e.val = Str.nil)
def fitsN (l : List Pair) (k : Str) (e : Eff) (n : Int) : Bool := (getN l k).isSome || !(decide (e.kind = 1) || decide (e.kind = 2)) || decide ((l.length : Int) < n)
def rowWithN (l : List Pair) (k : Str) (e : Eff) (n : Int) : List Pair × Bool := if fitsN l k e n = true then (withN l k e, true) else ([], false)
def lfitsN (l : List Pair) (m : Msg) (n : Int) : Bool := decide (m.kind = 4) || fitsN l m.key (m.on m.key) n
def rfits20N (l : List Pair) (m : Msg) (n : Int) : Bool := decide (3 ≤ m.kind) || (getN l m.key).isSome || decide ((l.length : Int) < n)
theorem Msg.has_key {m : Msg} (h : m.R) : m.span.has m.key = true := by
 unfold Msg.R at h
 obtain ⟨h1, h2⟩ := h
 unfold Msg.span
 by_cases hk : m.kind = 4
 ·rw [if_pos hk] at h2 ⊢
  have h3 := h2.2.2
  rw [Msg.span, if_pos hk] at h3
  have := Span.empty_eq ⟨m.key, m.hi, m.opn⟩
  rw [h3] at this
  simpa using this
 ·rw [if_neg hk, point_has (by omega)]; simp
theorem lfits_eq {l : List Pair} {m : Msg} {n : Int} (h : m.R) : lfitsN l m n = rfits20N l m n := by
 have hk := Msg.has_key h
 unfold Msg.R at h
 obtain ⟨h1, h2⟩ := h
 unfold lfitsN rfits20N fitsN Msg.on
 rw [hk]
 by_cases h4 : m.kind = 4
 ·simp [h4]
 ·rw [if_neg h4] at h2
  rcases h2.2.2 with h5 | h5 | ⟨h5, _⟩ <;> rw [h5] <;> simp
def leafTakeN (l : List Pair) (m : Msg) (n : Int) : List Pair × Bool := if lfitsN l m n = true then (takeN l m, true) else ([], false)
theorem leafTakeN_t {l : List Pair} {m : Msg} {n : Int} (h : lfitsN l m n = true) : leafTakeN l m n = (takeN l m, true) := if_pos h
theorem leafTakeN_f {l : List Pair} {m : Msg} {n : Int} (h : lfitsN l m n = false) : leafTakeN l m n = ([], false) := if_neg (by simp [h])
def drainN (n : Int) : List Pair → List Msg → List Pair × Nat
 | l, [] => (l, 0)
 | l, m :: ms => if lfitsN l m n = true then ((drainN n (takeN l m) ms).1, (drainN n (takeN l m) ms).2 + 1) else (l, 0)
theorem drain_le (n : Int) : ∀ (ms : List Msg) (l : List Pair), (drainN n l ms).2 ≤ ms.length
 | [], l => by simp [drainN]
 | m :: ms, l => by
  unfold drainN; split
  ·have := drain_le n ms (takeN l m); simp; exact this
  ·simp
theorem drain_fold (n : Int) : ∀ (ms : List Msg) (l : List Pair), (drainN n l ms).1 = foldN l (ms.take (drainN n l ms).2)
 | [], l => by simp [drainN, foldN]
 | m :: ms, l => by
  unfold drainN; split
  ·rw [drain_fold n ms (takeN l m)]; simp [foldN]
  ·simp [foldN]
theorem drain_step {n : Int} {l : List Pair} {ms : List Msg} {k : Nat} (hk : k < ms.length) (h : lfitsN (foldN l (ms.take k)) ms[k] n = true) :
  drainN n (foldN l (ms.take k)) (ms.drop k) = ((drainN n (foldN l (ms.take (k + 1))) (ms.drop (k + 1))).1, (drainN n (foldN l (ms.take (k + 1))) (ms.drop (k + 1))).2 + 1) := by
 rw [List.drop_eq_getElem_cons hk, drainN, if_pos h, foldN_succ hk]
theorem drain_stop {n : Int} {l : List Pair} {ms : List Msg} {k : Nat} (hk : k < ms.length) (h : lfitsN (foldN l (ms.take k)) ms[k] n = false) :
  drainN n (foldN l (ms.take k)) (ms.drop k) = (foldN l (ms.take k), 0) := by
 rw [List.drop_eq_getElem_cons hk, drainN, if_neg (by simp [h])]
def DrainAt (n : Int) (l : List Pair) (ms : List Msg) (k : Nat) : Prop := drainN n l ms = ((drainN n (foldN l (ms.take k)) (ms.drop k)).1, k + (drainN n (foldN l (ms.take k)) (ms.drop k)).2)
theorem DrainAt.zero (n : Int) (l : List Pair) (ms : List Msg) : DrainAt n l ms 0 := by simp [DrainAt, foldN]
theorem DrainAt.succ {n : Int} {l : List Pair} {ms : List Msg} {k : Nat} (h : DrainAt n l ms k) (hk : k < ms.length) (hf : lfitsN (foldN l (ms.take k)) ms[k] n = true) : DrainAt n l ms (k + 1) := by
 unfold DrainAt at h ⊢
 rw [h, drain_step hk hf]
 simp only [Prod.mk.injEq, true_and]; omega
theorem DrainAt.stop {n : Int} {l : List Pair} {ms : List Msg} {k : Nat} (h : DrainAt n l ms k) (hk : k < ms.length) (hf : lfitsN (foldN l (ms.take k)) ms[k] n = false) : drainN n l ms = (foldN l (ms.take k), k) := by
 unfold DrainAt at h
 rw [h, drain_stop hk hf]; rfl
theorem DrainAt.all {n : Int} {l : List Pair} {ms : List Msg} {k : Nat} (h : DrainAt n l ms k) (hk : ms.length ≤ k) : drainN n l ms = (foldN l ms, k) := by
 unfold DrainAt at h
 rw [h, List.drop_eq_nil_of_le hk, List.take_of_length_le hk]; rfl
theorem msgR_sizes {m : Msg} (h : m.R) : m.key.b.size ≤ 16 ∧ m.val.b.size ≤ 16 := ⟨h.1.2.1, h.1.2.2.1⟩
def Msg.fit (m : Msg) : Prop := m.key.b.size ≤ 1000 ∧ (m.kind = 4 ∨ m.key.b.size ≤ 16) ∧ m.val.b.size ≤ 16
theorem fit_of {m : Msg} (h : m.key.b.size ≤ 16 ∧ m.val.b.size ≤ 16) : m.fit := ⟨by omega, .inr h.1, h.2⟩
theorem PairsR.takeF {l : List Pair} {m : Msg} (h : PairsR l) (hf : m.fit) : PairsR (takeN l m) := by
 unfold takeN
 split
 ·exact h.filter _
 ·rename_i h4
  exact h.with (hf.2.1.resolve_left h4) (on_val _ hf.2.2)
theorem PairsR.foldF {ms : List Msg} : ∀ {l : List Pair}, PairsR l → (∀ m ∈ ms, m.fit) → PairsR (foldN l ms) := by
 induction ms with
 | nil => exact fun h _ => h
 | cons m ms ih => exact fun h hm => ih (h.takeF (hm m (by simp))) (fun m h => hm m (by simp [h]))
theorem fold_lenF {l : List Pair} {ms : List Msg} (h : PairsR l) (hm : ∀ m ∈ ms, m.fit) : (foldN l ms).length ≤ l.length + ms.length := by
 induction ms generalizing l with
 | nil => simp [foldN]
 | cons m ms ih =>
  have h1 := ih (h.takeF (hm m (by simp))) (fun m h => hm m (by simp [h]))
  have h2 := h.take_len m
  simp only [foldN, List.foldl_cons, List.length_cons] at h1 ⊢; omega
theorem meet_has (a b : Span) (k : Str) : (a.meet b).has k = (a.has k && b.has k) := by
 unfold Span.meet
 rw [norm_has]
 rw [Bool.eq_iff_iff]
 simp only [Span.has, Bool.and_eq_true, Bool.not_eq_true', Bool.or_eq_true]
 have hlo : (k.lt (if a.lo.lt b.lo = true then b.lo else a.lo) = false) ↔ (k.lt a.lo = false ∧ k.lt b.lo = false) := by
  by_cases h : a.lo.lt b.lo = true
  ·rw [if_pos h]
   refine ⟨fun h1 => ⟨?_, h1⟩, fun h1 => h1.2⟩
   cases h2 : k.lt a.lo
   ·rfl
   ·rw [Str.lt_trans h2 h] at h1; cases h1
  ·rw [if_neg h]
   refine ⟨fun h1 => ⟨h1, ?_⟩, fun h1 => h1.1⟩
   cases h2 : k.lt b.lo
   ·rfl
   ·rw [Str.lt_of_lt_of_le h2 (by simpa using h)] at h1; cases h1
 rw [hlo]
 cases ha : a.opn <;> cases hb : b.opn <;> simp
 ·by_cases h : b.hi.lt a.hi = true
  ·rw [if_pos h]
   grind [Str.lt_trans]
  ·rw [if_neg h]
   have h : b.hi.lt a.hi = false := by simpa using h
   have : ∀ {x : Str}, x.lt a.hi = true → x.lt b.hi = true := fun hx => Str.lt_of_lt_of_le hx h
   grind
 all_goals grind
theorem clips_cons (s : Span) (m : Msg) (ms : List Msg) : clips s (m :: ms) = if (m.clip s).2 = true then (m.clip s).1 :: clips s ms else clips s ms := by
 unfold clips; rw [List.filterMap_cons]; split <;> simp_all
theorem take_clip {l : List Pair} {m : Msg} {s : Span} (hr : Srt l) (hk : m.key.b.size < 140737488355328) : (if (m.clip s).2 = true then takeN (l.filter fun p => s.has p.key) (m.clip s).1 else l.filter fun p => s.has p.key) = (takeN l m).filter fun p => s.has p.key := by
 have hmh := fun k => meet_has m.span s k
 cases he : (m.span.meet s).empty
 ·by_cases h4 : m.kind = 4
  ·rw [clip_4 he h4, if_pos rfl]
   unfold takeN
   rw [if_pos h4, if_pos h4, List.filter_filter, List.filter_filter]
   congr 1
   funext p
   have e1 : Msg.span { m with key := (m.span.meet s).lo, hi := (m.span.meet s).hi, opn := (m.span.meet s).opn } = m.span.meet s := by rw [Msg.span, if_pos h4]
   rw [e1, hmh]
   cases s.has p.key <;> simp
  ·rw [clip_n he h4, if_pos rfl]
   unfold takeN
   rw [if_neg h4, if_neg h4]
   have hsp : ∀ x, m.span.has x = decide (x = m.key) := fun x => by rw [Msg.span, if_neg h4]; exact point_has hk
   have hin : s.has m.key = true := by
    have := Span.empty_eq (m.span.meet s)
    rw [he, hmh, hsp] at this
    simp only [Bool.not_eq_false', Bool.and_eq_true, decide_eq_true_eq] at this
    rw [← this.1]; exact this.2
   rw [withN_mid, withN_mid, getN_filter (fun k => s.has k), if_pos hin, List.filter_append, List.filter_append, List.filter_filter, List.filter_filter, List.filter_filter, List.filter_filter]
   congr 1
   ·congr 1
    ·congr 1; funext p; exact Bool.and_comm _ _
    ·cases Eff.apply (m.on m.key) (getN l m.key) <;> simp [midN, hin]
   ·congr 1; funext p; exact Bool.and_comm _ _
 ·rw [clip_e he]
  simp only [Bool.false_eq_true, if_false]
  have hno : ∀ k, m.span.has k = true → s.has k = false := fun k h1 => by
   have h2 := hmh k
   have h3 : (m.span.meet s).has k = false := by
    cases h : (m.span.meet s).has k
    ·rfl
    ·simp only [Span.empty, Bool.and_eq_true, Bool.not_eq_true'] at he
     simp only [Span.has, he.1, Bool.false_or, Bool.and_eq_true, Bool.not_eq_true'] at h
     rw [Str.lt_of_le_of_lt h.1 h.2] at he; cases he.2
   rw [h3, h1] at h2; simpa using h2.symm
  unfold takeN
  by_cases h4 : m.kind = 4
  ·rw [if_pos h4, List.filter_filter]
   refine List.filter_congr fun p _ => ?_
   cases h : m.span.has p.key
   ·simp
   ·rw [hno _ h]; rfl
  ·rw [if_neg h4]
   have hsp : ∀ x, m.span.has x = decide (x = m.key) := fun x => by rw [Msg.span, if_neg h4]; exact point_has hk
   have hout : s.has m.key = false := hno _ (by rw [hsp]; simp)
   rw [withN_mid, List.filter_append, List.filter_append]
   have e2 : (midN (Eff.apply (m.on m.key) (getN l m.key)) m.key).filter (fun p => s.has p.key) = [] := by
    cases Eff.apply (m.on m.key) (getN l m.key) <;> simp [midN, hout]
   rw [e2, List.append_nil, hr.front]
   cases hs : (getN l m.key).isSome
   ·rw [hr.back_no hs, ← List.filter_append, List.take_append_drop]
   ·have hh := hr.has m.key
    rw [hs] at hh
    obtain ⟨q1, q2⟩ := of_decide_eq_true hh.symm
    rw [hr.back_yes q1 q2]
    have e3 : l = l.take (fndN l m.key) ++ l[fndN l m.key] :: l.drop (fndN l m.key + 1) := by rw [← List.drop_eq_getElem_cons q1, List.take_append_drop]
    conv => lhs; rw [e3]
    rw [List.filter_append, List.filter_cons_of_neg (by rw [q2, hout]; simp)]
theorem view_fold {s : Span} : ∀ {ms : List Msg} {l : List Pair}, Srt l → (∀ m ∈ ms, m.key.b.size < 140737488355328) → foldN (l.filter fun p => s.has p.key) (clips s ms) = (foldN l ms).filter fun p => s.has p.key
 | [], l, _, _ => by simp [clips, foldN]
 | m :: ms, l, hr, hm => by
  have h1 := take_clip (s := s) hr (hm m (by simp))
  have hrt : Srt (takeN l m) := by
   unfold takeN; split
   ·exact hr.filter _
   ·exact hr.with _ _
  have h2 := view_fold (s := s) (ms := ms) hrt (fun m h => hm m (List.mem_cons_of_mem _ h))
  rw [clips_cons]
  show _ = (foldN (takeN l m) ms).filter _
  rw [← h2]
  split
  ·rename_i hc
   rw [if_pos hc] at h1
   rw [← h1]; rfl
  ·rename_i hc
   rw [if_neg hc] at h1
   rw [← h1]
end Go.Fw
namespace Go.Proofs.YtmbafmifalppaaaGreat
open Go Go.Fw Go.RowKit
theorem clonepo_fc {G : GH} {v_a : Value} {a : List Pair} (h_a : SlR ePair G v_a a) :
    Fc Tryz.prog 157 [v_a] G [] (fun v G' M' => OwnR ePair 120 G' v (a) M') := by
 obtain ⟨sa_a, sc_a, rfl⟩ := h_a.form
 have ha := h_a.bytes
 refine Fc.intro (rs := [.tmp 2]) cl157 Tryz.func157 rfl Tryz.ntmps157 rfl rfl (fun w0 => ?_)
 refine WC.seq (WC.region (W.as (W.nil (thn_n (WC.seq (WC.seq (WC.region (W.mv (W.ok (ok_eqlNil sl41 rfl rfl) (W.nil (thn_n ?_)))))))))))
 refine WC.cond (b := _) rfl (fun h4 => ?_) (fun h4 => ?_)
 ·have hn := SlR.isNone h_a h4
  subst hn
  refine WC.seq (WC.region (W.as (W.nil (thn_n (WC.ret (thn_r ?_))))))
  refine ⟨.inr rfl, [_], ⟨rfl, trivial⟩, [], sn9, ?_⟩
  exact OwnR.nil
 refine WC.skip (thn_n (WC.seq (WC.region (W.lit0 (e := ePair) sl41 ty120 zr120 rfl (fun v1 Ms2 ho3 => (W.mv (W.app (e := ePair) sl41 ty120 zr120 rfl by120 rfl rfl (ho3) (h_a) pr9 (by simpa using ha) (fun v4 Ms5 ho6 => (W.as (W.nil (thn_n (WC.ret ?_))))))))))))
 refine ⟨.inr rfl, [_], ⟨rfl, trivial⟩, Ms5, List.sublist_append_left _ _, ?_⟩
 have h := ho6
 rw [List.nil_append] at h
 exact h

theorem mwith_fc {G : GH} {v_l : Value} {l : List Pair} (h_l : SlR ePair G v_l l) (k : Str) (ek : Int) (ev : Str) (hP : PairsR l) (hn : l.length ≤ 1000000) (he : ev.b.size ≤ 1048576) :
    Fc Tryz.prog 227 [v_l, .string k.b, .agg #[.int .i64 ek, .string ev.b]] G [] (fun v G' M' => M' = [] ∧ ∃ u0, v = u0 ∧ SlR ePair G' u0 (withN l k (⟨ek, ev⟩ : Eff))) := by
 obtain ⟨sa_l, sc_l, rfl⟩ := h_l.form
 have hl := h_l.len47
 have hgv := hP.val k
 have hr := hP.srt
 have hh := hr.has k
 have hfl := fndN_le l k
 refine Fc.intro (rs := [.tmp 6]) cl227 Tryz.func227 rfl Tryz.ntmps227 rfl rfl (fun w0 => ?_)
 refine WC.seq (WC.region (W.box (L := [.int .i64 _, .string _]) rfl rfl (fun b7 => (W.as (W.nil (thn_n (WC.seq (WC.region (W.mv (W.mv (W.qcall (find_fc h_l _ (by assumption)) rfl (W.mv (W.ok (ok_extract rfl rfl) (W.ok (ok_extract rfl rfl) (W.as ?_)))))))))))))))
 refine W.as (W.nil (thn_n (WC.seq (WC.region (W.as (W.nil (thn_n (WC.seq (WC.seq (WC.region (W.mv (W.nil (thn_n ?_)))))))))))))
 refine WC.cond (b := _) rfl (fun h16_1 => ?_) (fun h16_1 => ?_)
 ·have hs1 : (getN l k).isSome = true := h16_1
  obtain ⟨q1, q2⟩ := of_decide_eq_true (hh.symm.trans hs1)
  have hvk := hr.val q1 q2
  refine WC.region (W.mv (W.mv ?_))
  have q10 := h_l.at (i := fndN l k) (q1)
  refine match q10 with | ⟨_, he8, e_9⟩ => ?_
  subst e_9
  refine W.ok (ok_indexAddr (i := fndN l k) sl41 ty120 h_l rfl rfl ⟨by omega, q1⟩) (W.ok (ok_fieldE fd120_1 rfl he8.form) (W.ok (ok_loadE (vs := [.string _]) ty9 he8 rfl rfl rfl (by simp)) (W.as (W.nil (thn_n (WC.seq (WC.region (W.mv (W.call (Mp := []) (clonepo_fc h_l) rfl pr9 ?_)))))))))
  rintro v12 G11 Ms13 hG11 ho14
  refine W.perm (pmC pr9).symm (W.as (W.nil (thn_n (WC.seq (WC.seq (WC.region (W.ok (ok_loadB (i := 0) (vs := [.int .i64 _, .string _]) ty242 rfl rfl rfl rfl (by simp)) (W.mv (W.mv (W.qcall (eapply_fc ek ev (getN l k).isSome l[fndN l k].val (by omega) (by rw [hvk] at hgv; simpa using Nat.le_trans hgv (by decide))) rfl (W.mv (W.ok (ok_extract rfl rfl) (W.ok (ok_extract rfl rfl) (W.as ?_))))))))))))))
  refine W.as (W.nil (thn_n (WC.block (WC.seq (WC.region (W.mv (W.mv ?_)))))))
  refine W.sp 36 rfl (fun h31_0 => ?_) (fun h31_0 => ?_)
  ·have hap : Eff.apply (⟨ek, ev⟩ : Eff) (getN l k) = some ((Eff.apply (⟨ek, ev⟩ : Eff) (optS (getN l k).isSome l[fndN l k].val)).getD Str.nil) := by
     rw [hs1, hvk] at *; simp only [optS, if_true] at *; exact isSome_getD h31_0
   refine W.yes (dj := 36) rfl rfl h31_0 (W.mv (W.ok (ok_pick_t rfl h31_0) (W.as (W.nil (thn_n (WC.cond_t rfl h16_1 (WC.region (W.mv (W.mv (W.mv ?_))))))))))
   have q17 := ho14.at (i := fndN l k) (q1)
   refine match q17 with | ⟨_, he15, e_16⟩ => ?_
   subst e_16
   refine W.ok (ok_indexAddrO (i := fndN l k) sl41 ty120 ho14 rfl rfl ⟨by omega, q1⟩) (W.ok (ok_fieldE fd120_1 rfl he15.form) (W.storeO (i := fndN l k) (o := 1) (vs := [.string _]) (a' := ⟨l[fndN l k].key, (((Eff.apply (⟨ek, ev⟩ : Eff) (optS (getN l k).isSome l[fndN l k].val))).getD Str.nil)⟩) ty9 rfl rfl rfl rfl rfl (ho14) (pmC pr9) (by omega) (by decide) (fun cs h => by rw [h]; rfl) (fun Ms18 ho19 => (W.perm (pmC pr9).symm (W.nil (blk_n (thn_n (WC.seq (WC.region (W.mv (W.as (W.nil (thn_n (WC.giveO ho19 (pmC pr9) (fun G20 hG20 hv20 => (WC.ret ?_))))))))))))))))
   refine ⟨.inr rfl, [_], ⟨rfl, trivial⟩, [], sn9, ?_⟩
   refine ⟨rfl, _, rfl, ?_⟩
   · have h := hv20; rw [with_set hr q1 q2 hap] at h; exact h
  have hap : Eff.apply (⟨ek, ev⟩ : Eff) (getN l k) = none := by
    rw [hs1, hvk] at *; simp only [optS, if_true] at *; simpa using h31_0
  refine W.no (dj := 36) rfl rfl h31_0 (W.ok (ok_pick_f rfl h31_0) (W.as (W.nil (thn_n (WC.cond_f rfl rfl (WC.seq (WC.region (W.mv (W.as (W.nil (thn_n (WC.cond_f rfl h31_0 (WC.seq (WC.region (W.mv ?_)))))))))))))))
  refine W.as (W.nil (thn_n (WC.cond_t rfl h16_1 (WC.region (W.mv (W.mv (W.mv (W.ok (Ok.int (n := ((fndN l k + 1 : Nat) : Int)) (ok_add rfl rfl (by omega)) (by omega)) (W.call (Mp := Ms13) (delp_fc ho14 _ _ (by first | assumption | omega)) rfl (pmC pr9) ?_)))))))))
  rintro v22 G21 Ms23 hG21 ho24
  refine W.perm (pmC pr9).symm (W.as (W.nil (blk_n (thn_n (WC.seq (WC.region (W.mv (W.as (W.nil (thn_n (WC.giveO ho24 (pmC pr9) (fun G25 hG25 hv25 => (WC.ret ?_)))))))))))))
  refine ⟨.inr rfl, [_], ⟨rfl, trivial⟩, [], sn9, ?_⟩
  refine ⟨rfl, _, rfl, ?_⟩
  · have h := hv25; rw [with_del hr q1 q2 hap] at h; exact h
 have hn0 : (getN l k).isSome = false := h16_1
 have hnn : getN l k = none := by simpa using hn0
 refine WC.skip (thn_n (WC.seq (WC.region (W.mv (W.call (Mp := []) (clonepo_fc h_l) rfl pr9 ?_)))))
 rintro v27 G26 Ms28 hG26 ho29
 refine W.perm (pmC pr9).symm (W.as (W.nil (thn_n (WC.seq (WC.seq (WC.region (W.ok (ok_loadB (i := 0) (vs := [.int .i64 _, .string _]) ty242 rfl rfl rfl rfl (by simp)) (W.mv (W.mv (W.qcall (eapply_fc ek ev (getN l k).isSome Str.nil (by omega) (by show (ByteArray.mk #[]).size ≤ _; decide)) rfl (W.mv (W.ok (ok_extract rfl rfl) (W.ok (ok_extract rfl rfl) (W.as ?_))))))))))))))
 refine W.as (W.nil (thn_n (WC.block (WC.seq (WC.region (W.mv (W.mv ?_)))))))
 refine W.sp 36 rfl (fun h31_0 => ?_) (fun h31_0 => ?_)
 ·have hap : Eff.apply (⟨ek, ev⟩ : Eff) (getN l k) = some ((Eff.apply (⟨ek, ev⟩ : Eff) (optS (getN l k).isSome Str.nil)).getD Str.nil) := by
    rw [hn0, hnn] at *; simp only [optS] at *; exact isSome_getD h31_0
  refine W.yes (dj := 36) rfl rfl h31_0 (W.mv (W.ok (ok_pick_t rfl h31_0) (W.as (W.nil (thn_n (WC.cond_f rfl h16_1 (WC.seq (WC.region (W.mv (W.as (W.nil (thn_n (WC.cond_t rfl h31_0 (WC.region (W.mv ?_)))))))))))))))
  refine W.mv (W.mv (W.mv (W.ok (ok_build (L := [.string _, .string _]) pl120 zr120 rfl rfl rfl) (W.litO (e := ePair) (l := [⟨k, (((Eff.apply (⟨ek, ev⟩ : Eff) (optS (getN l k).isSome Str.nil))).getD Str.nil)⟩]) (css := [[.string _, .string _]]) sl41 ty120 zr120 rfl rfl rfl rfl rfl rfl ⟨rfl, trivial⟩ (fun v30 Ms31 ho32 => (W.perm (pmC pr9).symm (W.call (Mp := Ms28 ++ Ms31) (insp_fc ho29 _ ho32 (by first | assumption | omega) (by first | assumption | omega | simp) (by first | assumption | omega | (simp; omega))) rfl ((List.Perm.of_eq (List.append_assoc _ _ _)).trans ((List.Perm.append_left _ (pmC pr9)).trans (pmC (pmA pr9)))) ?_)))))))
  rintro v34 G33 Ms35 hG33 ho36
  refine W.perm (pmC pr9).symm (W.as (W.nil (blk_n (thn_n (WC.seq (WC.region (W.mv (W.as (W.nil (thn_n (WC.giveO ho36 (pmC pr9) (fun G37 hG37 hv37 => (WC.ret ?_)))))))))))))
  refine ⟨.inr rfl, [_], ⟨rfl, trivial⟩, [], sn9, ?_⟩
  refine ⟨rfl, _, rfl, ?_⟩
  · have h := hv37; rw [with_ins hr hn0 hap] at h; exact h
 have hap : Eff.apply (⟨ek, ev⟩ : Eff) (getN l k) = none := by
   rw [hn0, hnn] at *; simp only [optS] at *; simpa using h31_0
 refine W.no (dj := 36) rfl rfl h31_0 (W.ok (ok_pick_f rfl h31_0) (W.as (W.nil (thn_n (WC.cond_f rfl rfl (WC.seq (WC.region (W.mv (W.as (W.nil (thn_n (WC.cond_f rfl h31_0 (WC.seq (WC.region (W.mv ?_)))))))))))))))
 refine W.as (W.nil (thn_n (WC.cond_f rfl h16_1 (WC.skip (blk_n (thn_n (WC.seq (WC.region (W.mv (W.as (W.nil (thn_n (WC.giveO ho29 (pmC pr9) (fun G38 hG38 hv38 => (WC.ret ?_)))))))))))))))
 refine ⟨.inr rfl, [_], ⟨rfl, trivial⟩, [], sn9, ?_⟩
 refine ⟨rfl, _, rfl, ?_⟩
 · have h := hv38; rw [with_not hr hn0 hap] at h; exact h

end Go.Proofs.YtmbafmifalppaaaGreat
namespace Go.Proofs.YtmbafmifalppaaaGreat
open Go Go.Fw Go.RowKit
theorem rwith_fc {G : GH} {v_l : Value} {l : List Pair} (h_l : SlR ePair G v_l l) (k : Str) (ek : Int) (ev : Str) (hP : PairsR l) (hn : l.length ≤ 1000000) (he : ev.b.size ≤ 1048576) :
    Fc Tryz.prog 191 [v_l, .string k.b, .agg #[.int .i64 ek, .string ev.b]] G [] (fun v G' M' => M' = [] ∧ ∃ u0, v = u0 ∧ SlR ePair G' u0 (withN l k (⟨ek, ev⟩ : Eff))) := by
 obtain ⟨sa_l, sc_l, rfl⟩ := h_l.form
 have hl := h_l.len47
 have hgv := hP.val k
 refine Fc.intro (rs := [.tmp 6]) cl191 Tryz.func191 rfl Tryz.ntmps191 rfl rfl (fun w0 => ?_)
 refine WC.seq (WC.region (W.box (L := [.int .i64 _, .string _]) rfl rfl (fun b1 => (W.as (W.nil (thn_n (WC.seq (WC.region (W.as (W.nil (thn_n (WC.seq (WC.seq (WC.region (W.as (W.nil (thn_n ?_)))))))))))))))))
 refine WC.block ?_
 refine WC.loop (X := (Nat) × Value × MH) (fun i => [(8, .int .i64 ((i.1 : Nat) : Int)), (5, .pointer (some ⟨b1, 0, none⟩)), (0, .slice sa_l l.length sc_l), (1, .string k.b), (7, i.2.1)]) (fun i G Ml => Ml = ((b1, .cells (List.toArray [.int .i64 ek, .string ev.b]) 242 (0, 0)) :: (i.2.2 ++ [])) ∧ OwnR ePair 120 G i.2.1 (List.filter (fun p : Pair => p.key.lt k) (l.take i.1)) i.2.2 ∧ i.1 ≤ l.length) (fun i => l.length - i.1) (0, .slice none 0 0, ([] : MH)) ⟨eqv, eqv, eqv, eqv, eqv, trivial⟩ ?_ ?_
 ·exact ⟨rfl, (by simpa using OwnR.nil), by omega⟩
 rintro ⟨i, v_7, M_7⟩ gG2 G2 _ hG2 ⟨rfl, ho_7, hi⟩
 try dsimp only at ho_7 hi
 have hfl := filt_le (fun p : Pair => p.key.lt k) l i
 refine WC.fr (f := setL gG2 [(8, .int .i64 ((i : Nat) : Int)), (5, .pointer (some ⟨b1, 0, none⟩)), (0, .slice sa_l l.length sc_l), (1, .string k.b), (7, v_7)]) rfl (WC.seq (WC.seq (WC.region (W.mv (W.mv (W.ok (ok_len sl41 (h_l.mono hG2) rfl) (W.ok (ok_lss rfl rfl) (W.nil (thn_n ?_)))))))))
 refine WC.cond (b := _) rfl (fun h17 => ?_) (fun h17 => ?_)
 ·have p17 := of_decide_eq_true h17
  refine WC.skip (thn_n (WC.seq (WC.block (WC.seq (WC.region (W.mv (W.mv ?_)))))))
  have q5 := (h_l.mono hG2).at (i := i) (by omega)
  refine match q5 with | ⟨_, he3, e_4⟩ => ?_
  subst e_4
  refine W.ok (ok_indexAddr (i := i) sl41 ty120 (h_l.mono hG2) rfl rfl ⟨by omega, by omega⟩) (W.ok (ok_fieldE fd120_0 rfl he3.form) (W.ok (ok_loadE (vs := [.string _]) ty9 he3 rfl rfl rfl (by simp)) (W.mv (W.qcall (less_fc _ _) rfl (W.nil (thn_n ?_))))))
  refine WC.cond (b := _) rfl (fun h26 => ?_) (fun h26 => ?_)
  ·refine WC.region (W.mv (W.mv (W.mv ?_)))
   have q8 := (h_l.mono hG2).at (i := i) (by omega)
   refine match q8 with | ⟨_, he6, e_7⟩ => ?_
   subst e_7
   refine W.ok (ok_indexAddr (i := i) sl41 ty120 (h_l.mono hG2) rfl rfl ⟨by omega, by omega⟩) (W.ok (ok_loadE (vs := [.string _, .string _]) ty120 he6 rfl rfl rfl (by simp)) (W.lit (e := ePair) (l := [((l)[i])]) (css := [[.string _, .string _]]) sl41 ty120 zr120 rfl rfl rfl rfl rfl rfl ⟨rfl, trivial⟩ (fun bl9 G9 hG9 hv9 => (W.app (e := ePair) sl41 ty120 zr120 rfl by120 rfl rfl ((ho_7.mono hG9)) (hv9) (pmC pr9) (by show (_ + 1) * 32 ≤ _; (try simp only [List.length_append] at *); omega) (fun v10 Ms11 ho12 => (W.perm (pmC pr9).symm (W.as (W.nil (blk_n (thn_n (WC.region (W.mv (W.ok (ok_add rfl rfl (by omega)) (W.as (W.nil (thn_n ?_))))))))))))))))
   exact ⟨hG9, (i + 1, v10, Ms11), ⟨eqv, eqv, eqv, eqv, eqv, trivial⟩, ⟨rfl, (by have h := ho12; rw [filt_t (p := (fun p : Pair => p.key.lt k)) (by omega) (by simpa using h26)]; exact h), by omega⟩, by omega⟩
  refine WC.skip (blk_n (thn_n (WC.region (W.mv (W.ok (ok_add rfl rfl (by omega)) (W.as (W.nil (thn_n ?_))))))))
  exact ⟨Le.rfl, (i + 1, v_7, M_7), ⟨eqv, eqv, eqv, eqv, eqv, trivial⟩, ⟨rfl, (by have h := ho_7; rw [filt_f (p := (fun p : Pair => p.key.lt k)) (by omega) (by simpa using h26)]; exact h), by omega⟩, by omega⟩
 have p17 := of_decide_eq_false h17
 refine WC.exit (thn_x (thn_x (blk_h (thn_n (WC.seq (WC.region (W.mv (W.mv (W.qcall (rget_fc (h_l.mono hG2) _) rfl (W.mv (W.ok (ok_extract rfl rfl) (W.ok (ok_extract rfl rfl) (W.as (W.as (W.nil (thn_n (WC.seq (WC.region ?_))))))))))))))))))
 refine W.ok (ok_loadB (i := 0) (vs := [.int .i64 _, .string _]) ty242 rfl rfl rfl rfl (by simp)) (W.mv (W.mv (W.qcall (rapply_fc _ _ _ _ (by first | assumption | omega | (dsimp only; omega) | (simp; omega)) (by first | assumption | omega | (dsimp only; omega) | (simp; omega))) rfl (W.mv (W.ok (ok_extract rfl rfl) (W.ok (ok_extract rfl rfl) (W.as (W.as (W.nil (thn_n (WC.seq (WC.seq (WC.region (W.mv ?_))))))))))))))
 refine W.nil (thn_n ?_)
 refine WC.cond (b := _) rfl (fun h44_0 => ?_) (fun h44_0 => ?_)
 ·refine WC.region (W.mv (W.mv (W.mv (W.ok (ok_build (L := [.string _, .string _]) pl120 zr120 rfl rfl rfl) (W.lit (e := ePair) (l := [⟨k, (((Eff.apply (⟨(ek), (ev)⟩ : Eff) (optS (((getN (l) (k)).isSome)) (((getN (l) (k)).getD Str.nil))))).getD Str.nil)⟩]) (css := [[.string _, .string _]]) sl41 ty120 zr120 rfl rfl rfl rfl rfl rfl ⟨rfl, trivial⟩ (fun bl13 G13 hG13 hv13 => (W.app (e := ePair) sl41 ty120 zr120 rfl by120 rfl rfl ((ho_7.mono hG13)) (hv13) (pmC pr9) (by show (_ + 1) * 32 ≤ _; (try simp only [List.length_append] at *); omega) (fun v14 Ms15 ho16 => (W.perm (pmC pr9).symm (W.as (W.nil (thn_n (WC.seq (WC.seq (WC.region (W.as ?_))))))))))))))))
  refine W.nil (thn_n (WC.block ?_))
  refine WC.loop (X := (Nat) × Value × MH) (fun i => [(13, .int .i64 ((i.1 : Nat) : Int)), (0, .slice sa_l l.length sc_l), (1, .string k.b), (7, i.2.1)]) (fun i G Ml => Ml = ((b1, .cells (List.toArray [.int .i64 ek, .string ev.b]) 242 (0, 0)) :: (i.2.2 ++ [])) ∧ OwnR ePair 120 G i.2.1 ((List.filter (fun p : Pair => p.key.lt k) l ++ midN (Eff.apply (⟨ek, ev⟩ : Eff) (getN l k)) k) ++ List.filter (fun p : Pair => k.lt p.key) (l.take i.1)) i.2.2 ∧ i.1 ≤ l.length) (fun i => l.length - i.1) (0, v14, Ms15) ⟨eqv, eqv, eqv, eqv, trivial⟩ ?_ ?_
  ·exact ⟨rfl, (by have h := ho16; rw [List.take_of_length_le (by omega)] at h; have hs := h44_0; rw [optS_get] at hs; rw [midN_some hs]; rw [optS_get] at h; simpa using h), by omega⟩
  rintro ⟨i, v_7, M_7⟩ gG17 G17 _ hG17 ⟨rfl, ho_7, hi⟩
  try dsimp only at ho_7 hi
  have hfl := filt_le (fun p : Pair => k.lt p.key) l i
  have hfl2 := List.length_filter_le (fun p : Pair => p.key.lt k) l
  have hml := midN_le (Eff.apply (⟨ek, ev⟩ : Eff) (getN l k)) k
  refine WC.fr (f := setL gG17 [(13, .int .i64 ((i : Nat) : Int)), (0, .slice sa_l l.length sc_l), (1, .string k.b), (7, v_7)]) rfl (WC.seq (WC.seq (WC.region (W.mv (W.mv (W.ok (ok_len sl41 (h_l.mono ((hG2.trans hG13).trans hG17)) rfl) (W.ok (ok_lss rfl rfl) (W.nil (thn_n ?_)))))))))
  refine WC.cond (b := _) rfl (fun h57 => ?_) (fun h57 => ?_)
  ·have p57 := of_decide_eq_true h57
   refine WC.skip (thn_n (WC.seq (WC.block (WC.seq (WC.region (W.mv (W.mv (W.mv ?_))))))))
   have q20 := (h_l.mono ((hG2.trans hG13).trans hG17)).at (i := i) (by omega)
   refine match q20 with | ⟨_, he18, e_19⟩ => ?_
   subst e_19
   refine W.ok (ok_indexAddr (i := i) sl41 ty120 (h_l.mono ((hG2.trans hG13).trans hG17)) rfl rfl ⟨by omega, by omega⟩) (W.ok (ok_fieldE fd120_0 rfl he18.form) (W.ok (ok_loadE (vs := [.string _]) ty9 he18 rfl rfl rfl (by simp)) (W.qcall (less_fc _ _) rfl (W.nil (thn_n ?_)))))
   refine WC.cond (b := _) rfl (fun h66 => ?_) (fun h66 => ?_)
   ·refine WC.region (W.mv (W.mv (W.mv ?_)))
    have q23 := (h_l.mono ((hG2.trans hG13).trans hG17)).at (i := i) (by omega)
    refine match q23 with | ⟨_, he21, e_22⟩ => ?_
    subst e_22
    refine W.ok (ok_indexAddr (i := i) sl41 ty120 (h_l.mono ((hG2.trans hG13).trans hG17)) rfl rfl ⟨by omega, by omega⟩) (W.ok (ok_loadE (vs := [.string _, .string _]) ty120 he21 rfl rfl rfl (by simp)) (W.lit (e := ePair) (l := [((l)[i])]) (css := [[.string _, .string _]]) sl41 ty120 zr120 rfl rfl rfl rfl rfl rfl ⟨rfl, trivial⟩ (fun bl24 G24 hG24 hv24 => (W.app (e := ePair) sl41 ty120 zr120 rfl by120 rfl rfl ((ho_7.mono hG24)) (hv24) (pmC pr9) (by show (_ + 1) * 32 ≤ _; (try simp only [List.length_append] at *); omega) (fun v25 Ms26 ho27 => (W.perm (pmC pr9).symm (W.as (W.nil (blk_n (thn_n (WC.region (W.mv (W.ok (ok_add rfl rfl (by omega)) (W.as (W.nil (thn_n ?_))))))))))))))))
    exact ⟨hG24, (i + 1, v25, Ms26), ⟨eqv, eqv, eqv, eqv, trivial⟩, ⟨rfl, (by have h := ho27; rw [filt_t (p := (fun p : Pair => k.lt p.key)) (by omega) (by simpa using h66), ← List.append_assoc]; exact h), by omega⟩, by omega⟩
   refine WC.skip (blk_n (thn_n (WC.region (W.mv (W.ok (ok_add rfl rfl (by omega)) (W.as (W.nil (thn_n ?_))))))))
   exact ⟨Le.rfl, (i + 1, v_7, M_7), ⟨eqv, eqv, eqv, eqv, trivial⟩, ⟨rfl, (by have h := ho_7; rw [filt_f (p := (fun p : Pair => k.lt p.key)) (by omega) (by simpa using h66)]; exact h), by omega⟩, by omega⟩
  have p57 := of_decide_eq_false h57
  refine WC.exit (thn_x (thn_x (blk_h (thn_n (WC.seq (WC.region (W.mv (W.as (W.nil (thn_n (WC.giveO ho_7 (pmC pr9) (fun G28 hG28 hv28 => (WC.ret ?_)))))))))))))
  refine ⟨.inr rfl, [_], ⟨rfl, trivial⟩, [], sn9, ?_⟩
  refine ⟨rfl, _, rfl, ?_⟩
  · have h := hv28; rw [List.take_of_length_le (by omega), ← withN_mid] at h; exact h
 refine WC.skip (thn_n (WC.seq (WC.seq (WC.region (W.as (W.nil (thn_n (WC.block ?_))))))))
 refine WC.loop (X := (Nat) × Value × MH) (fun i => [(13, .int .i64 ((i.1 : Nat) : Int)), (0, .slice sa_l l.length sc_l), (1, .string k.b), (7, i.2.1)]) (fun i G Ml => Ml = ((b1, .cells (List.toArray [.int .i64 ek, .string ev.b]) 242 (0, 0)) :: (i.2.2 ++ [])) ∧ OwnR ePair 120 G i.2.1 ((List.filter (fun p : Pair => p.key.lt k) l ++ midN (Eff.apply (⟨ek, ev⟩ : Eff) (getN l k)) k) ++ List.filter (fun p : Pair => k.lt p.key) (l.take i.1)) i.2.2 ∧ i.1 ≤ l.length) (fun i => l.length - i.1) (0, v_7, M_7) ⟨eqv, eqv, eqv, eqv, trivial⟩ ?_ ?_
 ·exact ⟨rfl, (by have h := ho_7; rw [List.take_of_length_le (by omega)] at h; have hs := h44_0; rw [optS_get] at hs; rw [midN_none hs]; simpa using h), by omega⟩
 rintro ⟨i, v_7, M_7⟩ gG29 G29 _ hG29 ⟨rfl, ho_7, hi⟩
 try dsimp only at ho_7 hi
 have hfl := filt_le (fun p : Pair => k.lt p.key) l i
 have hfl2 := List.length_filter_le (fun p : Pair => p.key.lt k) l
 have hml := midN_le (Eff.apply (⟨ek, ev⟩ : Eff) (getN l k)) k
 refine WC.fr (f := setL gG29 [(13, .int .i64 ((i : Nat) : Int)), (0, .slice sa_l l.length sc_l), (1, .string k.b), (7, v_7)]) rfl (WC.seq (WC.seq (WC.region (W.mv (W.mv (W.ok (ok_len sl41 (h_l.mono (hG2.trans hG29)) rfl) (W.ok (ok_lss rfl rfl) (W.nil (thn_n ?_)))))))))
 refine WC.cond (b := _) rfl (fun h57 => ?_) (fun h57 => ?_)
 ·have p57 := of_decide_eq_true h57
  refine WC.skip (thn_n (WC.seq (WC.block (WC.seq (WC.region (W.mv (W.mv (W.mv ?_))))))))
  have q32 := (h_l.mono (hG2.trans hG29)).at (i := i) (by omega)
  refine match q32 with | ⟨_, he30, e_31⟩ => ?_
  subst e_31
  refine W.ok (ok_indexAddr (i := i) sl41 ty120 (h_l.mono (hG2.trans hG29)) rfl rfl ⟨by omega, by omega⟩) (W.ok (ok_fieldE fd120_0 rfl he30.form) (W.ok (ok_loadE (vs := [.string _]) ty9 he30 rfl rfl rfl (by simp)) (W.qcall (less_fc _ _) rfl (W.nil (thn_n ?_)))))
  refine WC.cond (b := _) rfl (fun h66 => ?_) (fun h66 => ?_)
  ·refine WC.region (W.mv (W.mv (W.mv ?_)))
   have q35 := (h_l.mono (hG2.trans hG29)).at (i := i) (by omega)
   refine match q35 with | ⟨_, he33, e_34⟩ => ?_
   subst e_34
   refine W.ok (ok_indexAddr (i := i) sl41 ty120 (h_l.mono (hG2.trans hG29)) rfl rfl ⟨by omega, by omega⟩) (W.ok (ok_loadE (vs := [.string _, .string _]) ty120 he33 rfl rfl rfl (by simp)) (W.lit (e := ePair) (l := [((l)[i])]) (css := [[.string _, .string _]]) sl41 ty120 zr120 rfl rfl rfl rfl rfl rfl ⟨rfl, trivial⟩ (fun bl36 G36 hG36 hv36 => (W.app (e := ePair) sl41 ty120 zr120 rfl by120 rfl rfl ((ho_7.mono hG36)) (hv36) (pmC pr9) (by show (_ + 1) * 32 ≤ _; (try simp only [List.length_append] at *); omega) (fun v37 Ms38 ho39 => (W.perm (pmC pr9).symm (W.as (W.nil (blk_n (thn_n (WC.region (W.mv (W.ok (ok_add rfl rfl (by omega)) (W.as (W.nil (thn_n ?_))))))))))))))))
   exact ⟨hG36, (i + 1, v37, Ms38), ⟨eqv, eqv, eqv, eqv, trivial⟩, ⟨rfl, (by have h := ho39; rw [filt_t (p := (fun p : Pair => k.lt p.key)) (by omega) (by simpa using h66), ← List.append_assoc]; exact h), by omega⟩, by omega⟩
  refine WC.skip (blk_n (thn_n (WC.region (W.mv (W.ok (ok_add rfl rfl (by omega)) (W.as (W.nil (thn_n ?_))))))))
  exact ⟨Le.rfl, (i + 1, v_7, M_7), ⟨eqv, eqv, eqv, eqv, trivial⟩, ⟨rfl, (by have h := ho_7; rw [filt_f (p := (fun p : Pair => k.lt p.key)) (by omega) (by simpa using h66)]; exact h), by omega⟩, by omega⟩
 have p57 := of_decide_eq_false h57
 refine WC.exit (thn_x (thn_x (blk_h (thn_n (WC.seq (WC.region (W.mv (W.as (W.nil (thn_n (WC.giveO ho_7 (pmC pr9) (fun G40 hG40 hv40 => (WC.ret ?_)))))))))))))
 refine ⟨.inr rfl, [_], ⟨rfl, trivial⟩, [], sn9, ?_⟩
 refine ⟨rfl, _, rfl, ?_⟩
 · have h := hv40; rw [List.take_of_length_le (by omega), ← withN_mid] at h; exact h

end Go.Proofs.YtmbafmifalppaaaGreat
