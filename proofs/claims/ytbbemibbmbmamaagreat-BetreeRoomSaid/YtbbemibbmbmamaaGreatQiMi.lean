/- What rows, leaves and merges compute, as plain functions, and their laws. Plain Lean; nothing of the program is named here. No condition. -/
import Derived.Test.YtbbemibbmbmamaaGreatQiNc
set_option linter.unusedVariables false
set_option linter.unusedSimpArgs false
set_option linter.unnecessarySimpa false
set_option maxRecDepth 100000
set_option maxHeartbeats 1600000

namespace Go.Fw
theorem Zhs {α : Type} {o : Option α} {d : α} (h : o.isSome = true) : o = some (o.getD d) := by cases o <;> simp_all
def ZaZ (l : List Pair) (k : Str) (e : Eff) (n : Int) : Bool := (Zg l k).isSome || !(decide (e.kind = 1) || decide (e.kind = 2)) || decide ((l.length : Int) < n)
def Yg (l : List Pair) (m : Msg) (n : Int) : Bool := decide (m.kind = 4) || ZaZ l m.key (m.on m.key) n
def Zbs (l : List Pair) (m : Msg) (n : Int) : Bool := decide (3 ≤ m.kind) || (Zg l m.key).isSome || decide ((l.length : Int) < n)
theorem Msg.has_key {m : Msg} (h : m.R) : m.span.has m.key = true := by
 unfold Msg.R at h
 obtain ⟨h1, h2⟩ := h
 unfold Msg.span
 by_cases hk : m.kind = 4
 ·rw [if_pos hk] at h2 ⊢
  have h3 := h2.2.2
  rw [Msg.span, if_pos hk] at h3
  have := Span.empty_eq ⟨m.key, m.hi, m.opn⟩
  rw [h3] at this
  simpa using this
 ·rw [if_neg hk, J3 om9]; simp
theorem Zc4 {l : List Pair} {m : Msg} {n : Int} (h : m.R) : Yg l m n = Zbs l m n := by
 have hk := Msg.has_key h
 unfold Msg.R at h
 obtain ⟨h1, h2⟩ := h
 unfold Yg Zbs ZaZ Msg.on
 rw [hk]
 by_cases h4 : m.kind = 4
 ·simp [h4]
 ·rw [if_neg h4] at h2
  rcases h2.2.2 with h5 | h5 | ⟨h5, _⟩ <;> rw [h5] <;> simp
def Zak (l : List Pair) (m : Msg) (n : Int) : List Pair × Bool := if Yg l m n = true then (takeN l m, true) else ([], false)
theorem Zch {l : List Pair} {m : Msg} {n : Int} (h : Yg l m n = true) : Zak l m n = (takeN l m, true) := if_pos h
theorem ZeB {l : List Pair} {m : Msg} {n : Int} (h : Yg l m n = false) : Zak l m n = ([], false) := if_neg (by simp [h])
def Yb (n : Int) : List Pair → List Msg → List Pair × Nat
 | l, [] => (l, 0)
 | l, m :: ms => if Yg l m n = true then ((Yb n (takeN l m) ms).1, (Yb n (takeN l m) ms).2 + 1) else (l, 0)
theorem ZeC (n : Int) : ∀ (ms : List Msg) (l : List Pair), (Yb n l ms).2 ≤ ms.length
 | [], l => by simp [Yb]
 | m :: ms, l => by
  unfold Yb; split
  ·have := ZeC n ms (takeN l m); simp; exact this
  ·simp
theorem Zht (n : Int) : ∀ (ms : List Msg) (l : List Pair), (Yb n l ms).1 = Zr l (ms.take (Yb n l ms).2)
 | [], l => by simp [Yb, Zr]
 | m :: ms, l => by
  unfold Yb; split
  ·rw [Zht n ms (takeN l m)]; simp [Zr]
  ·simp [Zr]
theorem Zm1 {n : Int} {l : List Pair} {ms : List Msg} {k : Nat} (hk : k < ms.length) (h : Yg (Zr l (ms.take k)) ms[k] n = true) :
  Yb n (Zr l (ms.take k)) (ms.drop k) = ((Yb n (Zr l (ms.take (k + 1))) (ms.drop (k + 1))).1, (Yb n (Zr l (ms.take (k + 1))) (ms.drop (k + 1))).2 + 1) := by
 rw [List.drop_eq_getElem_cons hk, Yb, if_pos h, Zev hk]
theorem Zm2 {n : Int} {l : List Pair} {ms : List Msg} {k : Nat} (hk : k < ms.length) (h : Yg (Zr l (ms.take k)) ms[k] n = false) :
  Yb n (Zr l (ms.take k)) (ms.drop k) = (Zr l (ms.take k), 0) := by
 rw [List.drop_eq_getElem_cons hk, Yb, if_neg (by simp [h])]
def DrainAt (n : Int) (l : List Pair) (ms : List Msg) (k : Nat) : Prop := Yb n l ms = ((Yb n (Zr l (ms.take k)) (ms.drop k)).1, k + (Yb n (Zr l (ms.take k)) (ms.drop k)).2)
theorem DrainAt.zero (n : Int) (l : List Pair) (ms : List Msg) : DrainAt n l ms 0 := by simp [DrainAt, Zr]
theorem DrainAt.succ {n : Int} {l : List Pair} {ms : List Msg} {k : Nat} (h : DrainAt n l ms k) (hk : k < ms.length) (hf : Yg (Zr l (ms.take k)) ms[k] n = true) : DrainAt n l ms (k + 1) := by
 unfold DrainAt at h ⊢
 rw [h, Zm1 hk hf]
 simp only [Prod.mk.injEq, true_and]; omega
theorem DrainAt.stop {n : Int} {l : List Pair} {ms : List Msg} {k : Nat} (h : DrainAt n l ms k) (hk : k < ms.length) (hf : Yg (Zr l (ms.take k)) ms[k] n = false) : Yb n l ms = (Zr l (ms.take k), k) := by
 unfold DrainAt at h
 rw [h, Zm2 hk hf]; rfl
theorem DrainAt.all {n : Int} {l : List Pair} {ms : List Msg} {k : Nat} (h : DrainAt n l ms k) (hk : ms.length ≤ k) : Yb n l ms = (Zr l ms, k) := by
 unfold DrainAt at h
 rw [h, List.drop_eq_nil_of_le hk, List.take_of_length_le hk]; rfl
theorem ZeD (n : Int) : ∀ (ms : List Msg) (l : List Pair), PairsR l → (∀ m ∈ ms, m.R) → (((Yb n l ms).1.length : Nat) : Int) ≤ max (l.length : Int) n
 | [], l, _, _ => by first | (simp [Yb]; done) | (simp only [Yb]; omega)
 | m :: ms, l, hP, hm => by
  unfold Yb; split
  ·rename_i hf
   have hR := hm m (by simp)
   have hR' := hR
   unfold Msg.R at hR'
   have h1 := ZeD n ms (takeN l m) (hP.takeM hR'.1.2.1 hR'.1.2.2.1) (fun m h => hm m (by simp [h]))
   have h2 : (((takeN l m).length : Nat) : Int) ≤ max (l.length : Int) n := by
    rw [Zc4 hR] at hf
    have h3 := hP.take_len m
    unfold takeN
    split
    ·have := List.length_filter_le (fun p : Pair => !m.span.has p.key) l; clear h3; omega
    ·rename_i h4
     clear h3
     have hr := hP.srt
     have key : ∀ {e : Eff}, ((Zg l m.key).isSome = true ∨ e.kind = 3) → (YX l m.key e).length ≤ l.length := fun {e} h => by
      rw [ZaY, hr.front]
      cases hs : (Zg l m.key).isSome
      ·rw [hr.back_no hs]
       rcases h with h | h
       ·rw [hs] at h; cases h
       ·have : Eff.apply e (Zg l m.key) = none := by simp [Eff.apply, h]
        rw [this]
        have := Zc0 l m.key
        simp [XT] <;> omega
      ·have hh := hr.has m.key
       rw [hs] at hh
       obtain ⟨q1, q2⟩ := of_decide_eq_true hh.symm
       rw [hr.back_yes q1 q2]
       have := Zeu (Eff.apply e (Zg l m.key)) m.key
       simp; omega
     unfold Zbs at hf
     simp only [Bool.or_eq_true, decide_eq_true_eq] at hf
     have hk := Msg.has_key hR
     rcases hf with (hf | hf) | hf
     ·have hq := hR'.2
      rw [if_neg h4] at hq
      have hq3 : m.kind = 3 := by rcases hq.2.2 with h | h | h <;> omega
      have := key (e := m.on m.key) (.inr (by unfold Msg.on; rw [hk, hq3]; rfl))
      omega
     ·have := key (e := m.on m.key) (.inl hf); omega
     ·have := hr.with_len m.key (m.on m.key); omega
   have h5 : max ((takeN l m).length : Int) n ≤ max (l.length : Int) n := om9
   dsimp only; omega
  ·dsimp only; omega
theorem Zhu {m : Msg} (h : m.R) : m.key.b.size ≤ 16 ∧ m.val.b.size ≤ 16 := ⟨h.1.2.1, h.1.2.2.1⟩
theorem Zm3 {s : Span} {n : Nat} (h : s.lo.b.size ≤ n) : s.norm.lo.b.size ≤ n := by
 unfold Span.norm
 split
 ·show 0 ≤ n; omega
 ·split <;> exact h
def Msg.fit (m : Msg) : Prop := m.key.b.size ≤ 1000 ∧ (m.kind = 4 ∨ m.key.b.size ≤ 16) ∧ m.val.b.size ≤ 16
theorem Zbt {m : Msg} (h : m.key.b.size ≤ 16 ∧ m.val.b.size ≤ 16) : m.fit := ⟨om9, .inr h.1, h.2⟩
theorem PairsR.takeF {l : List Pair} {m : Msg} (h : PairsR l) (hf : m.fit) : PairsR (takeN l m) := by
 unfold takeN
 split
 ·exact h.filter _
 ·rename_i h4
  exact h.with (hf.2.1.resolve_left h4) (ZaX _ hf.2.2)
theorem PairsR.foldF {ms : List Msg} : ∀ {l : List Pair}, PairsR l → (∀ m ∈ ms, m.fit) → PairsR (Zr l ms) := by
 induction ms with
 | nil => exact fun h _ => h
 | cons m ms ih => exact fun h hm => ih (h.takeF (hm m (by simp))) (fun m h => hm m (by simp [h]))
theorem Zhv {l : List Pair} {ms : List Msg} (h : PairsR l) (hm : ∀ m ∈ ms, m.fit) : (Zr l ms).length ≤ l.length + ms.length := by
 induction ms generalizing l with
 | nil => simp [Zr]
 | cons m ms ih =>
  have h1 := ih (h.takeF (hm m (by simp))) (fun m h => hm m (by simp [h]))
  have h2 := h.take_len m
  simp only [Zr, List.foldl_cons, List.length_cons] at h1 ⊢; omega
theorem Zhw {s : Span} {ms : List Msg} (hs : s.lo.b.size ≤ 300) (hm : ∀ m ∈ ms, m.key.b.size ≤ 16 ∧ m.val.b.size ≤ 16) : ∀ m ∈ Zc s ms, m.fit := by
 intro m hmm
 unfold Zc at hmm
 obtain ⟨a, ha, he⟩ := List.mem_filterMap.1 hmm
 split at he
 ·cases he
  have h1 := hm a ha
  have h0 : ∀ x : Str, x = Str.nil → x.b.size ≤ 300 := fun x hx => by rw [hx]; show 0 ≤ 300; omega
  unfold Msg.clip
  split
  ·exact ⟨by show 0 ≤ 1000; omega, .inr (by show 0 ≤ 16; omega), by show 0 ≤ 16; omega⟩
  ·split
   ·rename_i h4
    refine ⟨?_, .inl h4, h1.2⟩
    show (a.span.meet s).lo.b.size ≤ 1000
    have hl : (if a.span.lo.lt s.lo = true then s.lo else a.span.lo).b.size ≤ 300 := by
     split
     ·exact hs
     ·rw [Msg.span, if_pos h4]; show a.key.b.size ≤ 300; omega
    unfold Span.meet
    exact Nat.le_trans (Zm3 hl) om9
   ·exact Zbt h1
 ·cases he
theorem ZI (a b : Span) (k : Str) : (a.meet b).has k = (a.has k && b.has k) := by
 unfold Span.meet
 rw [ZaA]
 rw [Bool.eq_iff_iff]
 simp only [Span.has, Bool.and_eq_true, Bool.not_eq_true', Bool.or_eq_true]
 have hlo : (k.lt (if a.lo.lt b.lo = true then b.lo else a.lo) = false) ↔ (k.lt a.lo = false ∧ k.lt b.lo = false) := by
  by_cases h : a.lo.lt b.lo = true
  ·rw [if_pos h]
   refine ⟨fun h1 => ⟨?_, h1⟩, fun h1 => h1.2⟩
   cases h2 : k.lt a.lo
   ·rfl
   ·rw [Str.lt_trans h2 h] at h1; cases h1
  ·rw [if_neg h]
   refine ⟨fun h1 => ⟨h1, ?_⟩, fun h1 => h1.1⟩
   cases h2 : k.lt b.lo
   ·rfl
   ·rw [Str.lt_of_lt_of_le h2 (by simpa using h)] at h1; cases h1
 rw [hlo]
 cases ha : a.opn <;> cases hb : b.opn <;> simp
 ·by_cases h : b.hi.lt a.hi = true
  ·rw [if_pos h]
   grind [Str.lt_trans]
  ·rw [if_neg h]
   have h : b.hi.lt a.hi = false := by simpa using h
   have : ∀ {x : Str}, x.lt a.hi = true → x.lt b.hi = true := fun hx => Str.lt_of_lt_of_le hx h
   grind
 all_goals grind
theorem Xi (s : Span) (m : Msg) (ms : List Msg) : Zc s (m :: ms) = if (m.clip s).2 = true then (m.clip s).1 :: Zc s ms else Zc s ms := by
 unfold Zc; rw [List.filterMap_cons]; split <;> simp_all
theorem Zm4 {l : List Pair} {m : Msg} {s : Span} (hr : Srt l) (hk : m.key.b.size < 140737488355328) : (if (m.clip s).2 = true then takeN (l.filter fun p => s.has p.key) (m.clip s).1 else l.filter fun p => s.has p.key) = (takeN l m).filter fun p => s.has p.key := by
 have hmh := fun k => ZI m.span s k
 cases he : (m.span.meet s).empty
 ·by_cases h4 : m.kind = 4
  ·rw [J2 he h4, if_pos rfl]
   unfold takeN
   rw [if_pos h4, if_pos h4, List.filter_filter, List.filter_filter]
   congr 1
   funext p
   have e1 : Msg.span { m with key := (m.span.meet s).lo, hi := (m.span.meet s).hi, opn := (m.span.meet s).opn } = m.span.meet s := by rw [Msg.span, if_pos h4]
   rw [e1, hmh]
   cases s.has p.key <;> simp
  ·rw [ZcV he h4, if_pos rfl]
   unfold takeN
   rw [if_neg h4, if_neg h4]
   have hsp : ∀ x, m.span.has x = decide (x = m.key) := fun x => by rw [Msg.span, if_neg h4]; exact J3 hk
   have hin : s.has m.key = true := by
    have := Span.empty_eq (m.span.meet s)
    rw [he, hmh, hsp] at this
    simp only [Bool.not_eq_false', Bool.and_eq_true, decide_eq_true_eq] at this
    rw [← this.1]; exact this.2
   rw [ZaY, ZaY, Zbr (fun k => s.has k), if_pos hin, List.filter_append, List.filter_append, List.filter_filter, List.filter_filter, List.filter_filter, List.filter_filter]
   congr 1
   ·congr 1
    ·congr 1; funext p; exact Bool.and_comm _ _
    ·cases Eff.apply (m.on m.key) (Zg l m.key) <;> simp [XT, hin]
   ·congr 1; funext p; exact Bool.and_comm _ _
 ·rw [J1 he]
  simp only [Bool.false_eq_true, if_false]
  have hno : ∀ k, m.span.has k = true → s.has k = false := fun k h1 => by
   have h2 := hmh k
   have h3 : (m.span.meet s).has k = false := by
    cases h : (m.span.meet s).has k
    ·rfl
    ·simp only [Span.empty, Bool.and_eq_true, Bool.not_eq_true'] at he
     simp only [Span.has, he.1, Bool.false_or, Bool.and_eq_true, Bool.not_eq_true'] at h
     rw [Str.lt_of_le_of_lt h.1 h.2] at he; cases he.2
   rw [h3, h1] at h2; simpa using h2.symm
  unfold takeN
  by_cases h4 : m.kind = 4
  ·rw [if_pos h4, List.filter_filter]
   refine List.filter_congr fun p _ => ?_
   cases h : m.span.has p.key
   ·simp
   ·rw [hno _ h]; rfl
  ·rw [if_neg h4]
   have hsp : ∀ x, m.span.has x = decide (x = m.key) := fun x => by rw [Msg.span, if_neg h4]; exact J3 hk
   have hout : s.has m.key = false := hno _ (by rw [hsp]; simp)
   rw [ZaY, List.filter_append, List.filter_append]
   have e2 : (XT (Eff.apply (m.on m.key) (Zg l m.key)) m.key).filter (fun p => s.has p.key) = [] := by
    cases Eff.apply (m.on m.key) (Zg l m.key) <;> simp [XT, hout]
   rw [e2, List.append_nil, hr.front]
   cases hs : (Zg l m.key).isSome
   ·rw [hr.back_no hs, ← List.filter_append, List.take_append_drop]
   ·have hh := hr.has m.key
    rw [hs] at hh
    obtain ⟨q1, q2⟩ := of_decide_eq_true hh.symm
    rw [hr.back_yes q1 q2]
    have e3 : l = l.take (ZH l m.key) ++ l[ZH l m.key] :: l.drop (ZH l m.key + 1) := by rw [← List.drop_eq_getElem_cons q1, List.take_append_drop]
    conv => lhs; rw [e3]
    rw [List.filter_append, List.filter_cons_of_neg (by rw [q2, hout]; simp)]
theorem Za0 {s : Span} : ∀ {ms : List Msg} {l : List Pair}, Srt l → (∀ m ∈ ms, m.key.b.size < 140737488355328) → Zr (l.filter fun p => s.has p.key) (Zc s ms) = (Zr l ms).filter fun p => s.has p.key
 | [], l, _, _ => by simp [Zc, Zr]
 | m :: ms, l, hr, hm => by
  have h1 := Zm4 (s := s) hr (hm m (by simp))
  have hrt : Srt (takeN l m) := by
   unfold takeN; split
   ·exact hr.filter _
   ·exact hr.with _ _
  have h2 := Za0 (s := s) (ms := ms) hrt (fun m h => hm m (List.mem_cons_of_mem _ h))
  rw [Xi]
  show _ = (Zr (takeN l m) ms).filter _
  rw [← h2]
  split
  ·rename_i hc
   rw [if_pos hc] at h1
   rw [← h1]; rfl
  ·rename_i hc
   rw [if_neg hc] at h1
   rw [← h1]
end Go.Fw
namespace Go.Proofs.YtbbemibbmbmamaaGreat
open Go Go.Fw Go.RowKit
attribute [local irreducible] Ok W WC
theorem ZeE {G : GH} {v_a : Value} {a : List Pair} (h_a : SlR Zl G v_a a) :
    Fc Tryz.prog 146 [v_a] G [] (fun v G' M' => OwnR Zl 74 G' v (a) M') := by
 obtain ⟨sa_a, sc_a, rfl⟩ := h_a.form
 have ha := h_a.bytes
 refine Fc.go [.tmp 2] Tryz.func146 Tryz.ntmps146 rfl (fun w0 => (g9 9 ?_))
 refine W.ok (ZaR Zy rfl rfl) (g9 2 ?_)
 refine WC.cond rfl (fun h4 => ?_) (fun h4 => ?_)
 ·have hn := SlR.isNone h_a h4
  subst hn
  refine g9 8 ?_
  exact OwnR.nil
 refine g9 4 ?_
 refine W.lit0 (e := Zl) Zy Zz Yy rfl (fun v1 Ms2 ho3 => (W.mv (W.app (e := Zl) Zy Zz Yy rfl JA rfl rfl (ho3) (h_a) pr9 (by simpa using ha) (fun v4 Ms5 ho6 => (g9 4 ?_)))))
 refine ⟨.inr rfl, [_], ⟨rfl, trivial⟩, Ms5, List.sublist_append_left _ _, ?_⟩
 have h := ho6
 rw [List.nil_append] at h
 exact h

theorem Zm5 {G : GH} {v_l : Value} {l : List Pair} (h_l : SlR Zl G v_l l) (k : Str) (ek : Int) (ev : Str) (hP : PairsR l) (hn : l.length ≤ 1000000) (he : ev.b.size ≤ 1048576) :
    Fc Tryz.prog 167 [v_l, sV k.b, .agg #[iV ek, sV ev.b]] G [] (fun v G' M' => M' = [] ∧ ∃ u0, v = u0 ∧ SlR Zl G' u0 (YX l k (⟨ek, ev⟩ : Eff))) := by
 obtain ⟨sa_l, sc_l, rfl⟩ := h_l.form
 have hl := h_l.len47
 have hgv := hP.val k
 have hr := hP.srt
 have hh := hr.has k
 have hfl := Zc0 l k
 refine Fc.go [.tmp 6] Tryz.func167 Tryz.ntmps167 rfl (fun w0 => (g9 2 ?_))
 refine W.box (L := [iV _, sV _]) rfl rfl (fun b7 => (g9 7 ?_))
 refine W.qcall (Zip h_l _ (by assumption)) rfl (g9 18 ?_)
 refine WC.cond rfl (fun h16_1 => ?_) (fun h16_1 => ?_)
 ·have hs1 : (Zg l k).isSome = true := h16_1
  obtain ⟨q1, q2⟩ := odt (hh.symm.trans hs1)
  have hvk := hr.val q1 q2
  refine g9 3 ?_
  refine h_l.a1 (i := ZH l k) (q1) (fun he8 => (W.ok (Yt (i := ZH l k) Zy Zz h_l rfl rfl ⟨om9, q1⟩) (g9 8 ?_)))
  refine W.call (Mp := []) (ZeE h_l) rfl pr9 ?_
  rintro v12 G11 Ms13 hG11 ho14
  refine W.perm (pmC pr9).symm (g9 9 ?_)
  refine W.qcall (Zdf ek ev (Zg l k).isSome l[ZH l k].val om9 (by rw [hvk] at hgv; simpa using Nat.le_trans hgv (by decide))) rfl (g9 12 ?_)
  refine W.sp 36 rfl (fun h31_0 => ?_) (fun h31_0 => ?_)
  ·have hap : Eff.apply (⟨ek, ev⟩ : Eff) (Zg l k) = some ((Eff.apply (⟨ek, ev⟩ : Eff) (Z4 (Zg l k).isSome l[ZH l k].val)).getD Str.nil) := by
     rw [hs1, hvk] at *; simp only [Z4, if_true] at *; exact Zhs h31_0
   refine g9 11 ?_
   refine ho14.a1 (i := ZH l k) (q1) (fun he15 => (W.ok (Yu (i := ZH l k) Zy Zz ho14 rfl rfl ⟨om9, q1⟩) (g9 1 ?_)))
   refine W.storeO (i := ZH l k) (o := 1) (vs := sc9) (a' := ⟨l[ZH l k].key, (((Eff.apply (⟨ek, ev⟩ : Eff) (Z4 (Zg l k).isSome l[ZH l k].val))).getD Str.nil)⟩) ty9 rfl rfl rfl rfl rfl (ho14) (pmC pr9) om9 (by decide) (fun cs h => by rw [h]; rfl) (fun Ms18 ho19 => (W.perm (pmC pr9).symm (g9 9 ?_)))
   refine WC.giveO ho19 (pmC pr9) (fun G20 hG20 hv20 => (g9 2 ?_))
   refine ⟨rfl, _, rfl, ?_⟩
   · have h := hv20; rw [ZmM hr q1 q2 hap] at h; exact h
  have hap : Eff.apply (⟨ek, ev⟩ : Eff) (Zg l k) = none := by
    rw [hs1, hvk] at *; simp only [Z4, if_true] at *; simpa using h31_0
  refine g9 24 ?_
  refine W.ok (Ok.int (n := ((ZH l k + 1 : Nat) : Int)) (YV rfl rfl om9) om9) (W.call (Mp := Ms13) (Zpz ho14 _ _ (by first | assumption | omega)) rfl (pmC pr9) ?_)
  rintro v22 G21 Ms23 hG21 ho24
  refine W.perm (pmC pr9).symm (g9 10 ?_)
  refine WC.giveO ho24 (pmC pr9) (fun G25 hG25 hv25 => (g9 2 ?_))
  refine ⟨rfl, _, rfl, ?_⟩
  · have h := hv25; rw [ZmO hr q1 q2 hap] at h; exact h
 have hn0 : (Zg l k).isSome = false := h16_1
 have hnn : Zg l k = none := by simpa using hn0
 refine g9 5 ?_
 refine W.call (Mp := []) (ZeE h_l) rfl pr9 ?_
 rintro v27 G26 Ms28 hG26 ho29
 refine W.perm (pmC pr9).symm (g9 9 ?_)
 refine W.qcall (Zdf ek ev (Zg l k).isSome Str.nil om9 (by show (ByteArray.mk #[]).size ≤ _; decide)) rfl (g9 12 ?_)
 refine W.sp 36 rfl (fun h31_0 => ?_) (fun h31_0 => ?_)
 ·have hap : Eff.apply (⟨ek, ev⟩ : Eff) (Zg l k) = some ((Eff.apply (⟨ek, ev⟩ : Eff) (Z4 (Zg l k).isSome Str.nil)).getD Str.nil) := by
    rw [hn0, hnn] at *; simp only [Z4] at *; exact Zhs h31_0
  refine g9 19 ?_
  refine W.ok (ZE (L := [sV _, sV _]) ZeU Yy rfl rfl rfl) (W.litO (e := Zl) (l := [⟨k, (((Eff.apply (⟨ek, ev⟩ : Eff) (Z4 (Zg l k).isSome Str.nil))).getD Str.nil)⟩]) (css := [[sV _, sV _]]) Zy Zz Yy rfl rfl rfl rfl rfl rfl ⟨rfl, trivial⟩ (fun v30 Ms31 ho32 => (W.perm (pmC pr9).symm (W.call (Mp := Ms28 ++ Ms31) (Zpy ho29 _ ho32 (by first | assumption | omega) (by first | assumption | omega | simp) (by first | assumption | omega | (simp; omega))) rfl ((List.Perm.of_eq (List.append_assoc _ _ _)).trans ((List.Perm.append_left _ (pmC pr9)).trans (pmC (pmA pr9)))) ?_))))
  rintro v34 G33 Ms35 hG33 ho36
  refine W.perm (pmC pr9).symm (g9 10 ?_)
  refine WC.giveO ho36 (pmC pr9) (fun G37 hG37 hv37 => (g9 2 ?_))
  refine ⟨rfl, _, rfl, ?_⟩
  · have h := hv37; rw [ZmN hr hn0 hap] at h; exact h
 have hap : Eff.apply (⟨ek, ev⟩ : Eff) (Zg l k) = none := by
   rw [hn0, hnn] at *; simp only [Z4] at *; simpa using h31_0
 refine g9 29 ?_
 refine WC.giveO ho29 (pmC pr9) (fun G38 hG38 hv38 => (g9 2 ?_))
 refine ⟨rfl, _, rfl, ?_⟩
 · have h := hv38; rw [ZmP hr hn0 hap] at h; exact h

theorem Zm6 {G : GH} {v_l : Value} {l : List Pair} (h_l : SlR Zl G v_l l) (k : Str) (ek : Int) (ev : Str) (hP : PairsR l) (hn : l.length ≤ 1000000) (he : ev.b.size ≤ 1048576) :
    Fc Tryz.prog 88 [v_l, sV k.b, .agg #[iV ek, sV ev.b]] G [] (fun v G' M' => M' = [] ∧ ∃ u0, v = u0 ∧ SlR Zl G' u0 (YX l k (⟨ek, ev⟩ : Eff))) := by
 obtain ⟨sa_l, sc_l, rfl⟩ := h_l.form
 have hl := h_l.len47
 have hgv := hP.val k
 refine Fc.go [.tmp 6] Tryz.func88 Tryz.ntmps88 rfl (fun w0 => (g9 2 ?_))
 refine W.box (L := [iV _, sV _]) rfl rfl (fun b1 => (g9 15 ?_))
 refine WC.loop (X := (Nat) × Value × MH) (fun i => [(8, nt9 i.1), (5, pt9 b1), (0, lV sa_l l.length sc_l), (1, sV k.b), (7, i.2.1)]) (fun i G Ml => Ml = ((b1, ce9 132 [iV ek, sV ev.b]) :: (i.2.2 ++ [])) ∧ OwnR Zl 74 G i.2.1 (List.filter (fun p : Pair => p.key.lt k) (l.take i.1)) i.2.2 ∧ i.1 ≤ l.length) (fun i => l.length - i.1) (0, lV none 0 0, ([] : MH)) hs9 ?_ ?_
 ·exact ⟨rfl, (by simpa using OwnR.nil), om9⟩
 rintro ⟨i, v_7, M_7⟩ gG2 G2 _ hG2 ⟨rfl, ho_7, hi⟩
 try dsimp only at ho_7 hi
 have hfl := Zce (fun p : Pair => p.key.lt k) l i
 refine WC.fr (f := ZZ gG2 [(8, nt9 i), (5, pt9 b1), (0, lV sa_l l.length sc_l), (1, sV k.b), (7, v_7)]) rfl (g9 9 ?_)
 refine WC.cd (fun h17 p17 => ?_) (fun h17 p17 => ?_)
 ·refine g9 8 ?_
  refine (h_l.mono hG2).a1 (i := i) om9 (fun he3 => (g9 4 ?_))
  refine W.qcall (Zcr _ _) rfl (g9 2 ?_)
  refine WC.cond rfl (fun h26 => ?_) (fun h26 => ?_)
  ·refine g9 4 ?_
   refine (h_l.mono hG2).a1 (i := i) om9 (fun he6 => (g9 2 ?_))
   refine W.lit (e := Zl) (l := [((l)[i])]) (css := [[sV _, sV _]]) Zy Zz Yy rfl rfl rfl rfl rfl rfl ⟨rfl, trivial⟩ (fun bl9 G9 hG9 hv9 => (W.app (e := Zl) Zy Zz Yy rfl JA rfl rfl ((ho_7.mono hG9)) (hv9) (pmC pr9) (by show (_ + 1) * 32 ≤ _; (try simp only [List.length_append] at *); omega) (fun v10 Ms11 ho12 => (W.perm (pmC pr9).symm (g9 10 ?_)))))
   exact ⟨hG9, (i + 1, v10, Ms11), hs9, ⟨rfl, (by have h := ho12; rw [ZaC (p := (fun p : Pair => p.key.lt k)) om9 (by simpa using h26)]; exact h), om9⟩, om9⟩
  refine g9 9 ?_
  exact ⟨Le.rfl, (i + 1, v_7, M_7), hs9, ⟨rfl, (by have h := ho_7; rw [Zai (p := (fun p : Pair => p.key.lt k)) om9 (by simpa using h26)]; exact h), om9⟩, om9⟩
 refine g9 9 ?_
 refine W.qcall (Zil (h_l.mono hG2) _) rfl (g9 12 ?_)
 refine W.qcall (Zpk _ _ _ _ (by first | assumption | omega | (dsimp only; omega) | (simp; omega)) (by first | assumption | omega | (dsimp only; omega) | (simp; omega))) rfl (g9 13 ?_)
 refine WC.cond rfl (fun h44_0 => ?_) (fun h44_0 => ?_)
 ·refine g9 4 ?_
  refine W.ok (ZE (L := [sV _, sV _]) ZeU Yy rfl rfl rfl) (W.lit (e := Zl) (l := [⟨k, (((Eff.apply (⟨(ek), (ev)⟩ : Eff) (Z4 (((Zg (l) (k)).isSome)) (((Zg (l) (k)).getD Str.nil))))).getD Str.nil)⟩]) (css := [[sV _, sV _]]) Zy Zz Yy rfl rfl rfl rfl rfl rfl ⟨rfl, trivial⟩ (fun bl13 G13 hG13 hv13 => (W.app (e := Zl) Zy Zz Yy rfl JA rfl rfl ((ho_7.mono hG13)) (hv13) (pmC pr9) (by show (_ + 1) * 32 ≤ _; (try simp only [List.length_append] at *); omega) (fun v14 Ms15 ho16 => (W.perm (pmC pr9).symm (g9 10 ?_))))))
  refine WC.loop (X := (Nat) × Value × MH) (fun i => [(13, nt9 i.1), (0, lV sa_l l.length sc_l), (1, sV k.b), (7, i.2.1)]) (fun i G Ml => Ml = ((b1, ce9 132 [iV ek, sV ev.b]) :: (i.2.2 ++ [])) ∧ OwnR Zl 74 G i.2.1 ((List.filter (fun p : Pair => p.key.lt k) l ++ XT (Eff.apply (⟨ek, ev⟩ : Eff) (Zg l k)) k) ++ List.filter (fun p : Pair => k.lt p.key) (l.take i.1)) i.2.2 ∧ i.1 ≤ l.length) (fun i => l.length - i.1) (0, v14, Ms15) hs9 ?_ ?_
  ·exact ⟨rfl, (by have h := ho16; rw [List.take_of_length_le om9] at h; have hs := h44_0; rw [Zcf] at hs; rw [ZmR hs]; rw [Zcf] at h; simpa using h), om9⟩
  rintro ⟨i, v_7, M_7⟩ gG17 G17 _ hG17 ⟨rfl, ho_7, hi⟩
  try dsimp only at ho_7 hi
  have hfl := Zce (fun p : Pair => k.lt p.key) l i
  have hfl2 := List.length_filter_le (fun p : Pair => p.key.lt k) l
  have hml := Zeu (Eff.apply (⟨ek, ev⟩ : Eff) (Zg l k)) k
  refine WC.fr (f := ZZ gG17 [(13, nt9 i), (0, lV sa_l l.length sc_l), (1, sV k.b), (7, v_7)]) rfl (g9 9 ?_)
  refine WC.cd (fun h57 p57 => ?_) (fun h57 p57 => ?_)
  ·refine g9 9 ?_
   refine (h_l.mono ((hG2.trans hG13).trans hG17)).a1 (i := i) om9 (fun he18 => (g9 3 ?_))
   refine W.qcall (Zcr _ _) rfl (g9 2 ?_)
   refine WC.cond rfl (fun h66 => ?_) (fun h66 => ?_)
   ·refine g9 4 ?_
    refine (h_l.mono ((hG2.trans hG13).trans hG17)).a1 (i := i) om9 (fun he21 => (g9 2 ?_))
    refine W.lit (e := Zl) (l := [((l)[i])]) (css := [[sV _, sV _]]) Zy Zz Yy rfl rfl rfl rfl rfl rfl ⟨rfl, trivial⟩ (fun bl24 G24 hG24 hv24 => (W.app (e := Zl) Zy Zz Yy rfl JA rfl rfl ((ho_7.mono hG24)) (hv24) (pmC pr9) (by show (_ + 1) * 32 ≤ _; (try simp only [List.length_append] at *); omega) (fun v25 Ms26 ho27 => (W.perm (pmC pr9).symm (g9 10 ?_)))))
    exact ⟨hG24, (i + 1, v25, Ms26), hs9, ⟨rfl, (by have h := ho27; rw [ZaC (p := (fun p : Pair => k.lt p.key)) om9 (by simpa using h66), ← List.append_assoc]; exact h), om9⟩, om9⟩
   refine g9 9 ?_
   exact ⟨Le.rfl, (i + 1, v_7, M_7), hs9, ⟨rfl, (by have h := ho_7; rw [Zai (p := (fun p : Pair => k.lt p.key)) om9 (by simpa using h66)]; exact h), om9⟩, om9⟩
  refine g9 11 ?_
  refine WC.giveO ho_7 (pmC pr9) (fun G28 hG28 hv28 => (g9 2 ?_))
  refine ⟨rfl, _, rfl, ?_⟩
  · have h := hv28; rw [List.take_of_length_le om9, ← ZaY] at h; exact h
 refine g9 9 ?_
 refine WC.loop (X := (Nat) × Value × MH) (fun i => [(13, nt9 i.1), (0, lV sa_l l.length sc_l), (1, sV k.b), (7, i.2.1)]) (fun i G Ml => Ml = ((b1, ce9 132 [iV ek, sV ev.b]) :: (i.2.2 ++ [])) ∧ OwnR Zl 74 G i.2.1 ((List.filter (fun p : Pair => p.key.lt k) l ++ XT (Eff.apply (⟨ek, ev⟩ : Eff) (Zg l k)) k) ++ List.filter (fun p : Pair => k.lt p.key) (l.take i.1)) i.2.2 ∧ i.1 ≤ l.length) (fun i => l.length - i.1) (0, v_7, M_7) hs9 ?_ ?_
 ·exact ⟨rfl, (by have h := ho_7; rw [List.take_of_length_le om9] at h; have hs := h44_0; rw [Zcf] at hs; rw [ZmS hs]; simpa using h), om9⟩
 rintro ⟨i, v_7, M_7⟩ gG29 G29 _ hG29 ⟨rfl, ho_7, hi⟩
 try dsimp only at ho_7 hi
 have hfl := Zce (fun p : Pair => k.lt p.key) l i
 have hfl2 := List.length_filter_le (fun p : Pair => p.key.lt k) l
 have hml := Zeu (Eff.apply (⟨ek, ev⟩ : Eff) (Zg l k)) k
 refine WC.fr (f := ZZ gG29 [(13, nt9 i), (0, lV sa_l l.length sc_l), (1, sV k.b), (7, v_7)]) rfl (g9 9 ?_)
 refine WC.cd (fun h57 p57 => ?_) (fun h57 p57 => ?_)
 ·refine g9 9 ?_
  refine (h_l.mono (hG2.trans hG29)).a1 (i := i) om9 (fun he30 => (g9 3 ?_))
  refine W.qcall (Zcr _ _) rfl (g9 2 ?_)
  refine WC.cond rfl (fun h66 => ?_) (fun h66 => ?_)
  ·refine g9 4 ?_
   refine (h_l.mono (hG2.trans hG29)).a1 (i := i) om9 (fun he33 => (g9 2 ?_))
   refine W.lit (e := Zl) (l := [((l)[i])]) (css := [[sV _, sV _]]) Zy Zz Yy rfl rfl rfl rfl rfl rfl ⟨rfl, trivial⟩ (fun bl36 G36 hG36 hv36 => (W.app (e := Zl) Zy Zz Yy rfl JA rfl rfl ((ho_7.mono hG36)) (hv36) (pmC pr9) (by show (_ + 1) * 32 ≤ _; (try simp only [List.length_append] at *); omega) (fun v37 Ms38 ho39 => (W.perm (pmC pr9).symm (g9 10 ?_)))))
   exact ⟨hG36, (i + 1, v37, Ms38), hs9, ⟨rfl, (by have h := ho39; rw [ZaC (p := (fun p : Pair => k.lt p.key)) om9 (by simpa using h66), ← List.append_assoc]; exact h), om9⟩, om9⟩
  refine g9 9 ?_
  exact ⟨Le.rfl, (i + 1, v_7, M_7), hs9, ⟨rfl, (by have h := ho_7; rw [Zai (p := (fun p : Pair => k.lt p.key)) om9 (by simpa using h66)]; exact h), om9⟩, om9⟩
 refine g9 11 ?_
 refine WC.giveO ho_7 (pmC pr9) (fun G40 hG40 hv40 => (g9 2 ?_))
 refine ⟨rfl, _, rfl, ?_⟩
 · have h := hv40; rw [List.take_of_length_le om9, ← ZaY] at h; exact h

theorem Zm7 {G : GH} {v_l : Value} {l : List Pair} (h_l : SlR Zl G v_l l) (slo : Str) (shi : Str) (so : Bool) :
    Fc Tryz.prog 241 [v_l, .agg #[sV slo.b, sV shi.b, .bool so]] G [] (fun v G' M' => M' = [] ∧ ∃ u0, v = u0 ∧ SlR Zl G' u0 (l.filter (fun p : Pair => !Span.has ⟨slo, shi, so⟩ p.key))) := by
 obtain ⟨sa_l, sc_l, rfl⟩ := h_l.form
 refine Fc.go [.tmp 4] Tryz.func241 Tryz.ntmps241 rfl (fun w0 => (g9 2 ?_))
 refine W.box (L := [sV _, sV _, .bool _]) rfl rfl (fun b1 => (g9 6 ?_))
 refine W.call (Mp := []) (ZeE h_l) rfl pr9 ?_
 rintro v3 G2 Ms4 hG2 ho5
 refine W.perm (pmC pr9).symm (W.giveB (b := b1) (L := [sV _, sV _, .bool _]) pr9 (fun G6 hG6 hc6 => (W.ok (Zuv (fst := []) (caps := [.tmp 3]) (vs := []) (ws := [pt9 b1]) rfl rfl) (W.call (Mp := Ms4) (Zpx (ho5.mono hG6) _ _ _ hc6) rfl pr9 ?_))))
 rintro v8 G7 Ms9 hG7 ho10
 refine g9 3 ?_
 refine WC.giveO ho10 pr9 (fun G11 hG11 hv11 => (g9 2 ?_))
 refine ⟨rfl, _, rfl, ?_⟩
 · exact hv11

theorem Zhx {G : GH} {v_l : Value} {l : List Pair} (h_l : SlR Zl G v_l l) (ms : Int) (mk : Int) (mkey : Str) (mhi : Str) (mo : Bool) (mv : Str) (hP : PairsR l) (hn : l.length ≤ 1000000) (hk : Msg.fit (⟨ms, mk, mkey, mhi, mo, mv⟩ : Msg)) :
    Fc Tryz.prog 214 [v_l, .agg #[iV ms, iV mk, sV mkey.b, sV mhi.b, .bool mo, sV mv.b]] G [] (fun v G' M' => M' = [] ∧ ∃ u0, v = u0 ∧ SlR Zl G' u0 (takeN l (⟨ms, mk, mkey, mhi, mo, mv⟩ : Msg))) := by
 obtain ⟨sa_l, sc_l, rfl⟩ := h_l.form
 obtain ⟨hk1, hk2, hk3⟩ := hk
 dsimp only at hk1 hk2 hk3
 have hl := h_l.len47
 have hov := ZaX (m := (⟨ms, mk, mkey, mhi, mo, mv⟩ : Msg)) mkey hk3
 refine Fc.go [.tmp 4] Tryz.func214 Tryz.ntmps214 rfl (fun w0 => (g9 2 ?_))
 refine W.box (L := [iV _, iV _, sV _, sV _, .bool _, sV _]) rfl rfl (fun b12 => (g9 11 ?_))
 refine WC.cd (fun h7 p7 => ?_) (fun h7 p7 => ?_)
 ·refine g9 4 ?_
  refine W.qcall (Zct _ _ _ _ _ _ (by first | assumption | omega | (dsimp only; omega))) rfl (W.cS (Zm7 h_l (Msg.span (⟨ms, mk, mkey, mhi, mo, mv⟩ : Msg)).lo (Msg.span (⟨ms, mk, mkey, mhi, mo, mv⟩ : Msg)).hi (Msg.span (⟨ms, mk, mkey, mhi, mo, mv⟩ : Msg)).opn) rfl (fun sa_hv14 sc_hv14 G13 hG13 hv14 => (g9 6 ?_)))
  refine ⟨rfl, _, rfl, ?_⟩
  · have h := hv14; rw [takeN, if_pos p7]; exact h
 refine g9 3 ?_
 refine WC.dw sr9.k9 (d9 [0, 1, 2, 3, 4, 5] ?_)
 refine WD.a1 6 rfl (W.qcall (Zdg ms mk mkey mhi mo mv mkey om9) rfl (W.nn (WD.a1 7 rfl (W.cS (Zm5 h_l mkey (Msg.on (⟨ms, mk, mkey, mhi, mo, mv⟩ : Msg) mkey).kind (Msg.on (⟨ms, mk, mkey, mhi, mo, mv⟩ : Msg) mkey).val hP hn om9) rfl (fun sa_hv21 sc_hv21 G20 hG20 hv21 => (W.nn (d9 [8] ?_)))))))
 refine g9 4 ?_
 refine ⟨rfl, _, rfl, ?_⟩
 · have h := hv21; rw [takeN, if_neg p7]; exact h

theorem Zm8 {G : GH} {v_l : Value} {l : List Pair} (h_l : SlR Zl G v_l l) (ms : Int) (mk : Int) (mkey : Str) (mhi : Str) (mo : Bool) (mv : Str) (hP : PairsR l) (hn : l.length ≤ 1000000) (hk : Msg.fit (⟨ms, mk, mkey, mhi, mo, mv⟩ : Msg)) :
    Fc Tryz.prog 43 [v_l, .agg #[iV ms, iV mk, sV mkey.b, sV mhi.b, .bool mo, sV mv.b]] G [] (fun v G' M' => M' = [] ∧ ∃ u0, v = u0 ∧ SlR Zl G' u0 (takeN l (⟨ms, mk, mkey, mhi, mo, mv⟩ : Msg))) := by
 obtain ⟨sa_l, sc_l, rfl⟩ := h_l.form
 obtain ⟨hk1, hk2, hk3⟩ := hk
 dsimp only at hk1 hk2 hk3
 have hl := h_l.len47
 have hov := ZaX (m := (⟨ms, mk, mkey, mhi, mo, mv⟩ : Msg)) mkey hk3
 refine Fc.go [.tmp 4] Tryz.func43 Tryz.ntmps43 rfl (fun w0 => (g9 2 ?_))
 refine W.box (L := [iV _, iV _, sV _, sV _, .bool _, sV _]) rfl rfl (fun b27 => (g9 11 ?_))
 refine WC.cn (fun h9 p9 => ?_) (fun h9 p9 => ?_)
 ·refine WC.seq (WC.dw sr9.k9 (d9 [0, 1, 2, 3, 4, 5] ?_))
  refine WD.a1 6 rfl (W.qcall (Zpl ms mk mkey mhi mo mv mkey om9) rfl (W.nn (WD.a1 7 rfl (W.cS (Zm6 h_l mkey (Msg.on (⟨ms, mk, mkey, mhi, mo, mv⟩ : Msg) mkey).kind (Msg.on (⟨ms, mk, mkey, mhi, mo, mv⟩ : Msg) mkey).val hP hn om9) rfl (fun sa_hv29 sc_hv29 G28 hG28 hv29 => (W.nn (d9 [8] ?_)))))))
  refine g9 5 ?_
  refine ⟨rfl, _, rfl, ?_⟩
  · have h := hv29; rw [takeN, if_neg (by simpa using h9)]; exact h
 refine g9 14 ?_
 refine WC.loop (X := (Nat) × Value × MH) (fun i => [(6, nt9 i.1), (3, pt9 b27), (0, lV sa_l l.length sc_l), (5, i.2.1)]) (fun i G Ml => Ml = ((b27, ce9 87 [iV ms, iV mk, sV mkey.b, sV mhi.b, .bool mo, sV mv.b]) :: (i.2.2 ++ [])) ∧ OwnR Zl 74 G i.2.1 (List.filter (fun p : Pair => !(Msg.span (⟨ms, mk, mkey, mhi, mo, mv⟩ : Msg)).has p.key) (l.take i.1)) i.2.2 ∧ i.1 ≤ l.length) (fun i => l.length - i.1) (0, lV none 0 0, ([] : MH)) hs9 ?_ ?_
 ·exact ⟨rfl, (by simpa using OwnR.nil), om9⟩
 rintro ⟨i, v_5, M_5⟩ gG35 G35 _ hG35 ⟨rfl, ho_5, hi⟩
 try dsimp only at ho_5 hi
 have hfl := Zce (fun p : Pair => !(Msg.span (⟨ms, mk, mkey, mhi, mo, mv⟩ : Msg)).has p.key) l i
 refine WC.fr (f := ZZ gG35 [(6, nt9 i), (3, pt9 b27), (0, lV sa_l l.length sc_l), (5, v_5)]) rfl (g9 9 ?_)
 refine WC.cd (fun h21 p21 => ?_) (fun h21 p21 => ?_)
 ·refine g9 7 ?_
  refine W.qcall (Zig _ _ _ _ _ _ (by first | assumption | omega | (dsimp only; omega))) rfl (g9 2 ?_)
  refine (h_l.mono hG35).a1 (i := i) om9 (fun he36 => (g9 3 ?_))
  refine W.qcall (Zdd _ _ _ _) rfl (g9 3 ?_)
  refine WC.cond rfl (fun h32 => ?_) (fun h32 => ?_)
  ·refine g9 4 ?_
   refine (h_l.mono hG35).a1 (i := i) om9 (fun he39 => (g9 2 ?_))
   refine W.lit (e := Zl) (l := [((l)[i])]) (css := [[sV _, sV _]]) Zy Zz Yy rfl rfl rfl rfl rfl rfl ⟨rfl, trivial⟩ (fun bl42 G42 hG42 hv42 => (W.app (e := Zl) Zy Zz Yy rfl JA rfl rfl ((ho_5.mono hG42)) (hv42) (pmC pr9) (by show (_ + 1) * 32 ≤ _; (try simp only [List.length_append] at *); omega) (fun v43 Ms44 ho45 => (W.perm (pmC pr9).symm (g9 10 ?_)))))
   exact ⟨hG42, (i + 1, v43, Ms44), hs9, ⟨rfl, (by have h := ho45; rw [ZaC (p := (fun p : Pair => !(Msg.span (⟨ms, mk, mkey, mhi, mo, mv⟩ : Msg)).has p.key)) om9 (by simpa using h32)]; exact h), om9⟩, om9⟩
  refine g9 9 ?_
  exact ⟨Le.rfl, (i + 1, v_5, M_5), hs9, ⟨rfl, (by have h := ho_5; rw [Zai (p := (fun p : Pair => !(Msg.span (⟨ms, mk, mkey, mhi, mo, mv⟩ : Msg)).has p.key)) om9 (by simpa using h32)]; exact h), om9⟩, om9⟩
 refine g9 11 ?_
 refine WC.giveO ho_5 (pmC pr9) (fun G46 hG46 hv46 => (g9 2 ?_))
 refine ⟨rfl, _, rfl, ?_⟩
 · have h := hv46; rw [List.take_of_length_le om9] at h; rw [takeN, if_pos (by simpa using h9)]; exact h

theorem Zm9 {G : GH} {v_l : Value} {l : List Pair} (h_l : SlR Zl G v_l l) {v_ms : Value} {ms : List Msg} (h_ms : SlR Zs G v_ms ms) (hP : PairsR l) (hn : l.length + ms.length ≤ 1000000) (hm : ∀ m ∈ ms, m.fit) :
    Fc Tryz.prog 185 [v_l, v_ms] G [] (fun v G' M' => M' = [] ∧ ∃ u0, v = u0 ∧ SlR Zl G' u0 (Zr l ms)) := by
 obtain ⟨sa_l, sc_l, rfl⟩ := h_l.form
 obtain ⟨sa_ms, sc_ms, rfl⟩ := h_ms.form
 have hl := h_l.len47
 have hlm := h_ms.len47
 refine Fc.go [.tmp 4] Tryz.func185 Tryz.ntmps185 rfl (fun w0 => (g9 8 ?_))
 refine W.cS (XX h_l) rfl (fun sa_hv48 sc_hv48 G47 hG47 hv48 => (g9 12 ?_))
 refine WC.loop (X := (Nat) × Value) (fun k => [(12, nt9 k.1), (10, lV sa_ms ms.length sc_ms), (11, nt9 ((ms).length)), (5, k.2)]) (fun k G Ml => Ml = [] ∧ SlR Zl G k.2 (Zr l (ms.take k.1)) ∧ k.1 ≤ ms.length) (fun k => ms.length - k.1) (0, lV sa_hv48 ((l)).length sc_hv48) hs9 ?_ ?_
 ·exact ⟨rfl, (by simpa [Zr] using hv48), om9⟩
 rintro ⟨k, v_5⟩ gG54 G54 _ hG54 ⟨rfl, ho_5, hk⟩
 try dsimp only at ho_5 hk
 have hPk := PairsR.foldF (ms := ms.take k) hP (fun m h => hm m (List.mem_of_mem_take h))
 have hnk := Zhv (ms := ms.take k) hP (fun m h => hm m (List.mem_of_mem_take h))
 have hkl : (ms.take k).length ≤ k := by simp; omega
 refine WC.fr (f := ZZ gG54 [(12, nt9 k), (10, lV sa_ms ms.length sc_ms), (11, nt9 ((ms).length)), (5, v_5)]) rfl (g9 6 ?_)
 refine WC.cd (fun h13 p13 => ?_) (fun h13 p13 => ?_)
 ·refine g9 6 ?_
  refine (h_ms.mono (hG47.trans hG54)).a2 (i := k) om9 (fun he55 hm56 => (g9 2 ?_))
  refine W.alloc ZT (fun b60 => (g9 6 ?_))
  refine W.cS (Zhx ho_5 ms[k].stamp ms[k].kind ms[k].key ms[k].hi ms[k].opn ms[k].val hPk om9 (hm _ (List.getElem_mem _))) rfl (fun sa_hv62 sc_hv62 G61 hG61 hv62 => (g9 7 ?_))
  refine W.sub (sr9.cons _) (g9 2 ?_)
  exact ⟨hG61, (k + 1, lV sa_hv62 (takeN (Zr l (ms.take k)) ms[k]).length sc_hv62), hs9, ⟨rfl, (by have h := hv62; rw [Zev om9]; exact h), om9⟩, om9⟩
 refine g9 13 ?_
 refine ⟨rfl, _, rfl, ?_⟩
 · have h := ho_5; rw [List.take_of_length_le om9] at h; exact h

theorem Zhy {G : GH} {α : Type} [Inhabited α] {lt : α → α → Bool} {x0 : Value} {Rep : GH → List α → MH → Prop} {EV : GH → Value → α → Prop} {pu : Prop} (hK : HeapK Tryz.prog lt x0 Rep EV pu) {l : List α} {Ms_l : MH} (h_l : Rep G l Ms_l) (i0 : Nat) (n : Nat) (f : Nat) (hf : n ≤ i0 + f) (hn : n ≤ l.length) (hi : i0 ≤ 1000000000000000) :
    Fc Tryz.prog 161 [x0, nt9 i0, nt9 n] G Ms_l (fun v G' M' => (∃ b, v = .bool b) ∧ Rep G' (YE lt f l i0 n) M') := by
 have hbd := hK.bound h_l
 refine Fc.go [.tmp 6] Tryz.func161 Tryz.ntmps161 rfl (fun w0 => (WC.perm (M' := (Ms_l ++ [])) (by simp) (g9 13 ?_)))
 refine WC.loop (X := (Nat × Nat × List α) × MH) (fun x => [(7, nt9 x.1.1), (1, nt9 i0), (2, nt9 n), (0, x0)]) (fun x G Ml => Ml = (x.2 ++ []) ∧ Rep G (x.1.2.2) x.2 ∧ YE lt x.1.2.1 x.1.2.2 x.1.1 n = YE lt f l i0 n ∧ n ≤ x.1.1 + x.1.2.1 ∧ x.1.2.2.length = l.length ∧ x.1.1 ≤ n + 1000000000000000) (fun x => n - x.1.1) (((i0, f, l) : Nat × Nat × List α), Ms_l) hs9 ?_ ?_
 ·exact ⟨rfl, (by simpa using h_l), rfl, hf, rfl, by dsimp only; omega⟩
 rintro ⟨⟨i, f9, L⟩, M_0⟩ gG1 G1 _ hG1 ⟨rfl, ho_0, hd, hfi, hL, hib⟩
 try dsimp only at ho_0 hd hfi hL hib
 have hbL : L.length ≤ 140737488355328 := by omega
 refine WC.fr (f := ZZ gG1 [(7, nt9 i), (1, nt9 i0), (2, nt9 n), (0, x0)]) rfl (g9 4 ?_)
 refine W.ok (Zlq rfl rfl om9) (W.ok (Ok.int (n := ((2 * i + 1 : Nat) : Int)) (YV rfl rfl om9) om9) (g9 10 ?_))
 refine W.sd 18 (fun h17 p17 => ?_) (fun h17 p17 => ?_)
 ·try dsimp only at p17
  refine g9 21 ?_
  refine ⟨.inr rfl, [_], ⟨rfl, trivial⟩, M_0, List.sublist_append_left _ _, ?_⟩
  refine ⟨⟨_, rfl⟩, ?_⟩
  have h := ho_0
  rw [ZhG om9] at hd
  rw [← hd]; exact h
 try dsimp only at p17
 refine g9 7 ?_
 refine WC.cd (fun h20 p20 => ?_) (fun h20 p20 => ?_)
 ·try dsimp only at p20
  exfalso; omega
 try dsimp only at p20
 have hkj := Zcg (lt := lt) (l := L) (i := i) (n := n) om9
 refine g9 8 ?_
 refine WC.join (X := Unit) (fun u8 => [(9, nt9 ((YO lt L i n))), (0, x0), (1, nt9 i0), (2, nt9 n), (7, nt9 i)]) (fun u8 _ Ml => Ml = (M_0 ++ [])) ?_ ?_
 ·refine g9 3 ?_
  refine W.ok (Ok.int (n := ((2 * i + 2 : Nat) : Int)) (YV rfl rfl om9) om9) (g9 9 ?_)
  refine W.sd 28 (fun h27 p27 => ?_) (fun h27 p27 => ?_)
  ·try dsimp only at p27
   refine g9 7 ?_
   refine W.inv (hK.less (i := 2 * i + 2) (j := 2 * i + 1) ho_0 om9 om9) rfl rfl pr9 ?_
   intro _ G2 Ms4 hG2 q3
   refine match q3 with | ⟨e_6, eeq3⟩ => ?_
   subst e_6
   have eeq3 := eeq3.symm
   subst eeq3
   refine g9 3 ?_
   refine WC.cond rfl (fun h32 => ?_) (fun h32 => ?_)
   ·refine g9 5 ?_
    exact ⟨hG2, (), ⟨(by exact iv (congrArg Nat.cast (ZnK om9 h32).symm)), eqv, eqv, eqv, eqv, trivial⟩, rfl⟩
   refine g9 2 ?_
   exact ⟨hG2, (), ⟨(by exact iv (congrArg Nat.cast (ZhI (.inr h32)).symm)), eqv, eqv, eqv, eqv, trivial⟩, rfl⟩
  try dsimp only at p27
  refine g9 10 ?_
  exact ⟨Le.rfl, (), ⟨(by exact iv (congrArg Nat.cast (ZhI (.inl om9)).symm)), eqv, eqv, eqv, eqv, trivial⟩, rfl⟩
 rintro u8 gG7 G7 _ hG7 rfl
 refine g9 6 ?_
 refine W.inv (hK.less (i := (YO lt L i n)) (j := i) (hK.mono hG7 ho_0) om9 om9) rfl rfl pr9 ?_
 intro _ G8 Ms10 hG8 q9
 refine match q9 with | ⟨e_12, eeq9⟩ => ?_
 subst e_12
 have eeq9 := eeq9.symm
 subst eeq9
 refine g9 3 ?_
 refine WC.cond rfl (fun h39 => ?_) (fun h39 => ?_)
 ·refine g9 15 ?_
  refine ⟨.inr rfl, [_], ⟨rfl, trivial⟩, M_0, List.sublist_append_left _ _, ?_⟩
  refine ⟨⟨_, rfl⟩, ?_⟩
  have h := (hK.mono (hG7.trans hG8) ho_0)
  rw [ZhH om9 (by simpa using h39)] at hd
  rw [← hd]; exact h
 refine g9 7 ?_
 refine W.inv (hK.swap (i := i) (j := (YO lt L i n)) (hK.mono lec ho_0) om9 om9) rfl rfl pr9 ?_
 intro _ G13 Ms15 hG13 q14
 refine match q14 with | ⟨e_18, hR17⟩ => ?_
 subst e_18
 refine g9 8 ?_
 exact ⟨lec, ((((YO lt L i n), f9 - 1, YG L i (YO lt L i n)) : Nat × Nat × List α), Ms15), hs9, ⟨rfl, (by simpa using hR17), by dsimp only; rw [← hd, ZnJ hfi om9 (by simpa using h39)], by dsimp only; omega, by dsimp only; rw [XD]; exact hL, by dsimp only; omega⟩, by dsimp only; omega⟩

theorem Zna {G : GH} {α : Type} [Inhabited α] {lt : α → α → Bool} {x0 : Value} {Rep : GH → List α → MH → Prop} {EV : GH → Value → α → Prop} {pu : Prop} (hK : HeapK Tryz.prog lt x0 Rep EV pu) {l : List α} {Ms_l : MH} (h_l : Rep G l Ms_l) (j0 : Nat) (f : Nat) (hf : j0 ≤ f) (hj : j0 < l.length) :
    Fc Tryz.prog 205 [x0, nt9 j0] G Ms_l (fun v G' M' => v = .tuple #[] ∧ Rep G' (upL lt f l j0) M') := by
 have hbd := hK.bound h_l
 refine Fc.go [] Tryz.func205 Tryz.ntmps205 rfl (fun w0 => (WC.perm (M' := (Ms_l ++ [])) (by simp) (g9 1 ?_)))
 refine WC.loop (X := (Nat × Nat × List α) × MH) (fun x => [(1, nt9 x.1.1), (0, x0)]) (fun x G Ml => Ml = (x.2 ++ []) ∧ Rep G (x.1.2.2) x.2 ∧ upL lt x.1.2.1 x.1.2.2 x.1.1 = upL lt f l j0 ∧ x.1.1 ≤ x.1.2.1 ∧ x.1.2.2.length = l.length ∧ x.1.1 < l.length) (fun x => x.1.1) (((j0, f, l) : Nat × Nat × List α), Ms_l) hs9 ?_ ?_
 ·exact ⟨rfl, (by simpa using h_l), rfl, hf, rfl, hj⟩
 rintro ⟨⟨j, f9, L⟩, M_0⟩ gG19 G19 _ hG19 ⟨rfl, ho_0, hd, hfi, hL, hjl⟩
 try dsimp only at ho_0 hd hfi hL hjl
 have hbL : L.length ≤ 140737488355328 := by omega
 refine WC.fr (f := ZZ gG19 [(1, nt9 j), (0, x0)]) rfl (g9 5 ?_)
 refine W.ok (Ok.int (n := (((j - 1) / 2 : Nat) : Int)) (Zlr rfl rfl om9 (by rw [show (2 : Int) = 2 from rfl, ZhL]; omega)) (ZhL j)) (g9 10 ?_)
 refine W.sd 11 (fun h10 p10 => ?_) (fun h10 p10 => ?_)
 ·try dsimp only at p10
  refine g9 14 ?_
  refine ⟨.inl rfl, [], trivial, M_0, List.sublist_append_left _ _, ?_⟩
  refine ⟨rfl, ?_⟩
  have h := ho_0
  rw [ZhJ (.inl om9)] at hd
  rw [← hd]; exact h
 try dsimp only at p10
 refine g9 7 ?_
 refine W.inv (hK.less (i := j) (j := (j - 1) / 2) ho_0 om9 om9) rfl rfl pr9 ?_
 intro _ G20 Ms22 hG20 q21
 refine match q21 with | ⟨e_24, eeq21⟩ => ?_
 subst e_24
 have eeq21 := eeq21.symm
 subst eeq21
 refine g9 5 ?_
 refine WC.cond rfl (fun h16 => ?_) (fun h16 => ?_)
 ·refine g9 5 ?_
  refine ⟨.inl rfl, [], trivial, M_0, List.sublist_append_left _ _, ?_⟩
  refine ⟨rfl, ?_⟩
  have h := (hK.mono hG20 ho_0)
  rw [ZhJ (.inr (by simpa using h16))] at hd
  rw [← hd]; exact h
 refine g9 7 ?_
 refine W.inv (hK.swap (i := (j - 1) / 2) (j := j) (hK.mono hG20 ho_0) om9 om9) rfl rfl pr9 ?_
 intro _ G25 Ms27 hG25 q26
 refine match q26 with | ⟨e_30, hR29⟩ => ?_
 subst e_30
 refine g9 8 ?_
 exact ⟨lec, ((((j - 1) / 2, f9 - 1, YG L ((j - 1) / 2) j) : Nat × Nat × List α), Ms27), hs9, ⟨rfl, (by simpa using hR29), by dsimp only; rw [← hd, ZnL hfi om9 (by simpa using h16)], by dsimp only; omega, by dsimp only; rw [XD]; exact hL, by dsimp only; omega⟩, by dsimp only; omega⟩

theorem Zhz {G : GH} {α : Type} [Inhabited α] {lt : α → α → Bool} {x0 : Value} {Rep : GH → List α → MH → Prop} {EV : GH → Value → α → Prop} {pu : Prop} (hK : HeapK Tryz.prog lt x0 Rep EV pu) {l : List α} {Ms_l : MH} (h_l : Rep G l Ms_l) (h0 : 0 < l.length) :
    Fc Tryz.prog 122 [x0] G Ms_l (fun v G' M' => EV G' v (nth l 0) ∧ Rep G' (Y2 lt l) M') := by
 have hbd := hK.bound h_l
 refine Fc.go [.tmp 2] Tryz.func122 Tryz.ntmps122 rfl (fun w0 => (WC.perm (M' := (Ms_l ++ [])) (by simp) (g9 8 ?_)))
 refine W.inv (hK.len h_l) rfl rfl pr9 ?_
 intro _ G31 Ms33 hG31 q32
 refine match q32 with | ⟨e_35, eeq32⟩ => ?_
 subst e_35
 have eeq32 := eeq32.symm
 subst eeq32
 refine W.ok (Ok.int (n := ((l.length - 1 : Nat) : Int)) (Zaz rfl rfl om9) om9) (g9 7 ?_)
 refine W.inv (hK.swap (i := 0) (j := l.length - 1) (hK.mono hG31 h_l) om9 om9) rfl rfl pr9 ?_
 intro _ G36 Ms38 hG36 q37
 refine match q37 with | ⟨e_41, hR40⟩ => ?_
 subst e_41
 refine g9 6 ?_
 refine W.call (Mp := Ms38) (Zhy hK hR40 0 _ l.length om9 (by first | omega | (simp only [XD]; omega)) om9) rfl pr9 ?_
 intro _ G42 Ms44 hG42 q43
 refine match q43 with | ⟨⟨_, e_47⟩, hR46⟩ => ?_
 subst e_47
 refine g9 5 ?_
 refine W.inv (hK.pop hR46 (by rw [Zc2, XD]; omega)) rfl rfl pr9 ?_
 intro v51 G48 Ms50 hG48 q49
 refine match q49 with | ⟨hvhR52, hR52⟩ => ?_
 refine g9 4 ?_
 refine ⟨.inr rfl, [_], ⟨rfl, trivial⟩, Ms50, List.sublist_append_left _ _, ?_⟩
 refine ⟨(by have h := hvhR52; rw [(ZhK (lt := lt) h0).2] at h; exact h), ?_⟩
 have h := hR52
 rw [(ZhK h0).1] at h; exact h

theorem ZhA {G : GH} {α : Type} [Inhabited α] {lt : α → α → Bool} {x0 : Value} {Rep : GH → List α → MH → Prop} {EV : GH → Value → α → Prop} (hK : HeapK Tryz.prog lt x0 Rep EV) {l : List α} {Ms_l : MH} (h_l : Rep G l Ms_l) {v_a : Value} {a : α} (h_a : EV G v_a a) (hb : l.length < 1000000) (hEV : ∀ {G G' : GH} {v : Value} {a : α}, Le G G' → EV G v a → EV G' v a) :
    Fc Tryz.prog 171 [x0, v_a] G Ms_l (fun v G' M' => v = .tuple #[] ∧ Rep G' (Zaj lt l a) M') := by
 have hbd := hK.bound h_l
 have hla : (l ++ [a]).length = l.length + 1 := by simp
 refine Fc.go [] Tryz.func171 Tryz.ntmps171 rfl (fun w0 => (WC.perm (M' := (Ms_l ++ [])) (by simp) (g9 4 ?_)))
 refine W.inv (hK.push trivial h_l om9 h_a) rfl rfl pr9 ?_
 intro _ G53 Ms55 hG53 q54
 refine match q54 with | ⟨e_58, hR57⟩ => ?_
 subst e_58
 refine g9 5 ?_
 refine W.inv (hK.len hR57) rfl rfl pr9 ?_
 intro _ G59 Ms61 hG59 q60
 refine match q60 with | ⟨e_63, eeq60⟩ => ?_
 subst e_63
 have eeq60 := eeq60.symm
 subst eeq60
 refine W.ok (Ok.int (n := ((l.length : Nat) : Int)) (Zaz rfl rfl om9) om9) (W.call (Mp := Ms55) (Zna hK (hK.mono hG59 hR57) _ l.length om9 om9) rfl pr9 ?_)
 intro _ G64 Ms66 hG64 q65
 refine match q65 with | ⟨e_69, hR68⟩ => ?_
 subst e_69
 refine W.nil ?_
 refine ⟨.inl rfl, [], trivial, Ms66, List.sublist_append_left _ _, ?_⟩
 refine ⟨rfl, ?_⟩
 exact hR68

theorem ZhB {G : GH} {α : Type} [Inhabited α] {lt : α → α → Bool} {x0 : Value} {Rep : GH → List α → MH → Prop} {EV : GH → Value → α → Prop} {pu : Prop} (hK : HeapK Tryz.prog lt x0 Rep EV pu) {l : List α} {Ms_l : MH} (h_l : Rep G l Ms_l) (hh : Heap lt l) (hb : l.length < 1000000) :
    Fc Tryz.prog 121 [x0] G Ms_l (fun v G' M' => v = .tuple #[] ∧ Rep G' (l) M') := by
 have hbd := hK.bound h_l
 refine Fc.go [] Tryz.func121 Tryz.ntmps121 rfl (fun w0 => (WC.perm (M' := (Ms_l ++ [])) (by simp) (g9 3 ?_)))
 refine W.inv (hK.len h_l) rfl rfl pr9 ?_
 intro _ G70 Ms72 hG70 q71
 refine match q71 with | ⟨e_74, eeq71⟩ => ?_
 subst e_74
 have eeq71 := eeq71.symm
 subst eeq71
 refine g9 6 ?_
 refine W.ok (Ok.int (n := ((l.length / 2 : Nat) : Int)) (Zgz rfl rfl om9 om9 om9) om9) (g9 5 ?_)
 refine WC.loop (X := (Int) × MH) (fun z => [(3, iV z.1), (2, nt9 ((l).length)), (0, x0)]) (fun z G Ml => Ml = (z.2 ++ []) ∧ Rep G (l) z.2 ∧ -1 ≤ z.1 ∧ z.1 ≤ l.length) (fun z => (z.1 + 1).toNat) (((((l.length / 2 : Nat) : Int) - 1) : Int), Ms_l) hs9 ?_ ?_
 ·exact ⟨rfl, (by simpa using (hK.mono hG70 h_l)), om9, om9⟩
 rintro ⟨z, M_0⟩ gG75 G75 _ hG75 ⟨rfl, ho_0, hz1, hz2⟩
 try dsimp only at ho_0 hz1 hz2
 refine WC.fr (f := ZZ gG75 [(3, iV z), (2, nt9 ((l).length)), (0, x0)]) rfl (g9 7 ?_)
 refine WC.cd (fun h10 p10 => ?_) (fun h10 p10 => ?_)
 ·try dsimp only at p10
  obtain ⟨m, rfl⟩ : ∃ m : Nat, z = (m : Int) := ⟨z.toNat, om9⟩
  refine g9 8 ?_
  refine W.call (Mp := M_0) (Zhy hK ho_0 _ _ l.length om9 (by first | omega | (simp only [XD]; omega)) om9) rfl pr9 ?_
  intro _ G76 Ms78 hG76 q77
  refine match q77 with | ⟨⟨_, e_81⟩, hR80⟩ => ?_
  subst e_81
  refine g9 9 ?_
  exact ⟨hG76, (((m : Int) - 1), Ms78), hs9, ⟨rfl, (by have h := hR80; rw [ZnM hh] at h; exact h), by dsimp only; omega, by dsimp only; omega⟩, by dsimp only; omega⟩
 try dsimp only at p10
 refine g9 4 ?_
 refine ⟨.inl rfl, [], trivial, M_0, List.sublist_append_left _ _, ?_⟩
 refine ⟨rfl, ?_⟩
 exact ho_0

theorem Znb {G : GH} {v_l : Value} {l : List Int} {Ms_l : MH} (h_l : OwnR ZA 3 G v_l l Ms_l) :
    Fc Tryz.prog 283 [v_l] G Ms_l (fun v _ M' => v = iV ((l.length : Int)) ∧ Ms_l = M') := by
 refine Fc.go [.tmp 2] Tryz.func283 Tryz.ntmps283 rfl (fun w0 => (WC.perm (M' := (Ms_l ++ [])) (by simp) (g9 13 ?_)))
 refine ⟨.inr rfl, [_], ⟨rfl, trivial⟩, Ms_l, List.sublist_append_left _ _, ?_⟩
 exact ⟨rfl, rfl⟩

theorem Znc {G : GH} {v_l : Value} {l : List Int} {Ms_l : MH} (h_l : OwnR ZA 3 G v_l l Ms_l) (i : Nat) (j : Nat) (hi : i < l.length) (hj : j < l.length) :
    Fc Tryz.prog 284 [v_l, nt9 i, nt9 j] G Ms_l (fun v _ M' => v = .bool (decide (nth l i < nth l j)) ∧ Ms_l = M') := by
 have hl := h_l.len47
 refine Fc.go [.tmp 6] Tryz.func284 Tryz.ntmps284 rfl (fun w0 => (WC.perm (M' := (Ms_l ++ [])) (by simp) (g9 9 ?_)))
 refine h_l.a2 (i := i) om9 (fun he1 hi2 => (W.ok (Yu (i := i) Xk ty3 h_l rfl rfl ⟨om9, om9⟩) (W.ok (Y1 (vs := ic9) ty3 he1 pr9 rfl rfl rfl (by simp)) (g9 2 ?_))))
 refine h_l.a2 (i := j) om9 (fun he5 hi6 => (W.ok (Yu (i := j) Xk ty3 h_l rfl rfl ⟨om9, om9⟩) (W.ok (Y1 (vs := ic9) ty3 he5 pr9 rfl rfl rfl (by simp)) (g9 5 ?_))))
 refine ⟨.inr rfl, [_], ⟨rfl, trivial⟩, Ms_l, List.sublist_append_left _ _, ?_⟩
 exact ⟨by rw [Yl hi, Yl hj]; rfl, rfl⟩

theorem Znd {G : GH} {v_l : Value} {l : List Int} {Ms_l : MH} (h_l : OwnR ZA 3 G v_l l Ms_l) (i : Nat) (j : Nat) (hi : i < l.length) (hj : j < l.length) :
    Fc Tryz.prog 285 [v_l, nt9 i, nt9 j] G Ms_l (fun v G' M' => v = .tuple #[] ∧ OwnR ZA 3 G' v_l (YG l i j) M') := by
 have hl := h_l.len47
 have ho_i : i64 l[i] := by obtain ⟨_, _, _, h⟩ := h_l.at hi; exact h
 have ho_j : i64 l[j] := by obtain ⟨_, _, _, h⟩ := h_l.at hj; exact h
 have hls : (l.set i l[j]).length = l.length := List.length_set ..
 refine Fc.go [] Tryz.func285 Tryz.ntmps285 rfl (fun w0 => (WC.perm (M' := (Ms_l ++ [])) (by simp) (WC.dw sn9 (d9 [0, 1, 2, 3, 4, 5] ?_))))
 refine h_l.a2 (i := j) om9 (fun he9 hi10 => (WD.tk 6 rfl (Yu (i := j) Xk ty3 h_l rfl rfl ⟨om9, om9⟩) (d9 [8, 9] ?_)))
 refine h_l.a2 (i := i) om9 (fun he13 hi14 => (WD.tk 10 rfl (Yu (i := i) Xk ty3 h_l rfl rfl ⟨om9, om9⟩) ?_))
 refine WD.any [7, 11] (by kernel_rfl) rfl ⟨WD.ap ?_, WD.ap ?_, trivial⟩
 ·refine W.ok (Y1 (vs := ic9) ty3 he9 pr9 rfl rfl rfl (by simp)) (W.nn (WD.a1 11 rfl (W.ok (Y1 (vs := ic9) ty3 he13 pr9 rfl rfl rfl (by simp)) (W.nn (h_l.a2 (i := i) om9 (fun he17 hi18 => (WD.tk 12 rfl (Yu (i := i) Xk ty3 h_l rfl rfl ⟨om9, om9⟩) (WD.a1 13 rfl (W.storeO (i := i) (o := 0) (vs := ic9) (a' := l[j]) ty3 rfl rfl rfl rfl rfl (h_l) pr9 om9 (by decide) (fun cs h => by rw [h.1]; exact ⟨rfl, ho_j⟩) (fun Ms21 ho22 => (W.nn (ho22.a2 (i := j) om9 (fun he23 hi24 => (WD.tk 14 rfl (Yu (i := j) Xk ty3 ho22 rfl rfl ⟨om9, om9⟩) (WD.a1 15 rfl (W.storeO (i := j) (o := 0) (vs := ic9) (a' := l[i]) ty3 rfl rfl rfl rfl rfl (ho22) pr9 om9 (by decide) (fun cs h => by rw [h.1]; exact ⟨rfl, ho_i⟩) (fun Ms27 ho28 => ?_)))))))))))))))))
  refine W.nn (WD.done (by kernel_rfl) ?_)
  refine ⟨.inl rfl, [], trivial, (Ms27 ++ []), sr9, ?_⟩
  have h := ho28
  refine ⟨rfl, ?_⟩
  rw [YG, Yl hi, Yl hj, List.append_nil]; exact h
 refine W.ok (Y1 (vs := ic9) ty3 he13 pr9 rfl rfl rfl (by simp)) (W.nn (WD.a1 7 rfl (W.ok (Y1 (vs := ic9) ty3 he9 pr9 rfl rfl rfl (by simp)) (W.nn (h_l.a2 (i := i) om9 (fun he29 hi30 => (WD.tk 12 rfl (Yu (i := i) Xk ty3 h_l rfl rfl ⟨om9, om9⟩) (WD.a1 13 rfl (W.storeO (i := i) (o := 0) (vs := ic9) (a' := l[j]) ty3 rfl rfl rfl rfl rfl (h_l) pr9 om9 (by decide) (fun cs h => by rw [h.1]; exact ⟨rfl, ho_j⟩) (fun Ms33 ho34 => (W.nn (ho34.a2 (i := j) om9 (fun he35 hi36 => (WD.tk 14 rfl (Yu (i := j) Xk ty3 ho34 rfl rfl ⟨om9, om9⟩) (WD.a1 15 rfl (W.storeO (i := j) (o := 0) (vs := ic9) (a' := l[i]) ty3 rfl rfl rfl rfl rfl (ho34) pr9 om9 (by decide) (fun cs h => by rw [h.1]; exact ⟨rfl, ho_i⟩) (fun Ms39 ho40 => ?_)))))))))))))))))
 refine W.nn (WD.done (by kernel_rfl) ?_)
 refine ⟨.inl rfl, [], trivial, (Ms39 ++ []), sr9, ?_⟩
 have h := ho40
 refine ⟨rfl, ?_⟩
 rw [YG, Yl hi, Yl hj, List.append_nil]; exact h

theorem Zne {G : GH} {b_b : Nat} {Tb : TypeId} {c0 : Value} {c1 : Value} {v_l : Value} {l : List Int} {Ms_l : MH} (h_l : OwnR ZA 3 G v_l l Ms_l) (a : Int) (hi_a : i64 a) (hb : l.length < 1000000) :
    Fc Tryz.prog 287 [.pointer (some ⟨b_b, 2, none⟩), .iface 3 (iV a)] G ((b_b, ce9 Tb [c0, c1, v_l]) :: (Ms_l)) (fun v G' M' => v = .tuple #[] ∧ ∃ v' Ms', M' = (b_b, ce9 Tb [c0, c1, v']) :: Ms' ∧ OwnR ZA 3 G' v' (l ++ [a]) Ms') := by
 obtain ⟨sa_l, sc_l, rfl⟩ := h_l.form
 refine Fc.go [] Tryz.func287 Tryz.ntmps287 rfl (fun w0 => (WC.perm (M' := ((b_b, ce9 Tb [c0, c1, lV sa_l l.length sc_l]) :: (Ms_l ++ []))) (by simp) (WC.dw (sn9.cons _) (d9 [0, 1, 2, 4] ?_))))
 refine WD.tk 5 rfl (Zek pi3 rfl) ?_
 refine WD.any [3, 6] (by kernel_rfl) rfl ⟨WD.ap ?_, WD.ap ?_, trivial⟩
 ·refine g9 1 ?_
  refine W.nn (WD.a1 6 rfl (W.lit (e := ZA) (l := [a]) (css := [[iV _]]) Xk ty3 zr3 rfl rfl rfl rfl rfl rfl ⟨⟨rfl, hi_a⟩, trivial⟩ (fun bl41 G41 hG41 hv41 => (W.nn (WD.a1 7 rfl (W.app (e := ZA) Xk ty3 zr3 rfl by3 rfl rfl ((h_l.mono hG41)) (hv41) (pmC pr9) (by show (_ + 1) * 8 ≤ _; omega) (fun v42 Ms43 ho44 => (W.perm (pmC pr9).symm ?_))))))))
  have q48 := ho44.form
  refine match q48 with | ⟨sa45, sc46, e_47⟩ => ?_
  subst e_47
  refine W.nn (d9 [8, 9] ?_)
  refine WD.done (by kernel_rfl) ?_
  refine ⟨.inl rfl, [], trivial, ((b_b, ce9 Tb [c0, c1, lV sa45 ((l ++ [a])).length sc46]) :: (Ms43 ++ [])), sr9.k9, ?_⟩
  exact ⟨rfl, _, _, congrArg _ (List.append_nil _), ho44⟩
 refine W.lit (e := ZA) (l := [a]) (css := [[iV _]]) Xk ty3 zr3 rfl rfl rfl rfl rfl rfl ⟨⟨rfl, hi_a⟩, trivial⟩ (fun bl49 G49 hG49 hv49 => (W.nn (WD.a1 3 rfl (g9 1 ?_))))
 refine W.nn (WD.a1 7 rfl (W.app (e := ZA) Xk ty3 zr3 rfl by3 rfl rfl ((h_l.mono hG49)) (hv49) (pmC pr9) (by show (_ + 1) * 8 ≤ _; omega) (fun v50 Ms51 ho52 => (W.perm (pmC pr9).symm ?_))))
 have q56 := ho52.form
 refine match q56 with | ⟨sa53, sc54, e_55⟩ => ?_
 subst e_55
 refine W.nn (d9 [8, 9] ?_)
 refine WD.done (by kernel_rfl) ?_
 refine ⟨.inl rfl, [], trivial, ((b_b, ce9 Tb [c0, c1, lV sa53 ((l ++ [a])).length sc54]) :: (Ms51 ++ [])), sr9.k9, ?_⟩
 exact ⟨rfl, _, _, congrArg _ (List.append_nil _), ho52⟩

theorem Znf {G : GH} {b_b : Nat} {Tb : TypeId} {c0 : Value} {c1 : Value} {v_l : Value} {l : List Int} {Ms_l : MH} (h_l : OwnR ZA 3 G v_l l Ms_l) (h0 : 0 < l.length) :
    Fc Tryz.prog 286 [.pointer (some ⟨b_b, 2, none⟩)] G ((b_b, ce9 Tb [c0, c1, v_l]) :: (Ms_l)) (fun v G' M' => v = .iface 3 (iV (nth l (l.length - 1))) ∧ i64 (nth l (l.length - 1)) ∧ ∃ v' Ms', M' = (b_b, ce9 Tb [c0, c1, v']) :: Ms' ∧ OwnR ZA 3 G' v' (l.take (l.length - 1)) Ms') := by
 obtain ⟨sa_l, sc_l, rfl⟩ := h_l.form
 have hl := h_l.len47
 have hlast : nth l (l.length - 1) = l[l.length - 1] := Yl om9
 have ho_z : i64 l[l.length - 1] := by obtain ⟨_, _, _, h⟩ := h_l.at (i := l.length - 1) om9; exact h
 refine Fc.go [.tmp 2] Tryz.func286 Tryz.ntmps286 rfl (fun w0 => (WC.perm (M' := ((b_b, ce9 Tb [c0, c1, lV sa_l l.length sc_l]) :: (Ms_l ++ []))) (by simp) (g9 11 ?_)))
 refine W.ok (Ok.int (n := ((l.length - 1 : Nat) : Int)) (Zaz rfl rfl om9) om9) (g9 9 ?_)
 refine h_l.a2 (i := l.length - 1) om9 (fun he57 hi58 => (W.ok (Yu (i := l.length - 1) Xk ty3 h_l rfl rfl ⟨om9, om9⟩) (W.ok (Y1 (vs := ic9) ty3 he57 (pmC pr9) rfl rfl rfl (by simp)) (g9 10 ?_))))
 refine W.shortO (l.length - 1) Xk ty3 h_l rfl ⟨_, _, rfl, om9⟩ om9 (fun v61 ho62 => ?_)
 have q66 := ho62.form
 refine match q66 with | ⟨sa63, sc64, e_65⟩ => ?_
 subst e_65
 refine g9 7 ?_
 refine W.ok (Zaf pi3 rfl) (g9 4 ?_)
 refine ⟨.inr rfl, [_], ⟨rfl, trivial⟩, ((b_b, ce9 Tb [c0, c1, lV sa63 (((l).take (l.length - 1))).length sc64]) :: (Ms_l ++ [])), sr9.k9, ?_⟩
 exact ⟨by rw [hlast]; rfl, by rw [hlast]; exact ho_z, _, _, congrArg _ (List.append_nil _), ho62⟩

theorem ZhC {G : GH} {v_l : Value} {l : List Hd} {Ms_l : MH} (h_l : OwnR X8 271 G v_l l Ms_l) :
    Fc Tryz.prog 213 [v_l] G Ms_l (fun v _ M' => v = iV ((l.length : Int)) ∧ Ms_l = M') := by
 refine Fc.go [.tmp 2] Tryz.func213 Tryz.ntmps213 rfl (fun w0 => (WC.perm (M' := (Ms_l ++ [])) (by simp) (g9 13 ?_)))
 refine ⟨.inr rfl, [_], ⟨rfl, trivial⟩, Ms_l, List.sublist_append_left _ _, ?_⟩
 exact ⟨rfl, rfl⟩

theorem Zng {G : GH} {v_l : Value} {l : List Hd} {Ms_l : MH} (h_l : OwnR X8 271 G v_l l Ms_l) (i : Nat) (j : Nat) (hi : i < l.length) (hj : j < l.length) (hi0 : 0 < l[i].1.length) (hj0 : 0 < l[j].1.length) :
    Fc Tryz.prog 288 [v_l, nt9 i, nt9 j] G Ms_l (fun v _ M' => v = .bool (Hd.lt (nth l i) (nth l j)) ∧ Ms_l = M') := by
 have hl := h_l.len47
 refine Fc.go [.tmp 6] Tryz.func288 Tryz.ntmps288 rfl (fun w0 => (WC.perm (M' := (Ms_l ++ [])) (by simp) (g9 6 ?_)))
 refine WC.dw sr9 (d9 [0, 1] ?_)
 have q4 := h_l.at (i := i) om9
 refine match q4 with | ⟨_, he1, ⟨_, _, e_3, hw_n2, hok_n2⟩⟩ => ?_
 subst e_3
 refine WD.tk 2 rfl (Yu (i := i) XN YL h_l rfl rfl ⟨om9, om9⟩) (WD.tk 3 rfl (Y1 (vs := [lV _ _ _, iV _]) YL he1 pr9 rfl rfl rfl (by simp)) (d9 [4, 5] ?_))
 have q8 := h_l.at (i := j) om9
 refine match q8 with | ⟨_, he5, ⟨_, _, e_7, hw_n6, hok_n6⟩⟩ => ?_
 subst e_7
 refine WD.tk 6 rfl (Yu (i := j) XN YL h_l rfl rfl ⟨om9, om9⟩) (WD.tk 7 rfl (Y1 (vs := [lV _ _ _, iV _]) YL he5 pr9 rfl rfl rfl (by simp)) ?_)
 refine WD.any [8, 9] (by kernel_rfl) rfl ⟨WD.ap ?_, WD.ap ?_, trivial⟩
 ·refine W.alloc JC (fun b9 => (W.nn (WD.a1 9 rfl (W.alloc JC (fun b10 => (W.nn (d9 [10, 11] ?_)))))))
  refine g9 6 ?_
  refine hw_n2.a2 (i := 0) om9 (fun he11 hm12 => (W.ok (Yt (i := 0) ZY Z3 hw_n2 rfl rfl ⟨om9, om9⟩) (g9 4 ?_)))
  refine hw_n6.a2 (i := 0) om9 (fun he16 hm17 => (W.ok (Yt (i := 0) ZY Z3 hw_n6 rfl rfl ⟨om9, om9⟩) (g9 4 ?_)))
  refine W.sd 28 (fun h27 p27 => ?_) (fun h27 p27 => ?_)
  ·refine g9 23 ?_
   refine ⟨.inr rfl, [_], ⟨rfl, trivial⟩, Ms_l, ((List.sublist_append_left _ _).cons _).cons _, ?_⟩
   refine ⟨?_, rfl⟩
   refine congrArg Value.bool ?_
   rw [Yl hi, Yl hj, Hd.lt, Hd.st_at hi0, Hd.st_at hj0]
   simp_all
  refine g9 5 ?_
  refine hw_n2.a2 (i := 0) om9 (fun he21 hm22 => (W.ok (Yt (i := 0) ZY Z3 hw_n2 rfl rfl ⟨om9, om9⟩) (g9 9 ?_)))
  refine hw_n6.a2 (i := 0) om9 (fun he26 hm27 => (W.ok (Yt (i := 0) ZY Z3 hw_n6 rfl rfl ⟨om9, om9⟩) (g9 8 ?_)))
  refine W.sd 40 (fun h39 p39 => ?_) (fun h39 p39 => ?_)
  ·refine g9 17 ?_
   refine ⟨.inr rfl, [_], ⟨rfl, trivial⟩, Ms_l, ((List.sublist_append_left _ _).cons _).cons _, ?_⟩
   refine ⟨?_, rfl⟩
   refine congrArg Value.bool ?_
   rw [Yl hi, Yl hj, Hd.lt, Hd.st_at hi0, Hd.st_at hj0]
   simp_all
  refine g9 12 ?_
  refine ⟨.inr rfl, [_], ⟨rfl, trivial⟩, Ms_l, ((List.sublist_append_left _ _).cons _).cons _, ?_⟩
  refine ⟨?_, rfl⟩
  refine congrArg Value.bool ?_
  rw [Yl hi, Yl hj, Hd.lt, Hd.st_at hi0, Hd.st_at hj0]
  simp_all
 refine W.alloc JC (fun b31 => (W.nn (WD.a1 8 rfl (W.alloc JC (fun b32 => (W.nn (d9 [10, 11] ?_)))))))
 refine g9 6 ?_
 refine hw_n2.a2 (i := 0) om9 (fun he33 hm34 => (W.ok (Yt (i := 0) ZY Z3 hw_n2 rfl rfl ⟨om9, om9⟩) (g9 4 ?_)))
 refine hw_n6.a2 (i := 0) om9 (fun he38 hm39 => (W.ok (Yt (i := 0) ZY Z3 hw_n6 rfl rfl ⟨om9, om9⟩) (g9 4 ?_)))
 refine W.sd 28 (fun h27 p27 => ?_) (fun h27 p27 => ?_)
 ·refine g9 23 ?_
  refine ⟨.inr rfl, [_], ⟨rfl, trivial⟩, Ms_l, ((List.sublist_append_left _ _).cons _).cons _, ?_⟩
  refine ⟨?_, rfl⟩
  refine congrArg Value.bool ?_
  rw [Yl hi, Yl hj, Hd.lt, Hd.st_at hi0, Hd.st_at hj0]
  simp_all
 refine g9 5 ?_
 refine hw_n2.a2 (i := 0) om9 (fun he43 hm44 => (W.ok (Yt (i := 0) ZY Z3 hw_n2 rfl rfl ⟨om9, om9⟩) (g9 9 ?_)))
 refine hw_n6.a2 (i := 0) om9 (fun he48 hm49 => (W.ok (Yt (i := 0) ZY Z3 hw_n6 rfl rfl ⟨om9, om9⟩) (g9 8 ?_)))
 refine W.sd 40 (fun h39 p39 => ?_) (fun h39 p39 => ?_)
 ·refine g9 17 ?_
  refine ⟨.inr rfl, [_], ⟨rfl, trivial⟩, Ms_l, ((List.sublist_append_left _ _).cons _).cons _, ?_⟩
  refine ⟨?_, rfl⟩
  refine congrArg Value.bool ?_
  rw [Yl hi, Yl hj, Hd.lt, Hd.st_at hi0, Hd.st_at hj0]
  simp_all
 refine g9 12 ?_
 refine ⟨.inr rfl, [_], ⟨rfl, trivial⟩, Ms_l, ((List.sublist_append_left _ _).cons _).cons _, ?_⟩
 refine ⟨?_, rfl⟩
 refine congrArg Value.bool ?_
 rw [Yl hi, Yl hj, Hd.lt, Hd.st_at hi0, Hd.st_at hj0]
 simp_all

theorem Znh {G : GH} {v_l : Value} {l : List Hd} {Ms_l : MH} (h_l : OwnR X8 271 G v_l l Ms_l) (i : Nat) (j : Nat) (hi : i < l.length) (hj : j < l.length) :
    Fc Tryz.prog 291 [v_l, nt9 i, nt9 j] G Ms_l (fun v G' M' => v = .tuple #[] ∧ OwnR X8 271 G' v_l (YG l i j) M') := by
 have hl := h_l.len47
 have hls : (l.set i l[j]).length = l.length := List.length_set ..
 refine Fc.go [] Tryz.func291 Tryz.ntmps291 rfl (fun w0 => (WC.perm (M' := (Ms_l ++ [])) (by simp) (WC.dw sn9 (d9 [0, 1, 2, 3, 4, 5] ?_))))
 have q56 := h_l.at (i := j) om9
 refine match q56 with | ⟨_, he53, ⟨_, _, e_55, hw_n54, hok_n54⟩⟩ => ?_
 subst e_55
 refine WD.tk 6 rfl (Yu (i := j) XN YL h_l rfl rfl ⟨om9, om9⟩) (d9 [8, 9] ?_)
 have q60 := h_l.at (i := i) om9
 refine match q60 with | ⟨_, he57, ⟨_, _, e_59, hw_n58, hok_n58⟩⟩ => ?_
 subst e_59
 refine WD.tk 10 rfl (Yu (i := i) XN YL h_l rfl rfl ⟨om9, om9⟩) ?_
 refine WD.any [7, 11] (by kernel_rfl) rfl ⟨WD.ap ?_, WD.ap ?_, trivial⟩
 ·refine W.ok (Y1 (vs := [lV _ _ _, iV _]) YL he53 pr9 rfl rfl rfl (by simp)) (W.nn (WD.a1 11 rfl (W.ok (Y1 (vs := [lV _ _ _, iV _]) YL he57 pr9 rfl rfl rfl (by simp)) (W.nn ?_))))
  have q64 := h_l.at (i := i) om9
  refine match q64 with | ⟨_, he61, ⟨_, _, e_63, hw_n62, hok_n62⟩⟩ => ?_
  subst e_63
  refine WD.tk 12 rfl (Yu (i := i) XN YL h_l rfl rfl ⟨om9, om9⟩) (WD.a1 13 rfl (W.storeO (i := i) (o := 0) (vs := [lV _ _ _, iV _]) (a' := l[j]) YL rfl rfl rfl rfl rfl (h_l) pr9 om9 (by decide) (fun cs h => by obtain ⟨_, _, rfl, _⟩ := h; exact ⟨_, _, rfl, hw_n54, hok_n54⟩) (fun Ms65 ho66 => (W.nn ?_))))
  have q70 := ho66.at (i := j) om9
  refine match q70 with | ⟨_, he67, ⟨_, _, e_69, hw_n68, hok_n68⟩⟩ => ?_
  subst e_69
  refine WD.tk 14 rfl (Yu (i := j) XN YL ho66 rfl rfl ⟨om9, om9⟩) (WD.a1 15 rfl (W.storeO (i := j) (o := 0) (vs := [lV _ _ _, iV _]) (a' := l[i]) YL rfl rfl rfl rfl rfl (ho66) pr9 om9 (by decide) (fun cs h => by obtain ⟨_, _, rfl, _⟩ := h; exact ⟨_, _, rfl, hw_n58, hok_n58⟩) (fun Ms71 ho72 => (W.nn (WD.done (by kernel_rfl) ?_)))))
  refine ⟨.inl rfl, [], trivial, (Ms71 ++ []), sr9, ?_⟩
  have h := ho72
  refine ⟨rfl, ?_⟩
  rw [YG, Yl hi, Yl hj, List.append_nil]; exact h
 refine W.ok (Y1 (vs := [lV _ _ _, iV _]) YL he57 pr9 rfl rfl rfl (by simp)) (W.nn (WD.a1 7 rfl (W.ok (Y1 (vs := [lV _ _ _, iV _]) YL he53 pr9 rfl rfl rfl (by simp)) (W.nn ?_))))
 have q76 := h_l.at (i := i) om9
 refine match q76 with | ⟨_, he73, ⟨_, _, e_75, hw_n74, hok_n74⟩⟩ => ?_
 subst e_75
 refine WD.tk 12 rfl (Yu (i := i) XN YL h_l rfl rfl ⟨om9, om9⟩) (WD.a1 13 rfl (W.storeO (i := i) (o := 0) (vs := [lV _ _ _, iV _]) (a' := l[j]) YL rfl rfl rfl rfl rfl (h_l) pr9 om9 (by decide) (fun cs h => by obtain ⟨_, _, rfl, _⟩ := h; exact ⟨_, _, rfl, hw_n54, hok_n54⟩) (fun Ms77 ho78 => (W.nn ?_))))
 have q82 := ho78.at (i := j) om9
 refine match q82 with | ⟨_, he79, ⟨_, _, e_81, hw_n80, hok_n80⟩⟩ => ?_
 subst e_81
 refine WD.tk 14 rfl (Yu (i := j) XN YL ho78 rfl rfl ⟨om9, om9⟩) (WD.a1 15 rfl (W.storeO (i := j) (o := 0) (vs := [lV _ _ _, iV _]) (a' := l[i]) YL rfl rfl rfl rfl rfl (ho78) pr9 om9 (by decide) (fun cs h => by obtain ⟨_, _, rfl, _⟩ := h; exact ⟨_, _, rfl, hw_n58, hok_n58⟩) (fun Ms83 ho84 => (W.nn (WD.done (by kernel_rfl) ?_)))))
 refine ⟨.inl rfl, [], trivial, (Ms83 ++ []), sr9, ?_⟩
 have h := ho84
 refine ⟨rfl, ?_⟩
 rw [YG, Yl hi, Yl hj, List.append_nil]; exact h

theorem Zni {G : GH} {b_b : Nat} {Tb : TypeId} {v_l : Value} {l : List Hd} {Ms_l : MH} (h_l : OwnR X8 271 G v_l l Ms_l) {pa_a : Option Addr} {pc_a : Nat} {a : Hd} (hw_a : SlR Zs G (lV pa_a a.1.length pc_a) a.1) (hok_a : i64 a.2) (hb : l.length < 1000000) :
    Fc Tryz.prog 290 [pt9 b_b, .iface 271 (.agg #[lV pa_a a.1.length pc_a, iV a.2])] G ((b_b, ce9 Tb [v_l]) :: (Ms_l)) (fun v G' M' => v = .tuple #[] ∧ ∃ v' Ms', M' = (b_b, ce9 Tb [v']) :: Ms' ∧ OwnR X8 271 G' v' (l ++ [a]) Ms') := by
 obtain ⟨sa_l, sc_l, rfl⟩ := h_l.form
 refine Fc.go [] Tryz.func290 Tryz.ntmps290 rfl (fun w0 => (WC.perm (M' := ((b_b, ce9 Tb [lV sa_l l.length sc_l]) :: (Ms_l ++ []))) (by simp) (WC.dw (sn9.cons _) (d9 [0, 1, 2, 4] ?_))))
 refine WD.tk 5 rfl (Zek Zcq rfl) ?_
 refine WD.any [3, 6] (by kernel_rfl) rfl ⟨WD.ap ?_, WD.ap ?_, trivial⟩
 ·refine g9 1 ?_
  refine W.nn (WD.a1 6 rfl (W.lit (e := X8) (l := [a]) (css := [[lV _ _ _, iV _]]) XN YL JC rfl rfl rfl rfl rfl rfl ⟨⟨_, _, rfl, hw_a, hok_a⟩, trivial⟩ (fun bl85 G85 hG85 hv85 => (W.nn (WD.a1 7 rfl (W.app (e := X8) XN YL JC rfl Zid rfl rfl ((h_l.mono hG85)) (hv85) (pmC pr9) (by show (_ + 1) * 32 ≤ _; omega) (fun v86 Ms87 ho88 => (W.perm (pmC pr9).symm ?_))))))))
  have q92 := ho88.form
  refine match q92 with | ⟨sa89, sc90, e_91⟩ => ?_
  subst e_91
  refine W.nn (d9 [8, 9] ?_)
  refine WD.done (by kernel_rfl) ?_
  refine ⟨.inl rfl, [], trivial, ((b_b, ce9 Tb [lV sa89 ((l ++ [a])).length sc90]) :: (Ms87 ++ [])), sr9.k9, ?_⟩
  exact ⟨rfl, _, _, congrArg _ (List.append_nil _), ho88⟩
 refine W.lit (e := X8) (l := [a]) (css := [[lV _ _ _, iV _]]) XN YL JC rfl rfl rfl rfl rfl rfl ⟨⟨_, _, rfl, hw_a, hok_a⟩, trivial⟩ (fun bl93 G93 hG93 hv93 => (W.nn (WD.a1 3 rfl (g9 1 ?_))))
 refine W.nn (WD.a1 7 rfl (W.app (e := X8) XN YL JC rfl Zid rfl rfl ((h_l.mono hG93)) (hv93) (pmC pr9) (by show (_ + 1) * 32 ≤ _; omega) (fun v94 Ms95 ho96 => (W.perm (pmC pr9).symm ?_))))
 have q100 := ho96.form
 refine match q100 with | ⟨sa97, sc98, e_99⟩ => ?_
 subst e_99
 refine W.nn (d9 [8, 9] ?_)
 refine WD.done (by kernel_rfl) ?_
 refine ⟨.inl rfl, [], trivial, ((b_b, ce9 Tb [lV sa97 ((l ++ [a])).length sc98]) :: (Ms95 ++ [])), sr9.k9, ?_⟩
 exact ⟨rfl, _, _, congrArg _ (List.append_nil _), ho96⟩

theorem Znj {G : GH} {b_b : Nat} {Tb : TypeId} {v_l : Value} {l : List Hd} {Ms_l : MH} (h_l : OwnR X8 271 G v_l l Ms_l) (h0 : 0 < l.length) :
    Fc Tryz.prog 289 [pt9 b_b] G ((b_b, ce9 Tb [v_l]) :: (Ms_l)) (fun v G' M' => (∃ p c, v = .iface 271 (.agg (List.toArray [lV p (nth l (l.length - 1)).1.length c, iV (nth l (l.length - 1)).2])) ∧ SlR Zs G' (lV p (nth l (l.length - 1)).1.length c) (nth l (l.length - 1)).1 ∧ i64 (nth l (l.length - 1)).2) ∧ ∃ v' Ms', M' = (b_b, ce9 Tb [v']) :: Ms' ∧ OwnR X8 271 G' v' (l.take (l.length - 1)) Ms') := by
 obtain ⟨sa_l, sc_l, rfl⟩ := h_l.form
 have hl := h_l.len47
 have hlast : nth l (l.length - 1) = l[l.length - 1] := Yl om9
 refine Fc.go [.tmp 2] Tryz.func289 Tryz.ntmps289 rfl (fun w0 => (WC.perm (M' := ((b_b, ce9 Tb [lV sa_l l.length sc_l]) :: (Ms_l ++ []))) (by simp) (g9 11 ?_)))
 refine W.ok (Ok.int (n := ((l.length - 1 : Nat) : Int)) (Zaz rfl rfl om9) om9) (g9 9 ?_)
 have q104 := h_l.at (i := l.length - 1) om9
 refine match q104 with | ⟨_, he101, ⟨_, _, e_103, hw_n102, hok_n102⟩⟩ => ?_
 subst e_103
 refine W.ok (Yu (i := l.length - 1) XN YL h_l rfl rfl ⟨om9, om9⟩) (W.ok (Y1 (vs := [lV _ _ _, iV _]) YL he101 (pmC pr9) rfl rfl rfl (by simp)) (W.alloc JC (fun b105 => (g9 10 ?_))))
 refine W.shortO (l.length - 1) XN YL h_l rfl ⟨_, _, rfl, om9⟩ om9 (fun v106 ho107 => ?_)
 have q111 := ho107.form
 refine match q111 with | ⟨sa108, sc109, e_110⟩ => ?_
 subst e_110
 refine g9 7 ?_
 refine W.ok (Zaf Zcq rfl) (g9 4 ?_)
 refine ⟨.inr rfl, [_], ⟨rfl, trivial⟩, ((b_b, ce9 Tb [lV sa108 (((l).take (l.length - 1))).length sc109]) :: (Ms_l ++ [])), sr9.k9.cons _, ?_⟩
 exact ⟨by rw [hlast]; exact ⟨_, _, rfl, hw_n102, hok_n102⟩, _, _, congrArg _ (List.append_nil _), ho107⟩


abbrev LeastR (b : Nat) (Tb : TypeId) (c0 c1 : Value) (G : GH) (l : List Int) (M : MH) : Prop := ∃ v Ms, M = (b, ce9 Tb [c0, c1, v]) :: Ms ∧ OwnR ZA 3 G v l Ms
theorem ZeF {b : Nat} {Tb : TypeId} {c0 c1 : Value} : HeapK Tryz.prog (fun a b : Int => decide (a < b)) (.iface 173 (.pointer (some ⟨b, 2, none⟩))) (LeastR b Tb c0 c1) (fun _ u a => u = .iface 3 (iV a) ∧ i64 a) where
  mono := fun hl ⟨v, Ms, h1, h2⟩ => ⟨v, Ms, h1, h2.mono hl⟩
  bound := fun ⟨v, Ms, h1, h2⟩ => h2.len47
  len := fun {G l M} ⟨v, Ms, h1, h2⟩ => by
    subst h1
    exact Inv.val (e := 169) (by kernel_rfl) (by kernel_rfl) rfl (Znb h2) (fun v' G' M' hl ⟨e1, e2⟩ => ⟨e1, by rw [← e2]⟩)
  less := fun {G l M i j} ⟨v, Ms, h1, h2⟩ hi hj => by
    subst h1
    exact Inv.val (e := 169) (by kernel_rfl) (by kernel_rfl) rfl (Znc h2 i j hi hj) (fun v' G' M' hl ⟨e1, e2⟩ => ⟨e1, by rw [← e2]⟩)
  swap := fun {G l M i j} ⟨v, Ms, h1, h2⟩ hi hj => by
    subst h1
    exact Inv.val (e := 169) (by kernel_rfl) (by kernel_rfl) rfl (Znd h2 i j hi hj) (fun v' G' M' hl ⟨e1, e2⟩ => ⟨e1, v, M', rfl, e2⟩)
  push := fun _ {G l M u a} ⟨v, Ms, h1, h2⟩ hb ⟨h3, h4⟩ => by
    subst h1 h3
    exact Inv.ptr (g := 287) (by kernel_rfl) (Zne h2 a h4 hb) (fun v' G' M' hl ⟨e1, v2, M2, e2, e3⟩ => ⟨e1, v2, M2, e2, e3⟩)
  pop := fun {G l M} ⟨v, Ms, h1, h2⟩ h0 => by
    subst h1
    exact Inv.ptr (g := 286) (by kernel_rfl) (Znf h2 h0) (fun v' G' M' hl ⟨e1, e4, v2, M2, e2, e3⟩ => ⟨⟨e1, e4⟩, v2, M2, e2, e3⟩)

abbrev HeadsR (b : Nat) (Tb : TypeId) (G : GH) (l : List Hd) (M : MH) : Prop := (∀ h ∈ l, 0 < h.1.length) ∧ ∃ v Ms, M = (b, ce9 Tb [v]) :: Ms ∧ OwnR X8 271 G v l Ms
abbrev HeadV (G : GH) (u : Value) (a : Hd) : Prop := (∃ p c, u = .iface 271 (.agg (List.toArray [lV p a.1.length c, iV a.2])) ∧ SlR Zs G (lV p a.1.length c) a.1 ∧ i64 a.2) ∧ 0 < a.1.length
theorem ZhD {G G' : GH} {v : Value} {a : Hd} (hl : Le G G') (h : HeadV G v a) : HeadV G' v a := by
  obtain ⟨⟨p, c, h1, h2, h3⟩, h4⟩ := h; exact ⟨⟨p, c, h1, h2.mono hl, h3⟩, h4⟩
theorem Zci {b : Nat} {Tb : TypeId} : HeapK Tryz.prog Hd.lt (.iface 267 (pt9 b)) (HeadsR b Tb) HeadV where
  mono := fun hl ⟨h0, v, Ms, h1, h2⟩ => ⟨h0, v, Ms, h1, h2.mono hl⟩
  bound := fun ⟨h0, v, Ms, h1, h2⟩ => h2.len47
  len := fun {G l M} ⟨h0, v, Ms, h1, h2⟩ => by
    subst h1
    exact Inv.val (e := 269) (by kernel_rfl) (by kernel_rfl) rfl (ZhC h2) (fun v' G' M' hl ⟨e1, e2⟩ => ⟨e1, by rw [← e2]⟩)
  less := fun {G l M i j} ⟨h0, v, Ms, h1, h2⟩ hi hj => by
    subst h1
    exact Inv.val (e := 269) (by kernel_rfl) (by kernel_rfl) rfl (Zng h2 i j hi hj (h0 _ (List.getElem_mem hi)) (h0 _ (List.getElem_mem hj))) (fun v' G' M' hl ⟨e1, e2⟩ => ⟨e1, by rw [← e2]⟩)
  swap := fun {G l M i j} ⟨h0, v, Ms, h1, h2⟩ hi hj => by
    subst h1
    exact Inv.val (e := 269) (by kernel_rfl) (by kernel_rfl) rfl (Znh h2 i j hi hj) (fun v' G' M' hl ⟨e1, e2⟩ => ⟨e1, fun x hx => h0 x ((Zc1 hi hj).mem_iff.1 hx), v, M', rfl, e2⟩)
  push := fun _ {G l M u a} ⟨h0, v, Ms, h1, h2⟩ hb ⟨⟨p, c, h3, h4, h5⟩, h6⟩ => by
    subst h1 h3
    exact Inv.ptr (g := 290) (by kernel_rfl) (Zni h2 h4 h5 hb) (fun v' G' M' hl ⟨e1, v2, M2, e2, e3⟩ => ⟨e1, fun x hx => (List.mem_append.1 hx).elim (h0 x) (fun hx => by rw [List.mem_singleton.1 hx]; exact h6), v2, M2, e2, e3⟩)
  pop := fun {G l M} ⟨h0, v, Ms, h1, h2⟩ hl0 => by
    subst h1
    exact Inv.ptr (g := 289) (by kernel_rfl) (Znj h2 hl0) (fun v' G' M' hl ⟨e1, v2, M2, e2, e3⟩ => ⟨⟨e1, by rw [Yl om9]; exact h0 _ (List.getElem_mem _)⟩, fun x hx => h0 x (List.mem_of_mem_take hx), v2, M2, e2, e3⟩)
theorem ZhE {G : GH} {b_s : Nat} {v_c : Value} {c : List Nd} {Ms_c : MH} (h_c : OwnR ZF 60 G v_c c Ms_c) {v_u : Value} {u : List Bool} {Ms_u : MH} (h_u : OwnR J5 4 G v_u u Ms_u) {v_f : Value} {f : List Int} {Ms_f : MH} (h_f : OwnR ZA 3 G v_f f Ms_f) (i : Int) :
    Fc Tryz.prog 157 [pt9 b_s, iV i] G ((b_s, ce9 189 [v_c, v_u, v_f]) :: (Ms_c ++ (Ms_u ++ (Ms_f)))) (fun v G' M' => v = .bool (YY u i) ∧ M' = (b_s, ce9 189 [v_c, v_u, v_f]) :: (Ms_c ++ (Ms_u ++ Ms_f))) := by
 obtain ⟨sa_c, sc_c, rfl⟩ := h_c.form
 obtain ⟨sa_u, sc_u, rfl⟩ := h_u.form
 obtain ⟨sa_f, sc_f, rfl⟩ := h_f.form
 have hl := h_u.len47
 refine Fc.go [.tmp 4] Tryz.func157 Tryz.ntmps157 rfl (fun w0 => (WC.perm (M' := ((b_s, ce9 189 [lV sa_c c.length sc_c, lV sa_u u.length sc_u, lV sa_f f.length sc_f]) :: (Ms_c ++ (Ms_u ++ (Ms_f ++ []))))) (by simp) (g9 8 ?_)))
 refine W.ok (Zl0 Zcp rfl rfl) (g9 7 ?_)
 refine W.sd 11 (fun h9 p9 => ?_) (fun h9 p9 => ?_)
 ·refine g9 16 ?_
  refine W.sd 20 (fun h18 p18 => ?_) (fun h18 p18 => ?_)
  ·refine g9 11 ?_
   refine h_u.a1 (i := i.toNat) om9 (fun he1 => (W.ok (Yu (i := i.toNat) ZbA ty4 h_u rfl rfl ⟨om9, om9⟩) (g9 1 ?_)))
   refine W.ok (Y1 (vs := bc9) ty4 he1 (pmC (pmA pr9)) rfl rfl rfl (by simp)) (g9 5 ?_)
   refine ⟨.inr rfl, [_], ⟨rfl, trivial⟩, ((b_s, ce9 189 [lV sa_c c.length sc_c, lV sa_u u.length sc_u, lV sa_f f.length sc_f]) :: (Ms_c ++ (Ms_u ++ (Ms_f ++ [])))), sr9.k9, ?_⟩
   exact ⟨congrArg Value.bool (ZnQ om9 om9), by simp⟩
  refine g9 12 ?_
  refine ⟨.inr rfl, [_], ⟨rfl, trivial⟩, ((b_s, ce9 189 [lV sa_c c.length sc_c, lV sa_u u.length sc_u, lV sa_f f.length sc_f]) :: (Ms_c ++ (Ms_u ++ (Ms_f ++ [])))), sr9.k9, ?_⟩
  exact ⟨congrArg Value.bool (ZnS om9), by simp⟩
 refine g9 21 ?_
 refine ⟨.inr rfl, [_], ⟨rfl, trivial⟩, ((b_s, ce9 189 [lV sa_c c.length sc_c, lV sa_u u.length sc_u, lV sa_f f.length sc_f]) :: (Ms_c ++ (Ms_u ++ (Ms_f ++ [])))), sr9.k9, ?_⟩
 exact ⟨congrArg Value.bool (ZnR om9), by simp⟩

theorem Znk {G : GH} {b_s : Nat} {v_c : Value} {c : List Nd} {Ms_c : MH} (h_c : OwnR ZF 60 G v_c c Ms_c) {v_u : Value} {u : List Bool} {Ms_u : MH} (h_u : OwnR J5 4 G v_u u Ms_u) {v_f : Value} {f : List Int} {Ms_f : MH} (h_f : OwnR ZA 3 G v_f f Ms_f) (i : Int) {cs_x : List Value} {x : Nd} (h_x : NodeC G cs_x x) (hcu : c.length = u.length) (hn : u.length ≤ 4096) (hh : Heap ltI f) (hp : f.Perm (Y8 u)) :
    Fc Tryz.prog 178 [pt9 b_s, iV i, .agg (List.toArray cs_x)] G ((b_s, ce9 189 [v_c, v_u, v_f]) :: (Ms_c ++ (Ms_u ++ (Ms_f)))) (fun v G' M' => v = iV (XV (c, u) i x).1 ∧ ArR ZF 60 4 3 189 b_s G' (XV (c, u) i x).2 M') := by
 obtain ⟨pa_x, pc_x, ka_x, kc_x, ma_x, mc_x, ra_x, rc_x, rfl, hp_x, hk_x, hm_x, hr_x, hok_x⟩ := h_x
 obtain ⟨sa_c, sc_c, rfl⟩ := h_c.form
 obtain ⟨sa_u, sc_u, rfl⟩ := h_u.form
 obtain ⟨sa_f, sc_f, rfl⟩ := h_f.form
 have hl := h_u.len47
 have hlc := h_c.len47
 refine Fc.go [.tmp 6] Tryz.func178 Tryz.ntmps178 rfl (fun w0 => (WC.perm (M' := ((b_s, ce9 189 [lV sa_c c.length sc_c, lV sa_u u.length sc_u, lV sa_f f.length sc_f]) :: (Ms_c ++ (Ms_u ++ (Ms_f ++ []))))) (by simp) (g9 2 ?_)))
 refine W.box (L := [iV _, iV _, lV _ _ _, lV _ _ _, sV _, .bool _, iV _, iV _, lV _ _ _, lV _ _ _]) rfl rfl (fun b5 => (g9 7 ?_))
 refine W.ok (XB Zcp rfl rfl) (g9 10 ?_)
 refine W.call (Mp := ((b_s, ce9 189 [lV sa_c c.length sc_c, lV sa_u u.length sc_u, lV sa_f f.length sc_f]) :: (Ms_c ++ (Ms_u ++ Ms_f)))) (Mr := ((b5, ce9 60 (ndl x pa_x pc_x ka_x kc_x ma_x mc_x ra_x rc_x)) :: [])) (ZhE h_c h_u h_f _) rfl (((pmC ((pmF ((pmF pr9).trans pr9)).trans pr9)).cons _).trans ((List.Perm.swap _ _ _).trans (pr9.cons _))) ?_
 intro v9 G6 Ms8 hG6 q7
 refine match q7 with | ⟨e_10, e_11⟩ => ?_
 subst e_10
 subst e_11
 refine W.perm (M' := ((b_s, ce9 189 [lV sa_c c.length sc_c, lV sa_u u.length sc_u, lV sa_f f.length sc_f]) :: ((b5, ce9 60 (ndl x pa_x pc_x ka_x kc_x ma_x mc_x ra_x rc_x)) :: (Ms_c ++ (Ms_u ++ (Ms_f ++ [])))))) (((pmC ((pmF ((pmF pr9).trans pr9)).trans pr9)).cons _).trans pr9).symm (g9 3 ?_)
 refine WC.cond rfl (fun h12 => ?_) (fun h12 => ?_)
 ·refine g9 7 ?_
  refine ⟨.inr rfl, [_], ⟨rfl, trivial⟩, ((b_s, ce9 189 [lV sa_c c.length sc_c, lV sa_u u.length sc_u, lV sa_f f.length sc_f]) :: (Ms_c ++ (Ms_u ++ (Ms_f ++ [])))), (sr9.cons _).k9, ?_⟩
  exact ⟨congrArg (Value.int .i64) (congrArg Prod.fst (ZeP (st := (c, u)) (by simpa using h12))).symm, ArR.cast (st := (c, u)) ⟨_, ⟨_, _, _, _, _, _, rfl, (h_c.mono hG6), (h_u.mono hG6), (h_f.mono hG6)⟩, hcu, hn, hh, hp⟩ (congrArg Prod.snd (ZeP (st := (c, u)) (by simpa using h12))).symm (by simp)⟩
 have hhi : YY u i = true := by simpa using h12
 have hil := ZhS hhi
 refine g9 3 ?_
 refine WC.dw (sn9.k9.k9) (d9 [0, 1, 2, 3, 4, 5] ?_)
 refine (h_c.mono hG6).aN (i := i.toNat) om9 (fun _ _ _ _ _ _ _ _ he12 hp_n13 hk_n13 hm_n13 hr_n13 hok_n13 => (WD.tk 6 rfl (Yu (i := i.toNat) Xj Yp (h_c.mono hG6) rfl rfl ⟨om9, om9⟩) (WD.a1 7 rfl (W.storeO (i := i.toNat) (o := 0) (vs := nd9) (a' := x) Yp rfl rfl rfl rfl rfl ((h_c.mono hG6)) (pmC (pmC pr9)) om9 (by decide) (fun cs h => by obtain ⟨_, _, _, _, _, _, _, _, rfl, _⟩ := h; exact (nm9 hG6 hp_x hk_x hm_x hr_x hok_x)) (fun Ms16 ho17 => (W.perm (pmC (pmC pr9)).symm (W.nn (g9 8 ?_))))))))
 refine ⟨.inr rfl, [_], ⟨rfl, trivial⟩, ((b_s, ce9 189 [lV sa_c c.length sc_c, lV sa_u u.length sc_u, lV sa_f f.length sc_f]) :: (Ms16 ++ (Ms_u ++ (Ms_f ++ [])))), (sr9.cons _).k9, ?_⟩
 exact ⟨congrArg (Value.int .i64) (congrArg Prod.fst (ZeO (st := (c, u)) (by simpa using h12))).symm, ArR.cast (st := (c.set i.toNat x, u)) ⟨_, ⟨_, _, _, _, _, _, rfl, ho17, (h_u.mono hG6), (h_f.mono hG6)⟩, (by rw [List.length_set]; exact hcu), hn, hh, hp⟩ (congrArg Prod.snd (ZeO (st := (c, u)) (by simpa using h12))).symm (by simp)⟩

theorem Znl {G : GH} {b_s : Nat} {v_c : Value} {c : List Nd} {Ms_c : MH} (h_c : OwnR ZF 60 G v_c c Ms_c) {v_u : Value} {u : List Bool} {Ms_u : MH} (h_u : OwnR J5 4 G v_u u Ms_u) {v_f : Value} {f : List Int} {Ms_f : MH} (h_f : OwnR ZA 3 G v_f f Ms_f) {cs_x : List Value} {x : Nd} (h_x : NodeC G cs_x x) (hcu : c.length = u.length) (hn : u.length ≤ 4096) (hh : Heap ltI f) (hp : f.Perm (Y8 u)) :
    Fc Tryz.prog 139 [pt9 b_s, .agg (List.toArray cs_x)] G ((b_s, ce9 189 [v_c, v_u, v_f]) :: (Ms_c ++ (Ms_u ++ (Ms_f)))) (fun v G' M' => v = .tuple #[iV (Ym (c, u) x).1.1, iV (Ym (c, u) x).1.2] ∧ ArR ZF 60 4 3 189 b_s G' (Ym (c, u) x).2 M') := by
 obtain ⟨pa_x, pc_x, ka_x, kc_x, ma_x, mc_x, ra_x, rc_x, rfl, hp_x, hk_x, hm_x, hr_x, hok_x⟩ := h_x
 obtain ⟨sa_c, sc_c, rfl⟩ := h_c.form
 obtain ⟨sa_u, sc_u, rfl⟩ := h_u.form
 obtain ⟨sa_f, sc_f, rfl⟩ := h_f.form
 have hl := h_u.len47
 have hlc := h_c.len47
 have hlf := h_f.len47
 refine Fc.go [.tmp 4, .tmp 5] Tryz.func139 Tryz.ntmps139 rfl (fun w0 => (WC.perm (M' := ((b_s, ce9 189 [lV sa_c c.length sc_c, lV sa_u u.length sc_u, lV sa_f f.length sc_f]) :: (Ms_c ++ (Ms_u ++ (Ms_f ++ []))))) (by simp) (g9 2 ?_)))
 refine W.box (L := [iV _, iV _, lV _ _ _, lV _ _ _, sV _, .bool _, iV _, iV _, lV _ _ _, lV _ _ _]) rfl rfl (fun b18 => (g9 8 ?_))
 refine W.ok (XB Zcp rfl rfl) (g9 16 ?_)
 refine WC.cd (fun h14 p14 => ?_) (fun h14 p14 => ?_)
 ·refine g9 8 ?_
  refine ⟨.inr rfl, [_, _], ⟨rfl, rfl, trivial⟩, ((b_s, ce9 189 [lV sa_c c.length sc_c, lV sa_u u.length sc_u, lV sa_f f.length sc_f]) :: (Ms_c ++ (Ms_u ++ (Ms_f ++ [])))), sr9.k9.cons _, ?_⟩
  have hE := ZhU (st := (c, u)) (x := x) (ZnN (u := u) (by have := hp.length_eq; omega))
  exact ⟨congrArg (fun r : Int × Int => Value.tuple #[iV r.1, iV r.2]) (congrArg Prod.fst hE).symm, ArR.cast (st := (c, u)) ⟨_, ⟨_, _, _, _, _, _, rfl, h_c, h_u, h_f⟩, hcu, hn, hh, hp⟩ (congrArg Prod.snd hE).symm (by simp)⟩
 refine g9 7 ?_
 refine W.ok (Zaf ZeX rfl) (W.call (Mp := ((b_s, ce9 189 [lV sa_c c.length sc_c, lV sa_u u.length sc_u, lV sa_f f.length sc_f]) :: Ms_f)) (Mr := ((b18, ce9 60 (ndl x pa_x pc_x ka_x kc_x ma_x mc_x ra_x rc_x)) :: (Ms_c ++ (Ms_u ++ [])))) (Zhz (ZeF (b := b_s) (Tb := 189) (c0 := lV sa_c c.length sc_c) (c1 := lV sa_u u.length sc_u)) ⟨_, _, rfl, h_f⟩ om9) rfl (((pmC (pmA (pmA pr9))).cons _).trans ((List.Perm.swap _ _ _).trans (pr9.cons _))) ?_)
 intro v22 G19 Ms21 hG19 q20
 refine match q20 with | ⟨⟨hv_z23, hi_z23⟩, ⟨vf_z23, Mf_z23, e_24, hf_z23⟩⟩ => ?_
 subst e_24
 have q26 := hf_z23.form
 refine match q26 with | ⟨sa_z23, sc_z23, e_25⟩ => ?_
 subst e_25
 obtain ⟨hlt, hee, hh2, hp2⟩ := ZnP hh hp om9
 rw [hee] at hv_z23
 subst hv_z23
 refine W.perm (M' := ((b_s, ce9 189 [lV sa_c c.length sc_c, lV sa_u u.length sc_u, lV sa_z23 ((Y2 ltI f)).length sc_z23]) :: ((b18, ce9 60 (ndl x pa_x pc_x ka_x kc_x ma_x mc_x ra_x rc_x)) :: (Mf_z23 ++ (Ms_c ++ (Ms_u ++ [])))))) (((pmC pr9).cons _).trans pr9).symm (W.ok (Zek pi3 rfl) (g9 4 ?_))
 refine WC.dw (sn9.k9.k9) (d9 [0, 1, 2, 3, 4, 5, 6, 7, 8, 9, 10] ?_)
 refine (h_c.mono hG19).aN (i := (Yv u)) om9 (fun _ _ _ _ _ _ _ _ he27 hp_n28 hk_n28 hm_n28 hr_n28 hok_n28 => (WD.tk 11 rfl (Yu (i := (Yv u)) Xj Yp (h_c.mono hG19) rfl rfl ⟨om9, om9⟩) (WD.a1 12 rfl (W.storeO (i := (Yv u)) (o := 0) (vs := nd9) (a' := x) Yp rfl rfl rfl rfl rfl ((h_c.mono hG19)) (pmC (pmC (pmA pr9))) om9 (by decide) (fun cs h => by obtain ⟨_, _, _, _, _, _, _, _, rfl, _⟩ := h; exact (nm9 hG19 hp_x hk_x hm_x hr_x hok_x)) (fun Ms31 ho32 => (W.perm (pmC (pmC pr9)).symm (W.nn ((h_u.mono hG19).a1 (i := (Yv u)) om9 (fun he33 => (WD.tk 13 rfl (Yu (i := (Yv u)) ZbA ty4 (h_u.mono hG19) rfl rfl ⟨om9, om9⟩) (WD.a1 14 rfl (W.storeO (i := (Yv u)) (o := 0) (vs := bc9) (a' := true) ty4 rfl rfl rfl rfl rfl ((h_u.mono hG19)) (pmC (pmC (pmA (pmA pr9)))) om9 (by decide) (fun cs h => by rw [h]; rfl) (fun Ms37 ho38 => (W.perm (pmC (pmC pr9)).symm (W.nn (g9 9 ?_))))))))))))))))
 refine WC.perm (M' := ((b_s, ce9 189 [lV sa_c c.length sc_c, lV sa_u u.length sc_u, lV sa_z23 ((Y2 ltI f)).length sc_z23]) :: ((b18, ce9 60 (ndl x pa_x pc_x ka_x kc_x ma_x mc_x ra_x rc_x)) :: (Ms31 ++ (Ms37 ++ (Mf_z23 ++ [])))))) ((((List.Perm.append_left _ ((List.Perm.append_left _ ((List.Perm.append_left _ pr9).trans pr9)).trans pr9)).trans (pmA pr9)).cons _).cons _) (WC.ret ?_)
 refine ⟨.inr rfl, [_, _], ⟨rfl, rfl, trivial⟩, ((b_s, ce9 189 [lV sa_c c.length sc_c, lV sa_u u.length sc_u, lV sa_z23 ((Y2 ltI f)).length sc_z23]) :: (Ms31 ++ (Ms37 ++ (Mf_z23 ++ [])))), (sr9.cons _).k9, ?_⟩
 have hE := ZhT (st := (c, u)) (x := x) hlt
 exact ⟨congrArg (fun r : Int × Int => Value.tuple #[iV r.1, iV r.2]) (congrArg Prod.fst hE).symm, ArR.cast (st := (c.set (Yv u) x, u.set (Yv u) true)) ⟨_, ⟨_, _, _, _, _, _, rfl, ho32, ho38, hf_z23⟩, (by rw [List.length_set, List.length_set]; exact hcu), (by rw [List.length_set]; exact hn), hh2, hp2⟩ (congrArg Prod.snd hE).symm (by simp)⟩

theorem Znm {G : GH} {b_s : Nat} {v_c : Value} {c : List Nd} {Ms_c : MH} (h_c : OwnR ZF 60 G v_c c Ms_c) {v_u : Value} {u : List Bool} {Ms_u : MH} (h_u : OwnR J5 4 G v_u u Ms_u) {v_f : Value} {f : List Int} {Ms_f : MH} (h_f : OwnR ZA 3 G v_f f Ms_f) (i : Int) (hcu : c.length = u.length) :
    Fc Tryz.prog 117 [pt9 b_s, iV i] G ((b_s, ce9 189 [v_c, v_u, v_f]) :: (Ms_c ++ (Ms_u ++ (Ms_f)))) (fun v G' M' => ∃ cs, v = .tuple #[.agg (List.toArray cs), .bool (YY u i)] ∧ NodeC G' cs (Jz (c, u) i Nd.zero) ∧ M' = (b_s, ce9 189 [v_c, v_u, v_f]) :: (Ms_c ++ (Ms_u ++ Ms_f))) := by
 obtain ⟨sa_c, sc_c, rfl⟩ := h_c.form
 obtain ⟨sa_u, sc_u, rfl⟩ := h_u.form
 obtain ⟨sa_f, sc_f, rfl⟩ := h_f.form
 have hl := h_u.len47
 have hlc := h_c.len47
 refine Fc.go [.cell 4 60, .tmp 5] Tryz.func117 Tryz.ntmps117 rfl (fun w0 => (WC.perm (M' := ((b_s, ce9 189 [lV sa_c c.length sc_c, lV sa_u u.length sc_u, lV sa_f f.length sc_f]) :: (Ms_c ++ (Ms_u ++ (Ms_f ++ []))))) (by simp) (g9 2 ?_)))
 refine W.alloc Zp (fun b39 => (g9 8 ?_))
 refine W.call (Mp := ((b_s, ce9 189 [lV sa_c c.length sc_c, lV sa_u u.length sc_u, lV sa_f f.length sc_f]) :: (Ms_c ++ (Ms_u ++ Ms_f)))) (Mr := ((b39, ce9 60 nz9) :: [])) (ZhE h_c h_u h_f _) rfl (((pmC ((pmF ((pmF pr9).trans pr9)).trans pr9)).cons _).trans ((List.Perm.swap _ _ _).trans (pr9.cons _))) ?_
 intro v43 G40 Ms42 hG40 q41
 refine match q41 with | ⟨e_44, e_45⟩ => ?_
 subst e_44
 subst e_45
 refine W.perm (M' := ((b_s, ce9 189 [lV sa_c c.length sc_c, lV sa_u u.length sc_u, lV sa_f f.length sc_f]) :: ((b39, ce9 60 nz9) :: (Ms_c ++ (Ms_u ++ (Ms_f ++ [])))))) (((pmC ((pmF ((pmF pr9).trans pr9)).trans pr9)).cons _).trans pr9).symm (g9 3 ?_)
 refine WC.cond rfl (fun h9 => ?_) (fun h9 => ?_)
 ·have hhi : YY u i = false := by simpa using h9
  refine g9 9 ?_
  refine ⟨.inr rfl, [_, _], ⟨⟨_, _, _, _, _, rfl, YF (i := 1) rfl, Yp, (by simp), rfl, rfl⟩, rfl, trivial⟩, ((b_s, ce9 189 [lV sa_c c.length sc_c, lV sa_u u.length sc_u, lV sa_f f.length sc_f]) :: (Ms_c ++ (Ms_u ++ (Ms_f ++ [])))), (sr9.cons _).k9, ?_⟩
  refine ⟨_, ?_, NodeC.cast ⟨_, _, _, _, _, _, _, _, rfl, SlR.nil, SlR.nil, SlR.nil, SlR.nil, Nd.zero_ok⟩ (ZnU (st := (c, u)) hhi).symm, by simp⟩
  rw [hhi]; rfl
 have hhi : YY u i = true := by simpa using h9
 have hil := ZhS hhi
 refine g9 9 ?_
 refine (h_c.mono hG40).aN (i := i.toNat) om9 (fun _ _ _ _ _ _ _ _ he46 hp_n47 hk_n47 hm_n47 hr_n47 hok_n47 => (W.ok (Yu (i := i.toNat) Xj Yp (h_c.mono hG40) rfl rfl ⟨om9, om9⟩) (W.ok (Y1 (vs := nd9) Yp he46 (pmC (pmC pr9)) rfl rfl rfl (by simp)) (g9 5 ?_))))
 refine ⟨.inr rfl, [_, _], ⟨⟨_, _, _, _, _, rfl, YF (i := 1) rfl, Yp, (by simp), rfl, rfl⟩, rfl, trivial⟩, ((b_s, ce9 189 [lV sa_c c.length sc_c, lV sa_u u.length sc_u, lV sa_f f.length sc_f]) :: (Ms_c ++ (Ms_u ++ (Ms_f ++ [])))), (sr9.cons _).k9, ?_⟩
 refine ⟨_, ?_, NodeC.cast (nk9 hp_n47 hk_n47 hm_n47 hr_n47 hok_n47) (ZnT (st := (c, u)) hhi (by show _ < c.length; omega)).symm, by simp⟩
 rw [hhi]; rfl

theorem Znn {G : GH} {b_s : Nat} {v_c : Value} {c : List Nd} {Ms_c : MH} (h_c : OwnR ZF 60 G v_c c Ms_c) {v_u : Value} {u : List Bool} {Ms_u : MH} (h_u : OwnR J5 4 G v_u u Ms_u) {v_f : Value} {f : List Int} {Ms_f : MH} (h_f : OwnR ZA 3 G v_f f Ms_f) (hcu : c.length = u.length) (hn : u.length ≤ 4096) (hh : Heap ltI f) (hp : f.Perm (Y8 u)) :
    Fc Tryz.prog 218 [pt9 b_s] G ((b_s, ce9 189 [v_c, v_u, v_f]) :: (Ms_c ++ (Ms_u ++ (Ms_f)))) (fun v G' M' => v = iV ((Y8 u).length : Int) ∧ M' = (b_s, ce9 189 [v_c, v_u, v_f]) :: (Ms_c ++ (Ms_u ++ Ms_f))) := by
 obtain ⟨sa_c, sc_c, rfl⟩ := h_c.form
 obtain ⟨sa_u, sc_u, rfl⟩ := h_u.form
 obtain ⟨sa_f, sc_f, rfl⟩ := h_f.form
 have hl := h_u.len47
 have hlf := h_f.len47
 have hfu := ZeL u
 have hpl := hp.length_eq
 refine Fc.go [.tmp 2] Tryz.func218 Tryz.ntmps218 rfl (fun w0 => (WC.perm (M' := ((b_s, ce9 189 [lV sa_c c.length sc_c, lV sa_u u.length sc_u, lV sa_f f.length sc_f]) :: (Ms_c ++ (Ms_u ++ (Ms_f ++ []))))) (by simp) (g9 9 ?_)))
 refine W.ok (XB Zcp rfl rfl) (g9 16 ?_)
 refine ⟨.inr rfl, [_], ⟨rfl, trivial⟩, ((b_s, ce9 189 [lV sa_c c.length sc_c, lV sa_u u.length sc_u, lV sa_f f.length sc_f]) :: (Ms_c ++ (Ms_u ++ (Ms_f ++ [])))), sr9.k9, ?_⟩
 exact ⟨congrArg (Value.int .i64) om9, by simp⟩

theorem Zno {G : GH} {b_s : Nat} {v_c : Value} {c : List Nd} {Ms_c : MH} (h_c : OwnR ZF 60 G v_c c Ms_c) {v_u : Value} {u : List Bool} {Ms_u : MH} (h_u : OwnR J5 4 G v_u u Ms_u) {v_f : Value} {f : List Int} {Ms_f : MH} (h_f : OwnR ZA 3 G v_f f Ms_f) (hcu : c.length = u.length) (hn : u.length ≤ 4096) (hh : Heap ltI f) (hp : f.Perm (Y8 u)) :
    Fc Tryz.prog 107 [pt9 b_s] G ((b_s, ce9 189 [v_c, v_u, v_f]) :: (Ms_c ++ (Ms_u ++ (Ms_f)))) (fun v G' M' => SlR ZA G' v (XF u) ∧ M' = (b_s, ce9 189 [v_c, v_u, v_f]) :: (Ms_c ++ (Ms_u ++ Ms_f))) := by
 obtain ⟨sa_c, sc_c, rfl⟩ := h_c.form
 obtain ⟨sa_u, sc_u, rfl⟩ := h_u.form
 obtain ⟨sa_f, sc_f, rfl⟩ := h_f.form
 have hl := h_u.len47
 have hlf := h_f.len47
 have hfu := ZeL u
 have hpl := hp.length_eq
 refine Fc.go [.tmp 2] Tryz.func107 Tryz.ntmps107 rfl (fun w0 => (WC.perm (M' := ((b_s, ce9 189 [lV sa_c c.length sc_c, lV sa_u u.length sc_u, lV sa_f f.length sc_f]) :: (Ms_c ++ (Ms_u ++ (Ms_f ++ []))))) (by simp) (g9 14 ?_)))
 refine W.ok (Zl0 Zcp rfl rfl) (g9 14 ?_)
 refine WC.loop (X := (Nat) × Value × MH) (fun k => [(13, nt9 k.1), (11, lV sa_u u.length sc_u), (12, nt9 ((u).length)), (3, k.2.1)]) (fun k G Ml => Ml = ((b_s, ce9 189 [lV sa_c c.length sc_c, lV sa_u u.length sc_u, lV sa_f f.length sc_f]) :: (k.2.2 ++ (Ms_c ++ (Ms_u ++ (Ms_f ++ []))))) ∧ OwnR ZA 3 G k.2.1 (JR u k.1) k.2.2 ∧ k.1 ≤ u.length) (fun k => u.length - k.1) (0, lV none 0 0, ([] : MH)) hs9 ?_ ?_
 ·exact ⟨rfl, (by exact OwnR.nil), om9⟩
 rintro ⟨k, v_3, M_3⟩ gG50 G50 _ hG50 ⟨rfl, ho_3, hk⟩
 try dsimp only at ho_3 hk
 have hkl := ZhV u k
 refine WC.fr (f := ZZ gG50 [(13, nt9 k), (11, lV sa_u u.length sc_u), (12, nt9 ((u).length)), (3, v_3)]) rfl (g9 6 ?_)
 refine WC.cd (fun h14 p14 => ?_) (fun h14 p14 => ?_)
 ·refine g9 7 ?_
  refine (h_u.mono hG50).a1 (i := k) om9 (fun he51 => (W.ok (Yu (i := k) ZbA ty4 (h_u.mono hG50) rfl rfl ⟨om9, om9⟩) (W.ok (Y1 (vs := bc9) ty4 he51 (pmC (pmA (pmA pr9))) rfl rfl rfl (by simp)) (g9 9 ?_))))
  refine WC.cond rfl (fun he52 => ?_) (fun he52 => ?_)
  ·refine g9 3 ?_
   refine W.lit (e := ZA) (l := [_]) (css := [[iV _]]) Z5 ty3 zr3 rfl rfl rfl rfl rfl rfl ⟨⟨rfl, om9, om9⟩, trivial⟩ (fun bl55 G55 hG55 hv55 => (W.app (e := ZA) Z5 ty3 zr3 rfl by3 rfl rfl ((ho_3.mono hG55)) (hv55) (pmC pr9) (by show (_ + 1) * 8 ≤ _; omega) (fun v56 Ms57 ho58 => (W.perm (pmC pr9).symm ?_))))
   have q62 := ho58.form
   refine match q62 with | ⟨sa59, sc60, e_61⟩ => ?_
   subst e_61
   refine g9 9 ?_
   exact ⟨hG55, (k + 1, lV sa59 ((JR u k ++ _)).length sc60, Ms57), hs9, ⟨rfl, (by have h := ho58; rw [ZnV om9 he52]; exact h), om9⟩, om9⟩
  refine g9 8 ?_
  exact ⟨Le.rfl, (k + 1, v_3, M_3), hs9, ⟨rfl, (by have h := ho_3; rw [ZnW om9 he52]; exact h), om9⟩, om9⟩
 refine g9 11 ?_
 refine WC.giveO ho_3 (pmC pr9) (fun G63 hG63 hv63 => (WC.ret ?_))
 refine ⟨.inr rfl, [_], ⟨rfl, trivial⟩, ((b_s, ce9 189 [lV sa_c c.length sc_c, lV sa_u u.length sc_u, lV sa_f f.length sc_f]) :: (Ms_c ++ (Ms_u ++ (Ms_f ++ [])))), sr9.k9, ?_⟩
 exact ⟨SlR.cast hv63 (by rw [ZhW]; congr 1; omega), by simp⟩

theorem Znp {G : GH} (n : Int) :
    Fc Tryz.prog 83 [iV n] G [] (fun v G' M' => (¬ (1 ≤ n ∧ n ≤ 4096) ∧ v = .tuple #[.pointer none, iV 2] ∧ M' = []) ∨ ((1 ≤ n ∧ n ≤ 4096) ∧ ∃ b, v = .tuple #[pt9 b, iV 0] ∧ ArR ZF 60 4 3 189 b G' (List.replicate n.toNat Nd.zero, List.replicate n.toNat false) M')) := by
 refine Fc.go [.tmp 2, .tmp 3] Tryz.func83 Tryz.ntmps83 rfl (fun w0 => (g9 12 ?_))
 refine W.sd 8 (fun h7 p7 => ?_) (fun h7 p7 => ?_)
 ·refine g9 14 ?_
  refine ⟨.inr rfl, [_, _], ⟨rfl, rfl, trivial⟩, [], sr9, ?_⟩
  exact .inl ⟨om9, rfl, rfl⟩
 refine g9 7 ?_
 refine WC.cd (fun h10 p10 => ?_) (fun h10 p10 => ?_)
 ·refine g9 8 ?_
  refine ⟨.inr rfl, [_, _], ⟨rfl, rfl, trivial⟩, [], sr9, ?_⟩
  exact .inl ⟨om9, rfl, rfl⟩
 obtain ⟨m, rfl⟩ : ∃ m : Nat, n = (m : Int) := ⟨n.toNat, om9⟩
 refine g9 3 ?_
 refine WC.dw sr9 (d9 [0, 2] ?_)
 refine WD.any [1, 3] (by kernel_rfl) rfl ⟨WD.ap ?_, WD.ap ?_, trivial⟩
 ·refine W.mkSl (e := ZF) (a0 := Nd.zero) (n := (m)) Xj Yp Zp rfl Zan (⟨_, _, _, _, _, _, _, _, rfl, SlR.nil, SlR.nil, SlR.nil, SlR.nil, Nd.zero_ok⟩) rfl rfl (by first | (show _ * 152 ≤ 140737488355328; omega) | (show _ * 10 ≤ 16777216; omega) | (show _ * 1 ≤ 140737488355328; omega) | (show _ * 1 ≤ 16777216; omega)) (by first | (show _ * 152 ≤ 140737488355328; omega) | (show _ * 10 ≤ 16777216; omega) | (show _ * 1 ≤ 140737488355328; omega) | (show _ * 1 ≤ 16777216; omega)) (fun v1 Ms2 ho3 => ?_)
  have q7 := ho3.form
  refine match q7 with | ⟨sa4, sc5, e_6⟩ => ?_
  subst e_6
  refine W.nn (WD.a1 3 rfl (W.mkSl (e := J5) (a0 := false) (n := (m)) ZbA ty4 zr4 rfl by4 (rfl) rfl rfl (by first | (show _ * 152 ≤ 140737488355328; omega) | (show _ * 10 ≤ 16777216; omega) | (show _ * 1 ≤ 140737488355328; omega) | (show _ * 1 ≤ 16777216; omega)) (by first | (show _ * 152 ≤ 140737488355328; omega) | (show _ * 10 ≤ 16777216; omega) | (show _ * 1 ≤ 140737488355328; omega) | (show _ * 1 ≤ 16777216; omega)) (fun v8 Ms9 ho10 => ?_)))
  have q14 := ho10.form
  refine match q14 with | ⟨sa11, sc12, e_13⟩ => ?_
  subst e_13
  refine W.nn (WD.tk 4 rfl (ZE (L := [lV _ _ _, lV _ _ _, lV _ _ _]) Zia Zh9 rfl rfl rfl) (WD.a1 5 rfl (W.box (L := [lV _ _ _, lV _ _ _, lV _ _ _]) rfl rfl (fun b15 => (W.nn (d9 [6] ?_))))))
  refine g9 4 ?_
  have hR16 : ArP ZF 60 4 3 189 b15 G (List.replicate m Nd.zero, List.replicate m false, Yh 0) ((b15, ce9 189 [lV sa4 ((List.replicate ((m)) Nd.zero)).length sc5, lV sa11 ((List.replicate ((m)) false)).length sc12, lV none 0 0]) :: (Ms2 ++ (Ms9 ++ []))) := ⟨_, _, _, _, _, _, rfl, ho3, ho10, OwnR.nil⟩
  refine WC.perm (M' := (((b15, ce9 189 [lV sa4 ((List.replicate ((m)) Nd.zero)).length sc5, lV sa11 ((List.replicate ((m)) false)).length sc12, lV none 0 0]) :: (Ms2 ++ (Ms9 ++ []))) ++ [])) (pr9.symm.trans ((((pmF ((pmF pr9).trans pr9)).trans (pmA pr9)).cons _).trans pr9)) (g9 6 ?_)
  refine WC.loop (X := (Nat) × MH) (fun k => [(19, nt9 k.1), (18, nt9 m), (4, pt9 b15)]) (fun k G Ml => Ml = (k.2 ++ []) ∧ ArP ZF 60 4 3 189 b15 G ((List.replicate m Nd.zero, List.replicate m false, Yh k.1)) k.2 ∧ k.1 ≤ m) (fun k => m - k.1) (0, ((b15, ce9 189 [lV sa4 ((List.replicate ((m)) Nd.zero)).length sc5, lV sa11 ((List.replicate ((m)) false)).length sc12, lV none 0 0]) :: (Ms2 ++ (Ms9 ++ [])))) hs9 ?_ ?_
  ·exact ⟨rfl, (by exact hR16), om9⟩
  rintro ⟨k, M_4⟩ gG17 G17 _ hG17 ⟨rfl, ho_4, hk⟩
  try dsimp only at ho_4 hk
  refine WC.fr (f := ZZ gG17 [(19, nt9 k), (18, nt9 m), (4, pt9 b15)]) rfl (g9 6 ?_)
  refine WC.cd (fun h20 p20 => ?_) (fun h20 p20 => ?_)
  ·refine g9 10 ?_
   refine match ho_4 with | ⟨vc_u18, vu_u18, vf_u18, Mc_u18, Mu_u18, Mf_u18, eM_, hc_u18, hu_u18, hf_u18⟩ => ?_
   subst eM_
   refine WC.perm (M' := ((b15, ce9 189 [vc_u18, vu_u18, vf_u18]) :: (Mc_u18 ++ (Mu_u18 ++ (Mf_u18 ++ []))))) ((pmF (pmF pr9)).cons _).symm ?_
   dsimp only at hc_u18 hu_u18 hf_u18
   refine match hc_u18.form with | ⟨sac_u18, scc_u18, eV_⟩ => ?_
   subst eV_
   refine match hu_u18.form with | ⟨sau_u18, scu_u18, eV_⟩ => ?_
   subst eV_
   refine match hf_u18.form with | ⟨saf_u18, scf_u18, eV_⟩ => ?_
   subst eV_
   refine g9 7 ?_
   refine W.lit (e := ZA) (l := [((k : Nat) : Int)]) (css := [[iV _]]) Xk ty3 zr3 rfl rfl rfl rfl rfl rfl ⟨⟨rfl, om9, om9⟩, trivial⟩ (fun bl19 G19 hG19 hv19 => (W.app (e := ZA) Xk ty3 zr3 rfl by3 rfl rfl ((hf_u18.mono hG19)) (hv19) (pmC (pmA (pmA pr9))) (by show (_ + 1) * 8 ≤ _; rw [ZaD]; omega) (fun v20 Ms21 ho22 => (W.perm (pmC pr9).symm ?_))))
   have q26 := ho22.form
   refine match q26 with | ⟨sa23, sc24, e_25⟩ => ?_
   subst e_25
   refine g9 6 ?_
   have hR27 : ArP ZF 60 4 3 189 b15 G19 (List.replicate m Nd.zero, List.replicate m false, Yh (k + 1)) ((b15, ce9 189 [lV sac_u18 (List.replicate m Nd.zero).length scc_u18, lV sau_u18 (List.replicate m false).length scu_u18, lV sa23 ((Yh k ++ [((k : Nat) : Int)])).length sc24]) :: (Mc_u18 ++ (Mu_u18 ++ Ms21))) := ⟨_, _, _, _, _, _, rfl, (hc_u18.mono hG19), (hu_u18.mono hG19), (by rw [ZhQ]; exact ho22)⟩
   refine WC.perm (M' := (((b15, ce9 189 [lV sac_u18 (List.replicate m Nd.zero).length scc_u18, lV sau_u18 (List.replicate m false).length scu_u18, lV sa23 ((Yh k ++ [((k : Nat) : Int)])).length sc24]) :: (Mc_u18 ++ (Mu_u18 ++ Ms21))) ++ [])) (pr9.symm.trans ((((pmF ((pmF pr9).trans (pmA pr9))).trans (pmA pr9)).cons _).trans pr9)) (g9 5 ?_)
   exact ⟨hG19, (k + 1, ((b15, ce9 189 [lV sac_u18 (List.replicate m Nd.zero).length scc_u18, lV sau_u18 (List.replicate m false).length scu_u18, lV sa23 ((Yh k ++ [((k : Nat) : Int)])).length sc24]) :: (Mc_u18 ++ (Mu_u18 ++ Ms21)))), hs9, ⟨rfl, (by exact hR27), om9⟩, om9⟩
  refine g9 6 ?_
  obtain rfl : k = m := by omega
  refine match ho_4 with | ⟨vc_u28, vu_u28, vf_u28, Mc_u28, Mu_u28, Mf_u28, eM_, hc_u28, hu_u28, hf_u28⟩ => ?_
  subst eM_
  refine WC.perm (M' := ((b15, ce9 189 [vc_u28, vu_u28, vf_u28]) :: (Mc_u28 ++ (Mu_u28 ++ (Mf_u28 ++ []))))) ((pmF (pmF pr9)).cons _).symm ?_
  dsimp only at hc_u28 hu_u28 hf_u28
  refine match hc_u28.form with | ⟨sac_u28, scc_u28, eV_⟩ => ?_
  subst eV_
  refine match hu_u28.form with | ⟨sau_u28, scu_u28, eV_⟩ => ?_
  subst eV_
  refine match hf_u28.form with | ⟨saf_u28, scf_u28, eV_⟩ => ?_
  subst eV_
  refine g9 4 ?_
  refine W.ok (Zaf ZeX rfl) (W.call (Mp := ((b15, ce9 189 [lV sac_u28 (List.replicate k Nd.zero).length scc_u28, lV sau_u28 (List.replicate k false).length scu_u28, lV saf_u28 (Yh k).length scf_u28]) :: Mf_u28)) (Mr := (Mc_u28 ++ (Mu_u28 ++ []))) (ZhB (ZeF (b := b15) (Tb := 189) (c0 := lV sac_u28 (List.replicate k Nd.zero).length scc_u28) (c1 := lV sau_u28 (List.replicate k false).length scu_u28)) ⟨_, _, rfl, hf_u28⟩ (Zc7 k) (by rw [ZaD]; omega)) rfl (((pmA (pmA pr9)).cons _).trans pr9) ?_)
  intro v32 G29 Ms31 hG29 q30
  refine match q30 with | ⟨e_34, ⟨vf_z33, Mf_z33, e_35, hf_z33⟩⟩ => ?_
  subst e_34
  subst e_35
  have q37 := hf_z33.form
  refine match q37 with | ⟨sa_z33, sc_z33, e_36⟩ => ?_
  subst e_36
  refine W.perm (M' := ((b15, ce9 189 [lV sac_u28 (List.replicate k Nd.zero).length scc_u28, lV sau_u28 (List.replicate k false).length scu_u28, lV sa_z33 (Yh k).length sc_z33]) :: (Mf_z33 ++ (Mc_u28 ++ (Mu_u28 ++ []))))) ((pr9.cons _).trans pr9).symm (g9 9 ?_)
  refine WC.perm (M' := ((b15, ce9 189 [lV sac_u28 (List.replicate k Nd.zero).length scc_u28, lV sau_u28 (List.replicate k false).length scu_u28, lV sa_z33 (Yh k).length sc_z33]) :: (Mc_u28 ++ (Mu_u28 ++ (Mf_z33 ++ []))))) (((List.Perm.append_left _ ((List.Perm.append_left _ ((List.Perm.append_left _ pr9).trans pr9)).trans (pmA pr9))).trans (pmA pr9)).cons _) (WC.ret ?_)
  refine ⟨.inr rfl, [_, _], ⟨rfl, rfl, trivial⟩, ((b15, ce9 189 [lV sac_u28 (List.replicate k Nd.zero).length scc_u28, lV sau_u28 (List.replicate k false).length scu_u28, lV sa_z33 (Yh k).length sc_z33]) :: (Mc_u28 ++ (Mu_u28 ++ (Mf_z33 ++ [])))), sr9.k9, ?_⟩
  exact .inr ⟨om9, _, rfl, ArR.cast (st := (List.replicate k Nd.zero, List.replicate k false)) ⟨_, ⟨_, _, _, _, _, _, rfl, (hc_u28.mono hG29), (hu_u28.mono hG29), hf_z33⟩, by simp, by simp; omega, Zc7 k, List.Perm.of_eq (ZhR k)⟩ (by simp) (by simp)⟩
 refine W.mkSl (e := J5) (a0 := false) (n := (m)) ZbA ty4 zr4 rfl by4 (rfl) rfl rfl (by first | (show _ * 152 ≤ 140737488355328; omega) | (show _ * 10 ≤ 16777216; omega) | (show _ * 1 ≤ 140737488355328; omega) | (show _ * 1 ≤ 16777216; omega)) (by first | (show _ * 152 ≤ 140737488355328; omega) | (show _ * 10 ≤ 16777216; omega) | (show _ * 1 ≤ 140737488355328; omega) | (show _ * 1 ≤ 16777216; omega)) (fun v38 Ms39 ho40 => ?_)
 have q44 := ho40.form
 refine match q44 with | ⟨sa41, sc42, e_43⟩ => ?_
 subst e_43
 refine W.nn (WD.a1 1 rfl (W.mkSl (e := ZF) (a0 := Nd.zero) (n := (m)) Xj Yp Zp rfl Zan (⟨_, _, _, _, _, _, _, _, rfl, SlR.nil, SlR.nil, SlR.nil, SlR.nil, Nd.zero_ok⟩) rfl rfl (by first | (show _ * 152 ≤ 140737488355328; omega) | (show _ * 10 ≤ 16777216; omega) | (show _ * 1 ≤ 140737488355328; omega) | (show _ * 1 ≤ 16777216; omega)) (by first | (show _ * 152 ≤ 140737488355328; omega) | (show _ * 10 ≤ 16777216; omega) | (show _ * 1 ≤ 140737488355328; omega) | (show _ * 1 ≤ 16777216; omega)) (fun v45 Ms46 ho47 => ?_)))
 have q51 := ho47.form
 refine match q51 with | ⟨sa48, sc49, e_50⟩ => ?_
 subst e_50
 refine W.nn (WD.tk 4 rfl (ZE (L := [lV _ _ _, lV _ _ _, lV _ _ _]) Zia Zh9 rfl rfl rfl) (WD.a1 5 rfl (W.box (L := [lV _ _ _, lV _ _ _, lV _ _ _]) rfl rfl (fun b52 => (W.nn (d9 [6] ?_))))))
 refine g9 4 ?_
 have hR53 : ArP ZF 60 4 3 189 b52 G (List.replicate m Nd.zero, List.replicate m false, Yh 0) ((b52, ce9 189 [lV sa48 ((List.replicate ((m)) Nd.zero)).length sc49, lV sa41 ((List.replicate ((m)) false)).length sc42, lV none 0 0]) :: (Ms46 ++ (Ms39 ++ []))) := ⟨_, _, _, _, _, _, rfl, ho47, ho40, OwnR.nil⟩
 refine WC.perm (M' := (((b52, ce9 189 [lV sa48 ((List.replicate ((m)) Nd.zero)).length sc49, lV sa41 ((List.replicate ((m)) false)).length sc42, lV none 0 0]) :: (Ms46 ++ (Ms39 ++ []))) ++ [])) (pr9.symm.trans ((((pmF ((pmF pr9).trans pr9)).trans pr9).cons _).trans pr9)) (g9 6 ?_)
 refine WC.loop (X := (Nat) × MH) (fun k => [(19, nt9 k.1), (18, nt9 m), (4, pt9 b52)]) (fun k G Ml => Ml = (k.2 ++ []) ∧ ArP ZF 60 4 3 189 b52 G ((List.replicate m Nd.zero, List.replicate m false, Yh k.1)) k.2 ∧ k.1 ≤ m) (fun k => m - k.1) (0, ((b52, ce9 189 [lV sa48 ((List.replicate ((m)) Nd.zero)).length sc49, lV sa41 ((List.replicate ((m)) false)).length sc42, lV none 0 0]) :: (Ms46 ++ (Ms39 ++ [])))) hs9 ?_ ?_
 ·exact ⟨rfl, (by exact hR53), om9⟩
 rintro ⟨k, M_4⟩ gG54 G54 _ hG54 ⟨rfl, ho_4, hk⟩
 try dsimp only at ho_4 hk
 refine WC.fr (f := ZZ gG54 [(19, nt9 k), (18, nt9 m), (4, pt9 b52)]) rfl (g9 6 ?_)
 refine WC.cd (fun h20 p20 => ?_) (fun h20 p20 => ?_)
 ·refine g9 10 ?_
  refine match ho_4 with | ⟨vc_u55, vu_u55, vf_u55, Mc_u55, Mu_u55, Mf_u55, eM_, hc_u55, hu_u55, hf_u55⟩ => ?_
  subst eM_
  refine WC.perm (M' := ((b52, ce9 189 [vc_u55, vu_u55, vf_u55]) :: (Mc_u55 ++ (Mu_u55 ++ (Mf_u55 ++ []))))) ((pmF (pmF pr9)).cons _).symm ?_
  dsimp only at hc_u55 hu_u55 hf_u55
  refine match hc_u55.form with | ⟨sac_u55, scc_u55, eV_⟩ => ?_
  subst eV_
  refine match hu_u55.form with | ⟨sau_u55, scu_u55, eV_⟩ => ?_
  subst eV_
  refine match hf_u55.form with | ⟨saf_u55, scf_u55, eV_⟩ => ?_
  subst eV_
  refine g9 7 ?_
  refine W.lit (e := ZA) (l := [((k : Nat) : Int)]) (css := [[iV _]]) Xk ty3 zr3 rfl rfl rfl rfl rfl rfl ⟨⟨rfl, om9, om9⟩, trivial⟩ (fun bl56 G56 hG56 hv56 => (W.app (e := ZA) Xk ty3 zr3 rfl by3 rfl rfl ((hf_u55.mono hG56)) (hv56) (pmC (pmA (pmA pr9))) (by show (_ + 1) * 8 ≤ _; rw [ZaD]; omega) (fun v57 Ms58 ho59 => (W.perm (pmC pr9).symm ?_))))
  have q63 := ho59.form
  refine match q63 with | ⟨sa60, sc61, e_62⟩ => ?_
  subst e_62
  refine g9 6 ?_
  have hR64 : ArP ZF 60 4 3 189 b52 G56 (List.replicate m Nd.zero, List.replicate m false, Yh (k + 1)) ((b52, ce9 189 [lV sac_u55 (List.replicate m Nd.zero).length scc_u55, lV sau_u55 (List.replicate m false).length scu_u55, lV sa60 ((Yh k ++ [((k : Nat) : Int)])).length sc61]) :: (Mc_u55 ++ (Mu_u55 ++ Ms58))) := ⟨_, _, _, _, _, _, rfl, (hc_u55.mono hG56), (hu_u55.mono hG56), (by rw [ZhQ]; exact ho59)⟩
  refine WC.perm (M' := (((b52, ce9 189 [lV sac_u55 (List.replicate m Nd.zero).length scc_u55, lV sau_u55 (List.replicate m false).length scu_u55, lV sa60 ((Yh k ++ [((k : Nat) : Int)])).length sc61]) :: (Mc_u55 ++ (Mu_u55 ++ Ms58))) ++ [])) (pr9.symm.trans ((((pmF ((pmF pr9).trans (pmA pr9))).trans (pmA pr9)).cons _).trans pr9)) (g9 5 ?_)
  exact ⟨hG56, (k + 1, ((b52, ce9 189 [lV sac_u55 (List.replicate m Nd.zero).length scc_u55, lV sau_u55 (List.replicate m false).length scu_u55, lV sa60 ((Yh k ++ [((k : Nat) : Int)])).length sc61]) :: (Mc_u55 ++ (Mu_u55 ++ Ms58)))), hs9, ⟨rfl, (by exact hR64), om9⟩, om9⟩
 refine g9 6 ?_
 obtain rfl : k = m := by omega
 refine match ho_4 with | ⟨vc_u65, vu_u65, vf_u65, Mc_u65, Mu_u65, Mf_u65, eM_, hc_u65, hu_u65, hf_u65⟩ => ?_
 subst eM_
 refine WC.perm (M' := ((b52, ce9 189 [vc_u65, vu_u65, vf_u65]) :: (Mc_u65 ++ (Mu_u65 ++ (Mf_u65 ++ []))))) ((pmF (pmF pr9)).cons _).symm ?_
 dsimp only at hc_u65 hu_u65 hf_u65
 refine match hc_u65.form with | ⟨sac_u65, scc_u65, eV_⟩ => ?_
 subst eV_
 refine match hu_u65.form with | ⟨sau_u65, scu_u65, eV_⟩ => ?_
 subst eV_
 refine match hf_u65.form with | ⟨saf_u65, scf_u65, eV_⟩ => ?_
 subst eV_
 refine g9 4 ?_
 refine W.ok (Zaf ZeX rfl) (W.call (Mp := ((b52, ce9 189 [lV sac_u65 (List.replicate k Nd.zero).length scc_u65, lV sau_u65 (List.replicate k false).length scu_u65, lV saf_u65 (Yh k).length scf_u65]) :: Mf_u65)) (Mr := (Mc_u65 ++ (Mu_u65 ++ []))) (ZhB (ZeF (b := b52) (Tb := 189) (c0 := lV sac_u65 (List.replicate k Nd.zero).length scc_u65) (c1 := lV sau_u65 (List.replicate k false).length scu_u65)) ⟨_, _, rfl, hf_u65⟩ (Zc7 k) (by rw [ZaD]; omega)) rfl (((pmA (pmA pr9)).cons _).trans pr9) ?_)
 intro v69 G66 Ms68 hG66 q67
 refine match q67 with | ⟨e_71, ⟨vf_z70, Mf_z70, e_72, hf_z70⟩⟩ => ?_
 subst e_71
 subst e_72
 have q74 := hf_z70.form
 refine match q74 with | ⟨sa_z70, sc_z70, e_73⟩ => ?_
 subst e_73
 refine W.perm (M' := ((b52, ce9 189 [lV sac_u65 (List.replicate k Nd.zero).length scc_u65, lV sau_u65 (List.replicate k false).length scu_u65, lV sa_z70 (Yh k).length sc_z70]) :: (Mf_z70 ++ (Mc_u65 ++ (Mu_u65 ++ []))))) ((pr9.cons _).trans pr9).symm (g9 9 ?_)
 refine WC.perm (M' := ((b52, ce9 189 [lV sac_u65 (List.replicate k Nd.zero).length scc_u65, lV sau_u65 (List.replicate k false).length scu_u65, lV sa_z70 (Yh k).length sc_z70]) :: (Mc_u65 ++ (Mu_u65 ++ (Mf_z70 ++ []))))) (((List.Perm.append_left _ ((List.Perm.append_left _ ((List.Perm.append_left _ pr9).trans pr9)).trans (pmA pr9))).trans (pmA pr9)).cons _) (WC.ret ?_)
 refine ⟨.inr rfl, [_, _], ⟨rfl, rfl, trivial⟩, ((b52, ce9 189 [lV sac_u65 (List.replicate k Nd.zero).length scc_u65, lV sau_u65 (List.replicate k false).length scu_u65, lV sa_z70 (Yh k).length sc_z70]) :: (Mc_u65 ++ (Mu_u65 ++ (Mf_z70 ++ [])))), sr9.k9, ?_⟩
 exact .inr ⟨om9, _, rfl, ArR.cast (st := (List.replicate k Nd.zero, List.replicate k false)) ⟨_, ⟨_, _, _, _, _, _, rfl, (hc_u65.mono hG66), (hu_u65.mono hG66), hf_z70⟩, by simp, by simp; omega, Zc7 k, List.Perm.of_eq (ZhR k)⟩ (by simp) (by simp)⟩

theorem Znq {G : GH} {b : Nat} {st : List Nd × List Bool} {M : MH} (h : ArR ZF 60 4 3 189 b G st M) (i : Int) {cs : List Value} {x : Nd} (hx : NodeC G cs x) : Fc Tryz.prog 178 [pt9 b, iV i, .agg (List.toArray cs)] G M (fun v G' M' => v = iV (XV st i x).1 ∧ ArR ZF 60 4 3 189 b G' (XV st i x).2 M') := by
  have h0 := h
  obtain ⟨f, ⟨vc, vu, vf, Mc, Mu, Mf, rfl, h1, h2, h3⟩, h4, h5, h6, h7⟩ := h
  exact Znk h1 h2 h3 i hx h4 h5 h6 h7
theorem Znr {G : GH} {b : Nat} {st : List Nd × List Bool} {M : MH} (h : ArR ZF 60 4 3 189 b G st M) {cs : List Value} {x : Nd} (hx : NodeC G cs x) : Fc Tryz.prog 139 [pt9 b, .agg (List.toArray cs)] G M (fun v G' M' => v = .tuple #[iV (Ym st x).1.1, iV (Ym st x).1.2] ∧ ArR ZF 60 4 3 189 b G' (Ym st x).2 M') := by
  have h0 := h
  obtain ⟨f, ⟨vc, vu, vf, Mc, Mu, Mf, rfl, h1, h2, h3⟩, h4, h5, h6, h7⟩ := h
  exact Znl h1 h2 h3 hx h4 h5 h6 h7
theorem Zns {G : GH} {b : Nat} {st : List Nd × List Bool} {M : MH} (h : ArR ZF 60 4 3 189 b G st M) (i : Int) : Fc Tryz.prog 117 [pt9 b, iV i] G M (fun v G' M' => (∃ cs, v = .tuple #[.agg (List.toArray cs), .bool (YY st.2 i)] ∧ NodeC G' cs (Jz st i Nd.zero)) ∧ M' = M) := by
  have h0 := h
  obtain ⟨f, ⟨vc, vu, vf, Mc, Mu, Mf, rfl, h1, h2, h3⟩, h4, h5, h6, h7⟩ := h
  exact (Znm h1 h2 h3 i h4).mono fun v G' M' hl ⟨cs, e1, e2, e3⟩ => ⟨⟨cs, e1, e2⟩, e3⟩
theorem Znt {G : GH} {b : Nat} {st : List Nd × List Bool} {M : MH} (h : ArR ZF 60 4 3 189 b G st M)  : Fc Tryz.prog 218 [pt9 b] G M (fun v G' M' => v = iV ((Y8 st.2).length : Int) ∧ M' = M) := by
  have h0 := h
  obtain ⟨f, ⟨vc, vu, vf, Mc, Mu, Mf, rfl, h1, h2, h3⟩, h4, h5, h6, h7⟩ := h
  exact (Znn h1 h2 h3 h4 h5 h6 h7).mono fun v G' M' hl hq => hq
theorem Znu {G : GH} {b : Nat} {st : List Nd × List Bool} {M : MH} (h : ArR ZF 60 4 3 189 b G st M)  : Fc Tryz.prog 107 [pt9 b] G M (fun v G' M' => SlR ZA G' v (XF st.2) ∧ M' = M) := by
  have h0 := h
  obtain ⟨f, ⟨vc, vu, vf, Mc, Mu, Mf, rfl, h1, h2, h3⟩, h4, h5, h6, h7⟩ := h
  exact (Zno h1 h2 h3 h4 h5 h6 h7).mono fun v G' M' hl hq => hq
theorem Znv {G : GH} (ek : Int) (ev : Str) :
    Fc Tryz.prog 173 [.agg #[iV ek, sV ev.b]] G [] (fun v _ _ => v = .bool (decide (ek = 1) || decide (ek = 2))) := by
 refine Fc.go [.tmp 2] Tryz.func173 Tryz.ntmps173 rfl (fun w0 => (g9 2 ?_))
 refine W.box (L := [iV _, sV _]) rfl rfl (fun b1 => (g9 9 ?_))
 refine W.sd 6 (fun h5 p5 => ?_) (fun h5 p5 => ?_)
 ·refine g9 9 ?_
  refine congrArg Value.bool ?_
  simp_all
 refine g9 12 ?_
 refine congrArg Value.bool ?_
 simp_all

theorem Znw {G : GH} {v_l : Value} {l : List Pair} (h_l : SlR Zl G v_l l) (k : Str) (ek : Int) (ev : Str) (n : Int) (hr : Srt l) :
    Fc Tryz.prog 132 [v_l, sV k.b, .agg #[iV ek, sV ev.b], iV n] G [] (fun v _ _ => v = .bool (ZaZ l k (⟨ek, ev⟩ : Eff) n)) := by
 obtain ⟨sa_l, sc_l, rfl⟩ := h_l.form
 refine Fc.go [.tmp 8] Tryz.func132 Tryz.ntmps132 rfl (fun w0 => (g9 2 ?_))
 refine W.box (L := [iV _, sV _]) rfl rfl (fun b2 => (g9 7 ?_))
 refine W.qcall (Zpq h_l _ (by assumption)) rfl (g9 11 ?_)
 refine W.sp 18 rfl (fun h14_1 => ?_) (fun h14_1 => ?_)
 ·refine g9 15 ?_
  refine congrArg Value.bool ?_
  simp_all [ZaZ]
 refine g9 3 ?_
 refine W.qcall (Znv _ _) rfl (g9 4 ?_)
 refine W.sp 23 rfl (fun h21 => ?_) (fun h21 => ?_)
 ·refine g9 10 ?_
  refine congrArg Value.bool ?_
  simp_all [ZaZ]
 refine g9 14 ?_
 refine congrArg Value.bool ?_
 simp_all [ZaZ]

theorem Znx {G : GH} {v_l : Value} {l : List Pair} (h_l : SlR Zl G v_l l) (ms : Int) (mk : Int) (mkey : Str) (mhi : Str) (mo : Bool) (mv : Str) (n : Int) (hP : PairsR l) (hk : Msg.fit (⟨ms, mk, mkey, mhi, mo, mv⟩ : Msg)) :
    Fc Tryz.prog 215 [v_l, .agg #[iV ms, iV mk, sV mkey.b, sV mhi.b, .bool mo, sV mv.b], iV n] G [] (fun v _ _ => v = .bool (Yg l (⟨ms, mk, mkey, mhi, mo, mv⟩ : Msg) n)) := by
 obtain ⟨sa_l, sc_l, rfl⟩ := h_l.form
 have hk1 := hk.1
 dsimp only at hk1
 have hr := hP.srt
 have hl := h_l.len47
 refine Fc.go [.tmp 6] Tryz.func215 Tryz.ntmps215 rfl (fun w0 => (g9 2 ?_))
 refine W.box (L := [iV _, iV _, sV _, sV _, .bool _, sV _]) rfl rfl (fun b3 => (g9 9 ?_))
 refine W.sd 10 (fun h9 p9 => ?_) (fun h9 p9 => ?_)
 ·refine g9 15 ?_
  refine congrArg Value.bool ?_
  simp_all [Yg]
 refine g9 13 ?_
 refine W.qcall (Zdg ms mk mkey mhi mo mv mkey om9) rfl (g9 3 ?_)
 refine W.qcall (Znw h_l _ _ _ _ (by assumption)) rfl (g9 6 ?_)
 refine congrArg Value.bool ?_
 simp_all [Yg]

theorem ZeG {G : GH} {v_l : Value} {l : List Pair} (h_l : SlR Zl G v_l l) (ms : Int) (mk : Int) (mkey : Str) (mhi : Str) (mo : Bool) (mv : Str) (n : Int) (hP : PairsR l) (hn : l.length ≤ 1000000) (hk : Msg.fit (⟨ms, mk, mkey, mhi, mo, mv⟩ : Msg)) :
    Fc Tryz.prog 186 [v_l, .agg #[iV ms, iV mk, sV mkey.b, sV mhi.b, .bool mo, sV mv.b], iV n] G [] (fun v G' M' => M' = [] ∧ ∃ r : List Pair × Bool, r = Zak l (⟨ms, mk, mkey, mhi, mo, mv⟩ : Msg) n ∧ ∃ u0, v = .tuple #[u0, .bool (r.2)] ∧ SlR Zl G' u0 (r.1)) := by
 obtain ⟨sa_l, sc_l, rfl⟩ := h_l.form
 refine Fc.go [.tmp 6, .tmp 7] Tryz.func186 Tryz.ntmps186 rfl (fun w0 => (g9 2 ?_))
 refine W.box (L := [iV _, iV _, sV _, sV _, .bool _, sV _]) rfl rfl (fun b4 => (g9 10 ?_))
 refine W.qcall (Znx h_l _ _ _ _ _ _ _ (by first | assumption | omega | (simp; omega) | (exact PairsR.fold (by assumption) (by assumption))) (by first | assumption | exact Zbt (by assumption))) rfl (g9 3 ?_)
 refine WC.cond rfl (fun h12 => ?_) (fun h12 => ?_)
 ·refine g9 9 ?_
  refine ⟨rfl, _, (ZeB (by simpa using h12)).symm, _, rfl, ?_⟩
  · exact SlR.nil
 refine g9 6 ?_
 refine W.cS (Zhx h_l _ _ _ _ _ _ (by first | assumption | omega | (simp; omega) | (exact PairsR.fold (by assumption) (by assumption))) (by first | assumption | omega | (simp; omega) | (exact PairsR.fold (by assumption) (by assumption))) (by first | assumption | exact Zbt (by assumption))) rfl (fun sa_hv6 sc_hv6 G5 hG5 hv6 => (g9 6 ?_))
 refine ⟨rfl, _, (Zch (by simpa using h12)).symm, _, rfl, ?_⟩
 · exact hv6

theorem Zny {G : GH} (a : Str) (b : Str) :
    Fc Tryz.prog 234 [sV a.b, sV b.b] G [] (fun v _ _ => v = nt9 (Z2 a b)) := by
 have ha := a.le
 have hb := b.le
 refine Fc.go [.tmp 4] Tryz.func234 Tryz.ntmps234 rfl (fun w0 => (g9 12 ?_))
 refine WC.loop (X := Nat) (fun k => [(5, nt9 k), (0, sV a.b), (1, sV b.b)]) (fun k _ Ml => Ml = [] ∧ k ≤ a.b.size ∧ k ≤ b.b.size ∧ ∀ i, i < k → a.b[i]? = b.b[i]?) (fun k => a.b.size - k) 0 hs9 ?_ ?_
 ·exact ⟨rfl, om9, om9, fun i hi => by omega⟩
 rintro k gG1 G1 _ hG1 ⟨rfl, hk1, hk2, hk3⟩
 refine g9 8 ?_
 refine W.ok (ZgA rfl rfl) (g9 2 ?_)
 refine W.sd 13 (fun h12 p12 => ?_) (fun h12 p12 => ?_)
 ·refine g9 5 ?_
  refine W.ok (Zb1 (i := k) st9 rfl rfl ⟨om9, om9⟩) (g9 5 ?_)
  refine W.ok (Zb1 (i := k) st9 rfl rfl ⟨om9, om9⟩) (g9 5 ?_)
  refine WC.cd (fun h20 p20 => ?_) (fun h20 p20 => ?_)
  ·refine g9 10 ?_
   exact ⟨Le.rfl, k + 1, hs9, ⟨rfl, om9, om9, ZlI hk3 om9 om9 p20⟩, om9⟩
  refine g9 13 ?_
  refine congrArg (Value.int .i64) ?_
  exact congrArg Nat.cast (Zmx hk3 om9 om9 p20).symm
 refine g9 24 ?_
 refine congrArg (Value.int .i64) ?_
 exact congrArg Nat.cast (Zmw hk1 hk2 hk3 om9).symm

theorem Znz {G : GH} (a : Str) (b : Str) :
    Fc Tryz.prog 207 [sV a.b, sV b.b] G [] (fun v _ _ => v = .tuple #[sV (Str.b ((Jm a b).1)), .bool ((Jm a b).2)]) := by
 have ha := a.le
 have hb := b.le
 refine Fc.go [.tmp 4, .tmp 5] Tryz.func207 Tryz.ntmps207 rfl (fun w0 => (g9 11 ?_))
 refine W.ok (Zd8 rfl rfl) (g9 2 ?_)
 refine WC.cond rfl (fun h8 => ?_) (fun h8 => ?_)
 ·refine g9 9 ?_
  show Value.tuple #[Value.string _, Value.bool _] = _
  rw [Zmy (by simpa [Str.lt] using h8)]; rfl
 have hlt : a.lt b = true := by simpa [Str.lt] using h8
 have hcm := ZgY hlt
 have hcl := Zeo a b
 refine g9 7 ?_
 refine W.qcall (Zny _ _) rfl (g9 1 ?_)
 refine W.ok (ZgS (0) (Z2 a b + 1) st9 rfl rfl ⟨_, _, rfl, om9⟩ ⟨om9, om9⟩) (g9 6 ?_)
 show Value.tuple #[Value.string _, Value.bool _] = _
 rw [ZgZ hlt]

theorem ZnA {G : GH} {v_l : Value} {l : List Pair} (h_l : SlR Zl G v_l l) :
    Fc Tryz.prog 175 [v_l] G [] (fun v G' M' => M' = [] ∧ ∃ r : List Pair × List Pair × Str × Bool, r = XC l ∧ ∃ u0 u1, v = .tuple #[u0, u1, sV (Str.b (r.2.2.1)), .bool (r.2.2.2)] ∧ SlR Zl G' u0 (r.1) ∧ SlR Zl G' u1 (r.2.1)) := by
 obtain ⟨sa_l, sc_l, rfl⟩ := h_l.form
 have hl := h_l.len47
 have hlb : l.length * 32 ≤ 140737488355328 := h_l.bytes
 refine Fc.go [.tmp 2, .tmp 3, .tmp 4, .tmp 5] Tryz.func175 Tryz.ntmps175 rfl (fun w0 => (g9 16 ?_))
 refine WC.cd (fun h9 p9 => ?_) (fun h9 p9 => ?_)
 ·refine g9 11 ?_
  refine ⟨rfl, _, (Zg1 om9).symm, _, _, rfl, ?_, ?_⟩
  · exact SlR.nil
  exact SlR.nil
 refine g9 7 ?_
 refine W.ok (Zgz rfl rfl om9 om9 om9) (g9 8 ?_)
 refine h_l.a1 (i := (l.length + 1) / 2 - 1) om9 (fun he2 => (W.ok (Yt (i := (l.length + 1) / 2 - 1) Zy Zz h_l rfl rfl ⟨om9, om9⟩) (g9 4 ?_)))
 refine h_l.a1 (i := (l.length + 1) / 2) om9 (fun he5 => (W.ok (Yt (i := (l.length + 1) / 2) Zy Zz h_l rfl rfl ⟨om9, om9⟩) (g9 2 ?_)))
 refine W.qcall (Znz _ _) rfl (g9 7 ?_)
 refine WC.dw sr9 (d9 [0, 1] ?_)
 have hs8 := SlR.slice h_l (lo := 0) (hi := (l.length + 1) / 2) om9 om9
 refine WD.tk 2 rfl (Jw (0) ((l.length + 1) / 2) Zy Zz h_l rfl rfl ⟨_, _, rfl, om9⟩ ⟨om9, om9⟩) (d9 [4, 5] ?_)
 have hs9 := SlR.slice h_l (lo := (l.length + 1) / 2) (hi := l.length) om9 om9
 refine WD.tk 6 rfl (Jw ((l.length + 1) / 2) (l.length) Zy Zz h_l rfl ⟨_, _, rfl, om9⟩ rfl ⟨om9, om9⟩) (d9 [8] ?_)
 refine WD.a1 3 rfl (W.cS (XX hs8) rfl (fun sa_hv11 sc_hv11 G10 hG10 hv11 => (W.nn (WD.a1 7 rfl (W.cS (XX (hs9.mono hG10)) rfl (fun sa_hv18 sc_hv18 G17 hG17 hv18 => (W.nn (d9 [9, 10, 11, 12] ?_))))))))
 refine g9 4 ?_
 refine ⟨rfl, _, (Zca om9).symm, _, _, rfl, ?_, ?_⟩
 · exact SlR.cast ((hv11.mono hG17)) (by simp)
 exact SlR.cast (hv18) (by simp)

end Go.Proofs.YtbbemibbmbmamaaGreat

namespace Go.Fw
def XU (p : List Str) (c : List Int) (i : Nat) (k : Str) (v : Int) : List Str × List Int :=
 if c.length ≤ i ∨ (Zf p (i : Int)).has k = false ∨ k = (Zf p (i : Int)).lo then ([], []) else ((p.take i ++ [k]) ++ p.drop i, (c.take (i + 1) ++ [v]) ++ c.drop (i + 1))
theorem Zc5 {p : List Str} {c : List Int} {i : Nat} {k : Str} {v : Int} (h : c.length ≤ i ∨ (Zf p (i : Int)).has k = false ∨ k = (Zf p (i : Int)).lo) : XU p c i k v = ([], []) := if_pos h
theorem Zc6 {p : List Str} {c : List Int} {i : Nat} {k : Str} {v : Int} (h1 : ¬ c.length ≤ i) (h2 : (Zf p (i : Int)).has k = true) (h3 : ¬ k = (Zf p (i : Int)).lo) : XU p c i k v = ((p.take i ++ [k]) ++ p.drop i, (c.take (i + 1) ++ [v]) ++ c.drop (i + 1)) :=
 if_neg fun h => h.elim h1 (fun h => h.elim (fun h => by rw [h2] at h; cases h) h3)
theorem ZeH {p : List Str} {i : Nat} {k : Str} (h : (Zf p (i : Int)).has k = true) : i ≤ p.length := by
 by_cases h2 : i ≤ p.length
 ·exact h2
 ·rw [ZgK om9] at h
  have : Span.zero.has k = false := by
   simp only [Span.zero, Span.has]
   cases h3 : k.lt Str.nil
   ·simp
   ·simp
  rw [this] at h; cases h
theorem ZnB {p : List Str} {i : Nat} {k : Str} (h : (Zf p (i : Int)).has k = true) (h2 : ¬ k = (Zf p (i : Int)).lo) :
  (∀ h : 0 < i ∧ i - 1 < p.length, (p[i - 1]'h.2).lt k = true) ∧ (∀ h : i < p.length, k.lt p[i] = true) := by
 have hi := ZeH h
 have e := Zb7 (l := p) (i := (i : Int)) om9 om9
 have h0 := h
 rw [e, ZaA] at h
 simp only [Span.has, Bool.and_eq_true, Bool.or_eq_true, Bool.not_eq_true', decide_eq_true_eq] at h
 obtain ⟨h3, h4⟩ := h
 have hhi : ∀ h : i < p.length, k.lt p[i] = true := fun hlt => by
  rcases h4 with h4 | h4
  ·omega
  ·rw [show ((i : Int)).toNat = i from rfl, JQ (d := Str.nil) hlt] at h4; exact h4
 refine ⟨fun ⟨h5, h6⟩ => ?_, hhi⟩
 rw [if_pos om9, show ((i : Int) - 1).toNat = i - 1 from by omega, JQ (d := Str.nil) h6] at h3
 cases hlt : (p[i - 1]'h6).lt k
 ·exfalso
  have hke : k = p[i - 1]'h6 := Str.lt_total h3 hlt
  apply h2
  rw [e, if_pos om9, show ((i : Int) - 1).toNat = i - 1 from by omega, JQ (d := Str.nil) h6]
  unfold Span.norm
  split
  ·rename_i hem
   exfalso
   simp only [Span.empty, Bool.and_eq_true, Bool.not_eq_true', decide_eq_false_iff_not] at hem
   have := h4.resolve_left om9
   rw [hke] at this
   simp_all
  ·split <;> exact hke
 ·rfl
theorem ZnC {p : List Str} {c : List Int} {i : Nat} {k : Str} {v : Int} (hr : YC p c.length = true) (hi : i < c.length) (h : (Zf p (i : Int)).has k = true) (h2 : ¬ k = (Zf p (i : Int)).lo) :
  YC ((p.take i ++ [k]) ++ p.drop i) ((c.take (i + 1) ++ [v]) ++ c.drop (i + 1)).length = true := by
 obtain ⟨hp, hn⟩ := YR hr
 obtain ⟨h3, h4⟩ := ZnB h h2
 have hi' := ZeH h
 refine ZcU (JZ.2 fun j hj => ?_) (by simp; omega)
 have hl : ((p.take i ++ [k]) ++ p.drop i).length = p.length + 1 := by simp; omega
 have get : ∀ q (hq : q < ((p.take i ++ [k]) ++ p.drop i).length), ((p.take i ++ [k]) ++ p.drop i)[q] = if h : q < i then p[q]'om9 else if h : q = i then k else p[q - 1]'om9 := fun q hq => by
  by_cases h5 : q < i
  ·rw [dif_pos h5, List.getElem_append_left (by simp; omega), List.getElem_append_left (by simp; omega), List.getElem_take]
  ·rw [dif_neg h5]
   by_cases h6 : q = i
   ·rw [dif_pos h6, List.getElem_append_left (by simp; omega), List.getElem_append_right (by simp; omega)]; simp
   ·rw [dif_neg h6, List.getElem_append_right (by simp; omega), List.getElem_drop]
    congr 1; simp; omega
 rw [get, get]
 have hp' := JZ.1 hp
 by_cases a : j + 1 < i
 ·rw [dif_pos om9, dif_pos a]; exact hp' j om9
 ·by_cases b : j + 1 = i
  ·rw [dif_pos om9, dif_neg om9, dif_pos b]
   have := h3 ⟨om9, om9⟩
   simpa only [show i - 1 = j from by omega] using this
  ·by_cases d : j = i
   ·rw [dif_neg om9, dif_pos d, dif_neg om9, dif_neg om9]
    have := h4 om9
    simpa only [show j + 1 - 1 = i from by omega] using this
   ·rw [dif_neg om9, dif_neg d, dif_neg om9, dif_neg om9]
    have := hp' (j - 1) om9
    simpa only [show j - 1 + 1 = j + 1 - 1 from by omega] using this
end Go.Fw
namespace Go.Proofs.YtbbemibbmbmamaaGreat
open Go Go.Fw Go.RowKit
attribute [local irreducible] Ok W WC
theorem ZnD {G : GH} {v_s : Value} {s : List Str} {Ms_s : MH} (h_s : OwnR Yf 9 G v_s s Ms_s) (i : Nat) {v_u : Value} {u : List Str} {Ms_u : MH} (h_u : OwnR Yf 9 G v_u u Ms_u) (hi : i ≤ s.length) (hu : 0 < u.length) (hw : (s.length + u.length) * 16 ≤ 140737488355328) :
    Fc Tryz.prog 208 [v_s, nt9 i, v_u] G (Ms_s ++ Ms_u) (fun v G' M' => OwnR Yf 9 G' v ((s.take i ++ u) ++ s.drop i) M') := by
 have hs := h_s.len47
 have hul := h_u.len47
 have hcs := h_s.cap_le
 refine Fc.go [.tmp 6] Tryz.func208 Tryz.ntmps208 rfl (fun w0 => (WC.perm (M' := (Ms_s ++ (Ms_u ++ []))) (by simp) (g9 9 ?_)))
 refine W.ok (XL (i) (s.length) Ya ty9 h_s rfl ⟨_, _, rfl, om9⟩ rfl ⟨om9, .inl om9⟩) (g9 16 ?_)
 refine WC.cd (fun h16 p16 => ?_) (fun h16 p16 => ?_)
 ·exact absurd p16 om9
 refine g9 17 ?_
 refine WC.cd (fun h22 p22 => ?_) (fun h22 p22 => ?_)
 ·refine g9 4 ?_
  refine W.giveO h_u (pmA pr9) (fun G1 hG1 hv1 => ?_)
  have q3 := hv1.form
  refine match q3 with | ⟨_, _, e_2⟩ => ?_
  subst e_2
  refine W.app (e := Yf) Ya ty9 zr9 rfl by9 rfl rfl ((h_s.mono hG1)) (hv1) pr9 (hw) (fun v4 Ms5 ho6 => (g9 5 ?_))
  refine ⟨.inr rfl, [_], ⟨rfl, trivial⟩, Ms5, List.sublist_append_left _ _, ?_⟩
  have h := ho6
  rw [show (s.take i ++ u) ++ s.drop i = s ++ u from by rw [List.take_of_length_le om9, List.drop_eq_nil_of_le om9, List.append_nil]]
  exact h
 refine g9 7 ?_
 refine W.ok (Ok.int (n := ((s.length + u.length : Nat) : Int)) (YV rfl rfl om9) om9) (W.mv ?_)
 have q7 := h_s.capForm
 refine match q7 with | ⟨ac30, hcf30⟩ => ?_
 refine W.ok (ZgU (c := YW v_s) Ya hcf30) (g9 3 ?_)
 refine WC.cd (fun h31 p31 => ?_) (fun h31 p31 => ?_)
 ·refine g9 4 ?_
  refine W.ok (XL (0) (i) Ya ty9 h_s rfl rfl ⟨_, _, rfl, om9⟩ ⟨om9, .inl om9⟩) (g9 2 ?_)
  refine W.ok (Ok.int (n := ((s.length + u.length : Nat) : Int)) (YV rfl rfl om9) om9) (W.mv (W.ok (Ok.int (n := ((s.length + u.length - i : Nat) : Int)) (Zaz rfl rfl om9) om9) (W.appZ (e := Yf) (i := i) (c := s.length + u.length - i) Ya ty9 zr9 rfl by9 Tryz.underlying3 h_s pr9 rfl rfl om9 om9 om9 om9 (by rw [show i + (s.length + u.length - i) = s.length + u.length from by omega]; exact hw) rfl (fun v40 Ms40 hp40 => (g9 7 ?_)))))
  refine W.ok (XA (i) (i + (s.length + u.length - i)) Ya ty9 hp40 rfl ⟨_, _, rfl, om9⟩ rfl ⟨om9, by have := OwnP.cap_le hp40; omega⟩) (W.mv (W.copyP (i) (by simp; omega) Ya ty9 hp40 pr9 (Src.ofOwn0 h_u (pmA (pmA pr9)) om9) rfl rfl om9 om9 (fun z45 Ms45 hp45 => (g9 3 ?_))))
  refine WC.dw sn9 (d9 [0, 1, 2] ?_)
  refine WD.tk 3 rfl (Ok.int (n := ((i + u.length : Nat) : Int)) (YV rfl rfl om9) om9) (WD.tk 4 rfl (XA (i + u.length) (i + (s.length + u.length - i)) Ya ty9 hp45 rfl ⟨_, _, rfl, om9⟩ rfl ⟨om9, by have := OwnP.cap_le hp45; omega⟩) (d9 [5, 6] ?_))
  refine WD.tk 7 rfl (XL (i) (s.length) Ya ty9 h_s rfl ⟨_, _, rfl, om9⟩ rfl ⟨om9, .inl om9⟩) (WD.a1 8 rfl (W.copyP (i + u.length) (by simp; omega) Ya ty9 hp45 pr9 (Src.ofOwn (lo := i) h_s (pmA pr9) om9 om9) rfl rfl (by simp; omega) om9 (fun z54 Ms54 hp54 => (W.nn (g9 10 ?_)))))
  refine ⟨.inr rfl, [_], ⟨rfl, trivial⟩, Ms54, List.sublist_append_left _ _, ?_⟩
  have h := (hp54.own' (by simp; omega))
  rw [List.append_nil] at h
  exact h
 refine g9 7 ?_
 refine W.ok (Ok.int (n := ((s.length + u.length : Nat) : Int)) (YV rfl rfl om9) om9) (W.ok (XL 0 (s.length + u.length) Ya ty9 h_s rfl rfl ⟨_, _, rfl, om9⟩ ⟨om9, .inr om9⟩) ?_)
 have hp60 := OwnP.extend (m := u.length) (OwnR.open h_s om9) om9 hw om9
 refine g9 10 ?_
 refine W.ok (Ok.int (n := ((i + u.length : Nat) : Int)) (YV rfl rfl om9) om9) (W.ok (XA (i + u.length) (s.length + u.length) Ya ty9 hp60 rfl ⟨_, _, rfl, om9⟩ rfl ⟨om9, by have := OwnP.cap_le hp60; omega⟩) ?_)
 have hc67 := OwnP.cap_le hp60
 refine W.ok (ZgV (fn := Tryz.f235) (tR := 4) (lo := i + u.length) (hi := s.length + u.length) Tryz.func235 (by kernel_rfl) (by kernel_rfl) (by kernel_rfl) (by kernel_rfl) Ya ty9 h_u hp60 ((List.Perm.append_left _ pr9).trans (pmA pr9)) om9 om9 rfl rfl rfl) (g9 5 ?_)
 refine WC.dw sn9 (d9 [0, 1, 2] ?_)
 refine WD.tk 3 rfl (Ok.int (n := ((i + u.length : Nat) : Int)) (YV rfl rfl om9) om9) (WD.tk 4 rfl (XA (i + u.length) (s.length + u.length) Ya ty9 hp60 rfl ⟨_, _, rfl, om9⟩ rfl ⟨om9, by have := OwnP.cap_le hp60; omega⟩) (d9 [5, 6] ?_))
 refine WD.tk 7 rfl (XA (i) (s.length + u.length) Ya ty9 hp60 rfl ⟨_, _, rfl, om9⟩ rfl ⟨om9, by have := OwnP.cap_le hp60; omega⟩) (WD.a1 8 rfl (W.copyShift (i := i) Ya ty9 hp60 pr9 rfl rfl om9 (fun z77 Ms77 hp77 => (W.nn (g9 6 ?_)))))
 refine W.ok (XA (i) (s.length + u.length) Ya ty9 hp77 rfl ⟨_, _, rfl, om9⟩ rfl ⟨om9, by have := OwnP.cap_le hp77; omega⟩) (W.mv (W.copyP (i) (by simp; omega) Ya ty9 hp77 pr9 (Src.ofOwn0 h_u (pmA pr9) om9) rfl rfl om9 om9 (fun z82 Ms82 hp82 => (g9 10 ?_))))
 refine ⟨.inr rfl, [_], ⟨rfl, trivial⟩, Ms82, List.sublist_append_left _ _, ?_⟩
 exact (hp82.own' om9)

theorem ZnE {G : GH} {v_s : Value} {s : List Int} {Ms_s : MH} (h_s : OwnR ZA 3 G v_s s Ms_s) (i : Nat) {v_u : Value} {u : List Int} {Ms_u : MH} (h_u : OwnR ZA 3 G v_u u Ms_u) (hi : i ≤ s.length) (hu : 0 < u.length) (hw : (s.length + u.length) * 8 ≤ 140737488355328) :
    Fc Tryz.prog 209 [v_s, nt9 i, v_u] G (Ms_s ++ Ms_u) (fun v G' M' => OwnR ZA 3 G' v ((s.take i ++ u) ++ s.drop i) M') := by
 have hs := h_s.len47
 have hul := h_u.len47
 have hcs := h_s.cap_le
 refine Fc.go [.tmp 6] Tryz.func209 Tryz.ntmps209 rfl (fun w0 => (WC.perm (M' := (Ms_s ++ (Ms_u ++ []))) (by simp) (g9 9 ?_)))
 refine W.ok (XL (i) (s.length) Z5 ty3 h_s rfl ⟨_, _, rfl, om9⟩ rfl ⟨om9, .inl om9⟩) (g9 16 ?_)
 refine WC.cd (fun h16 p16 => ?_) (fun h16 p16 => ?_)
 ·exact absurd p16 om9
 refine g9 17 ?_
 refine WC.cd (fun h22 p22 => ?_) (fun h22 p22 => ?_)
 ·refine g9 4 ?_
  refine W.giveO h_u (pmA pr9) (fun G8 hG8 hv8 => ?_)
  have q10 := hv8.form
  refine match q10 with | ⟨_, _, e_9⟩ => ?_
  subst e_9
  refine W.app (e := ZA) Z5 ty3 zr3 rfl by3 rfl rfl ((h_s.mono hG8)) (hv8) pr9 (hw) (fun v11 Ms12 ho13 => (g9 5 ?_))
  refine ⟨.inr rfl, [_], ⟨rfl, trivial⟩, Ms12, List.sublist_append_left _ _, ?_⟩
  have h := ho13
  rw [show (s.take i ++ u) ++ s.drop i = s ++ u from by rw [List.take_of_length_le om9, List.drop_eq_nil_of_le om9, List.append_nil]]
  exact h
 refine g9 7 ?_
 refine W.ok (Ok.int (n := ((s.length + u.length : Nat) : Int)) (YV rfl rfl om9) om9) (W.mv ?_)
 have q14 := h_s.capForm
 refine match q14 with | ⟨ac30, hcf30⟩ => ?_
 refine W.ok (ZgU (c := YW v_s) Z5 hcf30) (g9 3 ?_)
 refine WC.cd (fun h31 p31 => ?_) (fun h31 p31 => ?_)
 ·refine g9 4 ?_
  refine W.ok (XL (0) (i) Z5 ty3 h_s rfl rfl ⟨_, _, rfl, om9⟩ ⟨om9, .inl om9⟩) (g9 2 ?_)
  refine W.ok (Ok.int (n := ((s.length + u.length : Nat) : Int)) (YV rfl rfl om9) om9) (W.mv (W.ok (Ok.int (n := ((s.length + u.length - i : Nat) : Int)) (Zaz rfl rfl om9) om9) (W.appZ (e := ZA) (i := i) (c := s.length + u.length - i) Z5 ty3 zr3 rfl by3 Tryz.underlying3 h_s pr9 rfl rfl om9 om9 om9 om9 (by rw [show i + (s.length + u.length - i) = s.length + u.length from by omega]; exact hw) rfl (fun v40 Ms40 hp40 => (g9 7 ?_)))))
  refine W.ok (XA (i) (i + (s.length + u.length - i)) Z5 ty3 hp40 rfl ⟨_, _, rfl, om9⟩ rfl ⟨om9, by have := OwnP.cap_le hp40; omega⟩) (W.mv (W.copyP (i) (by simp; omega) Z5 ty3 hp40 pr9 (Src.ofOwn0 h_u (pmA (pmA pr9)) om9) rfl rfl om9 om9 (fun z45 Ms45 hp45 => (g9 3 ?_))))
  refine WC.dw sn9 (d9 [0, 1, 2] ?_)
  refine WD.tk 3 rfl (Ok.int (n := ((i + u.length : Nat) : Int)) (YV rfl rfl om9) om9) (WD.tk 4 rfl (XA (i + u.length) (i + (s.length + u.length - i)) Z5 ty3 hp45 rfl ⟨_, _, rfl, om9⟩ rfl ⟨om9, by have := OwnP.cap_le hp45; omega⟩) (d9 [5, 6] ?_))
  refine WD.tk 7 rfl (XL (i) (s.length) Z5 ty3 h_s rfl ⟨_, _, rfl, om9⟩ rfl ⟨om9, .inl om9⟩) (WD.a1 8 rfl (W.copyP (i + u.length) (by simp; omega) Z5 ty3 hp45 pr9 (Src.ofOwn (lo := i) h_s (pmA pr9) om9 om9) rfl rfl (by simp; omega) om9 (fun z54 Ms54 hp54 => (W.nn (g9 10 ?_)))))
  refine ⟨.inr rfl, [_], ⟨rfl, trivial⟩, Ms54, List.sublist_append_left _ _, ?_⟩
  have h := (hp54.own' (by simp; omega))
  rw [List.append_nil] at h
  exact h
 refine g9 7 ?_
 refine W.ok (Ok.int (n := ((s.length + u.length : Nat) : Int)) (YV rfl rfl om9) om9) (W.ok (XL 0 (s.length + u.length) Z5 ty3 h_s rfl rfl ⟨_, _, rfl, om9⟩ ⟨om9, .inr om9⟩) ?_)
 have hp60 := OwnP.extend (m := u.length) (OwnR.open h_s om9) om9 hw om9
 refine g9 10 ?_
 refine W.ok (Ok.int (n := ((i + u.length : Nat) : Int)) (YV rfl rfl om9) om9) (W.ok (XA (i + u.length) (s.length + u.length) Z5 ty3 hp60 rfl ⟨_, _, rfl, om9⟩ rfl ⟨om9, by have := OwnP.cap_le hp60; omega⟩) ?_)
 have hc67 := OwnP.cap_le hp60
 refine W.ok (ZgV (fn := Tryz.f237) (tR := 4) (lo := i + u.length) (hi := s.length + u.length) Tryz.func237 (by kernel_rfl) (by kernel_rfl) (by kernel_rfl) (by kernel_rfl) Z5 ty3 h_u hp60 ((List.Perm.append_left _ pr9).trans (pmA pr9)) om9 om9 rfl rfl rfl) (g9 5 ?_)
 refine WC.dw sn9 (d9 [0, 1, 2] ?_)
 refine WD.tk 3 rfl (Ok.int (n := ((i + u.length : Nat) : Int)) (YV rfl rfl om9) om9) (WD.tk 4 rfl (XA (i + u.length) (s.length + u.length) Z5 ty3 hp60 rfl ⟨_, _, rfl, om9⟩ rfl ⟨om9, by have := OwnP.cap_le hp60; omega⟩) (d9 [5, 6] ?_))
 refine WD.tk 7 rfl (XA (i) (s.length + u.length) Z5 ty3 hp60 rfl ⟨_, _, rfl, om9⟩ rfl ⟨om9, by have := OwnP.cap_le hp60; omega⟩) (WD.a1 8 rfl (W.copyShift (i := i) Z5 ty3 hp60 pr9 rfl rfl om9 (fun z77 Ms77 hp77 => (W.nn (g9 6 ?_)))))
 refine W.ok (XA (i) (s.length + u.length) Z5 ty3 hp77 rfl ⟨_, _, rfl, om9⟩ rfl ⟨om9, by have := OwnP.cap_le hp77; omega⟩) (W.mv (W.copyP (i) (by simp; omega) Z5 ty3 hp77 pr9 (Src.ofOwn0 h_u (pmA pr9) om9) rfl rfl om9 om9 (fun z82 Ms82 hp82 => (g9 10 ?_))))
 refine ⟨.inr rfl, [_], ⟨rfl, trivial⟩, Ms82, List.sublist_append_left _ _, ?_⟩
 exact (hp82.own' om9)

theorem ZnF {G : GH} {v_a : Value} {a : List Str} (h_a : SlR Yf G v_a a) :
    Fc Tryz.prog 158 [v_a] G [] (fun v G' M' => OwnR Yf 9 G' v (a) M') := by
 obtain ⟨sa_a, sc_a, rfl⟩ := h_a.form
 have ha := h_a.bytes
 refine Fc.go [.tmp 2] Tryz.func158 Tryz.ntmps158 rfl (fun w0 => (g9 9 ?_))
 refine W.ok (ZaR Ya rfl rfl) (g9 2 ?_)
 refine WC.cond rfl (fun h4 => ?_) (fun h4 => ?_)
 ·have hn := SlR.isNone h_a h4
  subst hn
  refine g9 8 ?_
  exact OwnR.nil
 refine g9 4 ?_
 refine W.lit0 (e := Yf) Ya ty9 zr9 rfl (fun v17 Ms18 ho19 => (W.mv (W.app (e := Yf) Ya ty9 zr9 rfl by9 rfl rfl (ho19) (h_a) pr9 (by simpa using ha) (fun v20 Ms21 ho22 => (g9 4 ?_)))))
 refine ⟨.inr rfl, [_], ⟨rfl, trivial⟩, Ms21, List.sublist_append_left _ _, ?_⟩
 have h := ho22
 rw [List.nil_append] at h
 exact h

theorem ZnG {G : GH} {v_a : Value} {a : List Int} (h_a : SlR ZA G v_a a) :
    Fc Tryz.prog 159 [v_a] G [] (fun v G' M' => OwnR ZA 3 G' v (a) M') := by
 obtain ⟨sa_a, sc_a, rfl⟩ := h_a.form
 have ha := h_a.bytes
 refine Fc.go [.tmp 2] Tryz.func159 Tryz.ntmps159 rfl (fun w0 => (g9 9 ?_))
 refine W.ok (ZaR Z5 rfl rfl) (g9 2 ?_)
 refine WC.cond rfl (fun h4 => ?_) (fun h4 => ?_)
 ·have hn := SlR.isNone h_a h4
  subst hn
  refine g9 8 ?_
  exact OwnR.nil
 refine g9 4 ?_
 refine W.lit0 (e := ZA) Z5 ty3 zr3 rfl (fun v23 Ms24 ho25 => (W.mv (W.app (e := ZA) Z5 ty3 zr3 rfl by3 rfl rfl (ho25) (h_a) pr9 (by simpa using ha) (fun v26 Ms27 ho28 => (g9 4 ?_)))))
 refine ⟨.inr rfl, [_], ⟨rfl, trivial⟩, Ms27, List.sublist_append_left _ _, ?_⟩
 have h := ho28
 rw [List.nil_append] at h
 exact h

theorem ZnH {G : GH} {v_p : Value} {p : List Str} (h_p : SlR Yf G v_p p) {v_c : Value} {c : List Int} (h_c : SlR ZA G v_c c) (i : Nat) (k : Str) (nv : Int) (hb1 : (p.length + 1) * 16 ≤ 140737488355328) (hb2 : (c.length + 1) * 8 ≤ 140737488355328) (hi : i64 ((i : Nat) : Int)) (hv : i64 nv) :
    Fc Tryz.prog 176 [v_p, v_c, nt9 i, sV k.b, iV nv] G [] (fun v G' M' => M' = [] ∧ ∃ r : List Str × List Int, r = XU p c i k nv ∧ ∃ u0 u1, v = .tuple #[u0, u1] ∧ SlR Yf G' u0 (r.1) ∧ SlR ZA G' u1 (r.2)) := by
 obtain ⟨sa_p, sc_p, rfl⟩ := h_p.form
 obtain ⟨sa_c, sc_c, rfl⟩ := h_c.form
 have hp := h_p.len47
 have hc := h_c.len47
 have hv1 := hv.1
 have hv2 := hv.2
 refine Fc.go [.tmp 10, .tmp 11] Tryz.func176 Tryz.ntmps176 rfl (fun w0 => (g9 10 ?_))
 refine W.qcall (ZaF h_p _ (by first | assumption | exact ⟨om9, om9⟩)) rfl (W.alloc ZL (fun b30 => (g9 9 ?_)))
 refine W.sd 18 (fun h17 p17 => ?_) (fun h17 p17 => ?_)
 ·exfalso; omega
 refine g9 10 ?_
 refine W.sd 24 (fun h22 p22 => ?_) (fun h22 p22 => ?_)
 ·refine g9 23 ?_
  refine ⟨rfl, _, (Zc5 (.inl om9)).symm, _, _, rfl, ?_, ?_⟩
  · exact SlR.nil
  exact SlR.nil
 refine g9 5 ?_
 refine W.qcall (Zde _ _ _ _) rfl (g9 4 ?_)
 refine W.sp 30 rfl (fun h28 => ?_) (fun h28 => ?_)
 ·refine g9 17 ?_
  refine ⟨rfl, _, (Zc5 (.inr (.inl (by simpa using h28)))).symm, _, _, rfl, ?_, ?_⟩
  · exact SlR.nil
  exact SlR.nil
 refine g9 11 ?_
 refine WC.cd (fun h34 p34 => ?_) (fun h34 p34 => ?_)
 ·refine g9 9 ?_
  refine ⟨rfl, _, (Zc5 (.inr (.inr (Str.ext' p34)))).symm, _, _, rfl, ?_, ?_⟩
  · exact SlR.nil
  exact SlR.nil
 have hin := ZeH (p := p) (i := i) (k := k) (by simpa using h28)
 have hb := Zc6 (p := p) (c := c) (i := i) (k := k) (v := nv) om9 (by simpa using h28) (fun e => p34 (congrArg Str.b e))
 refine g9 5 ?_
 refine W.call (Mp := []) (ZnF h_p) rfl pr9 ?_
 rintro v32 G31 Ms33 hG31 ho34
 refine W.perm (pmC pr9).symm (g9 2 ?_)
 refine W.litO (e := Yf) (l := [_]) (css := [[sV _]]) Ya ty9 zr9 rfl rfl rfl rfl rfl rfl ⟨rfl, trivial⟩ (fun v35 Ms36 ho37 => (W.perm (pmC pr9).symm (W.call (Mp := Ms33 ++ Ms36) (ZnD ho34 _ ho37 (by first | assumption | omega) (by first | assumption | omega | simp) (by first | assumption | omega | (simp; omega))) rfl ((List.Perm.of_eq (List.append_assoc _ _ _)).trans ((List.Perm.append_left _ (pmC pr9)).trans (pmC (pmA pr9)))) ?_)))
 rintro v39 G38 Ms40 hG38 ho41
 refine W.perm (pmC pr9).symm (W.mv (W.call (Mp := []) (ZnG (h_c.mono lec)) rfl pr9 ?_))
 rintro v43 G42 Ms44 hG42 ho45
 refine W.perm (pmC pr9).symm (W.mv (W.ok (Ok.int (n := ((i + 1 : Nat) : Int)) (YV rfl rfl om9) om9) (W.mv (W.litO (e := ZA) (l := [_]) (css := [[iV _]]) Z5 ty3 zr3 rfl rfl rfl rfl rfl rfl ⟨⟨rfl, om9, om9⟩, trivial⟩ (fun v46 Ms47 ho48 => (W.perm (pmC pr9).symm (W.call (Mp := Ms44 ++ Ms47) (ZnE ho45 _ ho48 (by first | assumption | omega) (by first | assumption | omega | simp) (by first | assumption | omega | (simp; omega))) rfl ((List.Perm.of_eq (List.append_assoc _ _ _)).trans ((List.Perm.append_left _ (pmC pr9)).trans (pmC (pmA pr9)))) ?_)))))))
 rintro v50 G49 Ms51 hG49 ho52
 refine W.perm (pmC pr9).symm (g9 4 ?_)
 refine WC.giveO (ho41.mono lec) (pmC (pmA pr9)) (fun G53 hG53 hv53 => (WC.giveO (ho52.mono hG53) (pmC pr9) (fun G54 hG54 hv54 => (g9 2 ?_))))
 refine ⟨rfl, _, hb.symm, _, _, rfl, ?_, ?_⟩
 · exact (hv53.mono hG54)
 exact hv54

end Go.Proofs.YtbbemibbmbmamaaGreat

namespace Go.Fw
def Y7 (n : Nd) (i : Nat) (k : Str) (v : Int) : Nd × Bool :=
 if n.level = 0 ∨ (XU n.pivots n.kids i k v).2.length = 0 then (Nd.zero, false)
 else ({ n with pivots := (XU n.pivots n.kids i k v).1, kids := (XU n.pivots n.kids i k v).2 }, true)
theorem ZeI {n : Nd} {i : Nat} {k : Str} {v : Int} (h : n.level = 0 ∨ (XU n.pivots n.kids i k v).2.length = 0) : Y7 n i k v = (Nd.zero, false) := if_pos h
theorem ZeJ {n : Nd} {i : Nat} {k : Str} {v : Int} (h1 : ¬ n.level = 0) (h2 : ¬ (XU n.pivots n.kids i k v).2.length = 0) : Y7 n i k v = ({ n with pivots := (XU n.pivots n.kids i k v).1, kids := (XU n.pivots n.kids i k v).2 }, true) := if_neg (by rintro (h | h); exact h1 h; exact h2 h)
theorem ZeK {p : List Str} {c : List Int} {i : Nat} {k : Str} {v : Int} (h : c.length ≤ i ∨ (Zf p (i : Int)).has k = false ∨ k = (Zf p (i : Int)).lo) : (XU p c i k v).2.length = 0 := by rw [Zc5 h]; rfl
theorem ZnI {n : Nd} {i : Nat} {k : Str} {v : Int} (h1 : ¬ n.level = 0) (h2 : ¬ n.kids.length ≤ i) (h3 : (Zf n.pivots (i : Int)).has k = true) (h4 : ¬ k = (Zf n.pivots (i : Int)).lo) :
  Y7 n i k v = ({ n with pivots := (n.pivots.take i ++ [k]) ++ n.pivots.drop i, kids := (n.kids.take (i + 1) ++ [v]) ++ n.kids.drop (i + 1) }, true) := by
 have e := Zc6 (v := v) h2 h3 h4
 rw [ZeJ h1 (by rw [e]; simp), e]
end Go.Fw
namespace Go.Proofs.YtbbemibbmbmamaaGreat
open Go Go.Fw Go.RowKit
attribute [local irreducible] Ok W WC
theorem Zcj {G : GH} {v_a : Value} {a : List Str} (h_a : SlR Yf G v_a a) :
    Fc Tryz.prog 158 [v_a] G [] (fun v G' M' => M' = [] ∧ ∃ u0, v = u0 ∧ SlR Yf G' u0 (a)) := by
 obtain ⟨sa_a, sc_a, rfl⟩ := h_a.form
 have ha := h_a.bytes
 refine Fc.go [.tmp 2] Tryz.func158 Tryz.ntmps158 rfl (fun w0 => (g9 9 ?_))
 refine W.ok (ZaR Ya rfl rfl) (g9 2 ?_)
 refine WC.cond rfl (fun h4 => ?_) (fun h4 => ?_)
 ·have hn := SlR.isNone h_a h4
  subst hn
  refine g9 8 ?_
  refine ⟨rfl, _, rfl, ?_⟩
  · exact SlR.nil
 refine g9 4 ?_
 refine W.lit0 (e := Yf) Ya ty9 zr9 rfl (fun v1 Ms2 ho3 => (W.mv (W.app (e := Yf) Ya ty9 zr9 rfl by9 rfl rfl (ho3) (h_a) pr9 (by simpa using ha) (fun v4 Ms5 ho6 => (g9 3 ?_)))))
 refine WC.giveO ho6 pr9 (fun G7 hG7 hv7 => (g9 2 ?_))
 refine ⟨rfl, _, rfl, ?_⟩
 · exact hv7

theorem Zck {G : GH} {v_a : Value} {a : List Int} (h_a : SlR ZA G v_a a) :
    Fc Tryz.prog 159 [v_a] G [] (fun v G' M' => M' = [] ∧ ∃ u0, v = u0 ∧ SlR ZA G' u0 (a)) := by
 obtain ⟨sa_a, sc_a, rfl⟩ := h_a.form
 have ha := h_a.bytes
 refine Fc.go [.tmp 2] Tryz.func159 Tryz.ntmps159 rfl (fun w0 => (g9 9 ?_))
 refine W.ok (ZaR Z5 rfl rfl) (g9 2 ?_)
 refine WC.cond rfl (fun h4 => ?_) (fun h4 => ?_)
 ·have hn := SlR.isNone h_a h4
  subst hn
  refine g9 8 ?_
  refine ⟨rfl, _, rfl, ?_⟩
  · exact SlR.nil
 refine g9 4 ?_
 refine W.lit0 (e := ZA) Z5 ty3 zr3 rfl (fun v8 Ms9 ho10 => (W.mv (W.app (e := ZA) Z5 ty3 zr3 rfl by3 rfl rfl (ho10) (h_a) pr9 (by simpa using ha) (fun v11 Ms12 ho13 => (g9 3 ?_)))))
 refine WC.giveO ho13 pr9 (fun G14 hG14 hv14 => (g9 2 ?_))
 refine ⟨rfl, _, rfl, ?_⟩
 · exact hv14

theorem XM {G : GH} {cs_a : List Value} {a : Nd} (h_a : NodeC G cs_a a) :
    Fc Tryz.prog 118 [.agg (List.toArray cs_a)] G [] (fun v G' M' => M' = [] ∧ ∃ u0, v = .agg (List.toArray u0) ∧ NodeC G' u0 (a)) := by
 obtain ⟨_, _, _, _, _, _, _, _, rfl, hp_a, hk_a, hm_a, hr_a, hok_a⟩ := h_a
 refine Fc.go [.cell 2 60] Tryz.func118 Tryz.ntmps118 rfl (fun w0 => (g9 2 ?_))
 refine W.box (L := [iV _, iV _, lV _ _ _, lV _ _ _, sV _, .bool _, iV _, iV _, lV _ _ _, lV _ _ _]) rfl rfl (fun b15 => (W.alloc Zp (fun b16 => (g9 3 ?_))))
 refine WC.dw ((sr9.cons _).k9) (d9 [0, 3] ?_)
 refine WD.any [1, 4] (by kernel_rfl) rfl ⟨WD.ap ?_, WD.ap ?_, trivial⟩
 ·refine g9 1 ?_
  refine W.nn ?_
  refine WD.any [2, 4] (by kernel_rfl) rfl ⟨WD.ap ?_, WD.ap ?_, trivial⟩
  ·refine W.cS (Zcj hp_a) rfl (fun sa_hv18 sc_hv18 G17 hG17 hv18 => (W.nn (WD.a1 4 rfl (g9 1 ?_))))
   refine W.nn (d9 [6] ?_)
   refine WD.a1 5 rfl (W.cS (Zck (hk_a.mono hG17)) rfl (fun sa_hv25 sc_hv25 G24 hG24 hv25 => (W.nn (d9 [7, 8, 9] ?_))))
   refine g9 3 ?_
   refine WC.dw ((sr9.cons _).k9) (d9 [0, 3] ?_)
   refine WD.any [1, 4] (by kernel_rfl) rfl ⟨WD.ap ?_, WD.ap ?_, trivial⟩
   ·refine g9 1 ?_
    refine W.nn ?_
    refine WD.any [2, 4] (by kernel_rfl) rfl ⟨WD.ap ?_, WD.ap ?_, trivial⟩
    ·refine W.cS (JD (hm_a.mono lec)) rfl (fun sa_hv32 sc_hv32 G31 hG31 hv32 => (W.nn (WD.a1 4 rfl (g9 1 ?_))))
     refine W.nn (d9 [6] ?_)
     refine WD.a1 5 rfl (W.cS (XX (hr_a.mono lec)) rfl (fun sa_hv39 sc_hv39 G38 hG38 hv39 => (W.nn (d9 [7, 8, 9] ?_))))
     refine g9 10 ?_
     refine ⟨rfl, _, rfl, ?_⟩
     · exact ⟨_, _, _, _, _, _, _, _, rfl, (hv18.mono lec), (hv25.mono lec), (hv32.mono hG38), hv39, (by assumption)⟩
    refine g9 1 ?_
    refine W.nn (WD.a1 2 rfl (W.cS (JD (hm_a.mono lec)) rfl (fun sa_hv46 sc_hv46 G45 hG45 hv46 => (W.nn (d9 [6] ?_)))))
    refine WD.a1 5 rfl (W.cS (XX (hr_a.mono lec)) rfl (fun sa_hv53 sc_hv53 G52 hG52 hv53 => (W.nn (d9 [7, 8, 9] ?_))))
    refine g9 10 ?_
    refine ⟨rfl, _, rfl, ?_⟩
    · exact ⟨_, _, _, _, _, _, _, _, rfl, (hv18.mono lec), (hv25.mono lec), (hv46.mono hG52), hv53, (by assumption)⟩
   refine g9 1 ?_
   refine W.nn (WD.a1 1 rfl (g9 1 ?_))
   refine W.nn (WD.a1 2 rfl (W.cS (JD (hm_a.mono lec)) rfl (fun sa_hv60 sc_hv60 G59 hG59 hv60 => (W.nn (d9 [6] ?_)))))
   refine WD.a1 5 rfl (W.cS (XX (hr_a.mono lec)) rfl (fun sa_hv67 sc_hv67 G66 hG66 hv67 => (W.nn (d9 [7, 8, 9] ?_))))
   refine g9 10 ?_
   refine ⟨rfl, _, rfl, ?_⟩
   · exact ⟨_, _, _, _, _, _, _, _, rfl, (hv18.mono lec), (hv25.mono lec), (hv60.mono hG66), hv67, (by assumption)⟩
  refine g9 1 ?_
  refine W.nn (WD.a1 2 rfl (W.cS (Zcj hp_a) rfl (fun sa_hv74 sc_hv74 G73 hG73 hv74 => (W.nn (d9 [6] ?_)))))
  refine WD.a1 5 rfl (W.cS (Zck (hk_a.mono hG73)) rfl (fun sa_hv81 sc_hv81 G80 hG80 hv81 => (W.nn (d9 [7, 8, 9] ?_))))
  refine g9 3 ?_
  refine WC.dw ((sr9.cons _).k9) (d9 [0, 3] ?_)
  refine WD.any [1, 4] (by kernel_rfl) rfl ⟨WD.ap ?_, WD.ap ?_, trivial⟩
  ·refine g9 1 ?_
   refine W.nn ?_
   refine WD.any [2, 4] (by kernel_rfl) rfl ⟨WD.ap ?_, WD.ap ?_, trivial⟩
   ·refine W.cS (JD (hm_a.mono lec)) rfl (fun sa_hv88 sc_hv88 G87 hG87 hv88 => (W.nn (WD.a1 4 rfl (g9 1 ?_))))
    refine W.nn (d9 [6] ?_)
    refine WD.a1 5 rfl (W.cS (XX (hr_a.mono lec)) rfl (fun sa_hv95 sc_hv95 G94 hG94 hv95 => (W.nn (d9 [7, 8, 9] ?_))))
    refine g9 10 ?_
    refine ⟨rfl, _, rfl, ?_⟩
    · exact ⟨_, _, _, _, _, _, _, _, rfl, (hv74.mono lec), (hv81.mono lec), (hv88.mono hG94), hv95, (by assumption)⟩
   refine g9 1 ?_
   refine W.nn (WD.a1 2 rfl (W.cS (JD (hm_a.mono lec)) rfl (fun sa_hv102 sc_hv102 G101 hG101 hv102 => (W.nn (d9 [6] ?_)))))
   refine WD.a1 5 rfl (W.cS (XX (hr_a.mono lec)) rfl (fun sa_hv109 sc_hv109 G108 hG108 hv109 => (W.nn (d9 [7, 8, 9] ?_))))
   refine g9 10 ?_
   refine ⟨rfl, _, rfl, ?_⟩
   · exact ⟨_, _, _, _, _, _, _, _, rfl, (hv74.mono lec), (hv81.mono lec), (hv102.mono hG108), hv109, (by assumption)⟩
  refine g9 1 ?_
  refine W.nn (WD.a1 1 rfl (g9 1 ?_))
  refine W.nn (WD.a1 2 rfl (W.cS (JD (hm_a.mono lec)) rfl (fun sa_hv116 sc_hv116 G115 hG115 hv116 => (W.nn (d9 [6] ?_)))))
  refine WD.a1 5 rfl (W.cS (XX (hr_a.mono lec)) rfl (fun sa_hv123 sc_hv123 G122 hG122 hv123 => (W.nn (d9 [7, 8, 9] ?_))))
  refine g9 10 ?_
  refine ⟨rfl, _, rfl, ?_⟩
  · exact ⟨_, _, _, _, _, _, _, _, rfl, (hv74.mono lec), (hv81.mono lec), (hv116.mono hG122), hv123, (by assumption)⟩
 refine g9 1 ?_
 refine W.nn (WD.a1 1 rfl (g9 1 ?_))
 refine W.nn (WD.a1 2 rfl (W.cS (Zcj hp_a) rfl (fun sa_hv130 sc_hv130 G129 hG129 hv130 => (W.nn (d9 [6] ?_)))))
 refine WD.a1 5 rfl (W.cS (Zck (hk_a.mono hG129)) rfl (fun sa_hv137 sc_hv137 G136 hG136 hv137 => (W.nn (d9 [7, 8, 9] ?_))))
 refine g9 3 ?_
 refine WC.dw ((sr9.cons _).k9) (d9 [0, 3] ?_)
 refine WD.any [1, 4] (by kernel_rfl) rfl ⟨WD.ap ?_, WD.ap ?_, trivial⟩
 ·refine g9 1 ?_
  refine W.nn ?_
  refine WD.any [2, 4] (by kernel_rfl) rfl ⟨WD.ap ?_, WD.ap ?_, trivial⟩
  ·refine W.cS (JD (hm_a.mono lec)) rfl (fun sa_hv144 sc_hv144 G143 hG143 hv144 => (W.nn (WD.a1 4 rfl (g9 1 ?_))))
   refine W.nn (d9 [6] ?_)
   refine WD.a1 5 rfl (W.cS (XX (hr_a.mono lec)) rfl (fun sa_hv151 sc_hv151 G150 hG150 hv151 => (W.nn (d9 [7, 8, 9] ?_))))
   refine g9 10 ?_
   refine ⟨rfl, _, rfl, ?_⟩
   · exact ⟨_, _, _, _, _, _, _, _, rfl, (hv130.mono lec), (hv137.mono lec), (hv144.mono hG150), hv151, (by assumption)⟩
  refine g9 1 ?_
  refine W.nn (WD.a1 2 rfl (W.cS (JD (hm_a.mono lec)) rfl (fun sa_hv158 sc_hv158 G157 hG157 hv158 => (W.nn (d9 [6] ?_)))))
  refine WD.a1 5 rfl (W.cS (XX (hr_a.mono lec)) rfl (fun sa_hv165 sc_hv165 G164 hG164 hv165 => (W.nn (d9 [7, 8, 9] ?_))))
  refine g9 10 ?_
  refine ⟨rfl, _, rfl, ?_⟩
  · exact ⟨_, _, _, _, _, _, _, _, rfl, (hv130.mono lec), (hv137.mono lec), (hv158.mono hG164), hv165, (by assumption)⟩
 refine g9 1 ?_
 refine W.nn (WD.a1 1 rfl (g9 1 ?_))
 refine W.nn (WD.a1 2 rfl (W.cS (JD (hm_a.mono lec)) rfl (fun sa_hv172 sc_hv172 G171 hG171 hv172 => (W.nn (d9 [6] ?_)))))
 refine WD.a1 5 rfl (W.cS (XX (hr_a.mono lec)) rfl (fun sa_hv179 sc_hv179 G178 hG178 hv179 => (W.nn (d9 [7, 8, 9] ?_))))
 refine g9 10 ?_
 refine ⟨rfl, _, rfl, ?_⟩
 · exact ⟨_, _, _, _, _, _, _, _, rfl, (hv130.mono lec), (hv137.mono lec), (hv172.mono hG178), hv179, (by assumption)⟩

theorem ZhF {G : GH} {cs_n : List Value} {n : Nd} (h_n : NodeC G cs_n n) (i : Nat) (k : Str) (nv : Int) (hz : n.pivots.length ≤ 1000000 ∧ n.kids.length ≤ 1000000) (hi : i64 ((i : Nat) : Int)) (hv : i64 nv) :
    Fc Tryz.prog 223 [.agg (List.toArray cs_n), nt9 i, sV k.b, iV nv] G [] (fun v G' M' => M' = [] ∧ ∃ r : Nd × Bool, r = Y7 n i k nv ∧ ∃ u0, v = .tuple #[.agg (List.toArray u0), .bool (r.2)] ∧ NodeC G' u0 (r.1)) := by
 obtain ⟨_, _, _, _, _, _, _, _, rfl, hp_n, hk_n, hm_n, hr_n, hok_n⟩ := h_n
 have h1 := hp_n.len47
 have h2 := hk_n.len47
 have h3 := hm_n.len47
 have h4 := hr_n.len47
 obtain ⟨hz1, hz2⟩ := hz
 have hv1 := hv.1
 have hv2 := hv.2
 have hi1 := hi.1
 have hi2 := hi.2
 have b1 : n.pivots.length * 16 ≤ 140737488355328 := hp_n.bytes
 have b2 : n.kids.length * 8 ≤ 140737488355328 := hk_n.bytes
 refine Fc.go [.cell 8 60, .tmp 9] Tryz.func223 Tryz.ntmps223 rfl (fun w0 => (g9 2 ?_))
 refine W.box (L := [iV _, iV _, lV _ _ _, lV _ _ _, sV _, .bool _, iV _, iV _, lV _ _ _, lV _ _ _]) rfl rfl (fun b197 => (W.alloc Zp (fun b198 => (g9 11 ?_))))
 refine WC.cd (fun h15 p15 => ?_) (fun h15 p15 => ?_)
 ·refine g9 2 ?_
  refine W.ok (ZE (L := [iV _, iV _, lV _ _ _, lV _ _ _, sV _, .bool _, iV _, iV _, lV _ _ _, lV _ _ _]) Zap Zp rfl rfl rfl) (g9 7 ?_)
  refine ⟨rfl, _, (ZeI (.inl p15)).symm, _, rfl, ?_⟩
  · exact ⟨_, _, _, _, _, _, _, _, rfl, SlR.nil, SlR.nil, SlR.nil, SlR.nil, Nd.zero_ok⟩
 refine g9 11 ?_
 refine W.call (Mp := []) (ZnH hp_n hk_n _ _ _ (by first | assumption | omega | (simp; omega)) (by first | assumption | omega | (simp; omega)) (by first | assumption | exact ⟨om9, om9⟩) (by assumption)) rfl pr9 ?_
 intro _ G199 _ hG199 q202
 refine match q202 with | ⟨e_203, _, e_204, _, _, e_205, hv200, hv201⟩ => ?_
 subst e_203
 subst e_204
 subst e_205
 have q207 := hv200.form
 refine match q207 with | ⟨sa_hv200, sc_hv200, e_206⟩ => ?_
 subst e_206
 have q209 := hv201.form
 refine match q209 with | ⟨sa_hv201, sc_hv201, e_208⟩ => ?_
 subst e_208
 refine g9 15 ?_
 refine WC.cd (fun h30 p30 => ?_) (fun h30 p30 => ?_)
 ·refine g9 2 ?_
  refine W.ok (ZE (L := [iV _, iV _, lV _ _ _, lV _ _ _, sV _, .bool _, iV _, iV _, lV _ _ _, lV _ _ _]) Zap Zp rfl rfl rfl) (g9 7 ?_)
  refine ⟨rfl, _, (ZeI (.inr om9)).symm, _, rfl, ?_⟩
  · exact ⟨_, _, _, _, _, _, _, _, rfl, SlR.nil, SlR.nil, SlR.nil, SlR.nil, Nd.zero_ok⟩
 refine g9 5 ?_
 refine W.cN (XM (nm9 hG199 hp_n hk_n hm_n hr_n hok_n)) rfl (fun _ _ _ _ _ _ _ _ G210 hG210 hp_hv211 hk_hv211 hm_hv211 hr_hv211 hok_hv211 => (W.alloc Zp (fun b216 => (g9 22 ?_))))
 refine ⟨rfl, _, (ZeJ p15 om9).symm, _, rfl, ?_⟩
 · exact ⟨_, _, _, _, _, _, _, _, rfl, (hv200.mono hG210), (hv201.mono hG210), hm_hv211, hr_hv211, hok_n⟩

end Go.Proofs.YtbbemibbmbmamaaGreat
