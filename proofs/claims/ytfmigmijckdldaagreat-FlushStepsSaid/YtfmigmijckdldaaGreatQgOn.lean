/- What the walks of pouring want of plain lists. Plain Lean; nothing of the program is named here. No condition. -/
import Derived.Test.YtfmigmijckdldaaGreatQgOk
set_option linter.unusedVariables false
set_option linter.unusedSimpArgs false
set_option linter.unnecessarySimpa false
set_option maxRecDepth 100000
set_option maxHeartbeats 1600000

namespace Go.Fw
open Go Go.RowKit
theorem front_mem {l : List Msg} {m : Msg} (h : m ∈ frontN l) : m ∈ l := by
 unfold frontN at h
 split at h
 ·exact h
 ·split at h
  ·exact List.mem_of_mem_take h
  ·exact List.mem_of_mem_take h
theorem front_len (l : List Msg) : (frontN l).length ≤ l.length := by
 unfold frontN
 split
 ·exact Nat.le_refl _
 ·split
  ·rw [List.length_take]; omega
  ·rw [List.length_take]; omega
theorem front_all {l : List Msg} (h : idxN isW l = -1) : l = frontN l := by unfold frontN; rw [if_pos h]
theorem front_one {l : List Msg} (h : ¬ idxN isW l = -1) (h2 : idxN isW l = 0) : (l.take 1).drop 0 = frontN l := by unfold frontN; rw [if_neg h, if_pos h2, List.drop_zero]
theorem front_take {l : List Msg} (h : ¬ idxN isW l = -1) (h2 : ¬ idxN isW l = 0) : (l.take (idxN isW l).toNat).drop 0 = frontN l := by unfold frontN; rw [if_neg h, if_neg h2, List.drop_zero]
theorem fm_succ {α β : Type} {f : α → Option β} {l : List α} {k : Nat} (hk : k < l.length) : (l.take (k + 1)).filterMap f = (l.take k).filterMap f ++ (f l[k]).toList := by
 rw [List.take_succ_eq_append_getElem hk, List.filterMap_append]
 cases h : f l[k] <;> simp [h]
theorem fm_t {α β : Type} {f : α → Option β} {l : List α} {k : Nat} {b : β} (hk : k < l.length) (h : f l[k] = some b) : (l.take (k + 1)).filterMap f = (l.take k).filterMap f ++ [b] := by rw [fm_succ hk, h]; rfl
theorem fm_f {α β : Type} {f : α → Option β} {l : List α} {k : Nat} (hk : k < l.length) (h : f l[k] = none) : (l.take (k + 1)).filterMap f = (l.take k).filterMap f := by rw [fm_succ hk, h]; simp
theorem fm_lek {α β : Type} (f : α → Option β) (l : List α) (k : Nat) : ((l.take k).filterMap f).length ≤ k := by
 have := List.length_filterMap_le f (l.take k)
 rw [List.length_take] at this
 omega
theorem for_t {P : List Str} {i : Int} {F : List Msg} {k : Nat} (hk : k < F.length) (h1 : ((routeN P F[k].key : Nat) : Int) = i) (h2 : (F[k].clip (rangeN P i)).2 = true) : (F.take (k + 1)).filterMap (forF P i) = (F.take k).filterMap (forF P i) ++ [(F[k].clip (rangeN P i)).1] := fm_t hk (if_pos ⟨h1, h2⟩)
theorem for_n {P : List Str} {i : Int} {F : List Msg} {k : Nat} (hk : k < F.length) (h : ¬ (((routeN P F[k].key : Nat) : Int) = i ∧ (F[k].clip (rangeN P i)).2 = true)) : (F.take (k + 1)).filterMap (forF P i) = (F.take k).filterMap (forF P i) := fm_f hk (if_neg h)
def addN (bud : Int) (ms : List Msg) (m : Msg) : List Msg × Bool := if roomB bud ms m = true then (ms ++ [m], true) else ([], false)
theorem addN_t {bud : Int} {ms : List Msg} {m : Msg} (h : roomB bud ms m = true) : addN bud ms m = (ms ++ [m], true) := if_pos h
theorem addN_f {bud : Int} {ms : List Msg} {m : Msg} (h : roomB bud ms m = false) : addN bud ms m = ([], false) := if_neg (by simp [h])
theorem room_iff {bud : Int} {ms : List Msg} {m : Msg} : roomB bud ms m = true ↔ m.size ≤ bud - sizesN ms ∧ ∀ h : 0 < ms.length, (ms[ms.length - 1]'(by omega)).stamp < m.stamp := by
 unfold roomB
 rw [Bool.and_eq_true, decide_eq_true_eq]
 refine and_congr Iff.rfl ?_
 cases h : ms.getLast? with
 | none =>
  rw [List.getLast?_eq_none_iff] at h
  subst h
  simp
 | some x =>
  rw [List.getLast?_eq_getElem?] at h
  obtain ⟨h1, h2⟩ := List.getElem?_eq_some_iff.1 h
  simp only [Option.all_some, decide_eq_true_eq]
  exact ⟨fun h3 _ => by rw [h2]; exact h3, fun h3 => by have := h3 (by omega); rw [h2] at this; exact this⟩
theorem room_f1 {bud : Int} {ms : List Msg} {m : Msg} (h : ¬ m.size ≤ bud - sizesN ms) : roomB bud ms m = false := by
 cases hr : roomB bud ms m
 ·rfl
 ·exact absurd (room_iff.1 hr).1 h
theorem room_f2 {bud : Int} {ms : List Msg} {m : Msg} (h : 0 < ms.length) (h2 : m.stamp ≤ (ms[ms.length - 1]'(by omega)).stamp) : roomB bud ms m = false := by
 cases hr : roomB bud ms m
 ·rfl
 ·have := (room_iff.1 hr).2 h; omega
theorem adds_stop {bud : Int} {ms l : List Msg} {k : Nat} (hk : k < l.length) (h : roomB bud ms l[k] = false) : addsN bud ms (l.drop k) = 0 := by
 rw [List.drop_eq_getElem_cons hk]
 unfold addsN
 rw [if_neg (by simp [h])]
theorem adds_next {bud : Int} {ms l : List Msg} {k : Nat} (hk : k < l.length) (h : roomB bud ms l[k] = true) : addsN bud ms (l.drop k) = addsN bud (ms ++ [l[k]]) (l.drop (k + 1)) + 1 := by
 rw [List.drop_eq_getElem_cons hk]
 conv => lhs; unfold addsN
 rw [if_pos h]
def AddsAt (bud : Int) (ms l : List Msg) (k : Nat) : Prop := addsN bud ms l = k + addsN bud (ms ++ l.take k) (l.drop k)
theorem AddsAt.zero (bud : Int) (ms l : List Msg) : AddsAt bud ms l 0 := by unfold AddsAt; simp
theorem AddsAt.succ {bud : Int} {ms l : List Msg} {k : Nat} (h : AddsAt bud ms l k) (hk : k < l.length) (hr : roomB bud (ms ++ l.take k) l[k] = true) : AddsAt bud ms l (k + 1) := by
 unfold AddsAt at h ⊢
 rw [h, adds_next hk hr, List.take_succ_eq_append_getElem hk, List.append_assoc]
 omega
theorem AddsAt.stop {bud : Int} {ms l : List Msg} {k : Nat} (h : AddsAt bud ms l k) (hk : k < l.length) (hr : roomB bud (ms ++ l.take k) l[k] = false) : addsN bud ms l = k := by
 unfold AddsAt at h
 rw [h, adds_stop hk hr]
 omega
theorem AddsAt.all {bud : Int} {ms l : List Msg} {k : Nat} (h : AddsAt bud ms l k) (hk : l.length ≤ k) : addsN bud ms l = k := by
 unfold AddsAt at h
 rw [h, List.drop_eq_nil_of_le hk]
 rfl
theorem moved_0 {leaf bud : Int} {k : Nd} {l : List Msg} (h : k.level = 0) : movedN leaf bud k l = ({ k with rows := (drainN leaf k.rows l).1 }, (drainN leaf k.rows l).2) := if_pos h
theorem moved_n {leaf bud : Int} {k : Nd} {l : List Msg} {j : Nat} (h : ¬ k.level = 0) (hj : addsN bud k.msgs l = j) : movedN leaf bud k l = ({ k with msgs := k.msgs ++ l.take j }, j) := by unfold movedN; rw [if_neg h, hj]
theorem count_t {leaf bud : Int} {p k : Nd} {i : Int} (h : KidOf p k i) : countN leaf bud p k i = (movedN leaf bud k (forN p.pivots p.msgs i)).2 := if_pos h
theorem count_f {leaf bud : Int} {p k : Nd} {i : Int} (h : ¬ KidOf p k i) : countN leaf bud p k i = 0 := if_neg h
theorem sizes_bound : ∀ {l : List Msg}, (∀ m ∈ l, m.key.b.size ≤ 16 ∧ m.val.b.size ≤ 16) → 0 ≤ sizesN l ∧ sizesN l ≤ 36 * l.length
 | [], _ => ⟨by simp [sizesN], by simp [sizesN]⟩
 | m :: l, h => by
  have ih := sizes_bound (l := l) fun x hx => h x (List.mem_cons_of_mem _ hx)
  have := size_36 (h m (by simp))
  have e : sizesN (m :: l) = m.size + sizesN l := by simp [sizesN]
  rw [e]
  simp only [List.length_cons]
  omega
def goneN (T : List Msg) : List (Int × Bool) := T.foldl (fun m x => putM m x.stamp true) []
theorem gone_succ {T : List Msg} {k : Nat} (hk : k < T.length) : goneN (T.take (k + 1)) = putM (goneN (T.take k)) T[k].stamp true := by
 unfold goneN
 rw [List.take_succ_eq_append_getElem hk, List.foldl_append]; rfl
theorem gone_get (s : Int) : ∀ (T : List Msg) (m : List (Int × Bool)), (getM (T.foldl (fun m x => putM m x.stamp true) m) s).getD false = (decide (s ∈ T.map Msg.stamp) || (getM m s).getD false)
 | [], m => by simp
 | x :: T, m => by
  rw [List.foldl_cons, gone_get s T, getM_put]
  by_cases h : s = x.stamp
  ·rw [if_pos h]
   simp [h]
  ·rw [if_neg h]
   simp [h]
theorem gone_has (T : List Msg) (s : Int) : (getM (goneN T) s).getD false = decide (s ∈ T.map Msg.stamp) := by
 unfold goneN
 rw [gone_get]
 simp [getM]
theorem add_snd (bud : Int) (ms : List Msg) (m : Msg) : (addN bud ms m).2 = roomB bud ms m := by
 unfold addN
 cases h : roomB bud ms m
 ·rw [if_neg (by simp)]
 ·rw [if_pos rfl]
theorem moved_len (leaf bud : Int) (k : Nd) (L : List Msg) : (L.take (movedN leaf bud k L).2).length = (movedN leaf bud k L).2 := by
 have := moved_le leaf bud k L
 rw [List.length_take]; omega
theorem pour_f0 {leaf bud : Int} {p k : Nd} {i : Int} (h : ¬ KidOf p k i) : pourN leaf bud p k i = (p, k, 0) := by unfold pourN; rw [if_pos (count_f h)]
theorem pour_f1 {leaf bud : Int} {p k : Nd} {i : Int} (hk : KidOf p k i) (h : ((forN p.pivots p.msgs i).take (movedN leaf bud k (forN p.pivots p.msgs i)).2).length = 0) : pourN leaf bud p k i = (p, k, 0) := by
 rw [moved_len] at h
 unfold pourN; rw [if_pos ((count_t hk).trans h)]
theorem last_get {T : List Msg} (h : 0 < T.length) : T.getLast?.getD Msg.zero = T[T.length - 1]'(by omega) := by
 rw [List.getLast?_eq_getElem?, List.getElem?_eq_getElem (by omega)]; rfl
theorem pour_t {leaf bud : Int} {p k : Nd} {i : Int} {T : List Msg} (hk : KidOf p k i) (hT : T = (forN p.pivots p.msgs i).take (movedN leaf bud k (forN p.pivots p.msgs i)).2) (h : 0 < T.length) :
  pourN leaf bud p k i = ({ p with msgs := restN p.pivots i T p.msgs }, { (movedN leaf bud k (forN p.pivots p.msgs i)).1 with seen := (T[T.length - 1]'(by omega)).stamp }, T.length) := by
 have e : T.length = countN leaf bud p k i := by rw [hT, moved_len, count_t hk]
 unfold pourN
 rw [if_neg (by omega), count_t hk, ← hT, last_get h, ← count_t hk, ← e]
theorem left_no {P : List Str} {i : Int} {T : List Msg} {m : Msg} (h : ¬ m.stamp ∈ T.map Msg.stamp) : leftN P i T m = some m := if_neg h
theorem left_w {P : List Str} {i : Int} {T : List Msg} {m : Msg} (h : m.stamp ∈ T.map Msg.stamp) (h4 : m.kind = 4) (hw : (withoutN m (rangeN P i)).2 = true) : leftN P i T m = some (withoutN m (rangeN P i)).1 := (if_pos h).trans (if_pos ⟨h4, hw⟩)
theorem left_n {P : List Str} {i : Int} {T : List Msg} {m : Msg} (h : m.stamp ∈ T.map Msg.stamp) (hw : ¬ (m.kind = 4 ∧ (withoutN m (rangeN P i)).2 = true)) : leftN P i T m = none := (if_pos h).trans (if_neg hw)
theorem restN_t {P : List Str} {i : Int} {T : List Msg} {l : List Msg} {k : Nat} {x : Msg} {n : Nd} (hk : k < l.length) (h : leftN P i T l[k] = some x) : ({ n with msgs := restN P i T (l.take k) ++ [x] } : Nd) = { n with msgs := restN P i T (l.take (k + 1)) } := by unfold restN; rw [fm_t hk h]
theorem restN_f {P : List Str} {i : Int} {T : List Msg} {l : List Msg} {k : Nat} {n : Nd} (hk : k < l.length) (h : leftN P i T l[k] = none) : ({ n with msgs := restN P i T (l.take k) } : Nd) = { n with msgs := restN P i T (l.take (k + 1)) } := by unfold restN; rw [fm_f hk h]
theorem without_ok {m : Msg} {s : Span} (h : m.Ok) : (withoutN m s).1.Ok := by
 unfold withoutN
 split
 ·exact ⟨⟨by decide, by decide⟩, ⟨by decide, by decide⟩⟩
 ·exact clip_ok h
theorem for_R {P : List Str} {l : List Msg} {i : Int} (hP : ∀ k ∈ P, k.b.size ≤ 16) (hl : ∀ m ∈ l, m.R) : ∀ m ∈ forN P l i, m.R := fun m hm => by
 obtain ⟨a, ha, h2, rfl⟩ := for_mem hm
 have hr := range_sizes (p := P) (i := i) (n := 16) hP
 exact clip_R (hl a ha) hr.1 hr.2 h2
theorem for_len (P : List Str) (l : List Msg) (i : Int) : (forN P l i).length ≤ l.length := Nat.le_trans (List.length_filterMap_le _ _) (front_len l)
theorem rest_len (P : List Str) (i : Int) (T l : List Msg) (k : Nat) : (restN P i T (l.take k)).length ≤ k := fm_lek _ _ _
def NmR (TN tm : TypeId) (b : Nat) (G : GH) (n : Nd) (M : MH) : Prop :=
 ∃ (pa : Option Addr) (pc : Nat) (ka : Option Addr) (kc : Nat) (vm : Value) (ra : Option Addr) (rc : Nat) (Mm : MH),
  M = (b, .cells (List.toArray [.int .i64 n.slot, .int .i64 n.level, .slice pa n.pivots.length pc, .slice ka n.kids.length kc, .string n.high.b, .bool n.top, .int .i64 n.right, .int .i64 n.seen, vm, .slice ra n.rows.length rc]) TN (0, 0)) :: Mm ∧
  SlR eStr G (.slice pa n.pivots.length pc) n.pivots ∧ SlR eInt G (.slice ka n.kids.length kc) n.kids ∧ OwnR eMsg tm G vm n.msgs Mm ∧ SlR ePair G (.slice ra n.rows.length rc) n.rows ∧ n.Ok
theorem NmR.mono {TN tm : TypeId} {b : Nat} {G G' : GH} {n : Nd} {M : MH} (hl : Le G G') (h : NmR TN tm b G n M) : NmR TN tm b G' n M := by
 obtain ⟨pa, pc, ka, kc, vm, ra, rc, Mm, h1, h2, h3, h4, h5, h6⟩ := h
 exact ⟨pa, pc, ka, kc, vm, ra, rc, Mm, h1, h2.mono hl, h3.mono hl, h4.mono hl, h5.mono hl, h6⟩
theorem NmR.cast {TN tm : TypeId} {b : Nat} {G : GH} {n n' : Nd} {M : MH} (h : NmR TN tm b G n M) (e : n = n') : NmR TN tm b G n' M := e ▸ h
end Go.Fw
namespace Go.Proofs.YtfmigmijckdldaaGreat
open Go Go.Fw Go.RowKit
attribute [local irreducible] Ok W WC
theorem mmsize_fc {G : GH} (ms : Int) (mk : Int) (mkey : Str) (mhi : Str) (mo : Bool) (mv : Str) :
    Fc Tryz.prog 93 [.agg #[iV ms, iV mk, sV mkey.b, sV mhi.b, .bool mo, sV mv.b]] G [] (fun v _ _ => v = iV (Msg.size (⟨ms, mk, mkey, mhi, mo, mv⟩ : Msg))) := by
 have h1 := mkey.le
 have h2 := mv.le
 refine Fc.go [.tmp 2] Tryz.func93 Tryz.ntmps93 rfl (fun w0 => (g9 2 ?_))
 refine W.box (L := [iV _, iV _, sV _, sV _, .bool _, sV _]) rfl rfl (fun b1 => (g9 11 ?_))
 refine WC.cd (fun h5 p5 => ?_) (fun h5 p5 => ?_)
 ·refine g9 8 ?_
  refine congrArg (Value.int .i64) ?_
  rw [Msg.size, if_pos p5]
 refine g9 17 ?_
 refine congrArg (Value.int .i64) ?_
 rw [Msg.size, if_neg p5]

theorem bsize_fc {G : GH} {v_l : Value} {l : List Msg} (h_l : SlR eMsg G v_l l) (hs : ∀ m ∈ l, m.key.b.size ≤ 16 ∧ m.val.b.size ≤ 16) :
    Fc Tryz.prog 162 [v_l] G [] (fun v _ _ => v = iV (sizesN l)) := by
 obtain ⟨sa_l, sc_l, rfl⟩ := h_l.form
 have hl := h_l.len47
 refine Fc.go [.tmp 2] Tryz.func162 Tryz.ntmps162 rfl (fun w0 => (g9 19 ?_))
 refine WC.loop (X := Nat) (fun k => [(3, iV (sizesN (l.take k))), (8, nt9 k), (6, lV sa_l l.length sc_l), (7, nt9 ((l).length))]) (fun k _ Ml => Ml = [] ∧ k ≤ l.length ∧ 0 ≤ sizesN (l.take k) ∧ sizesN (l.take k) ≤ 36 * k) (fun k => l.length - k) 0 hs9 ?_ ?_
 ·exact ⟨rfl, om9, by simp [sizesN], by simp [sizesN]⟩
 rintro k gG2 G2 _ hG2 ⟨rfl, hk, h0, h36⟩
 refine g9 6 ?_
 refine WC.cd (fun h9 p9 => ?_) (fun h9 p9 => ?_)
 ·have hz := sizes_succ (l := l) (k := k) om9
  have hz2 := size_36 (hs l[k] (List.getElem_mem _))
  have he : Msg.size ⟨l[k].stamp, l[k].kind, l[k].key, l[k].hi, l[k].opn, l[k].val⟩ = l[k].size := rfl
  refine g9 6 ?_
  refine (h_l.mono hG2).a2 (i := k) om9 (fun he3 hm4 => (g9 2 ?_))
  refine W.alloc zr90 (fun b8 => (g9 6 ?_))
  refine W.qcall (mmsize_fc _ _ _ _ _ _) rfl (g9 8 ?_)
  refine W.sub (sr9.cons _) (g9 2 ?_)
  exact ⟨Le.rfl, k + 1, ⟨(iv om9), eqv, eqv, eqv, trivial⟩, ⟨rfl, om9, om9, om9⟩, om9⟩
 refine g9 13 ?_
 refine congrArg (Value.int .i64) ?_
 rw [List.take_of_length_le om9]

theorem bfits_fc {G : GH} {v_l : Value} {l : List Msg} (h_l : SlR eMsg G v_l l) (ms : Int) (mk : Int) (mkey : Str) (mhi : Str) (mo : Bool) (mv : Str) (n : Int) (hs : ∀ m ∈ l, m.key.b.size ≤ 16 ∧ m.val.b.size ≤ 16) (hn : 0 ≤ n ∧ n ≤ 9223372036854775807) :
    Fc Tryz.prog 149 [v_l, .agg #[iV ms, iV mk, sV mkey.b, sV mhi.b, .bool mo, sV mv.b], iV n] G [] (fun v _ _ => v = .bool (decide (Msg.size (⟨ms, mk, mkey, mhi, mo, mv⟩ : Msg) ≤ n - sizesN l))) := by
 obtain ⟨sa_l, sc_l, rfl⟩ := h_l.form
 have hl := h_l.len47
 have hz0 := sizes_bound hs
 refine Fc.go [.tmp 6] Tryz.func149 Tryz.ntmps149 rfl (fun w0 => (g9 2 ?_))
 refine W.box (L := [iV _, iV _, sV _, sV _, .bool _, sV _]) rfl rfl (fun b9 => (g9 6 ?_))
 refine W.qcall (mmsize_fc _ _ _ _ _ _) rfl (g9 2 ?_)
 refine W.qcall (bsize_fc h_l (by assumption)) rfl (g9 7 ?_)
 rfl

theorem frw_fc {G : GH} (ms : Int) (mk : Int) (mkey : Str) (mhi : Str) (mo : Bool) (mv : Str) :
    Fc Tryz.prog 127 [.agg #[iV ms, iV mk, sV mkey.b, sV mhi.b, .bool mo, sV mv.b]] G [] (fun v _ _ => v = .bool (decide (mk = 4))) := by
 refine Fc.go [.tmp 2] Tryz.func127 Tryz.ntmps127 rfl (fun w0 => (g9 2 ?_))
 refine W.box (L := [iV _, iV _, sV _, sV _, .bool _, sV _]) rfl rfl (fun b10 => (g9 13 ?_))
 rfl

theorem ixw_fc {G : GH} {v_l : Value} {l : List Msg} (h_l : SlR eMsg G v_l l) :
    Fc Tryz.prog 126 [v_l, .func (.func 127) #[] #[]] G [] (fun v _ _ => v = iV (idxN isW l)) := by
 obtain ⟨sa_l, sc_l, rfl⟩ := h_l.form
 have hl := h_l.len47
 refine Fc.go [.tmp 4] Tryz.func126 Tryz.ntmps126 rfl (fun w0 => (g9 14 ?_))
 refine WC.loop (X := Nat) (fun k => [(8, nt9 k), (0, lV sa_l l.length sc_l), (1, .func (.func 127) #[] #[]), (7, nt9 ((l).length))]) (fun k _ Ml => Ml = [] ∧ k ≤ l.length ∧ ∀ j (h : j < l.length), j < k → isW l[j] = false) (fun k => l.length - k) 0 hs9 ?_ ?_
 ·exact ⟨rfl, om9, fun j _ h => by omega⟩
 rintro k gG11 G11 _ hG11 ⟨rfl, hk, hj⟩
 refine g9 6 ?_
 refine WC.cd (fun h9 p9 => ?_) (fun h9 p9 => ?_)
 ·refine g9 15 ?_
  refine (h_l.mono hG11).a2 (i := k) om9 (fun he12 hm13 => (g9 2 ?_))
  refine W.qcallV (fst := []) (caps := []) rfl (frw_fc _ _ _ _ _ _) rfl (g9 2 ?_)
  refine WC.cond rfl (fun h16 => ?_) (fun h16 => ?_)
  ·refine g9 13 ?_
   refine congrArg (Value.int .i64) ?_
   exact (idxN_at (q := isW) om9 h16 hj).symm
  refine g9 8 ?_
  exact ⟨Le.rfl, k + 1, hs9, ⟨rfl, om9, fun j h hji => by
      by_cases e2 : j = k
      · subst e2; exact h16
      · exact hj j h om9⟩, om9⟩
 refine g9 12 ?_
 refine congrArg (Value.int .i64) ?_
 exact (idxN_no (q := isW) (fun j h => hj j om9 om9)).symm

theorem front_fc {G : GH} {v_l : Value} {l : List Msg} (h_l : SlR eMsg G v_l l) :
    Fc Tryz.prog 92 [v_l] G [] (fun v G' M' => M' = [] ∧ ∃ u0, v = u0 ∧ SlR eMsg G' u0 (frontN l)) := by
 obtain ⟨sa_l, sc_l, rfl⟩ := h_l.form
 have hl := h_l.len47
 have hix := idxN_le isW l
 refine Fc.go [.tmp 2] Tryz.func92 Tryz.ntmps92 rfl (fun w0 => (g9 8 ?_))
 refine W.qcall (ixw_fc h_l) rfl (g9 16 ?_)
 refine WC.cd (fun h8 p8 => ?_) (fun h8 p8 => ?_)
 ·refine g9 3 ?_
  refine W.cS (clonem_fc h_l) rfl (fun sa_hv18 sc_hv18 G17 hG17 hv18 => (g9 7 ?_))
  refine ⟨rfl, _, rfl, ?_⟩
  · exact SlR.cast hv18 (front_all p8)
 refine g9 6 ?_
 refine WC.cd (fun h12 p12 => ?_) (fun h12 p12 => ?_)
 ·refine g9 9 ?_
  have hs24 := SlR.slice h_l (lo := 0) (hi := 1) om9 om9
  refine W.ok (ok_slice (0) (1) sl51 ty90 h_l rfl rfl ⟨_, _, rfl, om9⟩ ⟨om9, om9⟩) (W.cS (clonem_fc hs24) rfl (fun sa_hv26 sc_hv26 G25 hG25 hv26 => (g9 5 ?_)))
  refine ⟨rfl, _, rfl, ?_⟩
  · exact SlR.cast hv26 (front_one p8 p12)
 refine g9 7 ?_
 have hs32 := SlR.slice h_l (lo := 0) (hi := (idxN isW l).toNat) om9 om9
 refine W.ok (ok_slice (0) ((idxN isW l).toNat) sl51 ty90 h_l rfl rfl ⟨_, _, rfl, om9⟩ ⟨om9, om9⟩) (W.cS (clonem_fc hs32) rfl (fun sa_hv34 sc_hv34 G33 hG33 hv34 => (g9 5 ?_)))
 refine ⟨rfl, _, rfl, ?_⟩
 · exact SlR.cast hv34 (front_take p8 p12)

theorem for_fc {G : GH} {v_P : Value} {P : List Str} (h_P : SlR eStr G v_P P) {v_l : Value} {l : List Msg} (h_l : SlR eMsg G v_l l) (i : Int) (hks : ∀ m ∈ l, m.key.b.size < 140737488355328) (hr : rising P = true) (hi : i64 i) :
    Fc Tryz.prog 131 [v_P, v_l, iV i] G [] (fun v G' M' => M' = [] ∧ ∃ u0, v = u0 ∧ SlR eMsg G' u0 (forN P l i)) := by
 obtain ⟨sa_P, sc_P, rfl⟩ := h_P.form
 obtain ⟨sa_l, sc_l, rfl⟩ := h_l.form
 have hl := h_l.len47
 have hlb : l.length * 72 ≤ 140737488355328 := h_l.bytes
 have hfl := front_len l
 have hkf : ∀ m ∈ frontN l, m.key.b.size < 140737488355328 := fun m h => hks m (front_mem h)
 refine Fc.go [.tmp 6] Tryz.func131 Tryz.ntmps131 rfl (fun w0 => (g9 14 ?_))
 refine W.qcall (brange_fc h_P _ hi) rfl (W.alloc zr55 (fun b40 => (g9 7 ?_)))
 refine W.cS (front_fc h_l) rfl (fun sa_hv42 sc_hv42 G41 hG41 hv42 => (g9 5 ?_))
 refine WC.loop (X := (Nat) × Value × MH) (fun k => [(19, nt9 k.1), (8, pt9 b40), (0, lV sa_P P.length sc_P), (2, iV i), (17, lV sa_hv42 (frontN (l)).length sc_hv42), (18, nt9 ((frontN (l)).length)), (7, k.2.1)]) (fun k G Ml => Ml = ((b40, ce9 55 [sV (rangeN P i).lo.b, sV (rangeN P i).hi.b, .bool (rangeN P i).opn]) :: (k.2.2 ++ [])) ∧ OwnR eMsg 90 G k.2.1 (((frontN l).take k.1).filterMap (forF P i)) k.2.2 ∧ k.1 ≤ (frontN l).length) (fun k => (frontN l).length - k.1) (0, lV none 0 0, ([] : MH)) hs9 ?_ ?_
 ·exact ⟨rfl, (by exact OwnR.nil), om9⟩
 rintro ⟨k, v_7, M_7⟩ gG48 G48 _ hG48 ⟨rfl, ho_7, hk⟩
 try dsimp only at ho_7 hk
 have hfm := fm_lek (forF P i) (frontN l) k
 refine WC.fr (f := setL gG48 [(19, nt9 k), (8, pt9 b40), (0, lV sa_P P.length sc_P), (2, iV i), (17, lV sa_hv42 (frontN (l)).length sc_hv42), (18, nt9 ((frontN (l)).length)), (7, v_7)]) rfl (g9 6 ?_)
 refine WC.cd (fun h20 p20 => ?_) (fun h20 p20 => ?_)
 ·refine g9 6 ?_
  refine (hv42.mono hG48).a2 (i := k) om9 (fun he49 hm50 => (g9 2 ?_))
  refine W.alloc zr90 (fun b54 => (g9 9 ?_))
  refine W.qcall (broute_fc (h_P.mono lec) _ hr) rfl (g9 4 ?_)
  refine WC.cn (fun h28 p28 => ?_) (fun h28 p28 => ?_)
  ·refine g9 7 ?_
   refine W.sub (sr9.cons _) (g9 2 ?_)
   exact ⟨Le.rfl, (k + 1, v_7, M_7), hs9, ⟨rfl, (by have h := ho_7; rw [for_n om9 (fun hh => absurd hh.1 p28)]; exact h), om9⟩, om9⟩
  refine g9 6 ?_
  refine W.qcall (mclip_fc _ _ _ _ _ _ _ _ _ (hkf _ (List.getElem_mem (by omega : k < (frontN l).length)))) rfl (g9 3 ?_)
  refine W.alloc zr90 (fun b55 => (g9 9 ?_))
  refine WC.cond rfl (fun h32_1 => ?_) (fun h32_1 => ?_)
  ·refine g9 3 ?_
   refine W.lit (e := eMsg) (l := [(Msg.clip (frontN l)[k] (rangeN P i)).1]) (css := [[iV _, iV _, sV _, sV _, .bool _, sV _]]) sl51 ty90 zr90 rfl rfl rfl rfl rfl rfl ⟨⟨rfl, clip_ok (by assumption)⟩, trivial⟩ (fun bl56 G56 hG56 hv56 => (W.app (e := eMsg) sl51 ty90 zr90 rfl by90 rfl rfl ((ho_7.mono hG56)) (hv56) (pmC (pmC (pmC pr9))) (by show (List.length _ + 1) * 72 ≤ _; omega) (fun v57 Ms58 ho59 => (W.perm (pmC (pmC (pmC pr9))).symm (g9 7 ?_)))))
   refine W.sub ((sr9.cons _).cons _) (g9 2 ?_)
   exact ⟨hG56, (k + 1, v57, Ms58), hs9, ⟨rfl, (by have h := ho59; rw [for_t om9 p28 h32_1]; exact h), om9⟩, om9⟩
  refine g9 6 ?_
  refine W.sub ((sr9.cons _).cons _) (g9 2 ?_)
  exact ⟨Le.rfl, (k + 1, v_7, M_7), hs9, ⟨rfl, (by have h := ho_7; rw [for_n om9 (fun hh => absurd (h32_1.symm.trans hh.2) (by simp))]; exact h), om9⟩, om9⟩
 refine g9 11 ?_
 refine WC.giveO ho_7 (pmC pr9) (fun G60 hG60 hv60 => (g9 2 ?_))
 refine ⟨rfl, _, rfl, ?_⟩
 · have h := hv60; rw [List.take_of_length_le om9] at h; exact h

theorem clonemo9_fc {G : GH} {v_a : Value} {a : List Msg} (h_a : SlR eMsg G v_a a) :
    Fc Tryz.prog 99 [v_a] G [] (fun v G' M' => OwnR eMsg 90 G' v (a) M') := by
 obtain ⟨sa_a, sc_a, rfl⟩ := h_a.form
 have ha := h_a.bytes
 refine Fc.go [.tmp 2] Tryz.func99 Tryz.ntmps99 rfl (fun w0 => (g9 9 ?_))
 refine W.ok (ok_eqlNil sl51 rfl rfl) (g9 2 ?_)
 refine WC.cond rfl (fun h4 => ?_) (fun h4 => ?_)
 ·have hn := SlR.isNone h_a h4
  subst hn
  refine g9 8 ?_
  exact OwnR.nil
 refine g9 4 ?_
 refine W.lit0 (e := eMsg) sl51 ty90 zr90 rfl (fun v61 Ms62 ho63 => (W.mv (W.app (e := eMsg) sl51 ty90 zr90 rfl by90 rfl rfl (ho63) (h_a) pr9 (by simpa using ha) (fun v64 Ms65 ho66 => (g9 4 ?_)))))
 refine ⟨.inr rfl, [_], ⟨rfl, trivial⟩, Ms65, List.sublist_append_left _ _, ?_⟩
 have h := ho66
 rw [List.nil_append] at h
 exact h

theorem badd_fc {G : GH} {v_l : Value} {l : List Msg} (h_l : SlR eMsg G v_l l) (ms : Int) (mk : Int) (mkey : Str) (mhi : Str) (mo : Bool) (mv : Str) (n : Int) (hs : ∀ m ∈ l, m.key.b.size ≤ 16 ∧ m.val.b.size ≤ 16) (hn : 0 ≤ n ∧ n ≤ 9223372036854775807) (hmi : i64 ms ∧ i64 mk) (hl9 : l.length ≤ 1000000) :
    Fc Tryz.prog 134 [v_l, .agg #[iV ms, iV mk, sV mkey.b, sV mhi.b, .bool mo, sV mv.b], iV n] G [] (fun v G' M' => M' = [] ∧ ∃ r : List Msg × Bool, r = addN n l (⟨ms, mk, mkey, mhi, mo, mv⟩ : Msg) ∧ ∃ u0, v = .tuple #[u0, .bool (r.2)] ∧ SlR eMsg G' u0 (r.1)) := by
 obtain ⟨sa_l, sc_l, rfl⟩ := h_l.form
 have hl := h_l.len47
 have hlb : l.length * 72 ≤ 140737488355328 := h_l.bytes
 refine Fc.go [.tmp 6, .tmp 7] Tryz.func134 Tryz.ntmps134 rfl (fun w0 => (g9 2 ?_))
 refine W.box (L := [iV _, iV _, sV _, sV _, .bool _, sV _]) rfl rfl (fun b67 => (g9 10 ?_))
 refine W.qcall (bfits_fc h_l _ _ _ _ _ _ _ (by assumption) om9) rfl (g9 2 ?_)
 refine W.sp 13 rfl (fun h12 => ?_) (fun h12 => ?_)
 ·have q11 : ¬ (Msg.size (⟨ms, mk, mkey, mhi, mo, mv⟩ : Msg) ≤ n - sizesN l) := by simpa using h12
  refine g9 28 ?_
  refine ⟨rfl, _, (addN_f (room_f1 q11)).symm, _, rfl, ?_⟩
  · exact SlR.nil
 have q11 : Msg.size (⟨ms, mk, mkey, mhi, mo, mv⟩ : Msg) ≤ n - sizesN l := by simpa using h12
 refine g9 8 ?_
 refine W.sd 17 (fun h16 p16 => ?_) (fun h16 p16 => ?_)
 ·refine g9 9 ?_
  refine h_l.a2 (i := l.length - 1) om9 (fun he68 hm69 => (W.ok (ok_indexAddr (i := l.length - 1) sl51 ty90 h_l rfl rfl ⟨om9, om9⟩) (g9 15 ?_)))
  refine WC.cd (fun h27 p27 => ?_) (fun h27 p27 => ?_)
  ·refine g9 9 ?_
   refine ⟨rfl, _, (addN_f (room_f2 om9 (by dsimp only; omega))).symm, _, rfl, ?_⟩
   · exact SlR.nil
  refine g9 3 ?_
  refine WC.dw sr9.k9 (d9 [0, 2] ?_)
  refine WD.any [1, 3] (by kernel_rfl) rfl ⟨WD.ap ?_, WD.ap ?_, trivial⟩
  ·refine W.call (Mp := []) (clonemo9_fc h_l) rfl pr9 ?_
   rintro v74 G73 Ms75 hG73 ho76
   refine W.perm (pmC pr9).symm ?_
   have q80 := ho76.form
   refine match q80 with | ⟨sa77, sc78, e_79⟩ => ?_
   subst e_79
   refine W.nn (WD.a1 3 rfl (W.litO (e := eMsg) (l := [(⟨ms, mk, mkey, mhi, mo, mv⟩ : Msg)]) (css := [[iV _, iV _, sV _, sV _, .bool _, sV _]]) sl51 ty90 zr90 rfl rfl rfl rfl rfl rfl ⟨⟨rfl, hmi⟩, trivial⟩ (fun v81 Ms82 ho83 => (W.perm (pmC pr9).symm ?_))))
   have q87 := ho83.form
   refine match q87 with | ⟨sa84, sc85, e_86⟩ => ?_
   subst e_86
   refine W.nn (WD.a1 4 rfl (W.giveO ho83 (pmC pr9) (fun G88 hG88 hv88 => (W.app (e := eMsg) sl51 ty90 zr90 rfl by90 rfl rfl ((ho76.mono hG88)) (hv88) (pmC pr9) (by show (List.length _ + List.length _) * 72 ≤ _; simp; omega) (fun v89 Ms90 ho91 => (W.perm (pmC pr9).symm ?_))))))
   have q95 := ho91.form
   refine match q95 with | ⟨sa92, sc93, e_94⟩ => ?_
   subst e_94
   refine W.nn (d9 [5, 6] ?_)
   refine g9 2 ?_
   refine WC.giveO ho91 (pmC pr9) (fun G96 hG96 hv96 => (g9 2 ?_))
   refine ⟨rfl, _, (addN_t (room_iff.2 ⟨q11, fun h => by dsimp only; omega⟩)).symm, _, rfl, ?_⟩
   · exact hv96
  refine W.litO (e := eMsg) (l := [(⟨ms, mk, mkey, mhi, mo, mv⟩ : Msg)]) (css := [[iV _, iV _, sV _, sV _, .bool _, sV _]]) sl51 ty90 zr90 rfl rfl rfl rfl rfl rfl ⟨⟨rfl, hmi⟩, trivial⟩ (fun v97 Ms98 ho99 => (W.perm (pmC pr9).symm ?_))
  have q103 := ho99.form
  refine match q103 with | ⟨sa100, sc101, e_102⟩ => ?_
  subst e_102
  refine W.nn (WD.a1 1 rfl (W.call (Mp := []) (clonemo9_fc h_l) rfl pr9 ?_))
  rintro v105 G104 Ms106 hG104 ho107
  refine W.perm (pmC pr9).symm ?_
  have q111 := ho107.form
  refine match q111 with | ⟨sa108, sc109, e_110⟩ => ?_
  subst e_110
  refine W.nn (WD.a1 4 rfl (W.giveO (ho99.mono hG104) (pmC (pmA pr9)) (fun G112 hG112 hv112 => (W.app (e := eMsg) sl51 ty90 zr90 rfl by90 rfl rfl ((ho107.mono hG112)) (hv112) (pmC pr9) (by show (List.length _ + List.length _) * 72 ≤ _; simp; omega) (fun v113 Ms114 ho115 => (W.perm (pmC pr9).symm ?_))))))
  have q119 := ho115.form
  refine match q119 with | ⟨sa116, sc117, e_118⟩ => ?_
  subst e_118
  refine W.nn (d9 [5, 6] ?_)
  refine g9 2 ?_
  refine WC.giveO ho115 (pmC pr9) (fun G120 hG120 hv120 => (g9 2 ?_))
  refine ⟨rfl, _, (addN_t (room_iff.2 ⟨q11, fun h => by dsimp only; omega⟩)).symm, _, rfl, ?_⟩
  · exact hv120
 refine g9 19 ?_
 refine WC.dw sr9.k9 (d9 [0, 2] ?_)
 refine WD.any [1, 3] (by kernel_rfl) rfl ⟨WD.ap ?_, WD.ap ?_, trivial⟩
 ·refine W.call (Mp := []) (clonemo9_fc h_l) rfl pr9 ?_
  rintro v122 G121 Ms123 hG121 ho124
  refine W.perm (pmC pr9).symm ?_
  have q128 := ho124.form
  refine match q128 with | ⟨sa125, sc126, e_127⟩ => ?_
  subst e_127
  refine W.nn (WD.a1 3 rfl (W.litO (e := eMsg) (l := [(⟨ms, mk, mkey, mhi, mo, mv⟩ : Msg)]) (css := [[iV _, iV _, sV _, sV _, .bool _, sV _]]) sl51 ty90 zr90 rfl rfl rfl rfl rfl rfl ⟨⟨rfl, hmi⟩, trivial⟩ (fun v129 Ms130 ho131 => (W.perm (pmC pr9).symm ?_))))
  have q135 := ho131.form
  refine match q135 with | ⟨sa132, sc133, e_134⟩ => ?_
  subst e_134
  refine W.nn (WD.a1 4 rfl (W.giveO ho131 (pmC pr9) (fun G136 hG136 hv136 => (W.app (e := eMsg) sl51 ty90 zr90 rfl by90 rfl rfl ((ho124.mono hG136)) (hv136) (pmC pr9) (by show (List.length _ + List.length _) * 72 ≤ _; simp; omega) (fun v137 Ms138 ho139 => (W.perm (pmC pr9).symm ?_))))))
  have q143 := ho139.form
  refine match q143 with | ⟨sa140, sc141, e_142⟩ => ?_
  subst e_142
  refine W.nn (d9 [5, 6] ?_)
  refine g9 2 ?_
  refine WC.giveO ho139 (pmC pr9) (fun G144 hG144 hv144 => (g9 2 ?_))
  refine ⟨rfl, _, (addN_t (room_iff.2 ⟨q11, fun h => by omega⟩)).symm, _, rfl, ?_⟩
  · exact hv144
 refine W.litO (e := eMsg) (l := [(⟨ms, mk, mkey, mhi, mo, mv⟩ : Msg)]) (css := [[iV _, iV _, sV _, sV _, .bool _, sV _]]) sl51 ty90 zr90 rfl rfl rfl rfl rfl rfl ⟨⟨rfl, hmi⟩, trivial⟩ (fun v145 Ms146 ho147 => (W.perm (pmC pr9).symm ?_))
 have q151 := ho147.form
 refine match q151 with | ⟨sa148, sc149, e_150⟩ => ?_
 subst e_150
 refine W.nn (WD.a1 1 rfl (W.call (Mp := []) (clonemo9_fc h_l) rfl pr9 ?_))
 rintro v153 G152 Ms154 hG152 ho155
 refine W.perm (pmC pr9).symm ?_
 have q159 := ho155.form
 refine match q159 with | ⟨sa156, sc157, e_158⟩ => ?_
 subst e_158
 refine W.nn (WD.a1 4 rfl (W.giveO (ho147.mono hG152) (pmC (pmA pr9)) (fun G160 hG160 hv160 => (W.app (e := eMsg) sl51 ty90 zr90 rfl by90 rfl rfl ((ho155.mono hG160)) (hv160) (pmC pr9) (by show (List.length _ + List.length _) * 72 ≤ _; simp; omega) (fun v161 Ms162 ho163 => (W.perm (pmC pr9).symm ?_))))))
 have q167 := ho163.form
 refine match q167 with | ⟨sa164, sc165, e_166⟩ => ?_
 subst e_166
 refine W.nn (d9 [5, 6] ?_)
 refine g9 2 ?_
 refine WC.giveO ho163 (pmC pr9) (fun G168 hG168 hv168 => (g9 2 ?_))
 refine ⟨rfl, _, (addN_t (room_iff.2 ⟨q11, fun h => by omega⟩)).symm, _, rfl, ?_⟩
 · exact hv168

end Go.Proofs.YtfmigmijckdldaaGreat
