/- What the walks of pouring want of plain lists. Plain Lean; nothing of the program is named here. No condition. -/
import Derived.Test.YtbbemibbmbmamaaGreatQhNp
set_option linter.unusedVariables false
set_option linter.unusedSimpArgs false
set_option linter.unnecessarySimpa false
set_option maxRecDepth 100000
set_option maxHeartbeats 1600000

namespace Go.Fw
open Go Go.RowKit
theorem Zdt {l : List Msg} {m : Msg} (h : m ∈ Zj l) : m ∈ l := by
 unfold Zj at h
 split at h
 ·exact h
 ·split at h
  ·exact List.mem_of_mem_take h
  ·exact List.mem_of_mem_take h
theorem Zfq (l : List Msg) : (Zj l).length ≤ l.length := by
 unfold Zj
 split
 ·exact Nat.le_refl _
 ·split
  ·rw [List.length_take]; omega
  ·rw [List.length_take]; omega
theorem ZpA {l : List Msg} (h : Yv isW l = -1) : l = Zj l := by unfold Zj; rw [if_pos h]
theorem ZpB {l : List Msg} (h : ¬ Yv isW l = -1) (h2 : Yv isW l = 0) : (l.take 1).drop 0 = Zj l := by unfold Zj; rw [if_neg h, if_pos h2, List.drop_zero]
theorem ZpC {l : List Msg} (h : ¬ Yv isW l = -1) (h2 : ¬ Yv isW l = 0) : (l.take (Yv isW l).toNat).drop 0 = Zj l := by unfold Zj; rw [if_neg h, if_neg h2, List.drop_zero]
theorem Zi0 {α β : Type} {f : α → Option β} {l : List α} {k : Nat} (hk : k < l.length) : (l.take (k + 1)).filterMap f = (l.take k).filterMap f ++ (f l[k]).toList := by
 rw [List.take_succ_eq_append_getElem hk, List.filterMap_append]
 cases h : f l[k] <;> simp [h]
theorem Zi1 {α β : Type} {f : α → Option β} {l : List α} {k : Nat} {b : β} (hk : k < l.length) (h : f l[k] = some b) : (l.take (k + 1)).filterMap f = (l.take k).filterMap f ++ [b] := by rw [Zi0 hk, h]; rfl
theorem Zi2 {α β : Type} {f : α → Option β} {l : List α} {k : Nat} (hk : k < l.length) (h : f l[k] = none) : (l.take (k + 1)).filterMap f = (l.take k).filterMap f := by rw [Zi0 hk, h]; simp
theorem Zi3 {α β : Type} (f : α → Option β) (l : List α) (k : Nat) : ((l.take k).filterMap f).length ≤ k := by
 have := List.length_filterMap_le f (l.take k)
 rw [List.length_take] at this
 omega
theorem ZpD {P : List Str} {i : Int} {F : List Msg} {k : Nat} (hk : k < F.length) (h1 : ((Zg P F[k].key : Nat) : Int) = i) (h2 : (F[k].clip (Zf P i)).2 = true) : (F.take (k + 1)).filterMap (XF P i) = (F.take k).filterMap (XF P i) ++ [(F[k].clip (Zf P i)).1] := Zi1 hk (if_pos ⟨h1, h2⟩)
theorem Zi4 {P : List Str} {i : Int} {F : List Msg} {k : Nat} (hk : k < F.length) (h : ¬ (((Zg P F[k].key : Nat) : Int) = i ∧ (F[k].clip (Zf P i)).2 = true)) : (F.take (k + 1)).filterMap (XF P i) = (F.take k).filterMap (XF P i) := Zi2 hk (if_neg h)
def JA (bud : Int) (ms : List Msg) (m : Msg) : List Msg × Bool := if Yg bud ms m = true then (ms ++ [m], true) else ([], false)
theorem ZbM {bud : Int} {ms : List Msg} {m : Msg} (h : Yg bud ms m = true) : JA bud ms m = (ms ++ [m], true) := if_pos h
theorem Zi5 {bud : Int} {ms : List Msg} {m : Msg} (h : Yg bud ms m = false) : JA bud ms m = ([], false) := if_neg (by simp [h])
theorem ZbN {bud : Int} {ms : List Msg} {m : Msg} : Yg bud ms m = true ↔ m.size ≤ bud - Zw ms ∧ ∀ h : 0 < ms.length, (ms[ms.length - 1]'om9).stamp < m.stamp := by
 unfold Yg
 rw [Bool.and_eq_true, decide_eq_true_eq]
 refine and_congr Iff.rfl ?_
 cases h : ms.getLast? with
 | none =>
  rw [List.getLast?_eq_none_iff] at h
  subst h
  simp
 | some x =>
  rw [List.getLast?_eq_getElem?] at h
  obtain ⟨h1, h2⟩ := List.getElem?_eq_some_iff.1 h
  simp only [Option.all_some, decide_eq_true_eq]
  exact ⟨fun h3 _ => by rw [h2]; exact h3, fun h3 => by have := h3 om9; rw [h2] at this; exact this⟩
theorem ZpE {bud : Int} {ms : List Msg} {m : Msg} (h : ¬ m.size ≤ bud - Zw ms) : Yg bud ms m = false := by
 cases hr : Yg bud ms m
 ·rfl
 ·exact absurd (ZbN.1 hr).1 h
theorem ZpF {bud : Int} {ms : List Msg} {m : Msg} (h : 0 < ms.length) (h2 : m.stamp ≤ (ms[ms.length - 1]'om9).stamp) : Yg bud ms m = false := by
 cases hr : Yg bud ms m
 ·rfl
 ·have := (ZbN.1 hr).2 h; omega
theorem ZpG {bud : Int} {ms l : List Msg} {k : Nat} (hk : k < l.length) (h : Yg bud ms l[k] = false) : Xf bud ms (l.drop k) = 0 := by
 rw [List.drop_eq_getElem_cons hk]
 unfold Xf
 rw [if_neg (by simp [h])]
theorem ZpH {bud : Int} {ms l : List Msg} {k : Nat} (hk : k < l.length) (h : Yg bud ms l[k] = true) : Xf bud ms (l.drop k) = Xf bud (ms ++ [l[k]]) (l.drop (k + 1)) + 1 := by
 rw [List.drop_eq_getElem_cons hk]
 conv => lhs; unfold Xf
 rw [if_pos h]
def AddsAt (bud : Int) (ms l : List Msg) (k : Nat) : Prop := Xf bud ms l = k + Xf bud (ms ++ l.take k) (l.drop k)
theorem AddsAt.zero (bud : Int) (ms l : List Msg) : AddsAt bud ms l 0 := by unfold AddsAt; simp
theorem AddsAt.succ {bud : Int} {ms l : List Msg} {k : Nat} (h : AddsAt bud ms l k) (hk : k < l.length) (hr : Yg bud (ms ++ l.take k) l[k] = true) : AddsAt bud ms l (k + 1) := by
 unfold AddsAt at h ⊢
 rw [h, ZpH hk hr, List.take_succ_eq_append_getElem hk, List.append_assoc]
 omega
theorem AddsAt.stop {bud : Int} {ms l : List Msg} {k : Nat} (h : AddsAt bud ms l k) (hk : k < l.length) (hr : Yg bud (ms ++ l.take k) l[k] = false) : Xf bud ms l = k := by
 unfold AddsAt at h
 rw [h, ZpG hk hr]
 omega
theorem AddsAt.all {bud : Int} {ms l : List Msg} {k : Nat} (h : AddsAt bud ms l k) (hk : l.length ≤ k) : Xf bud ms l = k := by
 unfold AddsAt at h
 rw [h, List.drop_eq_nil_of_le hk]
 rfl
theorem Zi6 {leaf bud : Int} {k : Nd} {l : List Msg} (h : k.level = 0) : Zt leaf bud k l = ({ k with rows := (Ye leaf k.rows l).1 }, (Ye leaf k.rows l).2) := if_pos h
theorem Zfr {leaf bud : Int} {k : Nd} {l : List Msg} {j : Nat} (h : ¬ k.level = 0) (hj : Xf bud k.msgs l = j) : Zt leaf bud k l = ({ k with msgs := k.msgs ++ l.take j }, j) := by unfold Zt; rw [if_neg h, hj]
theorem ZbO {leaf bud : Int} {p k : Nd} {i : Int} (h : KidOf p k i) : ZY leaf bud p k i = (Zt leaf bud k (Zd p.pivots p.msgs i)).2 := if_pos h
theorem Zi7 {leaf bud : Int} {p k : Nd} {i : Int} (h : ¬ KidOf p k i) : ZY leaf bud p k i = 0 := if_neg h
theorem Zdu : ∀ {l : List Msg}, (∀ m ∈ l, m.key.b.size ≤ 16 ∧ m.val.b.size ≤ 16) → 0 ≤ Zw l ∧ Zw l ≤ 36 * l.length
 | [], _ => ⟨by simp [Zw], by simp [Zw]⟩
 | m :: l, h => by
  have ih := Zdu (l := l) fun x hx => h x (List.mem_cons_of_mem _ hx)
  have := Zcl (h m (by simp))
  have e : Zw (m :: l) = m.size + Zw l := by simp [Zw]
  rw [e]
  simp only [List.length_cons]
  omega
def ZbP (T : List Msg) : List (Int × Bool) := T.foldl (fun m x => X8 m x.stamp true) []
theorem ZpI {T : List Msg} {k : Nat} (hk : k < T.length) : ZbP (T.take (k + 1)) = X8 (ZbP (T.take k)) T[k].stamp true := by
 unfold ZbP
 rw [List.take_succ_eq_append_getElem hk, List.foldl_append]; rfl
theorem Zi8 (s : Int) : ∀ (T : List Msg) (m : List (Int × Bool)), (Xz (T.foldl (fun m x => X8 m x.stamp true) m) s).getD false = (decide (s ∈ T.map Msg.stamp) || (Xz m s).getD false)
 | [], m => by simp
 | x :: T, m => by
  rw [List.foldl_cons, Zi8 s T, Zk5]
  by_cases h : s = x.stamp
  ·rw [if_pos h]
   simp [h]
  ·rw [if_neg h]
   simp [h]
theorem Zi9 (T : List Msg) (s : Int) : (Xz (ZbP T) s).getD false = decide (s ∈ T.map Msg.stamp) := by
 unfold ZbP
 rw [Zi8]
 simp [Xz]
theorem Zfs (bud : Int) (ms : List Msg) (m : Msg) : (JA bud ms m).2 = Yg bud ms m := by
 unfold JA
 cases h : Yg bud ms m
 ·rw [if_neg (by simp)]
 ·rw [if_pos rfl]
theorem Zft (leaf bud : Int) (k : Nd) (L : List Msg) : (L.take (Zt leaf bud k L).2).length = (Zt leaf bud k L).2 := by
 have := ZiT leaf bud k L
 rw [List.length_take]; omega
theorem ZpJ {leaf bud : Int} {p k : Nd} {i : Int} (h : ¬ KidOf p k i) : Z9 leaf bud p k i = (p, k, 0) := by unfold Z9; rw [if_pos (Zi7 h)]
theorem ZpK {leaf bud : Int} {p k : Nd} {i : Int} (hk : KidOf p k i) (h : ((Zd p.pivots p.msgs i).take (Zt leaf bud k (Zd p.pivots p.msgs i)).2).length = 0) : Z9 leaf bud p k i = (p, k, 0) := by
 rw [Zft] at h
 unfold Z9; rw [if_pos ((ZbO hk).trans h)]
theorem ZpL {T : List Msg} (h : 0 < T.length) : T.getLast?.getD Msg.zero = T[T.length - 1]'om9 := by
 rw [List.getLast?_eq_getElem?, List.getElem?_eq_getElem om9]; rfl
theorem ZpM {leaf bud : Int} {p k : Nd} {i : Int} {T : List Msg} (hk : KidOf p k i) (hT : T = (Zd p.pivots p.msgs i).take (Zt leaf bud k (Zd p.pivots p.msgs i)).2) (h : 0 < T.length) :
  Z9 leaf bud p k i = ({ p with msgs := ZM p.pivots i T p.msgs }, { (Zt leaf bud k (Zd p.pivots p.msgs i)).1 with seen := (T[T.length - 1]'om9).stamp }, T.length) := by
 have e : T.length = ZY leaf bud p k i := by rw [hT, Zft, ZbO hk]
 unfold Z9
 rw [if_neg om9, ZbO hk, ← hT, ZpL h, ← ZbO hk, ← e]
theorem ZpN {P : List Str} {i : Int} {T : List Msg} {m : Msg} (h : ¬ m.stamp ∈ T.map Msg.stamp) : Y3 P i T m = some m := if_neg h
theorem Zja {P : List Str} {i : Int} {T : List Msg} {m : Msg} (h : m.stamp ∈ T.map Msg.stamp) (h4 : m.kind = 4) (hw : (ZE m (Zf P i)).2 = true) : Y3 P i T m = some (ZE m (Zf P i)).1 := (if_pos h).trans (if_pos ⟨h4, hw⟩)
theorem Zfu {P : List Str} {i : Int} {T : List Msg} {m : Msg} (h : m.stamp ∈ T.map Msg.stamp) (hw : ¬ (m.kind = 4 ∧ (ZE m (Zf P i)).2 = true)) : Y3 P i T m = none := (if_pos h).trans (if_neg hw)
theorem Zfv {P : List Str} {i : Int} {T : List Msg} {l : List Msg} {k : Nat} {x : Msg} {n : Nd} (hk : k < l.length) (h : Y3 P i T l[k] = some x) : ({ n with msgs := ZM P i T (l.take k) ++ [x] } : Nd) = { n with msgs := ZM P i T (l.take (k + 1)) } := by unfold ZM; rw [Zi1 hk h]
theorem Zfw {P : List Str} {i : Int} {T : List Msg} {l : List Msg} {k : Nat} {n : Nd} (hk : k < l.length) (h : Y3 P i T l[k] = none) : ({ n with msgs := ZM P i T (l.take k) } : Nd) = { n with msgs := ZM P i T (l.take (k + 1)) } := by unfold ZM; rw [Zi2 hk h]
theorem Zjb {m : Msg} {s : Span} (h : m.Ok) : (ZE m s).1.Ok := by
 unfold ZE
 split
 ·exact ⟨⟨by decide, by decide⟩, ⟨by decide, by decide⟩⟩
 ·exact Zcj h
theorem Zfx {P : List Str} {l : List Msg} {i : Int} (hP : ∀ k ∈ P, k.b.size ≤ 16) (hl : ∀ m ∈ l, m.R) : ∀ m ∈ Zd P l i, m.R := fun m hm => by
 obtain ⟨a, ha, h2, rfl⟩ := ZiY hm
 have hr := Zb7 (p := P) (i := i) (n := 16) hP
 exact ZaX (hl a ha) hr.1 hr.2 h2
theorem Zjc (P : List Str) (l : List Msg) (i : Int) : (Zd P l i).length ≤ l.length := Nat.le_trans (List.length_filterMap_le _ _) (Zfq l)
theorem ZpO (P : List Str) (i : Int) (T l : List Msg) (k : Nat) : (ZM P i T (l.take k)).length ≤ k := Zi3 _ _ _
def NmR (TN tm : TypeId) (b : Nat) (G : GH) (n : Nd) (M : MH) : Prop :=
 ∃ (pa : Option Addr) (pc : Nat) (ka : Option Addr) (kc : Nat) (vm : Value) (ra : Option Addr) (rc : Nat) (Mm : MH),
  M = (b, .cells (List.toArray [.int .i64 n.slot, .int .i64 n.level, .slice pa n.pivots.length pc, .slice ka n.kids.length kc, .string n.high.b, .bool n.top, .int .i64 n.right, .int .i64 n.seen, vm, .slice ra n.rows.length rc]) TN (0, 0)) :: Mm ∧
  SlR Z8 G (.slice pa n.pivots.length pc) n.pivots ∧ SlR Zz G (.slice ka n.kids.length kc) n.kids ∧ OwnR Zp tm G vm n.msgs Mm ∧ SlR Zs G (.slice ra n.rows.length rc) n.rows ∧ n.Ok
theorem NmR.cast {TN tm : TypeId} {b : Nat} {G : GH} {n n' : Nd} {M : MH} (h : NmR TN tm b G n M) (e : n = n') : NmR TN tm b G n' M := e ▸ h
end Go.Fw
namespace Go.Proofs.YtbbemibbmbmamaaGreat
open Go Go.Fw Go.RowKit
attribute [local irreducible] Ok W WC
theorem Zdv {G : GH} (ms : Int) (mk : Int) (mkey : Str) (mhi : Str) (mo : Bool) (mv : Str) :
    Fc Tryz.prog 220 [.agg #[iV ms, iV mk, sV mkey.b, sV mhi.b, .bool mo, sV mv.b]] G [] (fun v _ _ => v = iV (Msg.size (⟨ms, mk, mkey, mhi, mo, mv⟩ : Msg))) := by
 have h1 := mkey.le
 have h2 := mv.le
 refine Fc.go [.tmp 2] Tryz.func220 Tryz.ntmps220 rfl (fun w0 => (g9 2 ?_))
 refine W.box (L := [iV _, iV _, sV _, sV _, .bool _, sV _]) rfl rfl (fun b1 => (g9 11 ?_))
 refine WC.cd (fun h5 p5 => ?_) (fun h5 p5 => ?_)
 ·refine g9 8 ?_
  refine congrArg (Value.int .i64) ?_
  rw [Msg.size, if_pos p5]
 refine g9 17 ?_
 refine congrArg (Value.int .i64) ?_
 rw [Msg.size, if_neg p5]

theorem ZpP {G : GH} {v_l : Value} {l : List Msg} (h_l : SlR Zp G v_l l) (hs : ∀ m ∈ l, m.key.b.size ≤ 16 ∧ m.val.b.size ≤ 16) :
    Fc Tryz.prog 242 [v_l] G [] (fun v _ _ => v = iV (Zw l)) := by
 obtain ⟨sa_l, sc_l, rfl⟩ := h_l.form
 have hl := h_l.len47
 refine Fc.go [.tmp 2] Tryz.func242 Tryz.ntmps242 rfl (fun w0 => (g9 19 ?_))
 refine WC.loop (X := Nat) (fun k => [(3, iV (Zw (l.take k))), (8, nt9 k), (6, lV sa_l l.length sc_l), (7, nt9 ((l).length))]) (fun k _ Ml => Ml = [] ∧ k ≤ l.length ∧ 0 ≤ Zw (l.take k) ∧ Zw (l.take k) ≤ 36 * k) (fun k => l.length - k) 0 hs9 ?_ ?_
 ·exact ⟨rfl, om9, by simp [Zw], by simp [Zw]⟩
 rintro k gG2 G2 _ hG2 ⟨rfl, hk, h0, h36⟩
 refine g9 6 ?_
 refine WC.cd (fun h9 p9 => ?_) (fun h9 p9 => ?_)
 ·have hz := Zhg (l := l) (k := k) om9
  have hz2 := Zcl (hs l[k] (List.getElem_mem _))
  have he : Msg.size ⟨l[k].stamp, l[k].kind, l[k].key, l[k].hi, l[k].opn, l[k].val⟩ = l[k].size := rfl
  refine g9 6 ?_
  refine (h_l.mono hG2).a2 (i := k) om9 (fun he3 hm4 => (g9 2 ?_))
  refine W.alloc ZL (fun b8 => (g9 6 ?_))
  refine W.qcall (Zdv _ _ _ _ _ _) rfl (g9 8 ?_)
  refine W.sub (sr9.cons _) (g9 2 ?_)
  exact ⟨Le.rfl, k + 1, ⟨(iv om9), eqv, eqv, eqv, trivial⟩, ⟨rfl, om9, om9, om9⟩, om9⟩
 refine g9 13 ?_
 refine congrArg (Value.int .i64) ?_
 rw [List.take_of_length_le om9]

theorem ZpQ {G : GH} {v_l : Value} {l : List Msg} (h_l : SlR Zp G v_l l) (ms : Int) (mk : Int) (mkey : Str) (mhi : Str) (mo : Bool) (mv : Str) (n : Int) (hs : ∀ m ∈ l, m.key.b.size ≤ 16 ∧ m.val.b.size ≤ 16) (hn : 0 ≤ n ∧ n ≤ 9223372036854775807) :
    Fc Tryz.prog 216 [v_l, .agg #[iV ms, iV mk, sV mkey.b, sV mhi.b, .bool mo, sV mv.b], iV n] G [] (fun v _ _ => v = .bool (decide (Msg.size (⟨ms, mk, mkey, mhi, mo, mv⟩ : Msg) ≤ n - Zw l))) := by
 obtain ⟨sa_l, sc_l, rfl⟩ := h_l.form
 have hl := h_l.len47
 have hz0 := Zdu hs
 refine Fc.go [.tmp 6] Tryz.func216 Tryz.ntmps216 rfl (fun w0 => (g9 2 ?_))
 refine W.box (L := [iV _, iV _, sV _, sV _, .bool _, sV _]) rfl rfl (fun b9 => (g9 6 ?_))
 refine W.qcall (Zdv _ _ _ _ _ _) rfl (g9 2 ?_)
 refine W.qcall (ZpP h_l (by assumption)) rfl (g9 7 ?_)
 rfl

theorem ZpR {G : GH} (ms : Int) (mk : Int) (mkey : Str) (mhi : Str) (mo : Bool) (mv : Str) :
    Fc Tryz.prog 245 [.agg #[iV ms, iV mk, sV mkey.b, sV mhi.b, .bool mo, sV mv.b]] G [] (fun v _ _ => v = .bool (decide (mk = 4))) := by
 refine Fc.go [.tmp 2] Tryz.func245 Tryz.ntmps245 rfl (fun w0 => (g9 2 ?_))
 refine W.box (L := [iV _, iV _, sV _, sV _, .bool _, sV _]) rfl rfl (fun b10 => (g9 13 ?_))
 rfl

theorem ZpS {G : GH} {v_l : Value} {l : List Msg} (h_l : SlR Zp G v_l l) :
    Fc Tryz.prog 244 [v_l, .func (.func 245) #[] #[]] G [] (fun v _ _ => v = iV (Yv isW l)) := by
 obtain ⟨sa_l, sc_l, rfl⟩ := h_l.form
 have hl := h_l.len47
 refine Fc.go [.tmp 4] Tryz.func244 Tryz.ntmps244 rfl (fun w0 => (g9 14 ?_))
 refine WC.loop (X := Nat) (fun k => [(8, nt9 k), (0, lV sa_l l.length sc_l), (1, .func (.func 245) #[] #[]), (7, nt9 ((l).length))]) (fun k _ Ml => Ml = [] ∧ k ≤ l.length ∧ ∀ j (h : j < l.length), j < k → isW l[j] = false) (fun k => l.length - k) 0 hs9 ?_ ?_
 ·exact ⟨rfl, om9, fun j _ h => by omega⟩
 rintro k gG11 G11 _ hG11 ⟨rfl, hk, hj⟩
 refine g9 6 ?_
 refine WC.cd (fun h9 p9 => ?_) (fun h9 p9 => ?_)
 ·refine g9 15 ?_
  refine (h_l.mono hG11).a2 (i := k) om9 (fun he12 hm13 => (g9 2 ?_))
  refine W.qcallV (fst := []) (caps := []) rfl (ZpR _ _ _ _ _ _) rfl (g9 2 ?_)
  refine WC.cond rfl (fun h16 => ?_) (fun h16 => ?_)
  ·refine g9 13 ?_
   refine congrArg (Value.int .i64) ?_
   exact (Zgh (q := isW) om9 h16 hj).symm
  refine g9 8 ?_
  exact ⟨Le.rfl, k + 1, hs9, ⟨rfl, om9, fun j h hji => by
      by_cases e2 : j = k
      · subst e2; exact h16
      · exact hj j h om9⟩, om9⟩
 refine g9 12 ?_
 refine congrArg (Value.int .i64) ?_
 exact (Zgi (q := isW) (fun j h => hj j om9 om9)).symm

theorem Zjd {G : GH} {v_l : Value} {l : List Msg} (h_l : SlR Zp G v_l l) :
    Fc Tryz.prog 219 [v_l] G [] (fun v G' M' => M' = [] ∧ ∃ u0, v = u0 ∧ SlR Zp G' u0 (Zj l)) := by
 obtain ⟨sa_l, sc_l, rfl⟩ := h_l.form
 have hl := h_l.len47
 have hix := Zgj isW l
 refine Fc.go [.tmp 2] Tryz.func219 Tryz.ntmps219 rfl (fun w0 => (g9 8 ?_))
 refine W.qcall (ZpS h_l) rfl (g9 16 ?_)
 refine WC.cd (fun h8 p8 => ?_) (fun h8 p8 => ?_)
 ·refine g9 3 ?_
  refine W.cS (Jy h_l) rfl (fun sa_hv18 sc_hv18 G17 hG17 hv18 => (g9 7 ?_))
  refine ⟨rfl, _, rfl, ?_⟩
  · exact SlR.cast hv18 (ZpA p8)
 refine g9 6 ?_
 refine WC.cd (fun h12 p12 => ?_) (fun h12 p12 => ?_)
 ·refine g9 9 ?_
  have hs24 := SlR.slice h_l (lo := 0) (hi := 1) om9 om9
  refine W.ok (Jt (0) (1) ZQ ZR h_l rfl rfl ⟨_, _, rfl, om9⟩ ⟨om9, om9⟩) (W.cS (Jy hs24) rfl (fun sa_hv26 sc_hv26 G25 hG25 hv26 => (g9 5 ?_)))
  refine ⟨rfl, _, rfl, ?_⟩
  · exact SlR.cast hv26 (ZpB p8 p12)
 refine g9 7 ?_
 have hs32 := SlR.slice h_l (lo := 0) (hi := (Yv isW l).toNat) om9 om9
 refine W.ok (Jt (0) ((Yv isW l).toNat) ZQ ZR h_l rfl rfl ⟨_, _, rfl, om9⟩ ⟨om9, om9⟩) (W.cS (Jy hs32) rfl (fun sa_hv34 sc_hv34 G33 hG33 hv34 => (g9 5 ?_)))
 refine ⟨rfl, _, rfl, ?_⟩
 · exact SlR.cast hv34 (ZpC p8 p12)

theorem Zje {G : GH} {v_P : Value} {P : List Str} (h_P : SlR Z8 G v_P P) {v_l : Value} {l : List Msg} (h_l : SlR Zp G v_l l) (i : Int) (hks : ∀ m ∈ l, m.key.b.size < 140737488355328) (hr : Z2 P = true) (hi : i64 i) :
    Fc Tryz.prog 246 [v_P, v_l, iV i] G [] (fun v G' M' => M' = [] ∧ ∃ u0, v = u0 ∧ SlR Zp G' u0 (Zd P l i)) := by
 obtain ⟨sa_P, sc_P, rfl⟩ := h_P.form
 obtain ⟨sa_l, sc_l, rfl⟩ := h_l.form
 have hl := h_l.len47
 have hlb : l.length * 72 ≤ 140737488355328 := h_l.bytes
 have hfl := Zfq l
 have hkf : ∀ m ∈ Zj l, m.key.b.size < 140737488355328 := fun m h => hks m (Zdt h)
 refine Fc.go [.tmp 6] Tryz.func246 Tryz.ntmps246 rfl (fun w0 => (g9 14 ?_))
 refine W.qcall (ZaF h_P _ hi) rfl (W.alloc Zy (fun b40 => (g9 7 ?_)))
 refine W.cS (Zjd h_l) rfl (fun sa_hv42 sc_hv42 G41 hG41 hv42 => (g9 5 ?_))
 refine WC.loop (X := (Nat) × Value × MH) (fun k => [(19, nt9 k.1), (8, pt9 b40), (0, lV sa_P P.length sc_P), (2, iV i), (17, lV sa_hv42 (Zj (l)).length sc_hv42), (18, nt9 ((Zj (l)).length)), (7, k.2.1)]) (fun k G Ml => Ml = ((b40, ce9 62 [sV (Zf P i).lo.b, sV (Zf P i).hi.b, .bool (Zf P i).opn]) :: (k.2.2 ++ [])) ∧ OwnR Zp 87 G k.2.1 (((Zj l).take k.1).filterMap (XF P i)) k.2.2 ∧ k.1 ≤ (Zj l).length) (fun k => (Zj l).length - k.1) (0, lV none 0 0, ([] : MH)) hs9 ?_ ?_
 ·exact ⟨rfl, (by exact OwnR.nil), om9⟩
 rintro ⟨k, v_7, M_7⟩ gG48 G48 _ hG48 ⟨rfl, ho_7, hk⟩
 try dsimp only at ho_7 hk
 have hfm := Zi3 (XF P i) (Zj l) k
 refine WC.fr (f := ZX gG48 [(19, nt9 k), (8, pt9 b40), (0, lV sa_P P.length sc_P), (2, iV i), (17, lV sa_hv42 (Zj (l)).length sc_hv42), (18, nt9 ((Zj (l)).length)), (7, v_7)]) rfl (g9 6 ?_)
 refine WC.cd (fun h20 p20 => ?_) (fun h20 p20 => ?_)
 ·refine g9 6 ?_
  refine (hv42.mono hG48).a2 (i := k) om9 (fun he49 hm50 => (g9 2 ?_))
  refine W.alloc ZL (fun b54 => (g9 9 ?_))
  refine W.qcall (ZbG (h_P.mono lec) _ hr) rfl (g9 4 ?_)
  refine WC.cn (fun h28 p28 => ?_) (fun h28 p28 => ?_)
  ·refine g9 7 ?_
   refine W.sub (sr9.cons _) (g9 2 ?_)
   exact ⟨Le.rfl, (k + 1, v_7, M_7), hs9, ⟨rfl, (by have h := ho_7; rw [Zi4 om9 (fun hh => absurd hh.1 p28)]; exact h), om9⟩, om9⟩
  refine g9 6 ?_
  refine W.qcall (Zfa _ _ _ _ _ _ _ _ _ (hkf _ (List.getElem_mem (by omega : k < (Zj l).length)))) rfl (g9 3 ?_)
  refine W.alloc ZL (fun b55 => (g9 9 ?_))
  refine WC.cond rfl (fun h32_1 => ?_) (fun h32_1 => ?_)
  ·refine g9 3 ?_
   refine W.lit (e := Zp) (l := [(Msg.clip (Zj l)[k] (Zf P i)).1]) (css := [[iV _, iV _, sV _, sV _, .bool _, sV _]]) ZQ ZR ZL rfl rfl rfl rfl rfl rfl ⟨⟨rfl, Zcj (by assumption)⟩, trivial⟩ (fun bl56 G56 hG56 hv56 => (W.app (e := Zp) ZQ ZR ZL rfl XQ rfl rfl ((ho_7.mono hG56)) (hv56) (pmC (pmC (pmC pr9))) (by show (List.length _ + 1) * 72 ≤ _; omega) (fun v57 Ms58 ho59 => (W.perm (pmC (pmC (pmC pr9))).symm (g9 7 ?_)))))
   refine W.sub ((sr9.cons _).cons _) (g9 2 ?_)
   exact ⟨hG56, (k + 1, v57, Ms58), hs9, ⟨rfl, (by have h := ho59; rw [ZpD om9 p28 h32_1]; exact h), om9⟩, om9⟩
  refine g9 6 ?_
  refine W.sub ((sr9.cons _).cons _) (g9 2 ?_)
  exact ⟨Le.rfl, (k + 1, v_7, M_7), hs9, ⟨rfl, (by have h := ho_7; rw [Zi4 om9 (fun hh => absurd (h32_1.symm.trans hh.2) (by simp))]; exact h), om9⟩, om9⟩
 refine g9 11 ?_
 refine WC.giveO ho_7 (pmC pr9) (fun G60 hG60 hv60 => (g9 2 ?_))
 refine ⟨rfl, _, rfl, ?_⟩
 · have h := hv60; rw [List.take_of_length_le om9] at h; exact h

theorem Zdw {G : GH} {v_a : Value} {a : List Msg} (h_a : SlR Zp G v_a a) :
    Fc Tryz.prog 160 [v_a] G [] (fun v G' M' => OwnR Zp 87 G' v (a) M') := by
 obtain ⟨sa_a, sc_a, rfl⟩ := h_a.form
 have ha := h_a.bytes
 refine Fc.go [.tmp 2] Tryz.func160 Tryz.ntmps160 rfl (fun w0 => (g9 9 ?_))
 refine W.ok (ZaR ZQ rfl rfl) (g9 2 ?_)
 refine WC.cond rfl (fun h4 => ?_) (fun h4 => ?_)
 ·have hn := SlR.isNone h_a h4
  subst hn
  refine g9 8 ?_
  exact OwnR.nil
 refine g9 4 ?_
 refine W.lit0 (e := Zp) ZQ ZR ZL rfl (fun v61 Ms62 ho63 => (W.mv (W.app (e := Zp) ZQ ZR ZL rfl XQ rfl rfl (ho63) (h_a) pr9 (by simpa using ha) (fun v64 Ms65 ho66 => (g9 4 ?_)))))
 refine ⟨.inr rfl, [_], ⟨rfl, trivial⟩, Ms65, List.sublist_append_left _ _, ?_⟩
 have h := ho66
 rw [List.nil_append] at h
 exact h

theorem Zfy {G : GH} {v_l : Value} {l : List Msg} (h_l : SlR Zp G v_l l) (ms : Int) (mk : Int) (mkey : Str) (mhi : Str) (mo : Bool) (mv : Str) (n : Int) (hs : ∀ m ∈ l, m.key.b.size ≤ 16 ∧ m.val.b.size ≤ 16) (hn : 0 ≤ n ∧ n ≤ 9223372036854775807) (hmi : i64 ms ∧ i64 mk) (hl9 : l.length ≤ 1000000) :
    Fc Tryz.prog 187 [v_l, .agg #[iV ms, iV mk, sV mkey.b, sV mhi.b, .bool mo, sV mv.b], iV n] G [] (fun v G' M' => M' = [] ∧ ∃ r : List Msg × Bool, r = JA n l (⟨ms, mk, mkey, mhi, mo, mv⟩ : Msg) ∧ ∃ u0, v = .tuple #[u0, .bool (r.2)] ∧ SlR Zp G' u0 (r.1)) := by
 obtain ⟨sa_l, sc_l, rfl⟩ := h_l.form
 have hl := h_l.len47
 have hlb : l.length * 72 ≤ 140737488355328 := h_l.bytes
 refine Fc.go [.tmp 6, .tmp 7] Tryz.func187 Tryz.ntmps187 rfl (fun w0 => (g9 2 ?_))
 refine W.box (L := [iV _, iV _, sV _, sV _, .bool _, sV _]) rfl rfl (fun b67 => (g9 10 ?_))
 refine W.qcall (ZpQ h_l _ _ _ _ _ _ _ (by assumption) om9) rfl (g9 2 ?_)
 refine W.sp 13 rfl (fun h12 => ?_) (fun h12 => ?_)
 ·have q11 : ¬ (Msg.size (⟨ms, mk, mkey, mhi, mo, mv⟩ : Msg) ≤ n - Zw l) := by simpa using h12
  refine g9 28 ?_
  refine ⟨rfl, _, (Zi5 (ZpE q11)).symm, _, rfl, ?_⟩
  · exact SlR.nil
 have q11 : Msg.size (⟨ms, mk, mkey, mhi, mo, mv⟩ : Msg) ≤ n - Zw l := by simpa using h12
 refine g9 8 ?_
 refine W.sd 17 (fun h16 p16 => ?_) (fun h16 p16 => ?_)
 ·refine g9 9 ?_
  refine h_l.a2 (i := l.length - 1) om9 (fun he68 hm69 => (W.ok (Z1 (i := l.length - 1) ZQ ZR h_l rfl rfl ⟨om9, om9⟩) (g9 15 ?_)))
  refine WC.cd (fun h27 p27 => ?_) (fun h27 p27 => ?_)
  ·refine g9 9 ?_
   refine ⟨rfl, _, (Zi5 (ZpF om9 (by dsimp only; omega))).symm, _, rfl, ?_⟩
   · exact SlR.nil
  refine g9 3 ?_
  refine WC.dw sr9.k9 (d9 [0, 2] ?_)
  refine WD.any [1, 3] (by kernel_rfl) rfl ⟨WD.ap ?_, WD.ap ?_, trivial⟩
  ·refine W.call (Mp := []) (Zdw h_l) rfl pr9 ?_
   rintro v74 G73 Ms75 hG73 ho76
   refine W.perm (pmC pr9).symm ?_
   have q80 := ho76.form
   refine match q80 with | ⟨sa77, sc78, e_79⟩ => ?_
   subst e_79
   refine W.nn (WD.a1 3 rfl (W.litO (e := Zp) (l := [(⟨ms, mk, mkey, mhi, mo, mv⟩ : Msg)]) (css := [[iV _, iV _, sV _, sV _, .bool _, sV _]]) ZQ ZR ZL rfl rfl rfl rfl rfl rfl ⟨⟨rfl, hmi⟩, trivial⟩ (fun v81 Ms82 ho83 => (W.perm (pmC pr9).symm ?_))))
   have q87 := ho83.form
   refine match q87 with | ⟨sa84, sc85, e_86⟩ => ?_
   subst e_86
   refine W.nn (WD.a1 4 rfl (W.giveO ho83 (pmC pr9) (fun G88 hG88 hv88 => (W.app (e := Zp) ZQ ZR ZL rfl XQ rfl rfl ((ho76.mono hG88)) (hv88) (pmC pr9) (by show (List.length _ + List.length _) * 72 ≤ _; simp; omega) (fun v89 Ms90 ho91 => (W.perm (pmC pr9).symm ?_))))))
   have q95 := ho91.form
   refine match q95 with | ⟨sa92, sc93, e_94⟩ => ?_
   subst e_94
   refine W.nn (d9 [5, 6] ?_)
   refine g9 2 ?_
   refine WC.giveO ho91 (pmC pr9) (fun G96 hG96 hv96 => (g9 2 ?_))
   refine ⟨rfl, _, (ZbM (ZbN.2 ⟨q11, fun h => by dsimp only; omega⟩)).symm, _, rfl, ?_⟩
   · exact hv96
  refine W.litO (e := Zp) (l := [(⟨ms, mk, mkey, mhi, mo, mv⟩ : Msg)]) (css := [[iV _, iV _, sV _, sV _, .bool _, sV _]]) ZQ ZR ZL rfl rfl rfl rfl rfl rfl ⟨⟨rfl, hmi⟩, trivial⟩ (fun v97 Ms98 ho99 => (W.perm (pmC pr9).symm ?_))
  have q103 := ho99.form
  refine match q103 with | ⟨sa100, sc101, e_102⟩ => ?_
  subst e_102
  refine W.nn (WD.a1 1 rfl (W.call (Mp := []) (Zdw h_l) rfl pr9 ?_))
  rintro v105 G104 Ms106 hG104 ho107
  refine W.perm (pmC pr9).symm ?_
  have q111 := ho107.form
  refine match q111 with | ⟨sa108, sc109, e_110⟩ => ?_
  subst e_110
  refine W.nn (WD.a1 4 rfl (W.giveO (ho99.mono hG104) (pmC (pmA pr9)) (fun G112 hG112 hv112 => (W.app (e := Zp) ZQ ZR ZL rfl XQ rfl rfl ((ho107.mono hG112)) (hv112) (pmC pr9) (by show (List.length _ + List.length _) * 72 ≤ _; simp; omega) (fun v113 Ms114 ho115 => (W.perm (pmC pr9).symm ?_))))))
  have q119 := ho115.form
  refine match q119 with | ⟨sa116, sc117, e_118⟩ => ?_
  subst e_118
  refine W.nn (d9 [5, 6] ?_)
  refine g9 2 ?_
  refine WC.giveO ho115 (pmC pr9) (fun G120 hG120 hv120 => (g9 2 ?_))
  refine ⟨rfl, _, (ZbM (ZbN.2 ⟨q11, fun h => by dsimp only; omega⟩)).symm, _, rfl, ?_⟩
  · exact hv120
 refine g9 19 ?_
 refine WC.dw sr9.k9 (d9 [0, 2] ?_)
 refine WD.any [1, 3] (by kernel_rfl) rfl ⟨WD.ap ?_, WD.ap ?_, trivial⟩
 ·refine W.call (Mp := []) (Zdw h_l) rfl pr9 ?_
  rintro v122 G121 Ms123 hG121 ho124
  refine W.perm (pmC pr9).symm ?_
  have q128 := ho124.form
  refine match q128 with | ⟨sa125, sc126, e_127⟩ => ?_
  subst e_127
  refine W.nn (WD.a1 3 rfl (W.litO (e := Zp) (l := [(⟨ms, mk, mkey, mhi, mo, mv⟩ : Msg)]) (css := [[iV _, iV _, sV _, sV _, .bool _, sV _]]) ZQ ZR ZL rfl rfl rfl rfl rfl rfl ⟨⟨rfl, hmi⟩, trivial⟩ (fun v129 Ms130 ho131 => (W.perm (pmC pr9).symm ?_))))
  have q135 := ho131.form
  refine match q135 with | ⟨sa132, sc133, e_134⟩ => ?_
  subst e_134
  refine W.nn (WD.a1 4 rfl (W.giveO ho131 (pmC pr9) (fun G136 hG136 hv136 => (W.app (e := Zp) ZQ ZR ZL rfl XQ rfl rfl ((ho124.mono hG136)) (hv136) (pmC pr9) (by show (List.length _ + List.length _) * 72 ≤ _; simp; omega) (fun v137 Ms138 ho139 => (W.perm (pmC pr9).symm ?_))))))
  have q143 := ho139.form
  refine match q143 with | ⟨sa140, sc141, e_142⟩ => ?_
  subst e_142
  refine W.nn (d9 [5, 6] ?_)
  refine g9 2 ?_
  refine WC.giveO ho139 (pmC pr9) (fun G144 hG144 hv144 => (g9 2 ?_))
  refine ⟨rfl, _, (ZbM (ZbN.2 ⟨q11, fun h => by omega⟩)).symm, _, rfl, ?_⟩
  · exact hv144
 refine W.litO (e := Zp) (l := [(⟨ms, mk, mkey, mhi, mo, mv⟩ : Msg)]) (css := [[iV _, iV _, sV _, sV _, .bool _, sV _]]) ZQ ZR ZL rfl rfl rfl rfl rfl rfl ⟨⟨rfl, hmi⟩, trivial⟩ (fun v145 Ms146 ho147 => (W.perm (pmC pr9).symm ?_))
 have q151 := ho147.form
 refine match q151 with | ⟨sa148, sc149, e_150⟩ => ?_
 subst e_150
 refine W.nn (WD.a1 1 rfl (W.call (Mp := []) (Zdw h_l) rfl pr9 ?_))
 rintro v153 G152 Ms154 hG152 ho155
 refine W.perm (pmC pr9).symm ?_
 have q159 := ho155.form
 refine match q159 with | ⟨sa156, sc157, e_158⟩ => ?_
 subst e_158
 refine W.nn (WD.a1 4 rfl (W.giveO (ho147.mono hG152) (pmC (pmA pr9)) (fun G160 hG160 hv160 => (W.app (e := Zp) ZQ ZR ZL rfl XQ rfl rfl ((ho155.mono hG160)) (hv160) (pmC pr9) (by show (List.length _ + List.length _) * 72 ≤ _; simp; omega) (fun v161 Ms162 ho163 => (W.perm (pmC pr9).symm ?_))))))
 have q167 := ho163.form
 refine match q167 with | ⟨sa164, sc165, e_166⟩ => ?_
 subst e_166
 refine W.nn (d9 [5, 6] ?_)
 refine g9 2 ?_
 refine WC.giveO ho163 (pmC pr9) (fun G168 hG168 hv168 => (g9 2 ?_))
 refine ⟨rfl, _, (ZbM (ZbN.2 ⟨q11, fun h => by omega⟩)).symm, _, rfl, ?_⟩
 · exact hv168

theorem ZpT {G : GH} {v_l : Value} {l : List Pair} (h_l : SlR Zs G v_l l) {v_ms : Value} {ms : List Msg} (h_ms : SlR Zp G v_ms ms) (n : Int) (hP : PairsR l) (hn : l.length + ms.length ≤ 1000000) (hR : ∀ m ∈ ms, m.R) :
    Fc Tryz.prog 247 [v_l, v_ms, iV n] G [] (fun v G' M' => M' = [] ∧ ∃ r : List Pair × Nat, r = Ye n l ms ∧ ∃ u0, v = .tuple #[u0, nt9 r.2] ∧ SlR Zs G' u0 (r.1)) := by
 obtain ⟨sa_l, sc_l, rfl⟩ := h_l.form
 obtain ⟨sa_ms, sc_ms, rfl⟩ := h_ms.form
 have hl := h_l.len47
 have hlm := h_ms.len47
 refine Fc.go [.tmp 6, .tmp 7] Tryz.func247 Tryz.ntmps247 rfl (fun w0 => (g9 9 ?_))
 refine W.cS (XS h_l) rfl (fun sa_hv2 sc_hv2 G1 hG1 hv2 => (g9 12 ?_))
 refine WC.loop (X := (Nat) × Value) (fun k => [(17, nt9 k.1), (1, lV sa_ms ms.length sc_ms), (2, iV n), (15, lV sa_ms ms.length sc_ms), (16, nt9 ((ms).length)), (8, k.2)]) (fun k G Ml => Ml = [] ∧ SlR Zs G k.2 (Zu l (ms.take k.1)) ∧ k.1 ≤ ms.length ∧ DrainAt n l ms k.1) (fun k => ms.length - k.1) (0, lV sa_hv2 ((l)).length sc_hv2) hs9 ?_ ?_
 ·exact ⟨rfl, (by simpa [Zu] using hv2), om9, DrainAt.zero n l ms⟩
 rintro ⟨k, v_8⟩ gG8 G8 _ hG8 ⟨rfl, ho_8, hk, hd⟩
 try dsimp only at ho_8 hk hd
 have hm : ∀ m ∈ ms, m.fit := fun m h => ZcQ (ZkQ (hR m h))
 have hPk := PairsR.foldF (ms := ms.take k) hP (fun m h => hm m (List.mem_of_mem_take h))
 have hnk := ZkR (ms := ms.take k) hP (fun m h => hm m (List.mem_of_mem_take h))
 have hkl : (ms.take k).length ≤ k := by simp; omega
 refine WC.fr (f := ZX gG8 [(17, nt9 k), (1, lV sa_ms ms.length sc_ms), (2, iV n), (15, lV sa_ms ms.length sc_ms), (16, nt9 ((ms).length)), (8, v_8)]) rfl (g9 6 ?_)
 refine WC.cd (fun h18 p18 => ?_) (fun h18 p18 => ?_)
 ·refine g9 7 ?_
  refine (h_ms.mono (hG1.trans hG8)).a2 (i := k) om9 (fun he9 hm10 => (g9 2 ?_))
  refine W.alloc ZL (fun b14 => (g9 9 ?_))
  refine W.call (Mp := []) (Zgp ho_8 ms[k].stamp ms[k].kind ms[k].key ms[k].hi ms[k].opn ms[k].val _ hPk om9 (hm _ (List.getElem_mem _))) rfl pr9 ?_
  intro _ G15 _ hG15 q17
  refine match q17 with | ⟨e_18, _, e_19, _, e_20, hv16⟩ => ?_
  subst e_18
  subst e_19
  subst e_20
  have q22 := hv16.form
  refine match q22 with | ⟨sa_hv16, sc_hv16, e_21⟩ => ?_
  subst e_21
  refine g9 14 ?_
  refine WC.cond rfl (fun h30 => ?_) (fun h30 => ?_)
  ·have hlf : Yi (Zu l (ms.take k)) ms[k] n = false := by
     cases h : Yi (Zu l (ms.take k)) ms[k] n
     · rfl
     exfalso; rw [ZcP h] at h30; simp at h30
   refine g9 16 ?_
   refine ⟨rfl, _, (hd.stop om9 hlf).symm, _, rfl, ?_⟩
   · exact (ho_8.mono hG15)
  have hlf : Yi (Zu l (ms.take k)) ms[k] n = true := by
    by_cases h : Yi (Zu l (ms.take k)) ms[k] n = true
    · exact h
    exfalso; rw [Zgk (by simpa using h)] at h30; simp at h30
  refine g9 11 ?_
  refine W.sub (sr9.cons _) (g9 2 ?_)
  exact ⟨hG15, (k + 1, lV sa_hv16 ((Zar (Zu l (ms.take k)) ms[k] n).1).length sc_hv16), hs9, ⟨rfl, (by exact SlR.cast hv16 (by rw [ZcP hlf, ZeM om9])), om9, hd.succ om9 hlf⟩, om9⟩
 refine g9 16 ?_
 refine ⟨rfl, _, ((hd.all om9).trans (by rw [show k = ms.length from by omega])).symm, _, rfl, ?_⟩
 · have h := ho_8; rw [List.take_of_length_le om9] at h; exact h

theorem ZpU {G : GH} {b : Nat} {c : Cfg} {l : List Nd} {M : MH} (h : StR 60 4 3 189 139 b c G l M) {cs : List Value} {x : Nd} (hx : NodeC G cs x) : Fc Tryz.prog 140 [pt9 b, .agg (List.toArray cs)] G M (fun v G' M' => v = iV (Zad l x).1 ∧ StR 60 4 3 189 139 b c G' (Zad l x).2 M') := by
  obtain ⟨hc, hl, b2, Ma, rfl, hA⟩ := h
  exact (Zk2 hA hx).mono fun v G' M' hle ⟨e1, e2⟩ => ⟨by rw [e1, ZeX hl], hc, by rw [Znx]; exact hl, e2.cast (congrArg Prod.snd (ZeX hl x))⟩
theorem Zjf {G : GH} {b : Nat} {c : Cfg} {l : List Nd} {M : MH} (h : StR 60 4 3 189 139 b c G l M) {cs : List Value} {x : Nd} (hx : NodeC G cs x) : Fc Tryz.prog 84 [pt9 b, .agg (List.toArray cs)] G M (fun v G' M' => v = .tuple #[iV (JO c.slots.toNat l x).1.1, iV (JO c.slots.toNat l x).1.2] ∧ StR 60 4 3 189 139 b c G' (JO c.slots.toNat l x).2 M') := by
  obtain ⟨hc, hl, b2, Ma, rfl, hA⟩ := h
  exact (Zk4 hA hx).mono fun v G' M' hle ⟨e1, e2⟩ => ⟨by rw [e1, Ze0 hl], hc, ZnA hl, e2.cast (congrArg Prod.snd (Ze0 hl x))⟩
theorem Zai {G : GH} {b : Nat} {c : Cfg} {l : List Nd} {M : MH} (h : StR 60 4 3 189 139 b c G l M) (i : Int) : Fc Tryz.prog 67 [pt9 b, iV i] G M (fun v G' M' => (∃ cs, v = .tuple #[.agg (List.toArray cs), .bool (decide (0 ≤ i ∧ i < l.length))] ∧ NodeC G' cs (Za l i)) ∧ M' = M) := by
  obtain ⟨hc, hl, b2, Ma, rfl, hA⟩ := h
  exact (Zk3 (c := c) hA i).mono fun v G' M' hle ⟨⟨cs, e1, e2⟩, e3⟩ => ⟨⟨cs, by rw [e1, Zdd hl], e2.of (ZhZ hl i)⟩, e3⟩
theorem ZpV {G : GH} {b : Nat} {c : Cfg} {l : List Nd} {M : MH} (h : StR 60 4 3 189 139 b c G l M) : Fc Tryz.prog 52 [pt9 b] G M (fun v G' M' => SlR ZA G' v l ∧ M' = M) := by
  obtain ⟨hc, hl, b2, Ma, rfl, hA⟩ := h
  exact (Ztq (c := c) hA).mono fun v G' M' hle ⟨e1, e2⟩ => ⟨SlR.cast e1 (ZnB hl), e2⟩
theorem ZpW {G : GH} {b : Nat} {c : Cfg} {l : List Nd} {M : MH} (h : StR 60 4 3 189 139 b c G l M) : Fc Tryz.prog 59 [pt9 b] G M (fun v G' M' => v = iV (l.length : Int) ∧ M' = M) := by
  obtain ⟨hc, hl, b2, Ma, rfl, hA⟩ := h
  exact (Zto (c := c) hA).mono fun v G' M' hle ⟨e1, e2⟩ => ⟨by rw [e1, ZeZ hl, Zac], e2⟩
theorem ZpX {G : GH} {b : Nat} {c : Cfg} {l : List Nd} {M : MH} (h : StR 60 4 3 189 139 b c G l M) : Fc Tryz.prog 189 [pt9 b] G M (fun v G' M' => v = nt9 (c.slots.toNat - l.length) ∧ M' = M) := by
  obtain ⟨hc, hl, b2, Ma, rfl, hA⟩ := h
  exact (Ztp (c := c) hA).mono fun v G' M' hle ⟨e1, e2⟩ => ⟨by rw [e1]; have h1 := Zdb (Ym c.slots.toNat l).2; rw [ZeZ hl, Zac, Zbx hl] at h1; exact congrArg (fun n : Nat => Value.int .i64 (n : Int)) om9, e2⟩
theorem ZcD {G : GH} (n : Int) (a : Int) (b : Int) :
    Fc Tryz.prog 138 [iV n, iV a, iV b] G [] (fun v _ _ => v = .bool (decide (a ≤ n ∧ n ≤ b))) := by
 refine Fc.go [.tmp 6] Tryz.func138 Tryz.ntmps138 rfl (fun w0 => (g9 11 ?_))
 refine W.sd 10 (fun h9 p9 => ?_) (fun h9 p9 => ?_)
 ·refine g9 12 ?_
  refine congrArg Value.bool ?_
  first | (simp_all; done) | (simp_all; omega) | (simp_all; intros; omega)
 refine g9 9 ?_
 refine congrArg Value.bool ?_
 first | (simp_all; done) | (simp_all; omega) | (simp_all; intros; omega)

theorem ZpY {G : GH} (cfan : Int) (cleaf : Int) (cbud : Int) (cslots : Int) (crest : Int) :
    Fc Tryz.prog 82 [.agg #[iV cfan, iV cleaf, iV cbud, iV cslots, iV crest]] G [] (fun v _ _ => v = .bool (decide (CfgR (⟨cfan, cleaf, cbud, cslots, crest⟩ : Cfg)))) := by
 refine Fc.go [.tmp 2] Tryz.func82 Tryz.ntmps82 rfl (fun w0 => (g9 2 ?_))
 refine W.box (L := [iV _, iV _, iV _, iV _, iV _]) rfl rfl (fun b1 => (g9 7 ?_))
 refine W.qcall (ZcD _ _ _) rfl (W.mv ?_)
 refine W.sp 6 rfl (fun h5 => ?_) (fun h5 => ?_)
 ·refine g9 5 ?_
  refine W.qcall (ZcD _ _ _) rfl (g9 2 ?_)
  refine W.sp 11 rfl (fun h9 => ?_) (fun h9 => ?_)
  ·refine g9 5 ?_
   refine W.qcall (ZcD _ _ _) rfl (g9 2 ?_)
   refine W.sp 16 rfl (fun h14 => ?_) (fun h14 => ?_)
   ·refine g9 5 ?_
    refine W.qcall (ZcD _ _ _) rfl (g9 2 ?_)
    refine W.sp 21 rfl (fun h19 => ?_) (fun h19 => ?_)
    ·refine g9 5 ?_
     refine W.qcall (ZcD _ _ _) rfl (g9 6 ?_)
     refine congrArg Value.bool ?_
     rw [Bool.eq_iff_iff, decide_eq_true_iff]
     simp only [CfgR]
     first | (simp_all; done) | (simp_all; omega) | (simp_all; intros; omega)
    refine g9 9 ?_
    refine congrArg Value.bool ?_
    rw [Bool.eq_iff_iff, decide_eq_true_iff]
    simp only [CfgR]
    first | (simp_all; done) | (simp_all; omega) | (simp_all; intros; omega)
   refine g9 14 ?_
   refine congrArg Value.bool ?_
   rw [Bool.eq_iff_iff, decide_eq_true_iff]
   simp only [CfgR]
   first | (simp_all; done) | (simp_all; omega) | (simp_all; intros; omega)
  refine g9 19 ?_
  refine congrArg Value.bool ?_
  rw [Bool.eq_iff_iff, decide_eq_true_iff]
  simp only [CfgR]
  first | (simp_all; done) | (simp_all; omega) | (simp_all; intros; omega)
 refine g9 24 ?_
 refine congrArg Value.bool ?_
 rw [Bool.eq_iff_iff, decide_eq_true_iff]
 simp only [CfgR]
 first | (simp_all; done) | (simp_all; omega) | (simp_all; intros; omega)

theorem ZpZ {G : GH} (s : Int) (hs : i64 s) :
    Fc Tryz.prog 85 [iV s] G [] (fun v G' M' => M' = [] ∧ ∃ u0, v = .agg (List.toArray u0) ∧ NodeC G' u0 (XE s)) := by
 refine Fc.go [.cell 2 60] Tryz.func85 Tryz.ntmps85 rfl (fun w0 => (g9 2 ?_))
 refine W.alloc Zo (fun b3 => (g9 5 ?_))
 refine W.ok (ZD (L := [iV _, iV _, lV _ _ _, lV _ _ _, sV _, .bool _, iV _, iV _, lV _ _ _, lV _ _ _]) J3 Zo rfl rfl rfl) (g9 5 ?_)
 refine ⟨rfl, _, rfl, ?_⟩
 · exact ⟨_, _, _, _, _, _, _, _, rfl, SlR.nil, SlR.nil, SlR.nil, SlR.nil, (Ztv hs)⟩

theorem Zp0 {G : GH} (cfan : Int) (cleaf : Int) (cbud : Int) (cslots : Int) (crest : Int) :
    Fc Tryz.prog 38 [.agg #[iV cfan, iV cleaf, iV cbud, iV cslots, iV crest]] G [] (fun v G' M' => (¬ CfgR (⟨cfan, cleaf, cbud, cslots, crest⟩ : Cfg) ∧ v = .tuple #[.pointer none, iV 2] ∧ M' = []) ∨ (CfgR (⟨cfan, cleaf, cbud, cslots, crest⟩ : Cfg) ∧ ∃ b, v = .tuple #[pt9 b, iV 0] ∧ StR 60 4 3 189 139 b (⟨cfan, cleaf, cbud, cslots, crest⟩ : Cfg) G' [XE 0] M')) := by
 refine Fc.go [.tmp 2, .tmp 3] Tryz.func38 Tryz.ntmps38 rfl (fun w0 => (g9 2 ?_))
 refine W.box (L := [iV _, iV _, iV _, iV _, iV _]) rfl rfl (fun b4 => (g9 8 ?_))
 refine W.qcall (ZpY _ _ _ _ _) rfl (g9 3 ?_)
 refine WC.cond rfl (fun h9 => ?_) (fun h9 => ?_)
 ·refine g9 9 ?_
  exact .inl ⟨by simpa using h9, rfl, rfl⟩
 refine g9 6 ?_
 refine W.call (Mp := []) (Zs3 (cslots)) rfl pr9 ?_
 intro v8 G5 Ms7 hG5 q6
 obtain ⟨bAr, eV9, hA9⟩ : ∃ b, v8 = .tuple #[pt9 b, iV 0] ∧ ArR ZA 60 4 3 189 b G5 (List.replicate (cslots).toNat Nd.zero, List.replicate (cslots).toNat false) Ms7 := Or.elim q6 (fun hz => absurd (by have h8 : CfgR (⟨cfan, cleaf, cbud, cslots, crest⟩ : Cfg) := (by simpa using h9); unfold CfgR at h8; dsimp only at h8; omega) hz.1) (fun hz => hz.2)
 subst eV9
 refine W.perm (pmC pr9).symm (g9 21 ?_)
 refine W.ok (ZD (L := [iV _, iV _, iV _, iV _, iV _, .pointer _]) Zom Zol rfl rfl rfl) (W.box (L := [iV _, iV _, iV _, iV _, iV _, .pointer _]) rfl rfl (fun b9 => (g9 6 ?_)))
 refine W.cN (ZpZ _ ⟨by decide, by decide⟩) rfl (fun _ _ _ _ _ _ _ _ G10 hG10 hp_hv11 hk_hv11 hm_hv11 hr_hv11 hok_hv11 => (W.call (Mp := ((b9, ce9 139 [iV cfan, iV cleaf, iV cbud, iV cslots, iV crest, pt9 bAr]) :: Ms7)) (Mr := ((b4, ce9 23 [iV cfan, iV cleaf, iV cbud, iV cslots, iV crest]) :: [])) (Zk4 (c := (⟨cfan, cleaf, cbud, cslots, crest⟩ : Cfg)) (ArR.mono hG10 hA9) (nk9 hp_hv11 hk_hv11 hm_hv11 hr_hv11 hok_hv11)) rfl (((pmC pr9).cons _).trans pr9) ?_))
 intro v19 G16 Ms18 hG16 q17
 refine match q17 with | ⟨e_21, hS20⟩ => ?_
 subst e_21
 refine W.perm (pmC pr9).symm (g9 15 ?_)
 refine ⟨.inr rfl, [_, _], ⟨rfl, rfl, trivial⟩, (Ms18 ++ []), sr9.cons _, ?_⟩
 have hC : CfgR (⟨cfan, cleaf, cbud, cslots, crest⟩ : Cfg) := by simpa using h9
 have hE := Ze0 (n := cslots.toNat) (l := []) (by simp) (XE 0)
 rw [(Ztw (n := cslots.toNat) (by unfold CfgR at hC; dsimp only at hC; omega)).2, Zns] at hE
 have hS := hS20
 rw [hE] at hS
 exact .inr ⟨hC, _, by rw [hE]; rfl, hC, by show 1 ≤ cslots.toNat; unfold CfgR at hC; dsimp only at hC; omega, by rw [List.append_nil]; exact hS⟩

theorem Zp1 {G : GH} {v_ls : Value} {ls : List (List Msg)} (h_ls : SlR (eSl Zp) G v_ls ls) (ht : YI ls ≤ 100000000) (hln : ls.length ≤ 100000) :
    Fc Tryz.prog 184 [v_ls] G [] (fun v G' M' => M' = [] ∧ ∃ u0, v = u0 ∧ SlR Zp G' u0 (ZO ls)) := by
 obtain ⟨sa_ls, sc_ls, rfl⟩ := h_ls.form
 have hl := h_ls.len47
 refine Fc.go [.tmp 2] Tryz.func184 Tryz.ntmps184 rfl (fun w0 => (g9 7 ?_))
 refine W.lit0 (e := X2) XK YK Jx rfl (fun v1 Ms2 ho3 => ?_)
 have q7 := ho3.form
 refine match q7 with | ⟨sa4, sc5, e_6⟩ => ?_
 subst e_6
 refine W.box (L := [lV _ _ _]) rfl rfl (fun b8 => (g9 5 ?_))
 have hR9 : HeadsR b8 269 G [] ((b8, ce9 269 [lV sa4 0 sc5]) :: Ms2) := ⟨(fun h hh => by cases hh), _, _, rfl, ho3⟩
 refine WC.perm (M' := (((b8, ce9 269 [lV sa4 0 sc5]) :: Ms2) ++ [])) (pr9.symm.trans ((pr9.cons _).trans pr9)) (g9 7 ?_)
 refine WC.loop (X := (Nat × List Hd) × MH) (fun x => [(12, nt9 x.1.1), (10, lV sa_ls ls.length sc_ls), (11, nt9 ((ls).length)), (3, pt9 b8)]) (fun x G Ml => Ml = (x.2 ++ []) ∧ HeadsR b8 269 G (x.1.2) x.2 ∧ x.1.1 ≤ ls.length ∧ Heap Hd.lt x.1.2 ∧ x.1.2.Perm (Z5 0 (ls.take x.1.1))) (fun x => ls.length - x.1.1) (((0, []) : Nat × List Hd), ((b8, ce9 269 [lV sa4 0 sc5]) :: Ms2)) hs9 ?_ ?_
 ·exact ⟨rfl, (by simpa using hR9), Nat.zero_le _, (fun c h0 hc _ => by simp at hc), by simp [Z5]⟩
 rintro ⟨⟨k, H⟩, M_3⟩ gG10 G10 _ hG10 ⟨rfl, ho_3, hk, hH, hp⟩
 try dsimp only at ho_3 hk hH hp
 have hHl := hp.length_eq
 have hHl2 := Zgx (ls.take k) 0
 have hHl3 : (ls.take k).length ≤ k := by simp; omega
 refine WC.fr (f := ZX gG10 [(12, nt9 k), (10, lV sa_ls ls.length sc_ls), (11, nt9 ((ls).length)), (3, pt9 b8)]) rfl (g9 6 ?_)
 refine WC.cd (fun h13 p13 => ?_) (fun h13 p13 => ?_)
 ·try dsimp only at p13
  refine g9 7 ?_
  have q14 := (h_ls.mono hG10).at (i := (k)) om9
  refine match q14 with | ⟨_, he11, ⟨_, e_13, hs12⟩⟩ => ?_
  subst e_13
  obtain ⟨sa_hs12, sc_hs12, rfl⟩ := hs12.form
  refine W.ok (Z1 (i := (k)) Za3 Za2 (h_ls.mono hG10) rfl rfl ⟨om9, om9⟩) (g9 12 ?_)
  refine WC.cd (fun h19 p19 => ?_) (fun h19 p19 => ?_)
  ·try dsimp only at p19
   refine g9 2 ?_
   refine W.ok (J8 Ze5 rfl) (g9 2 ?_)
   refine W.ok (ZD (L := [lV _ _ _, iV _]) ZoK Jx rfl rfl rfl) (W.ok (J8 Zcw rfl) (W.call (Mp := M_3) (ZkW (ZcR (b := b8) (Tb := 269)) ho_3 (a := ((ls[k], (k : Int)) : Hd)) ⟨⟨_, _, rfl, hs12, ⟨by dsimp only; omega, by dsimp only; omega⟩⟩, by dsimp only; omega⟩ om9 (fun hl h => ZkZ hl h)) rfl pr9 ?_))
   intro _ G15 Ms17 hG15 q16
   refine match q16 with | ⟨e_20, hR19⟩ => ?_
   subst e_20
   refine g9 8 ?_
   exact ⟨hG15, (((k + 1, Zab Hd.lt H ((ls[k], (k : Int)) : Hd)) : Nat × List Hd), Ms17), hs9, ⟨rfl, (by simpa using hR19), by dsimp only; omega, (ZeR Hd.lo hH _).1, (ZeR Hd.lo hH _).2.trans (Ztz om9 hp om9)⟩, by dsimp only; omega⟩
  try dsimp only at p19
  refine g9 8 ?_
  exact ⟨Le.rfl, (((k + 1, H) : Nat × List Hd), M_3), hs9, ⟨rfl, (by simpa using ho_3), by dsimp only; omega, hH, ZtA om9 hp om9⟩, by dsimp only; omega⟩
 try dsimp only at p13
 refine g9 12 ?_
 refine WC.loop (X := (Ls × List Hd × List Msg) × Value × MH × MH) (fun x => [(6, x.2.1), (3, pt9 b8)]) (fun x G Ml => Ml = (x.2.2.1 ++ (x.2.2.2 ++ [])) ∧ OwnR Zp 87 G x.2.1 (x.1.2.2) x.2.2.1 ∧ HeadsR b8 269 G (x.1.2.1) x.2.2.2 ∧ Heap Hd.lt x.1.2.1 ∧ x.1.2.1.Perm (Z5 0 x.1.1) ∧ x.1.2.2 ++ ZO x.1.1 = ZO ls ∧ x.1.1.length = ls.length) (fun x => YI x.1.1) (((ls, H, []) : Ls × List Hd × List Msg), lV none 0 0, ([] : MH), M_3) hs9 ?_ ?_
 ·exact ⟨rfl, (by simpa using OwnR.nil), (by simpa using ho_3), hH, by rw [List.take_of_length_le om9] at hp; exact hp, by simp, rfl⟩
 rintro ⟨⟨cur, H, out⟩, v_6, M_6, M_3⟩ gG21 G21 _ hG21 ⟨rfl, ho_6, ho_3, hH, hp, hm, hcl⟩
 try dsimp only at ho_6 ho_3 hH hp hm hcl
 have hml := congrArg List.length hm
 rw [List.length_append] at hml
 have hml2 := Zgy ls
 have hHl := hp.length_eq
 have hHl2 := Zgx cur 0
 refine WC.fr (f := ZX gG21 [(6, v_6), (3, pt9 b8)]) rfl (g9 2 ?_)
 refine match ho_3 with | ⟨hne_u, v_u, Ms_u, eM_, ho_u⟩ => ?_
 subst eM_
 refine WC.perm (M' := ((b8, ce9 269 [v_u]) :: (M_6 ++ (Ms_u ++ [])))) (pmB pr9).symm ?_
 refine match ho_u.form with | ⟨sa_u, sc_u, eV_⟩ => ?_
 subst eV_
 refine g9 4 ?_
 refine W.call (Mp := Ms_u) (ZkY ho_u) rfl (pmC (pmA pr9)) ?_
 intro _ G22 Ms24 hG22 q23
 refine match q23 with | ⟨e_25, e_26⟩ => ?_
 subst e_25
 subst e_26
 refine W.perm (pmC pr9).symm (g9 3 ?_)
 refine WC.cd (fun h32 p32 => ?_) (fun h32 p32 => ?_)
 ·try dsimp only at p32
  obtain ⟨b, hb, hbe⟩ := ZtB hH hp om9
  have e9 : List.drop 1 (List.take (nth H 0).1.length (nth H 0).1) = List.drop 1 (cur[b]'hb.lt) := by rw [List.take_length, hbe]
  have hpl := (Zda Hd.lo hH om9).2.2
  refine g9 4 ?_
  have hR27 : HeadsR b8 269 G22 H ((b8, ce9 269 [lV sa_u H.length sc_u]) :: Ms_u) := ⟨hne_u, _, _, rfl, (ho_u.mono hG22)⟩
  refine WC.perm (M' := (((b8, ce9 269 [lV sa_u H.length sc_u]) :: Ms_u) ++ (M_6 ++ []))) (pr9.symm.trans ((pr9.cons _).trans pr9)) (g9 2 ?_)
  refine W.ok (J8 Ze5 rfl) (W.call (Mp := ((b8, ce9 269 [lV sa_u H.length sc_u]) :: Ms_u)) (ZkV (ZcR (b := b8) (Tb := 269)) hR27 om9) rfl pr9 ?_)
  intro v31 G28 Ms30 hG28 q29
  refine match q29 with | ⟨hvhR32, hR32⟩ => ?_
  refine match hvhR32 with | ⟨⟨_, _, e_34, hw_p33, hok_p33⟩, hn_p33⟩ => ?_
  subst e_34
  refine W.ok (Zey Zcw rfl) (W.alloc Jx (fun b35 => (g9 8 ?_)))
  refine hw_p33.a2 (i := 0) om9 (fun he36 hm37 => (W.ok (Z1 (i := 0) ZQ ZR hw_p33 rfl rfl ⟨om9, om9⟩) (g9 1 ?_)))
  refine W.lit (e := Zp) (l := [((((nth H 0).1))[0])]) (css := [[iV _, iV _, sV _, sV _, .bool _, sV _]]) ZQ ZR ZL rfl rfl rfl rfl rfl rfl ⟨⟨rfl, hm37⟩, trivial⟩ (fun bl41 G41 hG41 hv41 => (W.app (e := Zp) ZQ ZR ZL rfl XQ rfl rfl ((ho_6.mono lec)) (hv41) (pmC (pmA pr9)) (by show (_ + 1) * 72 ≤ _; omega) (fun v42 Ms43 ho44 => (W.perm (pmC pr9).symm ?_))))
  have q48 := ho44.form
  refine match q48 with | ⟨sa45, sc46, e_47⟩ => ?_
  subst e_47
  refine g9 7 ?_
  refine W.slR (1) (((nth H 0).1).length) ZQ ZR (hw_p33.mono hG41) rfl ⟨_, _, rfl, om9⟩ rfl om9 om9 (fun v50 hs49 => ?_)
  have q54 := hs49.form
  refine match q54 with | ⟨sa51, sc52, e_53⟩ => ?_
  subst e_53
  refine g9 12 ?_
  refine WC.cd (fun h51 p51 => ?_) (fun h51 p51 => ?_)
  ·try dsimp only at p51
   refine g9 2 ?_
   refine W.ok (J8 Ze5 rfl) (g9 1 ?_)
   refine W.ok (J8 Zcw rfl) (W.call (Mp := Ms30) (ZkW (ZcR (b := b8) (Tb := 269)) ((ZcR (b := b8) (Tb := 269)).mono hG41 hR32) (a := (((((nth H 0).1).take ((nth H 0).1).length).drop 1, (nth H 0).2) : Hd)) ⟨⟨_, _, rfl, hs49, hok_p33⟩, by dsimp only; omega⟩ om9 (fun hl h => ZkZ hl h)) rfl (pmC (pmA pr9)) ?_)
   intro _ G55 Ms57 hG55 q56
   refine match q56 with | ⟨e_60, hR59⟩ => ?_
   subst e_60
   refine W.perm (pmC pr9).symm (W.sub (sr9.cons _) (W.perm (M' := (Ms43 ++ (Ms57 ++ []))) ((List.Perm.append_left _ ((List.Perm.append_left _ pr9).trans pr9)).trans (pmA pr9)) (g9 3 ?_)))
   exact ⟨lec, (((cur.set b ((cur[b]'hb.lt).drop 1), Zab Hd.lt (Y1 Hd.lt H) (((((nth H 0).1).take ((nth H 0).1).length).drop 1, (nth H 0).2) : Hd), out ++ [(nth H 0).1[0]'(by first | assumption | (rw [hbe]; exact hb.ne))]) : Ls × List Hd × List Msg), lV sa45 ((out ++ [((((nth H 0).1))[0])])).length sc46, Ms43, Ms57), hs9, ⟨rfl, (by simpa using (ho44.mono hG55)), (by simpa using hR59), (Zk9 hH hp om9 hb hbe (el := (((((nth H 0).1).take ((nth H 0).1).length).drop 1, (nth H 0).2) : Hd)) (by rw [e9, hbe]) (by dsimp only; omega)).1, (Zk9 hH hp om9 hb hbe (el := (((((nth H 0).1).take ((nth H 0).1).length).drop 1, (nth H 0).2) : Hd)) (by rw [e9, hbe]) (by dsimp only; omega)).2, by dsimp only; rw [← hm, Zb3 hb, List.append_assoc, List.singleton_append]; simp only [hbe], by dsimp only; rw [List.length_set]; exact hcl⟩, by dsimp only; have := Zas hb; omega⟩
  try dsimp only at p51
  refine WC.sub (sr9.cons _) (g9 3 ?_)
  exact ⟨lec, (((cur.set b ((cur[b]'hb.lt).drop 1), Y1 Hd.lt H, out ++ [(nth H 0).1[0]'(by first | assumption | (rw [hbe]; exact hb.ne))]) : Ls × List Hd × List Msg), lV sa45 ((out ++ [((((nth H 0).1))[0])])).length sc46, Ms43, Ms30), hs9, ⟨rfl, (by simpa using ho44), (by simpa using ((ZcR (b := b8) (Tb := 269)).mono hG41 hR32)), (Zla hH hp om9 hb hbe (by rw [e9] at p51; omega)).1, (Zla hH hp om9 hb hbe (by rw [e9] at p51; omega)).2, by dsimp only; rw [← hm, Zb3 hb, List.append_assoc, List.singleton_append]; simp only [hbe], by dsimp only; rw [List.length_set]; exact hcl⟩, by dsimp only; have := Zas hb; omega⟩
 try dsimp only at p32
 refine g9 11 ?_
 refine WC.giveO (ho_6.mono hG22) (pmC (pmA pr9)) (fun G61 hG61 hv61 => (g9 2 ?_))
 refine ⟨rfl, _, rfl, ?_⟩
 · exact SlR.cast hv61 (by rw [← hm, ZtE hp om9, List.append_nil])

theorem Zp2 {G : GH} {v_ls : Value} {ls : List (List Msg)} (h_ls : SlR (eSl Zp) G v_ls ls) (ht : YI ls ≤ 100000000) (hln : ls.length ≤ 100000) :
    Fc Tryz.prog 64 [v_ls] G [] (fun v G' M' => M' = [] ∧ ∃ u0, v = u0 ∧ SlR Zp G' u0 (ZO ls)) := by
 obtain ⟨sa_ls, sc_ls, rfl⟩ := h_ls.form
 have hl := h_ls.len47
 refine Fc.go [.tmp 2] Tryz.func64 Tryz.ntmps64 rfl (fun w0 => (g9 9 ?_))
 refine W.mkSl (e := Zz) (a0 := (0 : Int)) (n := (ls).length) ZU ty3 zr3 rfl by3 (⟨rfl, by decide, by decide⟩) rfl rfl (by first | (show _ * 8 ≤ 140737488355328; omega) | (show _ * 1 ≤ 16777216; omega)) (by first | (show _ * 8 ≤ 140737488355328; omega) | (show _ * 1 ≤ 16777216; omega)) (fun v1 Ms2 ho3 => (g9 9 ?_))
 refine WC.loop (X := (List Nat × List Msg) × Value × MH × Value × MH) (fun x => [(0, lV sa_ls ls.length sc_ls), (3, x.2.1), (4, x.2.2.2.1)]) (fun x G Ml => Ml = (x.2.2.1 ++ (x.2.2.2.2 ++ [])) ∧ OwnR Zz 3 G x.2.1 (nats x.1.1) x.2.2.1 ∧ OwnR Zp 87 G x.2.2.2.1 (x.1.2) x.2.2.2.2 ∧ x.1.1.length = ls.length ∧ x.1.2 ++ ZO (Y8 ls x.1.1) = ZO ls) (fun x => YI (Y8 ls x.1.1)) (((List.replicate ls.length 0, []) : List Nat × List Msg), v1, Ms2, lV none 0 0, ([] : MH)) hs9 ?_ ?_
 ·exact ⟨rfl, (by simpa [nats] using ho3), (by simpa using OwnR.nil), by simp, by rw [ZtF]; rfl⟩
 rintro ⟨⟨ps, out⟩, v_3, M_3, v_4, M_4⟩ gG4 G4 _ hG4 ⟨rfl, ho_3, ho_4, hpl, hm⟩
 try dsimp only at ho_3 ho_4 hpl hm
 have hcl := Zd7 hpl
 have hml := congrArg List.length hm
 rw [List.length_append] at hml
 have hml2 := Zgy ls
 have hnl : (nats ps).length = ps.length := List.length_map ..
 refine WC.fr (f := ZX gG4 [(0, lV sa_ls ls.length sc_ls), (3, v_3), (4, v_4)]) rfl (g9 13 ?_)
 refine WC.loop (X := Nat × Int) (fun y => [(5, iV y.2), (6, nt9 y.1), (3, v_3), (4, v_4), (0, lV sa_ls ls.length sc_ls)]) (fun y _ Ml => Ml = (M_3 ++ (M_4 ++ [])) ∧ y.1 ≤ ls.length ∧ BI (Y8 ls ps) y.1 y.2) (fun y => ls.length - y.1) ((0, -1) : Nat × Int) hs9 ?_ ?_
 ·exact ⟨rfl, Nat.zero_le _, BI_nil _⟩
 rintro ⟨j, c⟩ gG5 G5 _ hG5 ⟨rfl, hj, hbi⟩
 dsimp only at hj hbi
 refine WC.fr (f := ZX gG5 [(5, iV c), (6, nt9 j), (3, v_3), (4, v_4), (0, lV sa_ls ls.length sc_ls)]) rfl (g9 9 ?_)
 refine WC.cd (fun h13 p13 => ?_) (fun h13 p13 => ?_)
 ·try dsimp only at p13
  refine g9 8 ?_
  refine (ho_3.mono hG5).a2 (i := j) om9 (fun he6 hi7 => (W.ok (Ya (i := j) ZU ty3 (ho_3.mono hG5) rfl rfl ⟨om9, om9⟩) (W.ok (YF (vs := ic9) ty3 he6 pr9 rfl rfl rfl (by simp)) (g9 2 ?_))))
  have q13 := (h_ls.mono (hG4.trans hG5)).at (i := j) om9
  refine match q13 with | ⟨_, he10, ⟨_, e_12, hs11⟩⟩ => ?_
  subst e_12
  obtain ⟨sa_hs11, sc_hs11, rfl⟩ := hs11.form
  refine g9 5 ?_
  refine W.sd 26 (fun h25 p25 => ?_) (fun h25 p25 => ?_)
  ·try dsimp only at p25
   have hpj : (nats ps)[j]'om9 = ((ps[j]'om9 : Nat) : Int) := by simp
   refine g9 6 ?_
   refine W.sd 29 (fun h28 p28 => ?_) (fun h28 p28 => ?_)
   ·try dsimp only at p28
    refine g9 41 ?_
    exact ⟨Le.rfl, ((j + 1, (j : Int)) : Nat × Int), hs9, ⟨rfl, by dsimp only; omega, BI_first hbi p28 om9 (by rw [ZcU om9 om9]; omega)⟩, by dsimp only; omega⟩
   try dsimp only at p28
   obtain ⟨b, hbC, rfl, hbj, hbn⟩ := BI_best hbi p28
   have hpb : (nats ps)[b]'(by simp; omega) = ((ps[b]'om9 : Nat) : Int) := by simp
   rw [ZcU om9 om9] at hbn
   refine g9 5 ?_
   have q17 := (h_ls.mono (hG4.trans hG5)).at (i := j) om9
   refine match q17 with | ⟨_, he14, ⟨_, e_16, hs15⟩⟩ => ?_
   subst e_16
   obtain ⟨sa_hs15, sc_hs15, rfl⟩ := hs15.form
   refine g9 8 ?_
   refine (ho_3.mono hG5).a2 (i := j) om9 (fun he18 hi19 => (W.ok (Ya (i := j) ZU ty3 (ho_3.mono hG5) rfl rfl ⟨om9, om9⟩) (g9 1 ?_)))
   refine W.ok (YF (vs := ic9) ty3 he18 pr9 rfl rfl rfl (by simp)) (g9 1 ?_)
   refine hs15.a2 (i := ps[j]) om9 (fun he22 hm23 => (W.ok (Z1 (i := ps[j]) ZQ ZR hs15 rfl rfl ⟨om9, om9⟩) (g9 9 ?_)))
   have q30 := (h_ls.mono (hG4.trans hG5)).at (i := b) om9
   refine match q30 with | ⟨_, he27, ⟨_, e_29, hs28⟩⟩ => ?_
   subst e_29
   obtain ⟨sa_hs28, sc_hs28, rfl⟩ := hs28.form
   refine g9 8 ?_
   refine (ho_3.mono hG5).a2 (i := b) om9 (fun he31 hi32 => (W.ok (Ya (i := b) ZU ty3 (ho_3.mono hG5) rfl rfl ⟨om9, om9⟩) (g9 1 ?_)))
   refine W.ok (YF (vs := ic9) ty3 he31 pr9 rfl rfl rfl (by simp)) (g9 1 ?_)
   refine hs28.a2 (i := ps[b]) om9 (fun he35 hm36 => (W.ok (Z1 (i := ps[b]) ZQ ZR hs28 rfl rfl ⟨om9, om9⟩) (g9 11 ?_)))
   refine WC.cd (fun h52 p52 => ?_) (fun h52 p52 => ?_)
   ·try dsimp only at p52
    refine g9 12 ?_
    exact ⟨Le.rfl, ((j + 1, (j : Int)) : Nat × Int), hs9, ⟨rfl, by dsimp only; omega, BI_less hbi om9 om9 (by rw [ZcU om9 om9]; omega) (by rw [Zd8 om9 om9 om9 om9, Zd8 om9 om9 om9 om9]; exact p52)⟩, by dsimp only; omega⟩
   try dsimp only at p52
   refine g9 9 ?_
   exact ⟨Le.rfl, ((j + 1, (b : Int)) : Nat × Int), hs9, ⟨rfl, by dsimp only; omega, BI_keep hbi om9 om9 (by rw [Zd8 om9 om9 om9 om9, Zd8 om9 om9 om9 om9]; exact p52)⟩, by dsimp only; omega⟩
  try dsimp only at p25
  have hpj : (nats ps)[j]'om9 = ((ps[j]'om9 : Nat) : Int) := by simp
  refine g9 40 ?_
  exact ⟨Le.rfl, ((j + 1, c) : Nat × Int), hs9, ⟨rfl, by dsimp only; omega, BI_skip hbi om9 (by rw [ZcU om9 om9]; omega)⟩, by dsimp only; omega⟩
 try dsimp only at p13
 refine g9 12 ?_
 refine WC.cd (fun h57 p57 => ?_) (fun h57 p57 => ?_)
 ·try dsimp only at p57
  refine g9 6 ?_
  refine WC.giveO (ho_4.mono hG5) (pmA pr9) (fun G40 hG40 hv40 => (g9 6 ?_))
  refine ⟨rfl, _, rfl, ?_⟩
  · exact SlR.cast hv40 (by rw [← hm, BI_end hbi om9 p57, List.append_nil])
 try dsimp only at p57
 obtain ⟨b, hbC, rfl, hbj, hbn⟩ := BI_best hbi p57
 have hpb : (nats ps)[b]'(by simp; omega) = ((ps[b]'om9 : Nat) : Int) := by simp
 rw [ZcU om9 om9] at hbn
 have hlb := ZtH (ls := ls) (i := b) om9
 have hB : Best (Y8 ls ps) b := BI_done hbi om9
 refine g9 3 ?_
 refine WC.dw sn9 (d9 [0, 1, 2] ?_)
 have q44 := (h_ls.mono (hG4.trans hG5)).at (i := b) om9
 refine match q44 with | ⟨_, he41, ⟨_, e_43, hs42⟩⟩ => ?_
 subst e_43
 obtain ⟨sa_hs42, sc_hs42, rfl⟩ := hs42.form
 refine d9 [3, 4, 5, 6] ?_
 refine (ho_3.mono hG5).a2 (i := b) om9 (fun he45 hi46 => (WD.tk 7 rfl (Ya (i := b) ZU ty3 (ho_3.mono hG5) rfl rfl ⟨om9, om9⟩) (WD.a1 8 rfl (W.ok (YF (vs := ic9) ty3 he45 pr9 rfl rfl rfl (by simp)) (W.nn (hs42.a2 (i := ps[b]) om9 (fun he49 hm50 => (WD.tk 9 rfl (Z1 (i := ps[b]) ZQ ZR hs42 rfl rfl ⟨om9, om9⟩) (d9 [10] ?_)))))))))
 refine WD.a1 11 rfl (W.lit (e := Zp) (l := [(((ls[b]))[ps[b]])]) (css := [[iV _, iV _, sV _, sV _, .bool _, sV _]]) ZQ ZR ZL rfl rfl rfl rfl rfl rfl ⟨⟨rfl, hm50⟩, trivial⟩ (fun bl54 G54 hG54 hv54 => (W.nn (WD.a1 12 rfl (W.app (e := Zp) ZQ ZR ZL rfl XQ rfl rfl ((ho_4.mono lec)) (hv54) (pmA pr9) (by show (_ + 1) * 72 ≤ _; omega) (fun v55 Ms56 ho57 => (W.nn (d9 [13] ?_))))))))
 refine g9 5 ?_
 refine (ho_3.mono (hG5.trans hG54)).a2 (i := b) om9 (fun he58 hi59 => (W.ok (Ya (i := b) ZU ty3 (ho_3.mono lec) rfl rfl ⟨om9, om9⟩) (W.ok (YF (vs := ic9) ty3 he58 (pmA pr9) rfl rfl rfl (by simp)) (W.ok (Ok.int (n := ((ps[b] + 1 : Nat) : Int)) (YT rfl rfl om9) om9) ((ho_3.mono (hG5.trans hG54)).a2 (i := b) om9 (fun he62 hi63 => (W.ok (Ya (i := b) ZU ty3 (ho_3.mono lec) rfl rfl ⟨om9, om9⟩) (W.storeO (i := b) (o := 0) (vs := ic9) (a' := ((ps[b] + 1 : Nat) : Int)) ty3 rfl rfl rfl rfl rfl ((ho_3.mono lec)) (pmA pr9) om9 (by decide) (fun cs h => by rw [h.1]; exact ⟨rfl, om9, om9⟩) (fun Ms66 ho67 => (g9 3 ?_))))))))))
 exact ⟨lec, (((ps.set b (ps[b] + 1), out ++ [(ls[b])[ps[b]]]) : List Nat × List Msg), v_3, Ms66, v55, Ms56), hs9, ⟨rfl, (by have h := ho67; rw [show ((nats ps).set b ((ps[b] + 1 : Nat) : Int)) = nats (ps.set b (ps[b] + 1)) from (List.map_set ..).symm] at h; exact h), (by exact ho57), by dsimp only; rw [List.length_set]; exact hpl, by dsimp only; rw [← hm, Zb3 hB, Zlc hpl om9 om9, ZtG om9 om9 om9 om9, List.append_assoc]; rfl⟩, by dsimp only; rw [← Zlc hpl om9 om9 om9]; have := Zas hB; omega⟩

theorem Zjg {G : GH} {v_l : Value} {l : List Msg} (h_l : SlR Zp G v_l l) (alo : Str) (ahi : Str) (ao : Bool) (hks : ∀ m ∈ l, m.key.b.size < 140737488355328) :
    Fc Tryz.prog 65 [v_l, .agg #[sV alo.b, sV ahi.b, .bool ao]] G [] (fun v G' M' => M' = [] ∧ ∃ u0, v = u0 ∧ SlR Zp G' u0 (Zc ⟨alo, ahi, ao⟩ l)) := by
 obtain ⟨sa_l, sc_l, rfl⟩ := h_l.form
 have hl := h_l.len47
 have hlb : l.length * 72 ≤ 140737488355328 := h_l.bytes
 refine Fc.go [.tmp 4] Tryz.func65 Tryz.ntmps65 rfl (fun w0 => (g9 2 ?_))
 refine W.box (L := [sV _, sV _, .bool _]) rfl rfl (fun b1 => (g9 15 ?_))
 refine WC.loop (X := (Nat) × Value × MH) (fun i => [(6, nt9 i.1), (3, pt9 b1), (0, lV sa_l l.length sc_l), (5, i.2.1)]) (fun i G Ml => Ml = ((b1, ce9 62 [sV alo.b, sV ahi.b, .bool ao]) :: (i.2.2 ++ [])) ∧ OwnR Zp 87 G i.2.1 (Zc ⟨alo, ahi, ao⟩ (l.take i.1)) i.2.2 ∧ i.1 ≤ l.length) (fun i => l.length - i.1) (0, lV none 0 0, ([] : MH)) hs9 ?_ ?_
 ·exact ⟨rfl, (by exact OwnR.nil), om9⟩
 rintro ⟨i, v_5, M_5⟩ gG2 G2 _ hG2 ⟨rfl, ho_5, hi⟩
 try dsimp only at ho_5 hi
 have hcl := ZaA (s := ⟨alo, ahi, ao⟩) (l := l.take i)
 have htl : (l.take i).length ≤ i := by simp; omega
 refine WC.fr (f := ZX gG2 [(6, nt9 i), (3, pt9 b1), (0, lV sa_l l.length sc_l), (5, v_5)]) rfl (g9 9 ?_)
 refine WC.cd (fun h12 p12 => ?_) (fun h12 p12 => ?_)
 ·refine g9 5 ?_
  refine WC.dw sr9.k9 (d9 [0, 1] ?_)
  refine (h_l.mono hG2).a2 (i := i) om9 (fun he3 hm4 => (d9 [2, 3, 4] ?_))
  refine WD.any [5, 9] (by kernel_rfl) rfl ⟨WD.ap ?_, WD.ap ?_, trivial⟩
  ·refine W.qcall (Zih _ _ _ _ _ _ _ _ _ (hks _ (List.getElem_mem _))) rfl (W.nn (d9 [6, 7, 8] ?_))
   refine WD.a1 9 rfl (W.alloc ZL (fun b8 => (W.nn (d9 [10, 11] ?_))))
   refine g9 7 ?_
   refine WC.cond rfl (fun h21_1 => ?_) (fun h21_1 => ?_)
   ·refine g9 3 ?_
    refine W.lit (e := Zp) (l := [(Msg.clip l[i] ⟨alo, ahi, ao⟩).1]) (css := [[iV _, iV _, sV _, sV _, .bool _, sV _]]) ZQ ZR ZL rfl rfl rfl rfl rfl rfl ⟨⟨rfl, Zcj (by assumption)⟩, trivial⟩ (fun bl9 G9 hG9 hv9 => (W.app (e := Zp) ZQ ZR ZL rfl XQ rfl rfl ((ho_5.mono hG9)) (hv9) (pmC (pmC pr9)) (by show ((Zc ⟨alo, ahi, ao⟩ (l.take i)).length + 1) * 72 ≤ _; omega) (fun v10 Ms11 ho12 => (W.perm (pmC (pmC pr9)).symm (g9 8 ?_)))))
    refine W.sub (sr9.cons _) (g9 2 ?_)
    exact ⟨hG9, (i + 1, v10, Ms11), hs9, ⟨rfl, (by have h := ho12; rw [ZeB om9 h21_1]; exact h), om9⟩, om9⟩
   refine g9 7 ?_
   refine W.sub (sr9.cons _) (g9 2 ?_)
   exact ⟨Le.rfl, (i + 1, v_5, M_5), hs9, ⟨rfl, (by have h := ho_5; rw [ZeC om9 h21_1]; exact h), om9⟩, om9⟩
  refine W.alloc ZL (fun b13 => (W.nn (WD.a1 5 rfl (W.qcall (Zih _ _ _ _ _ _ _ _ _ (hks _ (List.getElem_mem _))) rfl (W.nn (d9 [6, 7, 8, 10, 11] ?_))))))
  refine g9 7 ?_
  refine WC.cond rfl (fun h21_1 => ?_) (fun h21_1 => ?_)
  ·refine g9 3 ?_
   refine W.lit (e := Zp) (l := [(Msg.clip l[i] ⟨alo, ahi, ao⟩).1]) (css := [[iV _, iV _, sV _, sV _, .bool _, sV _]]) ZQ ZR ZL rfl rfl rfl rfl rfl rfl ⟨⟨rfl, Zcj (by assumption)⟩, trivial⟩ (fun bl14 G14 hG14 hv14 => (W.app (e := Zp) ZQ ZR ZL rfl XQ rfl rfl ((ho_5.mono hG14)) (hv14) (pmC (pmC pr9)) (by show ((Zc ⟨alo, ahi, ao⟩ (l.take i)).length + 1) * 72 ≤ _; omega) (fun v15 Ms16 ho17 => (W.perm (pmC (pmC pr9)).symm (g9 8 ?_)))))
   refine W.sub (sr9.cons _) (g9 2 ?_)
   exact ⟨hG14, (i + 1, v15, Ms16), hs9, ⟨rfl, (by have h := ho17; rw [ZeB om9 h21_1]; exact h), om9⟩, om9⟩
  refine g9 7 ?_
  refine W.sub (sr9.cons _) (g9 2 ?_)
  exact ⟨Le.rfl, (i + 1, v_5, M_5), hs9, ⟨rfl, (by have h := ho_5; rw [ZeC om9 h21_1]; exact h), om9⟩, om9⟩
 refine g9 11 ?_
 refine WC.giveO ho_5 (pmC pr9) (fun G18 hG18 hv18 => (g9 2 ?_))
 refine ⟨rfl, _, rfl, ?_⟩
 · have h := hv18; rw [List.take_of_length_le om9] at h; exact h

theorem Zdx {G : GH} {v_l : Value} {l : List Msg} (h_l : SlR Zp G v_l l) (alo : Str) (ahi : Str) (ao : Bool) (hks : ∀ m ∈ l, m.key.b.size < 140737488355328) :
    Fc Tryz.prog 183 [v_l, .agg #[sV alo.b, sV ahi.b, .bool ao]] G [] (fun v G' M' => M' = [] ∧ ∃ u0, v = u0 ∧ SlR Zp G' u0 (Zc ⟨alo, ahi, ao⟩ l)) := by
 obtain ⟨sa_l, sc_l, rfl⟩ := h_l.form
 have hl := h_l.len47
 have hlb : l.length * 72 ≤ 140737488355328 := h_l.bytes
 refine Fc.go [.tmp 4] Tryz.func183 Tryz.ntmps183 rfl (fun w0 => (g9 2 ?_))
 refine W.box (L := [sV _, sV _, .bool _]) rfl rfl (fun b19 => (g9 17 ?_))
 refine WC.loop (X := (Nat) × Value × MH) (fun i => [(10, lV sa_l l.length sc_l), (11, nt9 l.length), (12, nt9 i.1), (3, pt9 b19), (5, i.2.1)]) (fun i G Ml => Ml = ((b19, ce9 62 [sV alo.b, sV ahi.b, .bool ao]) :: (i.2.2 ++ [])) ∧ OwnR Zp 87 G i.2.1 (Zc ⟨alo, ahi, ao⟩ (l.take i.1)) i.2.2 ∧ i.1 ≤ l.length) (fun i => l.length - i.1) (0, lV none 0 0, ([] : MH)) hs9 ?_ ?_
 ·exact ⟨rfl, (by exact OwnR.nil), om9⟩
 rintro ⟨i, v_5, M_5⟩ gG20 G20 _ hG20 ⟨rfl, ho_5, hi⟩
 try dsimp only at ho_5 hi
 have hcl := ZaA (s := ⟨alo, ahi, ao⟩) (l := l.take i)
 have htl : (l.take i).length ≤ i := by simp; omega
 refine WC.fr (f := ZX gG20 [(10, lV sa_l l.length sc_l), (11, nt9 l.length), (12, nt9 i), (3, pt9 b19), (5, v_5)]) rfl (g9 6 ?_)
 refine WC.cd (fun h13 p13 => ?_) (fun h13 p13 => ?_)
 ·refine g9 6 ?_
  refine (h_l.mono hG20).a2 (i := i) om9 (fun he21 hm22 => (g9 2 ?_))
  refine W.alloc ZL (fun b26 => (g9 7 ?_))
  refine W.qcall (Zfa _ _ _ _ _ _ _ _ _ (hks _ (List.getElem_mem _))) rfl (g9 3 ?_)
  refine W.alloc ZL (fun b27 => (g9 9 ?_))
  refine WC.cond rfl (fun h19_1 => ?_) (fun h19_1 => ?_)
  ·refine g9 3 ?_
   refine W.lit (e := Zp) (l := [(Msg.clip l[i] ⟨alo, ahi, ao⟩).1]) (css := [[iV _, iV _, sV _, sV _, .bool _, sV _]]) ZQ ZR ZL rfl rfl rfl rfl rfl rfl ⟨⟨rfl, Zcj (by assumption)⟩, trivial⟩ (fun bl28 G28 hG28 hv28 => (W.app (e := Zp) ZQ ZR ZL rfl XQ rfl rfl ((ho_5.mono hG28)) (hv28) (pmC (pmC (pmC pr9))) (by show ((Zc ⟨alo, ahi, ao⟩ (l.take i)).length + 1) * 72 ≤ _; omega) (fun v29 Ms30 ho31 => (W.perm (pmC (pmC (pmC pr9))).symm (g9 7 ?_)))))
   refine W.sub ((sr9.cons _).cons _) (g9 2 ?_)
   exact ⟨hG28, (i + 1, v29, Ms30), hs9, ⟨rfl, (by have h := ho31; rw [ZeB om9 h19_1]; exact h), om9⟩, om9⟩
  refine g9 6 ?_
  refine W.sub ((sr9.cons _).cons _) (g9 2 ?_)
  exact ⟨Le.rfl, (i + 1, v_5, M_5), hs9, ⟨rfl, (by have h := ho_5; rw [ZeC om9 h19_1]; exact h), om9⟩, om9⟩
 refine g9 11 ?_
 refine WC.giveO ho_5 (pmC pr9) (fun G32 hG32 hv32 => (g9 2 ?_))
 refine ⟨rfl, _, rfl, ?_⟩
 · have h := hv32; rw [List.take_of_length_le om9] at h; exact h

theorem Zjh {G : GH} {v_l : Value} {l : List Nd} (h_l : SlR ZA G v_l l) (i : Int) :
    Fc Tryz.prog 60 [v_l, iV i] G [] (fun v G' M' => M' = [] ∧ ∃ u0, v = .tuple #[.agg (List.toArray u0), .bool ((Zr l i).2)] ∧ NodeC G' u0 ((Zr l i).1)) := by
 obtain ⟨sa_l, sc_l, rfl⟩ := h_l.form
 have hl := h_l.len47
 have hok : ∀ n ∈ l, n.Ok := h_l.nok
 refine Fc.go [.cell 4 60, .tmp 5] Tryz.func60 Tryz.ntmps60 rfl (fun w0 => (g9 2 ?_))
 refine W.alloc Zo (fun b1 => (g9 5 ?_))
 refine W.ok (ZD (L := [iV _, iV _, lV _ _ _, lV _ _ _, sV _, .bool _, iV _, iV _, lV _ _ _, lV _ _ _]) J3 Zo rfl rfl rfl) (W.alloc Zo (fun b2 => (g9 15 ?_)))
 refine WC.loop (X := (Nat) × List Value) (fun k => [(7, nt9 ((atS (l.take k.1) i).length)), (8, nt9 k.1), (4, pt9 b1), (6, pt9 b2), (0, lV sa_l l.length sc_l), (1, iV i)]) (fun k G Ml => Ml = [(b2, .cells (List.toArray k.2) 60 (0, 0)), (b1, ce9 60 nz9)] ∧ NodeC G k.2 ((atS (l.take k.1) i).getLast?.getD Nd.zero) ∧ k.1 ≤ l.length) (fun k => l.length - k.1) (0, (nz9 : List Value)) hs9 ?_ ?_
 ·exact ⟨rfl, (by exact ⟨_, _, _, _, _, _, _, _, rfl, SlR.nil, SlR.nil, SlR.nil, SlR.nil, Nd.zero_ok⟩), om9⟩
 rintro ⟨k, C_6⟩ gG3 G3 _ hG3 ⟨rfl, ho_6, hk⟩
 try dsimp only at ho_6 hk
 have hal := ZtI l i k
 refine match ho_6 with | ⟨pa_nb4, pc_nb4, ka_nb4, kc_nb4, ma_nb4, mc_nb4, ra_nb4, rc_nb4, e_5, hp_nb4, hk_nb4, hm_nb4, hr_nb4, hok_nb4⟩ => ?_
 subst e_5
 refine WC.fr (f := ZX gG3 [(7, nt9 ((atS (l.take k) i).length)), (8, nt9 k), (4, pt9 b1), (6, pt9 b2), (0, lV sa_l l.length sc_l), (1, iV i)]) rfl (g9 9 ?_)
 refine WC.cd (fun h13 p13 => ?_) (fun h13 p13 => ?_)
 ·refine g9 8 ?_
  refine (h_l.mono hG3).aN (i := k) om9 (fun _ _ _ _ _ _ _ _ he6 hp_n7 hk_n7 hm_n7 hr_n7 hok_n7 => (g9 7 ?_))
  refine WC.cd (fun h22 p22 => ?_) (fun h22 p22 => ?_)
  ·refine g9 4 ?_
   refine (h_l.mono hG3).aN (i := k) om9 (fun pa_n11 pc_n11 ka_n11 kc_n11 ma_n11 mc_n11 ra_n11 rc_n11 he10 hp_n11 hk_n11 hm_n11 hr_n11 hok_n11 => (g9 18 ?_))
   exact ⟨Le.rfl, (k + 1, (ndl ((l)[k]) pa_n11 pc_n11 ka_n11 kc_n11 ma_n11 mc_n11 ra_n11 rc_n11)), ⟨(congrArg (fun n : Nat => Value.int .i64 (n : Int)) (by rw [Zgz om9 p22]; simp)), eqv, eqv, eqv, eqv, eqv, trivial⟩, ⟨rfl, (by have h0 : NodeC _ _ (l[k]'om9) := (nk9 hp_n11 hk_n11 hm_n11 hr_n11 hok_n11); rw [Zgz om9 p22, ZtK]; exact h0), om9⟩, om9⟩
  refine g9 9 ?_
  exact ⟨Le.rfl, (k + 1, (ndl ((atS (l.take k) i).getLast?.getD Nd.zero) pa_nb4 pc_nb4 ka_nb4 kc_nb4 ma_nb4 mc_nb4 ra_nb4 rc_nb4)), ⟨(congrArg (fun n : Nat => Value.int .i64 (n : Int)) (by rw [ZgA om9 p22])), eqv, eqv, eqv, eqv, eqv, trivial⟩, ⟨rfl, (by have h0 : NodeC _ _ ((atS (l.take k) i).getLast?.getD Nd.zero) := (nk9 hp_nb4 hk_nb4 hm_nb4 hr_nb4 hok_nb4); rw [ZgA om9 p22]; exact h0), om9⟩, om9⟩
 refine g9 16 ?_
 exact ⟨rfl, _, congrArg (fun b : Bool => Value.tuple #[.agg (List.toArray _), .bool b]) (find_b om9), NodeC.of (nk9 hp_nb4 hk_nb4 hm_nb4 hr_nb4 hok_nb4) (ZtJ om9)⟩

theorem Zfz {G : GH} {v_l : Value} {l : List Nd} (h_l : SlR ZA G v_l l) (i : Int) (hS : Sml l) :
    Fc Tryz.prog 23 [v_l, iV i] G [] (fun v G' M' => M' = [] ∧ ((∃ u ss, Y4 l i = some ss ∧ v = .tuple #[u, .bool true] ∧ SlR Zat G' u ss ∧ QS l ss) ∨ (∃ u ss, Y4 l i = none ∧ v = .tuple #[u, .bool false] ∧ SlR Zat G' u ss))) := by
 obtain ⟨sa_l, sc_l, rfl⟩ := h_l.form
 have hl := h_l.len47
 have hl100 := hS.1
 refine Fc.go [.tmp 4, .tmp 5] Tryz.func23 Tryz.ntmps23 rfl (fun w0 => (g9 10 ?_))
 refine W.cN (Zjh h_l _) rfl (fun _ _ _ _ _ _ _ _ G14 hG14 hp_hv15 hk_hv15 hm_hv15 hr_hv15 hok_hv15 => (g9 3 ?_))
 refine W.alloc Zo (fun b20 => (g9 11 ?_))
 refine WC.cond rfl (fun h23 => ?_) (fun h23 => ?_)
 ·refine g9 9 ?_
  exact ⟨rfl, .inr ⟨_, [], ZtT (by simpa using h23), rfl, SlR.nil⟩⟩
 have hq0 := QOk.init (l := l) (root := i) (by simpa using h23)
 refine g9 5 ?_
 refine W.ok (ZD (L := [sV _, sV _, .bool _]) Xe Zy rfl rfl rfl) (W.ok (ZD (L := [iV _, iV _, lV _ _ _, lV _ _ _, sV _, .bool _, iV _, iV _, lV _ _ _, lV _ _ _, sV _, sV _, .bool _, lV _ _ _]) Zh6 Zag rfl rfl rfl) (W.litO (e := Zat) (l := [(Zm l i)]) (css := [[iV _, iV _, lV _ _ _, lV _ _ _, sV _, .bool _, iV _, iV _, lV _ _ _, lV _ _ _, sV _, sV _, .bool _, lV _ _ _]]) Za0 ZaC Zag rfl rfl rfl rfl rfl rfl ⟨⟨_, _, _, _, _, _, _, _, _, _, rfl, hp_hv15, hk_hv15, hm_hv15, hr_hv15, SlR.nil, hok_hv15⟩, trivial⟩ (fun v21 Ms22 ho23 => (W.perm (pmC pr9).symm (g9 5 ?_)))))
 refine WC.sub (sr9.cons _) (g9 5 ?_)
 refine WC.loop (X := (Nat × List Seat) × Value × MH) (fun x => [(9, nt9 x.1.1), (0, lV sa_l l.length sc_l), (8, x.2.1)]) (fun x G Ml => Ml = (x.2.2 ++ []) ∧ OwnR Zat 64 G x.2.1 (x.1.2) x.2.2 ∧ QOk l i x.1.1 x.1.2 ∧ QS l x.1.2) (fun x => l.length + 1 - x.1.1) (((0, [Zm l i]) : Nat × List Seat), v21, Ms22) hs9 ?_ ?_
 ·exact ⟨rfl, (by exact ho23), hq0, QS.init hS i⟩
 rintro ⟨⟨q, out⟩, v_8, M_8⟩ gG24 G24 _ hG24 ⟨rfl, ho_8, hq, hqs⟩
 try dsimp only at ho_8 hq hqs
 have hq1 := hq.le
 have hq2 := hq.len
 have hq3 := hq.pos
 refine WC.fr (f := ZX gG24 [(9, nt9 q), (0, lV sa_l l.length sc_l), (8, v_8)]) rfl (g9 9 ?_)
 refine WC.cd (fun h31 p31 => ?_) (fun h31 p31 => ?_)
 ·refine g9 8 ?_
  have q28 := ho_8.at (i := q) om9
  refine match q28 with | ⟨_, he25, ⟨pa_t26, pc_t26, ka_t26, kc_t26, ma_t26, mc_t26, ra_t26, rc_t26, qa_t26, qc_t26, e_27, hp_t26, hk_t26, hm_t26, hr_t26, hq_t26, hok_t26⟩⟩ => ?_
  subst e_27
  obtain ⟨sx, hssx⟩ : ∃ y, y = ((out)[q]) := ⟨_, rfl⟩
  rw [← hssx] at he25 hp_t26 hk_t26 hm_t26 hr_t26 hq_t26 hok_t26
  refine W.ok (Ya (i := q) Za0 ZaC ho_8 rfl rfl ⟨om9, om9⟩) (W.ok (YF (vs := [iV _, iV _, lV _ _ _, lV _ _ _, sV _, .bool _, iV _, iV _, lV _ _ _, lV _ _ _, sV _, sV _, .bool _, lV _ _ _]) ZaC he25 pr9 rfl rfl rfl (by simp)) (W.alloc Zag (fun b29 => (g9 13 ?_))))
  refine WC.cd (fun h42 p42 => ?_) (fun h42 p42 => ?_)
  ·refine g9 7 ?_
   refine WC.giveO ho_8 (pmC pr9) (fun G30 hG30 hv30 => (g9 8 ?_))
   exact ⟨rfl, .inr ⟨_, _, hq.long om9 om9, rfl, hv30⟩⟩
  refine g9 4 ?_
  obtain ⟨hlv1, hlv2⟩ := hok_t26.2.1
  have hsx := hqs q om9
  rw [← hssx] at hsx
  have hnd := hS.at hsx.nd
  have hnk : sx.n.kids.length ≤ 4000 := hnd.1
  have hk1 : ∀ m ∈ sx.n.msgs, m.key.b.size < 140737488355328 := fun m hm => by have := hnd.2.2.2.2.2.1 m hm; omega
  have hk2 : ∀ m ∈ sx.ms, m.key.b.size < 140737488355328 := fun m hm => by have := hsx.key m hm; omega
  refine g9 7 ?_
  refine WC.cd (fun h47 p47 => ?_) (fun h47 p47 => ?_)
  ·refine g9 8 ?_
   refine W.sub (sr9.cons _) (g9 2 ?_)
   exact ⟨Le.rfl, (((q + 1, out ++ []) : Nat × List Seat), v_8, M_8), hs9, ⟨rfl, (by rw [List.append_nil]; exact ho_8), hq.next om9 om9 (by rw [← hssx]; exact Zau p47), by dsimp only; rw [List.append_nil]; exact hqs⟩, by dsimp only; omega⟩
  refine g9 10 ?_
  refine W.sd 52 (fun h51 p51 => ?_) (fun h51 p51 => ?_)
  ·refine g9 19 ?_
   refine WC.giveO ho_8 (pmC pr9) (fun G31 hG31 hv31 => (g9 8 ?_))
   exact ⟨rfl, .inr ⟨_, _, hq.none om9 (by rw [← hssx]; exact Zle p47 (.inl p51)), rfl, hv31⟩⟩
  refine g9 13 ?_
  refine W.qcall (Zie hp_t26 hk_t26) rfl (g9 5 ?_)
  refine WC.cond rfl (fun h60 => ?_) (fun h60 => ?_)
  ·refine g9 7 ?_
   refine WC.giveO ho_8 (pmC pr9) (fun G32 hG32 hv32 => (g9 8 ?_))
   exact ⟨rfl, .inr ⟨_, _, hq.none om9 (by rw [← hssx]; exact Zle p47 (.inr (by simpa using h60))), rfl, hv32⟩⟩
  refine g9 8 ?_
  refine WC.loop (X := (Nat) × Value × MH) (fun j => [(11, nt9 j.1), (10, pt9 b29), (0, lV sa_l l.length sc_l), (9, nt9 q), (8, j.2.1)]) (fun j G Ml => Ml = ((b29, ce9 64 [iV sx.n.slot, iV sx.n.level, lV pa_t26 (sx.n.pivots).length pc_t26, lV ka_t26 (sx.n.kids).length kc_t26, sV sx.n.high.b, .bool sx.n.top, iV sx.n.right, iV sx.n.seen, lV ma_t26 (sx.n.msgs).length mc_t26, lV ra_t26 (sx.n.rows).length rc_t26, sV (sx.s).lo.b, sV (sx.s).hi.b, .bool (sx.s).opn, lV qa_t26 (sx.ms).length qc_t26]) :: (j.2.2 ++ [])) ∧ OwnR Zat 64 G j.2.1 (out ++ YL l sx j.1) j.2.2 ∧ j.1 ≤ sx.n.kids.length ∧ (∀ j2, j2 < j.1 → YS l sx j2 = true) ∧ QS l (out ++ YL l sx j.1)) (fun j => sx.n.kids.length - j.1) (0, v_8, M_8) hs9 ?_ ?_
  ·exact ⟨rfl, (by rw [show YL l sx 0 = [] from rfl, List.append_nil]; exact ho_8), om9, (fun j2 h => by omega), by rw [show YL l sx 0 = [] from rfl, List.append_nil]; exact hqs⟩
  rintro ⟨j, v_8, M_8⟩ gG33 G33 _ hG33 ⟨rfl, ho_8, hj, hjk, hqj⟩
  try dsimp only at ho_8 hj hjk hqj
  have hkl := JV l sx j
  refine WC.fr (f := ZX gG33 [(11, nt9 j), (10, pt9 b29), (0, lV sa_l l.length sc_l), (9, nt9 q), (8, v_8)]) rfl (g9 11 ?_)
  refine WC.cd (fun h68 p68 => ?_) (fun h68 p68 => ?_)
  ·refine g9 11 ?_
   refine (hk_t26.mono hG33).a2 (i := j) om9 (fun he34 hi35 => (g9 2 ?_))
   refine W.cN (Zjh (h_l.mono lec) (sx.n.kids[j]'om9)) rfl (fun pa_hv39 pc_hv39 ka_hv39 kc_hv39 ma_hv39 mc_hv39 ra_hv39 rc_hv39 G38 hG38 hp_hv39 hk_hv39 hm_hv39 hr_hv39 hok_hv39 => (g9 3 ?_))
   refine W.alloc Zo (fun b44 => (g9 10 ?_))
   refine W.sp 84 rfl (fun h83 => ?_) (fun h83 => ?_)
   ·refine g9 18 ?_
    refine WC.giveO (ho_8.mono hG38) (pmC (pmC pr9)) (fun G45 hG45 hv45 => (g9 12 ?_))
    exact ⟨rfl, .inr ⟨_, _, hq.none om9 (by rw [← hssx]; exact Zlf (j := j) p47 om9 (ZtP om9 (by simpa using h83))), rfl, hv45⟩⟩
   refine g9 17 ?_
   refine WC.cn (fun h91 p91 => ?_) (fun h91 p91 => ?_)
   ·refine g9 7 ?_
    refine WC.giveO (ho_8.mono hG38) (pmC (pmC pr9)) (fun G46 hG46 hv46 => (g9 12 ?_))
    exact ⟨rfl, .inr ⟨_, _, hq.none om9 (by rw [← hssx]; exact Zlf (j := j) p47 om9 (ZtQ om9 p91)), rfl, hv46⟩⟩
   refine g9 2 ?_
   refine WC.join (X := (Unit) × Nat) (fun u21 => [(8, v_8), (10, pt9 b29), (12, pt9 b44), (0, lV sa_l l.length sc_l), (9, nt9 q), (11, nt9 j), (14, .pointer (some ⟨u21.2, 0, none⟩))]) (fun u21 G Ml => Ml = ((u21.2, ce9 62 [sV ((sx.s.meet (Zf sx.n.pivots (j : Int)))).lo.b, sV ((sx.s.meet (Zf sx.n.pivots (j : Int)))).hi.b, .bool ((sx.s.meet (Zf sx.n.pivots (j : Int)))).opn]) :: ((b44, ce9 60 (ndl ((Zr l (sx.n.kids[j])).1) pa_hv39 pc_hv39 ka_hv39 kc_hv39 ma_hv39 mc_hv39 ra_hv39 rc_hv39)) :: ((b29, ce9 64 [iV sx.n.slot, iV sx.n.level, lV pa_t26 (sx.n.pivots).length pc_t26, lV ka_t26 (sx.n.kids).length kc_t26, sV sx.n.high.b, .bool sx.n.top, iV sx.n.right, iV sx.n.seen, lV ma_t26 (sx.n.msgs).length mc_t26, lV ra_t26 (sx.n.rows).length rc_t26, sV (sx.s).lo.b, sV (sx.s).hi.b, .bool (sx.s).opn, lV qa_t26 (sx.ms).length qc_t26]) :: (M_8 ++ []))))) ?_ ?_
   ·refine WC.dw (sr9.k9.k9) (d9 [0, 1, 2, 3, 4, 5] ?_)
    refine WD.any [6, 8] (by kernel_rfl) rfl ⟨WD.ap ?_, WD.ap ?_, trivial⟩
    ·refine W.qcall (Zif (hp_t26.mono lec) _ ⟨om9, om9⟩) rfl (W.nn ?_)
     refine WD.any [7, 8] (by kernel_rfl) rfl ⟨WD.ap ?_, WD.ap ?_, trivial⟩
     ·refine W.qcall (Za4 _ _ _ _ _ _) rfl (W.nn (WD.a1 8 rfl (W.alloc Zy (fun b47 => (W.nn (d9 [9] ?_))))))
      refine g9 2 ?_
      exact ⟨Le.rfl, ((), b47), hs9, rfl⟩
     refine W.alloc Zy (fun b48 => (W.nn (WD.a1 7 rfl (W.qcall (Za4 _ _ _ _ _ _) rfl (W.nn (d9 [9] ?_))))))
     refine g9 2 ?_
     exact ⟨Le.rfl, ((), b48), hs9, rfl⟩
    refine W.alloc Zy (fun b49 => (W.nn (WD.a1 6 rfl (W.qcall (Zif (hp_t26.mono lec) _ ⟨om9, om9⟩) rfl (W.nn (WD.a1 7 rfl (W.qcall (Za4 _ _ _ _ _ _) rfl (W.nn (d9 [9] ?_)))))))))
    refine g9 2 ?_
    exact ⟨Le.rfl, ((), b49), hs9, rfl⟩
   rintro ⟨u21, B_14⟩ gG50 G50 _ hG50 rfl
   refine WC.seq (WC.dw ((sn9.k9.k9).k9) (d9 [0, 1, 2, 3, 5, 6, 7] ?_))
   refine WD.a1 4 rfl (W.cS (Zjg (hm_t26.mono lec) _ _ _ hk1) rfl (fun sa_hv52 sc_hv52 G51 hG51 hv52 => (W.nn (WD.a1 8 rfl (W.cS (Zjg (hq_t26.mono lec) _ _ _ hk2) rfl (fun sa_hv59 sc_hv59 G58 hG58 hv59 => (W.nn (WD.a1 9 rfl (W.lit (e := (eSl Zp)) (l := [(Zc (sx.s.meet (Zf sx.n.pivots (j : Int))) sx.n.msgs), (Zc (sx.s.meet (Zf sx.n.pivots (j : Int))) sx.ms)]) (css := [[lV _ _ _], [lV _ _ _]]) Za3 Za2 Zcv rfl rfl rfl rfl rfl rfl ⟨⟨_, rfl, (hv52.mono hG58)⟩, ⟨_, rfl, hv59⟩, trivial⟩ (fun bl65 G65 hG65 hv65 => (W.nn (WD.a1 10 rfl (W.cS (Zp2 hv65 (by first | omega | exact Nat.le_trans (Zln hS hsx _) om9) (by show 2 ≤ 100000; omega)) rfl (fun sa_hv67 sc_hv67 G66 hG66 hv67 => (W.nn (d9 [11] ?_))))))))))))))))
   refine g9 7 ?_
   refine W.ok (ZD (L := [iV _, iV _, lV _ _ _, lV _ _ _, sV _, .bool _, iV _, iV _, lV _ _ _, lV _ _ _, sV _, sV _, .bool _, lV _ _ _]) Zh6 Zag rfl rfl rfl) (W.lit (e := Zat) (l := [(Zb l sx j)]) (css := [[iV _, iV _, lV _ _ _, lV _ _ _, sV _, .bool _, iV _, iV _, lV _ _ _, lV _ _ _, sV _, sV _, .bool _, lV _ _ _]]) Za0 ZaC Zag rfl rfl rfl rfl rfl rfl ⟨ZtS om9 ⟨_, _, _, _, _, _, _, _, _, _, rfl, (hp_hv39.mono lec), (hk_hv39.mono lec), (hm_hv39.mono lec), (hr_hv39.mono lec), hv67, hok_hv39⟩, trivial⟩ (fun bl73 G73 hG73 hv73 => (W.app (e := Zat) Za0 ZaC Zag rfl ZnI rfl rfl ((ho_8.mono lec)) (hv73) (pmC (pmC (pmC pr9))) (by show (List.length _ + 1) * 216 ≤ _; rw [List.length_append]; omega) (fun v74 Ms75 ho76 => (W.perm (pmC (pmC (pmC pr9))).symm (g9 8 ?_))))))
   refine W.sub ((sr9.cons _).cons _) (g9 2 ?_)
   exact ⟨lec, (j + 1, v74, Ms75), hs9, ⟨rfl, (by have h0 := ho76; rw [Zlh, ← List.append_assoc]; exact h0), om9, ZtR om9 hjk (by simpa using h83) p91, (by rw [Zlh, ← List.append_assoc]; exact hqj.snoc hS hsx (by rw [List.length_append]; omega) j)⟩, om9⟩
  refine g9 10 ?_
  refine W.sub (sr9.cons _) (g9 2 ?_)
  exact ⟨hG33, (((q + 1, out ++ YL l sx sx.n.kids.length) : Nat × List Seat), v_8, M_8), hs9, ⟨rfl, (by have h0 := ho_8; rw [show j = sx.n.kids.length by omega] at h0; exact h0), hq.next om9 om9 (by rw [← hssx]; exact Zlg p47 p51 (by simpa using h60) (fun j2 h2 => hjk j2 om9)), by dsimp only; rw [show sx.n.kids.length = j by omega]; exact hqj⟩, by dsimp only; omega⟩
 refine g9 12 ?_
 refine WC.giveO ho_8 pr9 (fun G77 hG77 hv77 => (g9 2 ?_))
 exact ⟨rfl, .inl ⟨_, _, hq.done om9, rfl, hv77, hqs⟩⟩

end Go.Proofs.YtbbemibbmbmamaaGreat
