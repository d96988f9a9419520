/- Where the first element stands that meets a test; deletion of elements in place. Plain Lean; nothing of the program is named here. No condition. -/
import Derived.Test.YtmbafmifalppaaaGreatQcW2
set_option linter.unusedVariables false
set_option linter.unusedSimpArgs false
set_option linter.unnecessarySimpa false
set_option maxRecDepth 100000
set_option maxHeartbeats 1600000

namespace Go.Fw
section
variable {α : Type} {q : α → Bool} {l m : List α}
def idxN (q : α → Bool) (l : List α) : Int := match l.findIdx? q with
 | some i => i
 | none => -1
theorem idxN_at {k : Nat} (hk : k < l.length) (h : q l[k] = true) (hj : ∀ j (h : j < l.length), j < k → q l[j] = false) : idxN q l = k := by
 have e : l.findIdx? q = some k := by
  rw [List.findIdx?_eq_some_iff_getElem]
  exact ⟨hk, h, fun j hji => by have := hj j (by omega) hji; simp [this]⟩
 unfold idxN; rw [e]
theorem idxN_no (h : ∀ j (h : j < l.length), q l[j] = false) : idxN q l = -1 := by
 have e : l.findIdx? q = none := by
  rw [List.findIdx?_eq_none_iff]
  intro x hx
  obtain ⟨j, hj, rfl⟩ := List.getElem_of_mem hx
  exact h j hj
 unfold idxN; rw [e]
theorem idxN_cases (q : α → Bool) (l : List α) : (idxN q l = -1 ∧ ∀ x ∈ l, q x = false) ∨ ∃ k, ∃ h : k < l.length, idxN q l = (k : Nat) ∧ q l[k] = true ∧ ∀ j (h : j < l.length), j < k → q l[j] = false := by
 cases e : l.findIdx? q with
 | none =>
  left
  refine ⟨by unfold idxN; rw [e], ?_⟩
  exact List.findIdx?_eq_none_iff.1 e
 | some k =>
  right
  obtain ⟨h1, h2, h3⟩ := List.findIdx?_eq_some_iff_getElem.1 e
  exact ⟨k, h1, by unfold idxN; rw [e], h2, fun j hj hji => by have := h3 j hji; simpa using this⟩
theorem idxN_le (q : α → Bool) (l : List α) : -1 ≤ idxN q l ∧ idxN q l < (l.length : Nat) := by
 rcases idxN_cases q l with ⟨h, _⟩ | ⟨k, h1, h2, _⟩
 ·omega
 ·omega
theorem idx_none (h : idxN q l = -1) : l.filter (fun a => !q a) = l := by
 rcases idxN_cases q l with ⟨_, h2⟩ | ⟨k, h1, h2, _⟩
 ·exact List.filter_eq_self.2 fun a ha => by rw [h2 a ha]; rfl
 ·omega
theorem idx_first (h : ¬ idxN q l = -1) : l.take (idxN q l).toNat = (l.take ((idxN q l).toNat + 1)).filter (fun a => !q a) := by
 rcases idxN_cases q l with ⟨h1, _⟩ | ⟨k, h1, h2, h3, h4⟩
 ·exact absurd h1 h
 ·rw [h2]
  simp only [Int.toNat_natCast]
  rw [filt_f (p := fun a => !q a) h1 (by rw [h3]; rfl)]
  symm
  refine List.filter_eq_self.2 fun a ha => ?_
  obtain ⟨j, hj, rfl⟩ := List.getElem_of_mem ha
  simp only [List.length_take] at hj
  rw [List.getElem_take, h4 j (by omega) (by omega)]; rfl
theorem drop_get {j : Nat} (hj : j < m.length) (hl : j < l.length) (h : m.drop j = l.drop j) : m[j] = l[j] := by
 rw [List.drop_eq_getElem_cons hj, List.drop_eq_getElem_cons hl] at h
 exact (List.cons.inj h).1
theorem drop_succ_of {j : Nat} (h : m.drop j = l.drop j) : m.drop (j + 1) = l.drop (j + 1) := by
 have := congrArg (List.drop 1) h
 rwa [List.drop_drop, List.drop_drop] at this
theorem del_keep {i j : Nat} {p : α → Bool} (hij : i < j) (hjl : j < l.length) (hml : m.length = l.length) (hmt : m.take i = (l.take j).filter p) (hmd : m.drop j = l.drop j) (hq : p l[j] = true) : (m.set i (m[j]'(by omega))).take (i + 1) = (l.take (j + 1)).filter p ∧ (m.set i (m[j]'(by omega))).drop (j + 1) = l.drop (j + 1) := by
 have e := drop_get (by omega) hjl hmd
 constructor
 ·rw [filt_t hjl hq, ← hmt, e, List.take_succ_eq_append_getElem (by simp; omega), List.take_set_of_le (Nat.le_refl _)]
  simp
 ·rw [List.drop_set_of_lt (by omega)]
  exact drop_succ_of hmd
theorem del_skip {i j : Nat} {p : α → Bool} (hjl : j < l.length) (hmt : m.take i = (l.take j).filter p) (hmd : m.drop j = l.drop j) (hq : p l[j] = false) : m.take i = (l.take (j + 1)).filter p ∧ m.drop (j + 1) = l.drop (j + 1) :=
 ⟨by rw [filt_f hjl hq]; exact hmt, drop_succ_of hmd⟩
end
end Go.Fw
namespace Go.Proofs.YtmbafmifalppaaaGreat
open Go Go.Fw Go.RowKit
theorem wo1_fc {G : GH} (pk : Str) (pv : Str) (slo : Str) (shi : Str) (so : Bool) {b_s : Nat} (h_s : CellsG G b_s 0 [.string slo.b, .string shi.b, .bool so]) :
    Fc Tryz.prog 238 [.agg #[.string pk.b, .string pv.b], .pointer (some ⟨b_s, 0, none⟩)] G [] (fun v _ _ => v = .bool (Span.has ⟨slo, shi, so⟩ pk)) := by
 refine Fc.intro (rs := [.tmp 3]) cl238 Tryz.func238 rfl Tryz.ntmps238 rfl rfl (fun w0 => ?_)
 refine WC.seq (WC.region (W.box (L := [.string _, .string _]) rfl rfl (fun b1 => (W.as (W.nil (thn_n (WC.seq (WC.region (W.ok (ok_loadG (vs := [.string _, .string _, .bool _]) ty45 h_s rfl rfl rfl (by simp)) (W.ok (ok_fieldB fd120_0 rfl) (W.ok (ok_loadB (i := 0) (vs := [.string _]) ty9 rfl rfl rfl rfl (by simp)) (W.qcall (spanhas_fc _ _ _ _) rfl (W.as (W.nil (thn_n (WC.ret ?_))))))))))))))))
 refine ⟨.inr rfl, [_], ⟨rfl, trivial⟩, [], sn9, ?_⟩
 rfl

theorem ixfp_fc {G : GH} {v_l : Value} {l : List Pair} {Ms_l : MH} (h_l : OwnR ePair 120 G v_l l Ms_l) (slo : Str) (shi : Str) (so : Bool) {b_s : Nat} (h_s : CellsG G b_s 0 [.string slo.b, .string shi.b, .bool so]) :
    Fc Tryz.prog 245 [v_l, .func (.func 238) #[] #[.pointer (some ⟨b_s, 0, none⟩)]] G Ms_l (fun v _ M' => v = .int .i64 (idxN (fun p : Pair => Span.has ⟨slo, shi, so⟩ p.key) l) ∧ Ms_l = M') := by
 have hl := h_l.len47
 refine Fc.intro (rs := [.tmp 4]) cl245 Tryz.func245 rfl Tryz.ntmps245 rfl rfl (fun w0 => ?_)
 refine WC.perm (M' := (Ms_l ++ [])) (by simp) (WC.seq (WC.region (W.as (W.nil (thn_n (WC.seq (WC.seq (WC.region (W.mv (W.ok (ok_lenO sl41 h_l rfl) (W.mv (W.nil (thn_n (WC.block ?_))))))))))))))
 refine WC.loop (X := Nat) (fun k => [(8, .int .i64 ((k : Nat) : Int)), (0, v_l), (1, .func (.func 238) #[] #[.pointer (some ⟨b_s, 0, none⟩)]), (7, .int .i64 (((l).length : Nat) : Int))]) (fun k _ Ml => Ml = (Ms_l ++ []) ∧ k ≤ l.length ∧ ∀ j (h : j < l.length), j < k → (fun p : Pair => Span.has ⟨slo, shi, so⟩ p.key) l[j] = false) (fun k => l.length - k) 0 ⟨eqv, eqv, eqv, eqv, trivial⟩ ?_ ?_
 ·exact ⟨rfl, by omega, fun j _ h => by omega⟩
 rintro k gG2 G2 _ hG2 ⟨rfl, hk, hj⟩
 refine WC.seq (WC.region (W.ok (ok_lss rfl rfl) (W.nil (thn_n (WC.seq ?_)))))
 refine WC.cond (b := _) rfl (fun h9 => ?_) (fun h9 => ?_)
 ·have p9 := of_decide_eq_true h9
  refine WC.skip (thn_n (WC.seq (WC.block (WC.seq (WC.region (W.mv (W.as (W.nil (thn_n (WC.seq (WC.region (W.mv (W.mv (W.mv ?_))))))))))))))
  have q5 := (h_l.mono hG2).at (i := k) (by omega)
  refine match q5 with | ⟨_, he3, e_4⟩ => ?_
  subst e_4
  refine W.ok (ok_indexAddrO (i := k) sl41 ty120 (h_l.mono hG2) rfl rfl ⟨by omega, by omega⟩) (W.ok (ok_loadO (vs := [.string _, .string _]) ty120 he3 pr9 rfl rfl rfl (by simp)) (W.qcallV (fst := []) (caps := [.pointer (some ⟨b_s, 0, none⟩)]) rfl (wo1_fc _ _ _ _ _ (h_s.mono hG2)) rfl (W.nil (thn_n ?_))))
  refine WC.cond (b := _) rfl (fun h16 => ?_) (fun h16 => ?_)
  ·refine WC.seq (WC.region (W.mv (W.as (W.nil (thn_n (WC.ret (blk_r (thn_r (thn_r (blk_r (thn_r ?_)))))))))))
   refine ⟨.inr rfl, [_], ⟨rfl, trivial⟩, Ms_l, List.sublist_append_left _ _, ?_⟩
   refine ⟨congrArg (Value.int .i64) ?_, rfl⟩
   exact (idxN_at (by omega) (h16) hj).symm
  refine WC.skip (blk_n (thn_n (WC.region (W.ok (ok_add rfl rfl (by omega)) (W.mv (W.nil (thn_n ?_)))))))
  exact ⟨Le.rfl, k + 1, ⟨eqv, eqv, eqv, eqv, trivial⟩, ⟨rfl, by omega, fun j h hji => by
      by_cases e2 : j = k
      · subst e2; exact h16
      · exact hj j h (by omega)⟩, by omega⟩
 have p9 := of_decide_eq_false h9
 refine WC.exit (thn_x (thn_x (blk_h (thn_n (WC.seq (WC.region (W.as (W.nil (thn_n (WC.ret ?_))))))))))
 refine ⟨.inr rfl, [_], ⟨rfl, trivial⟩, Ms_l, List.sublist_append_left _ _, ?_⟩
 refine ⟨congrArg (Value.int .i64) ?_, rfl⟩
 exact (idxN_no (fun j h => hj j h (by omega))).symm

theorem dfp_fc {G : GH} {v_l : Value} {l : List Pair} {Ms_l : MH} (h_l : OwnR ePair 120 G v_l l Ms_l) (slo : Str) (shi : Str) (so : Bool) {b_s : Nat} (h_s : CellsG G b_s 0 [.string slo.b, .string shi.b, .bool so]) :
    Fc Tryz.prog 237 [v_l, .func (.func 238) #[] #[.pointer (some ⟨b_s, 0, none⟩)]] G Ms_l (fun v G' M' => OwnR ePair 120 G' v (l.filter (fun a => !(fun p : Pair => Span.has ⟨slo, shi, so⟩ p.key) a)) M') := by
 have hl := h_l.len47
 have hix := idxN_le (fun p : Pair => Span.has ⟨slo, shi, so⟩ p.key) l
 refine Fc.intro (rs := [.tmp 4]) cl237 Tryz.func237 rfl Tryz.ntmps237 rfl rfl (fun w0 => ?_)
 refine WC.perm (M' := (Ms_l ++ [])) (by simp) (WC.seq (WC.region (W.as (W.nil (thn_n (WC.seq (WC.region (W.mv (W.mv (W.call (Mp := Ms_l) (ixfp_fc h_l _ _ _ h_s) rfl pr9 ?_))))))))))
 intro _ G6 Ms8 hG6 q7
 refine match q7 with | ⟨e_9, e_10⟩ => ?_
 subst e_9
 subst e_10
 refine W.as (W.nil (thn_n (WC.seq (WC.seq (WC.region (W.mv (W.ok (ok_eql rfl rfl) (W.nil (thn_n ?_)))))))))
 refine WC.cond (b := _) rfl (fun h12 => ?_) (fun h12 => ?_)
 ·have p12 := of_decide_eq_true h12
  try dsimp only at p12
  refine WC.seq (WC.region (W.mv (W.as (W.nil (thn_n (WC.ret (thn_r ?_)))))))
  refine ⟨.inr rfl, [_], ⟨rfl, trivial⟩, Ms_l, List.sublist_append_left _ _, ?_⟩
  have h := (h_l.mono hG6)
  rw [idx_none p12]
  exact h
 have p12 := of_decide_eq_false h12
 try dsimp only at p12
 refine WC.skip (thn_n (WC.seq (WC.seq (WC.region (W.mv (W.ok (ok_add rfl rfl (by omega)) (W.as (W.nil (thn_n (WC.block ?_))))))))))
 refine WC.loop (X := (Nat × Nat × List Pair) × Value × MH) (fun x => [(5, .int .i64 ((x.1.1 : Nat) : Int)), (6, .int .i64 ((x.1.2.1 : Nat) : Int)), (1, .func (.func 238) #[] #[.pointer (some ⟨b_s, 0, none⟩)]), (0, x.2.1)]) (fun x G Ml => Ml = (x.2.2 ++ []) ∧ OwnR ePair 120 G x.2.1 (x.1.2.2) x.2.2 ∧ x.1.1 < x.1.2.1 ∧ x.1.2.1 ≤ l.length ∧ x.1.2.2.length = l.length ∧ x.1.2.2.take x.1.1 = (l.take x.1.2.1).filter (fun a => !(fun p : Pair => Span.has ⟨slo, shi, so⟩ p.key) a) ∧ x.1.2.2.drop x.1.2.1 = l.drop x.1.2.1) (fun x => l.length - x.1.2.1) (((idxN (fun p : Pair => Span.has ⟨slo, shi, so⟩ p.key) l).toNat, (idxN (fun p : Pair => Span.has ⟨slo, shi, so⟩ p.key) l).toNat + 1, l), v_l, Ms_l) ⟨eqv, eqv, eqv, eqv, trivial⟩ ?_ ?_
 ·exact ⟨rfl, (by exact (h_l.mono hG6)), by dsimp only; omega, by dsimp only; omega, rfl, idx_first p12, rfl⟩
 rintro ⟨⟨i, j, m⟩, v_0, M_0⟩ gG11 G11 _ hG11 ⟨rfl, ho_0, hij, hjl, hml, hmt, hmd⟩
 try dsimp only at ho_0 hij hjl hml hmt hmd
 have hmj := fun (h : j < l.length) => drop_get (by omega : j < m.length) h hmd
 refine WC.seq (WC.seq (WC.region (W.mv (W.mv (W.ok (ok_lenO sl41 ho_0 rfl) (W.ok (ok_lss rfl rfl) (W.nil (thn_n ?_))))))))
 refine WC.cond (b := _) rfl (fun h19 => ?_) (fun h19 => ?_)
 ·have p19 := of_decide_eq_true h19
  try dsimp only at p19
  refine WC.skip (thn_n (WC.seq (WC.block (WC.seq (WC.region (W.mv (W.mv ?_)))))))
  have q14 := ho_0.at (i := j) (by omega)
  refine match q14 with | ⟨_, he12, e_13⟩ => ?_
  subst e_13
  refine W.ok (ok_indexAddrO (i := j) sl41 ty120 ho_0 rfl rfl ⟨by dsimp only, by omega⟩) (W.ok (ok_loadO (vs := [.string _, .string _]) ty120 he12 pr9 rfl rfl rfl (by simp)) (W.alloc zr120 (fun b15 => (W.store (i := 0) (vs := [.string _, .string _]) (L' := [.string _, .string _]) ty120 rfl rfl rfl rfl rfl rfl rfl rfl (W.nil (thn_n (WC.seq (WC.region (W.mv (W.ok (ok_loadB (i := 0) (vs := [.string _, .string _]) ty120 rfl rfl rfl rfl (by simp)) (W.qcallV (fst := []) (caps := [.pointer (some ⟨b_s, 0, none⟩)]) rfl (wo1_fc _ _ _ _ _ (h_s.mono (hG6.trans hG11))) rfl (W.ok (ok_not rfl) (W.nil (thn_n ?_))))))))))))))
  refine WC.cond (b := _) rfl (fun h29 => ?_) (fun h29 => ?_)
  ·refine WC.seq (WC.region (W.mv (W.mv (W.ok (ok_loadB (i := 0) (vs := [.string _, .string _]) ty120 rfl rfl rfl rfl (by simp)) ?_))))
   have q18 := ho_0.at (i := i) (by omega)
   refine match q18 with | ⟨_, he16, e_17⟩ => ?_
   subst e_17
   refine W.ok (ok_indexAddrO (i := i) sl41 ty120 ho_0 rfl rfl ⟨by dsimp only, by omega⟩) (W.storeO (i := i) (o := 0) (vs := [.string _, .string _]) (a' := m[j]) ty120 rfl rfl rfl rfl rfl (ho_0) (pmC pr9) (by omega) (by decide) (fun cs h => by first | (rw [h]; rfl) | (rw [h.1]; exact ⟨rfl, by assumption⟩)) (fun Ms19 ho20 => (W.perm (pmC pr9).symm (W.nil (thn_n (WC.region (W.mv (W.ok (ok_add rfl rfl (by dsimp only; omega)) (W.as (W.nil (blk_n (thn_n (WC.region (W.mv (W.ok (ok_add rfl rfl (by dsimp only; omega)) (W.as (W.sub (sr9.cons _) ?_)))))))))))))))))
   refine W.nil (thn_n ?_)
   exact ⟨Le.rfl, ((i + 1, j + 1, m.set i m[j]), v_0, Ms19), ⟨eqv, eqv, eqv, eqv, trivial⟩, ⟨rfl, (by exact ho20), by dsimp only; omega, by dsimp only; omega, by simpa using hml, (del_keep (p := (fun a => !(fun p : Pair => Span.has ⟨slo, shi, so⟩ p.key) a)) hij (by omega) hml hmt hmd (by rw [← hmj (by omega)]; simpa using h29)).1, (del_keep (p := (fun a => !(fun p : Pair => Span.has ⟨slo, shi, so⟩ p.key) a)) hij (by omega) hml hmt hmd (by rw [← hmj (by omega)]; simpa using h29)).2⟩, by dsimp only; omega⟩
  refine WC.skip (blk_n (thn_n (WC.region (W.mv (W.ok (ok_add rfl rfl (by dsimp only; omega)) (W.as (W.sub (sr9.cons _) (W.nil (thn_n ?_)))))))))
  exact ⟨Le.rfl, ((i, j + 1, m), v_0, M_0), ⟨eqv, eqv, eqv, eqv, trivial⟩, ⟨rfl, (by exact ho_0), by dsimp only; omega, by dsimp only; omega, hml, (del_skip (p := (fun a => !(fun p : Pair => Span.has ⟨slo, shi, so⟩ p.key) a)) (by omega) hmt hmd (by rw [← hmj (by omega)]; simpa using h29)).1, (del_skip (p := (fun a => !(fun p : Pair => Span.has ⟨slo, shi, so⟩ p.key) a)) (by omega) hmt hmd (by rw [← hmj (by omega)]; simpa using h29)).2⟩, by dsimp only; omega⟩
 have p19 := of_decide_eq_false h19
 try dsimp only at p19
 refine WC.exit (thn_x (thn_x (blk_h (thn_n (WC.seq (WC.region (W.mv (W.mv ?_))))))))
 have q22 := ho_0.formB (by omega)
 refine match q22 with | ⟨b38, c38, e_21⟩ => ?_
 subst e_21
 have hc38 := ho_0.cap_le
 refine W.ok (ok_sliceO i m.length sl41 ty120 ho_0 rfl ⟨_, _, rfl, by first | omega | (dsimp only; omega) | dsimp only⟩ rfl ⟨by omega, .inl (by omega)⟩) (W.clearO (e := ePair) (lo := i) (hi := m.length) (m := i) sl41 ty120 zr120 rfl rfl ho_0 pr9 rfl (by omega) hc38 ⟨_, rfl⟩ (by omega) (by omega) (fun Ms38 ho38 => (W.nil (thn_n (WC.seq (WC.region (W.mv (W.mv (W.ok (ok_sliceG 0 i sl41 ty120 rfl rfl ⟨_, _, rfl, by first | omega | (dsimp only; omega) | dsimp only⟩ ⟨by omega, by simp only [capV] at hc38; omega⟩) (W.as (W.nil (thn_n (WC.ret ?_)))))))))))))
 refine ⟨.inr rfl, [_], ⟨rfl, trivial⟩, Ms38, List.sublist_append_left _ _, ?_⟩
 have h := ho38
 rw [← List.take_of_length_le (l := l) (i := j) (by omega), ← hmt]
 exact h

end Go.Proofs.YtmbafmifalppaaaGreat
namespace Go.Proofs.YtmbafmifalppaaaGreat
open Go Go.Fw Go.RowKit
theorem insp_fc {G : GH} {v_s : Value} {s : List Pair} {Ms_s : MH} (h_s : OwnR ePair 120 G v_s s Ms_s) (i : Nat) {v_u : Value} {u : List Pair} {Ms_u : MH} (h_u : OwnR ePair 120 G v_u u Ms_u) (hi : i ≤ s.length) (hu : 0 < u.length) (hw : (s.length + u.length) * 32 ≤ 140737488355328) :
    Fc Tryz.prog 239 [v_s, .int .i64 ((i : Nat) : Int), v_u] G (Ms_s ++ Ms_u) (fun v G' M' => OwnR ePair 120 G' v ((s.take i ++ u) ++ s.drop i) M') := by
 have hs := h_s.len47
 have hul := h_u.len47
 have hcs := h_s.cap_le
 refine Fc.intro (rs := [.tmp 6]) cl239 Tryz.func239 rfl Tryz.ntmps239 rfl rfl (fun w0 => ?_)
 refine WC.perm (M' := (Ms_s ++ (Ms_u ++ []))) (by simp) (WC.seq (WC.region (W.as (W.nil (thn_n (WC.seq (WC.region (W.mv (W.mv (W.ok (ok_sliceO (i) (s.length) sl41 ty120 h_s rfl ⟨_, _, rfl, by omega⟩ rfl ⟨by omega, .inl (by omega)⟩) (W.nil (thn_n (WC.seq (WC.region (W.mv ?_)))))))))))))))
 refine W.ok (ok_lenO sl41 h_u rfl) (W.as (W.nil (thn_n (WC.seq (WC.seq (WC.region (W.mv (W.ok (ok_eql rfl rfl) (W.nil (thn_n ?_))))))))))
 refine WC.cond (b := _) rfl (fun h16 => ?_) (fun h16 => ?_)
 ·have p16 := of_decide_eq_true h16
  exact absurd p16 (by omega)
 have p16 := of_decide_eq_false h16
 refine WC.skip (thn_n (WC.seq (WC.region (W.mv (W.ok (ok_lenO sl41 h_s rfl) (W.as (W.nil (thn_n (WC.seq (WC.seq (WC.region (W.mv (W.mv (W.ok (ok_eql rfl rfl) (W.nil (thn_n ?_))))))))))))))))
 refine WC.cond (b := _) rfl (fun h22 => ?_) (fun h22 => ?_)
 ·have p22 := of_decide_eq_true h22
  refine WC.seq (WC.region (W.mv (W.mv (W.giveO h_u (pmA pr9) (fun G1 hG1 hv1 => ?_)))))
  have q3 := hv1.form
  refine match q3 with | ⟨_, _, e_2⟩ => ?_
  subst e_2
  refine W.app (e := ePair) sl41 ty120 zr120 rfl by120 rfl rfl ((h_s.mono hG1)) (hv1) pr9 (hw) (fun v4 Ms5 ho6 => (W.as (W.nil (thn_n (WC.ret (thn_r ?_))))))
  refine ⟨.inr rfl, [_], ⟨rfl, trivial⟩, Ms5, List.sublist_append_left _ _, ?_⟩
  have h := ho6
  rw [show (s.take i ++ u) ++ s.drop i = s ++ u from by rw [List.take_of_length_le (by omega), List.drop_eq_nil_of_le (by omega), List.append_nil]]
  exact h
 have p22 := of_decide_eq_false h22
 refine WC.skip (thn_n (WC.seq (WC.seq (WC.region (W.mv (W.mv (W.ok (Ok.int (n := ((s.length + u.length : Nat) : Int)) (ok_add rfl rfl (by omega)) (by omega)) (W.mv ?_))))))))
 have q7 := h_s.capForm
 refine match q7 with | ⟨ac30, hcf30⟩ => ?_
 refine W.ok (ok_capO (c := capV v_s) sl41 hcf30) (W.ok (ok_gtr rfl rfl) (W.nil (thn_n ?_)))
 refine WC.cond (b := _) rfl (fun h31 => ?_) (fun h31 => ?_)
 ·have p31 := of_decide_eq_true h31
  refine WC.seq (WC.region (W.mv (W.mv (W.ok (ok_sliceO (0) (i) sl41 ty120 h_s rfl rfl ⟨_, _, rfl, by omega⟩ ⟨by omega, .inl (by omega)⟩) (W.mv (W.mv (W.ok (Ok.int (n := ((s.length + u.length : Nat) : Int)) (ok_add rfl rfl (by omega)) (by omega)) (W.mv (W.ok (Ok.int (n := ((s.length + u.length - i : Nat) : Int)) (ok_sub rfl rfl (by omega)) (by omega)) (W.appZ (e := ePair) (i := i) (c := s.length + u.length - i) sl41 ty120 zr120 rfl by120 Tryz.underlying3 h_s pr9 rfl rfl (by omega) (by omega) (by omega) (by omega) (by rw [show i + (s.length + u.length - i) = s.length + u.length from by omega]; exact hw) rfl (fun v40 Ms40 hp40 => (W.as (W.nil (thn_n (WC.seq ?_)))))))))))))))
  refine WC.region (W.mv (W.mv (W.ok (ok_sliceP (i) (i + (s.length + u.length - i)) sl41 ty120 hp40 rfl ⟨_, _, rfl, by omega⟩ rfl ⟨by omega, by have := OwnP.cap_le hp40; omega⟩) (W.mv (W.copyP (i) (by simp; omega) sl41 ty120 hp40 pr9 (Src.ofOwn0 h_u (pmA (pmA pr9)) (by omega)) rfl rfl (by omega) (by omega) (fun z45 Ms45 hp45 => (W.nil (thn_n (WC.seq (WC.drawW _ sn9 mix (by rintro _ _ _ _ ⟨h | h, _⟩ <;> cases h) (WD.tk 0 rfl (ok_mv) (WD.tk 1 rfl (ok_mv) (WD.tk 2 rfl (ok_mv) (WD.tk 3 rfl (Ok.int (n := ((i + u.length : Nat) : Int)) (ok_add rfl rfl (by omega)) (by omega)) (WD.tk 4 rfl (ok_sliceP (i + u.length) (i + (s.length + u.length - i)) sl41 ty120 hp45 rfl ⟨_, _, rfl, by omega⟩ rfl ⟨by omega, by have := OwnP.cap_le hp45; omega⟩) ?_)))))))))))))))
  refine WD.tk 5 rfl (ok_mv) (WD.tk 6 rfl (ok_mv) (WD.tk 7 rfl (ok_sliceO (i) (s.length) sl41 ty120 h_s rfl ⟨_, _, rfl, by omega⟩ rfl ⟨by omega, .inl (by omega)⟩) (WD.a1 8 rfl (W.copyP (i + u.length) (by simp; omega) sl41 ty120 hp45 pr9 (Src.ofOwn (lo := i) h_s (pmA pr9) (by omega) (by omega)) rfl rfl (by simp; omega) (by omega) (fun z54 Ms54 hp54 => (W.nil (WD.n9 Le.rfl sn9 (WD.done (by kernel_rfl) (thn_n (WC.seq (WC.region (W.mv (W.as (W.nil (thn_n (WC.ret (thn_r ?_)))))))))))))))))
  refine ⟨.inr rfl, [_], ⟨rfl, trivial⟩, Ms54, List.sublist_append_left _ _, ?_⟩
  have h := (hp54.own' (by simp; omega))
  rw [List.append_nil] at h
  exact h
 have p31 := of_decide_eq_false h31
 refine WC.skip (thn_n (WC.seq (WC.region (W.mv (W.mv (W.mv (W.ok (Ok.int (n := ((s.length + u.length : Nat) : Int)) (ok_add rfl rfl (by omega)) (by omega)) (W.ok (ok_sliceO 0 (s.length + u.length) sl41 ty120 h_s rfl rfl ⟨_, _, rfl, by omega⟩ ⟨by omega, .inr (by omega)⟩) ?_))))))))
 have hp60 := OwnP.extend (m := u.length) (OwnR.open h_s (by omega)) (by omega) hw (by omega)
 refine W.as (W.nil (thn_n (WC.seq (WC.seq (WC.region (W.mv (W.mv (W.mv (W.mv (W.ok (Ok.int (n := ((i + u.length : Nat) : Int)) (ok_add rfl rfl (by omega)) (by omega)) (W.ok (ok_sliceP (i + u.length) (s.length + u.length) sl41 ty120 hp60 rfl ⟨_, _, rfl, by omega⟩ rfl ⟨by omega, by have := OwnP.cap_le hp60; omega⟩) ?_)))))))))))
 have hc67 := OwnP.cap_le hp60
 refine W.ok (ok_overlaps (fn := Tryz.f246) (tR := 4) (lo := i + u.length) (hi := s.length + u.length) Tryz.func246 (by kernel_rfl) (by kernel_rfl) (by kernel_rfl) (by kernel_rfl) sl41 ty120 h_u hp60 ((List.Perm.append_left _ pr9).trans (pmA pr9)) (by omega) (by omega) rfl rfl rfl) (W.ok (ok_not rfl) (W.nil (thn_n (WC.cond_t rfl rfl (WC.seq (WC.drawW _ sn9 mix (by rintro _ _ _ _ ⟨h | h, _⟩ <;> cases h) (WD.tk 0 rfl (ok_mv) (WD.tk 1 rfl (ok_mv) (WD.tk 2 rfl (ok_mv) (WD.tk 3 rfl (Ok.int (n := ((i + u.length : Nat) : Int)) (ok_add rfl rfl (by omega)) (by omega)) (WD.tk 4 rfl (ok_sliceP (i + u.length) (s.length + u.length) sl41 ty120 hp60 rfl ⟨_, _, rfl, by omega⟩ rfl ⟨by omega, by have := OwnP.cap_le hp60; omega⟩) (WD.tk 5 rfl (ok_mv) (WD.tk 6 rfl (ok_mv) (WD.tk 7 rfl (ok_sliceP (i) (s.length + u.length) sl41 ty120 hp60 rfl ⟨_, _, rfl, by omega⟩ rfl ⟨by omega, by have := OwnP.cap_le hp60; omega⟩) ?_))))))))))))))
 refine WD.a1 8 rfl (W.copyShift (i := i) sl41 ty120 hp60 pr9 rfl rfl (by omega) (fun z77 Ms77 hp77 => (W.nil (WD.n9 Le.rfl sn9 (WD.done (by kernel_rfl) (thn_n (WC.seq (WC.region (W.mv (W.mv (W.ok (ok_sliceP (i) (s.length + u.length) sl41 ty120 hp77 rfl ⟨_, _, rfl, by omega⟩ rfl ⟨by omega, by have := OwnP.cap_le hp77; omega⟩) (W.mv (W.copyP (i) (by simp; omega) sl41 ty120 hp77 pr9 (Src.ofOwn0 h_u (pmA pr9) (by omega)) rfl rfl (by omega) (by omega) (fun z82 Ms82 hp82 => (W.nil (thn_n (WC.seq (WC.region ?_))))))))))))))))))
 refine W.mv (W.as (W.nil (thn_n (WC.ret (thn_r ?_)))))
 refine ⟨.inr rfl, [_], ⟨rfl, trivial⟩, Ms82, List.sublist_append_left _ _, ?_⟩
 exact (hp82.own' (by omega))

theorem delp_fc {G : GH} {v_s : Value} {s : List Pair} {Ms_s : MH} (h_s : OwnR ePair 120 G v_s s Ms_s) (i : Nat) (j : Nat) (hij : i < j ∧ j ≤ s.length) :
    Fc Tryz.prog 240 [v_s, .int .i64 ((i : Nat) : Int), .int .i64 ((j : Nat) : Int)] G Ms_s (fun v G' M' => OwnR ePair 120 G' v (s.take i ++ s.drop j) M') := by
 have hs := h_s.len47
 obtain ⟨hij1, hij2⟩ := hij
 refine Fc.intro (rs := [.tmp 6]) cl240 Tryz.func240 rfl Tryz.ntmps240 rfl rfl (fun w0 => ?_)
 refine WC.perm (M' := (Ms_s ++ [])) (by simp) (WC.seq (WC.region (W.as (W.nil (thn_n (WC.seq (WC.region (W.mv (W.mv (W.mv (W.mv (W.ok (ok_lenO sl41 h_s rfl) ?_))))))))))))
 have q8 := h_s.capForm
 refine match q8 with | ⟨ac13, hcf13⟩ => ?_
 have hcl13 := h_s.cap_le
 refine W.okx (ok_slice3 i j s.length sl41 ty120 hcf13 ⟨_, _, rfl, by omega⟩ ⟨_, _, rfl, by omega⟩ ⟨_, _, rfl, by omega⟩ ⟨by omega, by omega, by omega⟩) (fun u13 => (W.nil (thn_n (WC.seq (WC.seq (WC.region (W.mv (W.mv (W.ok (ok_eql rfl rfl) (W.nil (thn_n ?_)))))))))))
 refine WC.cond (b := _) rfl (fun h16 => ?_) (fun h16 => ?_)
 ·have p16 := of_decide_eq_true h16
  exact absurd p16 (by omega)
 have p16 := of_decide_eq_false h16
 refine WC.skip (thn_n (WC.seq (WC.region (W.mv (W.ok (ok_lenO sl41 h_s rfl) (W.as (W.nil (thn_n (WC.seq (WC.drawW _ sn9 mix (by rintro _ _ _ _ ⟨h | h, _⟩ <;> cases h) (WD.tk 0 rfl (ok_mv) (WD.tk 1 rfl (ok_mv) (WD.tk 2 rfl (ok_sliceO (0) (i) sl41 ty120 h_s rfl rfl ⟨_, _, rfl, by omega⟩ ⟨by omega, .inl (by omega)⟩) (WD.tk 3 rfl (ok_mv) (WD.tk 4 rfl (ok_mv) ?_)))))))))))))))
 refine WD.tk 5 rfl (ok_sliceO (j) (s.length) sl41 ty120 h_s rfl ⟨_, _, rfl, by omega⟩ rfl ⟨by omega, .inl (by omega)⟩) (WD.a1 6 rfl (W.appDel (e := ePair) (i := i) (j := j) sl41 ty120 zr120 rfl h_s pr9 rfl rfl (by omega) (by omega) (by omega) (fun v26 Ms26 ho26 hc26 hf26 => (W.nil (WD.n9 Le.rfl sn9 (WD.tk 7 rfl (ok_as) (WD.done (by kernel_rfl) (thn_n (WC.seq (WC.region (W.mv (W.mv (W.ok (ok_lenO sl41 ho26 rfl) (W.mv ?_))))))))))))))
 have hl31 : (s.take i ++ s.drop j).length = i + (s.length - j) := by simp; omega
 refine W.ok (ok_sliceO (s.take i ++ s.drop j).length s.length sl41 ty120 ho26 rfl ⟨_, _, rfl, by omega⟩ ⟨_, _, rfl, by omega⟩ ⟨by omega, .inr (by omega)⟩) (W.clearT (e := ePair) (lo := (s.take i ++ s.drop j).length) (hi := s.length) sl41 ty120 zr120 rfl rfl ho26 pr9 rfl (by omega) hc26 hf26 (by omega) (fun Ms31 ho31 => (W.nil (thn_n (WC.seq (WC.region (W.mv (W.as (W.nil (thn_n (WC.ret ?_)))))))))))
 refine ⟨.inr rfl, [_], ⟨rfl, trivial⟩, Ms31, List.sublist_append_left _ _, ?_⟩
 exact ho31

end Go.Proofs.YtmbafmifalppaaaGreat
