/- The way of a text in a sound tree, step by step. Plain Lean; nothing of the program is named here. No condition. -/
import Derived.MapKept
import Derived.Test.YtebkfinhhpelbaaGreatQbUc
set_option linter.unusedVariables false
set_option linter.unusedSimpArgs false
set_option linter.unnecessarySimpa false
set_option maxRecDepth 100000
set_option maxHeartbeats 1600000

namespace Go.Fw
open Go Go.RowKit
variable {c : Cfg} {l : List Nd} {ss : List Seat}
structure At (l : List Nd) (ss : List Seat) (k : Str) (x : Seat) (P : List Seat) (lv : Int) : Prop where
 mem : x ∈ ss
 way : wayN l k = P ++ wayF l k x.n.level.toNat x
 lv : lv < 0 ∨ lv = x.n.level + 1
theorem At.init (t : Tree c l ss) (k : Str) : At l ss k (rootS l 0) [] (-1) := ⟨t.root, rfl, .inl (by omega)⟩
theorem At.last {k : Str} {x : Seat} {P : List Seat} {lv : Int} (h : At l ss k x P lv) (h0 : x.n.level ≤ 0) : wayN l k = P ++ [x] := by
 rw [h.way, show x.n.level.toNat = 0 by omega]; rfl
theorem Tree.right (t : Tree c l ss) {x : Seat} (hx : x ∈ ss) (h0 : ¬ x.n.level ≤ 0) : rightN x.n.pivots x.n.kids.length = true := (kids_all (t.kids hx) (by omega)).2.2.1
theorem Tree.route (t : Tree c l ss) {x : Seat} (hx : x ∈ ss) (h0 : ¬ x.n.level ≤ 0) (k : Str) : routeN x.n.pivots k < x.n.kids.length := route_lt (t.right hx h0) k
theorem At.next (t : Tree c l ss) {k : Str} {x : Seat} {P : List Seat} {lv : Int} (h : At l ss k x P lv) (h0 : ¬ x.n.level ≤ 0) : At l ss k (kidSt l x (routeN x.n.pivots k)) (P ++ [x]) x.n.level := by
 have ha := t.at h.mem (by omega) (t.route h.mem h0 k)
 refine ⟨ha.1, ?_, .inr (by omega)⟩
 rw [h.way, show x.n.level.toNat = (kidSt l x (routeN x.n.pivots k)).n.level.toNat + 1 by omega, way_cons (stepW_1 (by omega))]
 simp
theorem At.slot (t : Tree c l ss) {x : Seat} (hx : x ∈ ss) (h0 : ¬ x.n.level ≤ 0) (k : Str) : (kidSt l x (routeN x.n.pivots k)).n.slot = x.n.kids[routeN x.n.pivots k]'(t.route hx h0 k) := by
 have ha := t.at hx (by omega) (t.route hx h0 k)
 rw [ha.2.2.1]
 exact (getL_slot t.slot ha.2.1).1
theorem Tree.root0 (t : Tree c l ss) : (rootS l 0).n.slot = 0 := by
 rw [t.rootn]
 exact (getL_slot t.slot ⟨Int.le_refl 0, by have := t.pos; omega⟩).1
theorem leaves_t {i : Nat} (h : i < ss.length) (h0 : (ss[i]).n.level = 0) : leavesS (ss.take (i + 1)) = leavesS (ss.take i) ++ [ss[i]] := filt_t (p := fun y : Seat => decide (y.n.level = 0)) h (decide_eq_true h0)
theorem leaves_f {i : Nat} (h : i < ss.length) (h0 : ¬ (ss[i]).n.level = 0) : leavesS (ss.take (i + 1)) = leavesS (ss.take i) := filt_f (p := fun y : Seat => decide (y.n.level = 0)) h (decide_eq_false h0)
theorem sizes_len : ∀ {ms : List Msg}, (∀ m ∈ ms, m.R) → 4 * (ms.length : Int) ≤ sizesN ms
 | [], _ => by simp [sizesN]
 | m :: ms, h => by
  have h1 := sizes_len (ms := ms) (fun a ha => h a (List.mem_cons_of_mem _ ha))
  have h2 := size_36 (msgR_key (h m (by simp)))
  rw [sizes_cons, List.length_cons]; omega
theorem Tree.msgs_len (t : Tree c l ss) {x : Seat} (hx : x ∈ ss) : x.n.msgs.length ≤ 1024 := by
 by_cases h0 : x.n.level = 0
 ·rw [t.nomsgs hx h0]; exact Nat.zero_le _
 ·have h1 := (t.inner hx h0).2.2.2.1
  have h2 := sizes_len (t.msgs hx).2.1
  have h3 := t.cfg.2.2.1.2
  omega
theorem Tree.rows_len (t : Tree c l ss) {x : Seat} (hx : x ∈ ss) : x.n.rows.length ≤ 64 := by
 by_cases h0 : x.n.level = 0
 ·have h1 := (t.leaf hx h0).2.1
  have h3 := t.cfg.2.1.2
  omega
 ·have := (t.inner hx h0).1.1
  omega
theorem Tree.ms_len (t : Tree c l ss) : ∀ x ∈ ss, x.ms.length ≤ 1024 * (100 - x.n.level.toNat) ∧ x.n.level ≤ 99 := by
 have hr : (rootS l 0).n.level.toNat ≤ 99 := by
  obtain ⟨z, h1, h2⟩ := way_leaves (k := Str.nil) t _ (rootS l 0) t.root rfl
  have h3 := t.way_len Str.nil
  have len : ∀ n x, x ∈ ss → x.n.level.toNat = n → (wayF l Str.nil n x).length = n + 1 := by
   intro n
   induction n with
   | zero => intro x _ _; rfl
   | succ n ih =>
    intro x hx hn
    have h0 : ¬ x.n.level = 0 := by omega
    have ha := t.step (k := Str.nil) hx (stepW_1 h0)
    rw [way_cons (stepW_1 h0), List.length_cons, ih _ ha.1 (by omega)]
  have h4 := len _ (rootS l 0) t.root rfl
  have h5 : (wayN l Str.nil).length = (rootS l 0).n.level.toNat + 1 := h4
  omega
 refine t.ind ⟨Nat.zero_le _, by omega⟩ fun x hx h0 ih j hj => ?_
 have ha := t.at hx h0 hj
 have hlx := t.lvl hx
 have hly := t.lvl ha.1
 have hms := congrArg List.length (t.kid_ms hx (t.rst x hx) j).1
 rw [List.length_append] at hms
 have c1 : (clips (kidSt l x j).s x.n.msgs).length ≤ x.n.msgs.length := clips_le
 have c2 : (clips (kidSt l x j).s x.ms).length ≤ x.ms.length := clips_le
 have c3 := t.msgs_len hx
 refine ⟨?_, by omega⟩
 have : 100 - (kidSt l x j).n.level.toNat = 100 - x.n.level.toNat + 1 := by omega
 rw [this]
 omega
theorem Tree.view_len (t : Tree c l ss) {x : Seat} (hx : x ∈ ss) : (viewS x).length ≤ 102464 := by
 have h1 := t.rows hx
 have h2 : (x.n.rows.filter fun p => x.s.has p.key).length ≤ x.n.rows.length := List.length_filter_le _ _
 have h3 := t.rows_len hx
 have h4 := (t.ms_len x hx).1
 have h5 : (clips x.s x.ms).length ≤ x.ms.length := clips_le
 have h6 := fold_lenF (l := x.n.rows.filter fun p => x.s.has p.key) (ms := clips x.s x.ms) (h1.filter _) (clips_fit (by have := (t.fits x hx).1.1; omega) fun m hm => msgR_key ((t.fits x hx).2 m hm))
 unfold viewS
 omega
theorem flatv_len {b : Nat} {f : Seat → List Pair} : ∀ {T : List Seat}, (∀ x ∈ T, (f x).length ≤ b) → (T.flatMap f).length ≤ T.length * b
 | [], _ => Nat.zero_le _
 | x :: T, h => by
  have h1 := h x (by simp)
  have h2 := flatv_len (b := b) (f := f) (T := T) (fun y hy => h y (List.mem_cons_of_mem _ hy))
  rw [List.flatMap_cons, List.length_append, List.length_cons, Nat.succ_mul]; omega
theorem Tree.views_len (t : Tree c l ss) (i : Nat) : ((leavesS (ss.take i)).flatMap viewS).length ≤ 100 * 102464 := by
 have h1 := flatv_len (b := 102464) (f := viewS) (T := leavesS (ss.take i)) fun x hx => t.view_len (List.mem_of_mem_take (List.mem_filter.1 hx).1)
 have h2 : (leavesS (ss.take i)).length ≤ (ss.take i).length := List.length_filter_le _ _
 have h3 : (ss.take i).length ≤ ss.length := by rw [List.length_take]; omega
 have h4 := t.len
 have h5 := t.sml.1
 exact Nat.le_trans h1 (Nat.mul_le_mul_right 102464 (by omega))
theorem Tree.lookup (t : Tree c l ss) (k : Str) : Eff.apply (onsN (leafS l k).ms k) (getN (leafS l k).n.rows k) = getN (mapN l) k := by
 rw [t.get k, getN_fold]
 intro m hm
 have := (t.fits _ (t.leafOk k).mem).2 m hm
 have h4 := MsgsR.kinds (l := [m]) (MsgsR.iff.2 ⟨by intro a ha; simp at ha; subst ha; exact this, List.pairwise_singleton _ _⟩) m (by simp)
 exact ⟨by have := (msgR_key this).1; omega, h4.1, h4.2⟩
end Go.Fw
namespace Go.Proofs.YtebkfinhhpelbaaGreat
open Go Go.Fw Go.RowKit
theorem mview_fc {G : GH} {v_l : Value} {l : List Pair} (h_l : SlR ePair G v_l l) (slo : Str) (shi : Str) (so : Bool) {v_ms : Value} {ms : List Msg} (h_ms : SlR eMsg G v_ms ms) (hP : PairsR l) (hn : l.length + ms.length ≤ 1000000) (hm : ∀ m ∈ ms, m.key.b.size ≤ 16 ∧ m.val.b.size ≤ 16) (hs : slo.b.size ≤ 300) :
    Fc Tryz.prog 89 [v_l, .agg #[.string slo.b, .string shi.b, .bool so], v_ms] G [] (fun v G' M' => M' = [] ∧ ∃ u0, v = u0 ∧ SlR ePair G' u0 (foldN (l.filter fun p => Span.has ⟨slo, shi, so⟩ p.key) (clips ⟨slo, shi, so⟩ ms))) := by
 obtain ⟨sa_l, sc_l, rfl⟩ := h_l.form
 obtain ⟨sa_ms, sc_ms, rfl⟩ := h_ms.form
 have hPf : PairsR (l.filter fun p => Span.has ⟨slo, shi, so⟩ p.key) := hP.filter _
 have hcm := clips_fit (s := ⟨slo, shi, so⟩) hs hm
 have hcl : (clips ⟨slo, shi, so⟩ ms).length ≤ ms.length := clips_le
 have hfl := List.length_filter_le (fun p : Pair => Span.has ⟨slo, shi, so⟩ p.key) l
 have hks : ∀ m ∈ ms, m.key.b.size < 140737488355328 := fun m h => by have := (hm m h).1; omega
 refine Fc.intro (rs := [.tmp 6]) cl89 Tryz.func89 rfl Tryz.ntmps89 rfl rfl (fun w0 => ?_)
 refine WC.seq (WC.region (W.box (L := [.string _, .string _, .bool _]) rfl rfl (fun b1 => (W.as (W.nil (thn_n (WC.seq (WC.drawW _ sr9.k9 mix (by rintro _ _ _ _ ⟨h | h, _⟩ <;> cases h) (WD.tk 0 rfl (ok_mv) (WD.tk 1 rfl (ok_loadB (i := 0) (vs := [.string _, .string _, .bool _]) ty52 rfl rfl rfl rfl (by simp)) (WD.tk 3 rfl (ok_mv) (WD.tk 4 rfl (ok_loadB (i := 0) (vs := [.string _, .string _, .bool _]) ty52 rfl rfl rfl rfl (by simp)) (WD.a1 2 rfl (W.call (Mp := []) (within_fc h_l _ _ _ (by first | assumption | omega | (simp; omega) | (exact PairsR.fold (by assumption) (by assumption)))) rfl pr9 ?_))))))))))))))
 intro _ G2 _ hG2 q4
 refine match q4 with | ⟨e_5, _, e_6, hv3⟩ => ?_
 subst e_5
 subst e_6
 have q8 := hv3.form
 refine match q8 with | ⟨sa_hv3, sc_hv3, e_7⟩ => ?_
 subst e_7
 refine W.nil (WD.n9 hG2 sr9.k9 (WD.a1 5 rfl (W.call (Mp := []) (bclips_fc (h_ms.mono hG2) slo shi so hks) rfl pr9 ?_)))
 intro _ G9 _ hG9 q11
 refine match q11 with | ⟨e_12, _, e_13, hv10⟩ => ?_
 subst e_12
 subst e_13
 have q15 := hv10.form
 refine match q15 with | ⟨sa_hv10, sc_hv10, e_14⟩ => ?_
 subst e_14
 refine W.nil (WD.n9 hG9 sr9.k9 (WD.a1 6 rfl (W.call (Mp := []) (mfold_fc (hv3.mono hG9) hv10 hPf (by omega) hcm) rfl pr9 ?_)))
 intro _ G16 _ hG16 q18
 refine match q18 with | ⟨e_19, _, e_20, hv17⟩ => ?_
 subst e_19
 subst e_20
 have q22 := hv17.form
 refine match q22 with | ⟨sa_hv17, sc_hv17, e_21⟩ => ?_
 subst e_21
 refine W.nil (WD.n9 hG16 sr9.k9 (WD.tk 7 rfl (ok_as) (WD.done (by kernel_rfl) (thn_n (WC.ret ?_)))))
 refine ⟨.inr rfl, [_], ⟨rfl, trivial⟩, [], sn9, ?_⟩
 refine ⟨rfl, _, rfl, ?_⟩
 · exact hv17

theorem rview_fc {G : GH} {v_l : Value} {l : List Pair} (h_l : SlR ePair G v_l l) (slo : Str) (shi : Str) (so : Bool) {v_ms : Value} {ms : List Msg} (h_ms : SlR eMsg G v_ms ms) (hP : PairsR l) (hn : l.length + ms.length ≤ 1000000) (hm : ∀ m ∈ ms, m.key.b.size ≤ 16 ∧ m.val.b.size ≤ 16) (hs : slo.b.size ≤ 300) :
    Fc Tryz.prog 69 [v_l, .agg #[.string slo.b, .string shi.b, .bool so], v_ms] G [] (fun v G' M' => M' = [] ∧ ∃ u0, v = u0 ∧ SlR ePair G' u0 (foldN (l.filter fun p => Span.has ⟨slo, shi, so⟩ p.key) (clips ⟨slo, shi, so⟩ ms))) := by
 obtain ⟨sa_l, sc_l, rfl⟩ := h_l.form
 obtain ⟨sa_ms, sc_ms, rfl⟩ := h_ms.form
 have hPf : PairsR (l.filter fun p => Span.has ⟨slo, shi, so⟩ p.key) := hP.filter _
 have hcm := clips_fit (s := ⟨slo, shi, so⟩) hs hm
 have hcl : (clips ⟨slo, shi, so⟩ ms).length ≤ ms.length := clips_le
 have hfl := List.length_filter_le (fun p : Pair => Span.has ⟨slo, shi, so⟩ p.key) l
 have hks : ∀ m ∈ ms, m.key.b.size < 140737488355328 := fun m h => by have := (hm m h).1; omega
 refine Fc.intro (rs := [.tmp 6]) cl69 Tryz.func69 rfl Tryz.ntmps69 rfl rfl (fun w0 => ?_)
 refine WC.seq (WC.region (W.box (L := [.string _, .string _, .bool _]) rfl rfl (fun b23 => (W.as (W.nil (thn_n (WC.seq (WC.drawW _ sr9.k9 mix (by rintro _ _ _ _ ⟨h | h, _⟩ <;> cases h) (WD.tk 0 rfl (ok_mv) (WD.tk 1 rfl (ok_loadB (i := 0) (vs := [.string _, .string _, .bool _]) ty52 rfl rfl rfl rfl (by simp)) (WD.tk 2 rfl (ok_mv) (WD.tk 3 rfl (ok_len sl41 h_l rfl) (WD.tk 5 rfl (ok_mv) (WD.tk 6 rfl (ok_loadB (i := 0) (vs := [.string _, .string _, .bool _]) ty52 rfl rfl rfl rfl (by simp)) (WD.a1 4 rfl ?_)))))))))))))))
 refine W.call (Mp := []) (rscan_fc h_l slo shi so (l.length : Int) (by omega)) rfl pr9 ?_
 intro _ G24 _ hG24 q26
 refine match q26 with | ⟨e_27, _, e_28, hv25⟩ => ?_
 subst e_27
 subst e_28
 have q30 := hv25.form
 refine match q30 with | ⟨sa_hv25, sc_hv25, e_29⟩ => ?_
 subst e_29
 refine W.nil (WD.n9 hG24 sr9.k9 (WD.a1 7 rfl (W.call (Mp := []) (rclips_fc (h_ms.mono hG24) slo shi so hks) rfl pr9 ?_)))
 intro _ G31 _ hG31 q33
 refine match q33 with | ⟨e_34, _, e_35, hv32⟩ => ?_
 subst e_34
 subst e_35
 have q37 := hv32.form
 refine match q37 with | ⟨sa_hv32, sc_hv32, e_36⟩ => ?_
 subst e_36
 refine W.nil (WD.n9 hG31 sr9.k9 (WD.a1 8 rfl (W.call (Mp := []) (rfoldF_fc (SlR.cast (hv25.mono hG31) (scan_whole l ⟨slo, shi, so⟩)) hv32 hPf (by omega) hcm) rfl pr9 ?_)))
 intro _ G38 _ hG38 q40
 refine match q40 with | ⟨e_41, _, e_42, hv39⟩ => ?_
 subst e_41
 subst e_42
 have q44 := hv39.form
 refine match q44 with | ⟨sa_hv39, sc_hv39, e_43⟩ => ?_
 subst e_43
 refine W.nil (WD.n9 hG38 sr9.k9 (WD.tk 9 rfl (ok_as) (WD.done (by kernel_rfl) (thn_n (WC.ret ?_)))))
 refine ⟨.inr rfl, [_], ⟨rfl, trivial⟩, [], sn9, ?_⟩
 refine ⟨rfl, _, rfl, ?_⟩
 · exact hv39

end Go.Proofs.YtebkfinhhpelbaaGreat
namespace Go.Proofs.YtebkfinhhpelbaaGreat
open Go Go.Fw Go.RowKit
theorem map27_fc {G : GH} {v_l : Value} {l : List Nd} (h_l : SlR eNode G v_l l) (c2 : Cfg) (ss : List Seat) (t : Tree c2 l ss) :
    Fc Tryz.prog 21 [v_l] G [] (fun v G' M' => M' = [] ∧ ∃ u0, v = u0 ∧ SlR ePair G' u0 (mapN l)) := by
 obtain ⟨sa_l, sc_l, rfl⟩ := h_l.form
 have hl := h_l.len47
 have hS := t.sml
 have hl100 := hS.1
 have hsl := t.len
 refine Fc.intro (rs := [.tmp 2]) cl21 Tryz.func21 rfl Tryz.ntmps21 rfl rfl (fun w0 => ?_)
 refine WC.seq (WC.region (W.as (W.nil (thn_n (WC.seq (WC.region (W.as (W.nil (thn_n (WC.seq (WC.region (W.mv (W.call (Mp := []) (seats_fc h_l _ (by assumption)) rfl pr9 ?_)))))))))))))
 intro v3 G1 _ hG1 q2
 have q4 := q2.1
 subst q4
 have q5 := q2.2
 refine Or.elim q5 (fun q6 => ?_) (fun q7 => ?_)
 ·refine match q6 with | ⟨u_s8, ssq, hssq, e_9, hv_s8, hqsq⟩ => ?_
  subst e_9
  have q11 := hv_s8.form
  refine match q11 with | ⟨sa_s8, sc_s8, e_10⟩ => ?_
  subst e_10
  have e9 : ss = ssq := Option.some.inj (t.sts.symm.trans hssq)
  subst e9
  have hss47q := hv_s8.len47
  refine W.mv (W.ok (ok_extract rfl rfl) (W.ok (ok_extract rfl rfl) (W.as (W.as (W.nil (thn_n (WC.seq (WC.seq (WC.region (W.mv (W.ok (ok_not rfl) (W.nil (thn_n (WC.cond_f rfl rfl (WC.skip (thn_n ?_))))))))))))))))
  refine WC.seq (WC.seq (WC.region (W.as (W.nil (thn_n (WC.block ?_))))))
  refine WC.loop (X := (Nat) × Value × MH) (fun i => [(6, .int .i64 ((i.1 : Nat) : Int)), (4, .slice sa_s8 ss.length sc_s8), (3, i.2.1)]) (fun i G Ml => Ml = (i.2.2 ++ []) ∧ OwnR ePair 69 G i.2.1 ((leavesS (ss.take i.1)).flatMap viewS) i.2.2 ∧ i.1 ≤ ss.length) (fun i => ss.length - i.1) (0, .slice none 0 0, ([] : MH)) ⟨eqv, eqv, eqv, trivial⟩ ?_ ?_
  ·exact ⟨rfl, (by exact OwnR.nil), by omega⟩
  rintro ⟨i, v_3, M_3⟩ gG12 G12 _ hG12 ⟨rfl, ho_3, hi⟩
  try dsimp only at ho_3 hi
  have hvl := t.views_len i
  refine WC.fr (f := setL gG12 [(6, .int .i64 ((i : Nat) : Int)), (4, .slice sa_s8 ss.length sc_s8), (3, v_3)]) rfl (WC.seq (WC.seq (WC.region (W.mv (W.mv (W.ok (ok_len sl105 (hv_s8.mono hG12) rfl) (W.ok (ok_lss rfl rfl) (W.nil (thn_n ?_)))))))))
  refine WC.cond (b := _) rfl (fun h17 => ?_) (fun h17 => ?_)
  ·have p17 := of_decide_eq_true h17
   refine WC.skip (thn_n (WC.seq (WC.block (WC.seq (WC.region (W.mv (W.mv ?_)))))))
   have q16 := (hv_s8.mono hG12).at (i := i) (by omega)
   refine match q16 with | ⟨_, he13, ⟨pa_t14, pc_t14, ka_t14, kc_t14, ma_t14, mc_t14, ra_t14, rc_t14, qa_t14, qc_t14, e_15, hp_t14, hk_t14, hm_t14, hr_t14, hq_t14, hok_t14⟩⟩ => ?_
   subst e_15
   refine W.ok (ok_indexAddr (i := i) sl105 ty111 (hv_s8.mono hG12) rfl rfl ⟨by omega, by omega⟩) (W.ok (ok_fieldE fd111_0 rfl he13.form) (W.ok (ok_fieldE fd47_1 rfl he13.form) (W.ok (ok_loadE (vs := [.int .i64 _]) ty3 he13 rfl rfl rfl (by simp)) (W.ok (ok_eql rfl rfl) (W.nil (thn_n ?_))))))
   refine WC.cond (b := _) rfl (fun h26 => ?_) (fun h26 => ?_)
   ·have p26 := of_decide_eq_true h26
    have hmem : (ss[i]'(by omega)) ∈ ss := List.getElem_mem _
    have htf := t.fits _ hmem
    have hvx := t.view_len hmem
    have hrx : (ss[i]'(by omega)).n.rows.length ≤ 4000 := (t.sml.at (.inr (t.nd hmem).2.2)).2.2.2.1
    have hmx := (hqsq i (by omega)).ms
    refine WC.drawW _ sn9 mix (by rintro _ _ _ _ ⟨h | h, _⟩ <;> cases h) (WD.tk 0 rfl (ok_mv) (WD.tk 1 rfl (ok_mv) (WD.tk 2 rfl (ok_mv) ?_)))
    have q20 := (hv_s8.mono hG12).at (i := i) (by omega)
    refine match q20 with | ⟨_, he17, ⟨pa_t18, pc_t18, ka_t18, kc_t18, ma_t18, mc_t18, ra_t18, rc_t18, qa_t18, qc_t18, e_19, hp_t18, hk_t18, hm_t18, hr_t18, hq_t18, hok_t18⟩⟩ => ?_
    subst e_19
    refine WD.tk 3 rfl (ok_indexAddr (i := i) sl105 ty111 (hv_s8.mono hG12) rfl rfl ⟨by omega, by omega⟩) (WD.tk 4 rfl (ok_fieldE fd111_0 rfl he17.form) (WD.tk 5 rfl (ok_fieldE fd47_9 rfl he17.form) (WD.tk 6 rfl (ok_loadE (vs := [.slice _ _ _]) ty41 he17 rfl rfl rfl (by simp)) (WD.tk 7 rfl (ok_mv) (WD.tk 8 rfl (ok_mv) ?_)))))
    have q24 := (hv_s8.mono hG12).at (i := i) (by omega)
    refine match q24 with | ⟨_, he21, ⟨pa_t22, pc_t22, ka_t22, kc_t22, ma_t22, mc_t22, ra_t22, rc_t22, qa_t22, qc_t22, e_23, hp_t22, hk_t22, hm_t22, hr_t22, hq_t22, hok_t22⟩⟩ => ?_
    subst e_23
    refine WD.tk 9 rfl (ok_indexAddr (i := i) sl105 ty111 (hv_s8.mono hG12) rfl rfl ⟨by omega, by omega⟩) (WD.tk 10 rfl (ok_fieldE fd111_1 rfl he21.form) (WD.tk 11 rfl (ok_loadE (vs := [.string _, .string _, .bool _]) ty52 he21 rfl rfl rfl (by simp)) (WD.tk 12 rfl (ok_mv) (WD.tk 13 rfl (ok_mv) ?_))))
    have q28 := (hv_s8.mono hG12).at (i := i) (by omega)
    refine match q28 with | ⟨_, he25, ⟨pa_t26, pc_t26, ka_t26, kc_t26, ma_t26, mc_t26, ra_t26, rc_t26, qa_t26, qc_t26, e_27, hp_t26, hk_t26, hm_t26, hr_t26, hq_t26, hok_t26⟩⟩ => ?_
    subst e_27
    refine WD.tk 14 rfl (ok_indexAddr (i := i) sl105 ty111 (hv_s8.mono hG12) rfl rfl ⟨by omega, by omega⟩) (WD.tk 15 rfl (ok_fieldE fd111_2 rfl he25.form) (WD.tk 16 rfl (ok_loadE (vs := [.slice _ _ _]) ty45 he25 rfl rfl rfl (by simp)) (WD.a1 17 rfl (W.call (Mp := []) (rview_fc hr_t18 (ss[i]'(by omega)).s.lo (ss[i]'(by omega)).s.hi (ss[i]'(by omega)).s.opn hq_t26 (t.rows hmem) (by omega) (fun m hm => msgR_key (htf.2 m hm)) (by have := htf.1.1; omega)) rfl pr9 ?_))))
    intro _ G29 _ hG29 q31
    refine match q31 with | ⟨e_32, _, e_33, hv30⟩ => ?_
    subst e_32
    subst e_33
    have hc34 := SlR.cast hv30 (l' := viewS (ss[i]'(by omega))) (rfl)
    have q36 := hc34.form
    refine match q36 with | ⟨sa_hc34, sc_hc34, e_35⟩ => ?_
    subst e_35
    refine W.nil (WD.n9 hG29 sn9 (WD.a1 18 rfl (W.app (e := ePair) sl41 ty69 zr69 rfl by69 rfl rfl ((ho_3.mono hG29)) (hc34) pr9 (by show (List.length _ + List.length _) * 32 ≤ _; omega) (fun v37 Ms38 ho39 => (W.nil (WD.n9 Le.rfl sn9 (WD.tk 19 rfl (ok_as) (WD.done (by kernel_rfl) (blk_n (thn_n (WC.region (W.mv (W.ok (ok_add rfl rfl (by omega)) (W.as (W.nil (thn_n ?_))))))))))))))))
    exact ⟨hG29, (i + 1, v37, Ms38), ⟨eqv, eqv, eqv, trivial⟩, ⟨rfl, (by have h := ho39; rw [leaves_t (by omega) p26, List.flatMap_append, List.flatMap_singleton]; exact h), by omega⟩, by omega⟩
   have p26 := of_decide_eq_false h26
   refine WC.skip (blk_n (thn_n (WC.region (W.mv (W.ok (ok_add rfl rfl (by omega)) (W.as (W.nil (thn_n ?_))))))))
   exact ⟨Le.rfl, (i + 1, v_3, M_3), ⟨eqv, eqv, eqv, trivial⟩, ⟨rfl, (by have h := ho_3; rw [leaves_f (by omega) p26]; exact h), by omega⟩, by omega⟩
  have p17 := of_decide_eq_false h17
  refine WC.exit (thn_x (thn_x (blk_h (thn_n (WC.seq (WC.region (W.mv (W.as (W.nil (thn_n (WC.giveO ho_3 pr9 (fun G40 hG40 hv40 => (WC.ret ?_)))))))))))))
  refine ⟨.inr rfl, [_], ⟨rfl, trivial⟩, [], sn9, ?_⟩
  refine ⟨rfl, _, rfl, ?_⟩
  · exact SlR.cast hv40 (by rw [mapN_t t.sts, List.take_of_length_le (by omega)])
 exact absurd (t.sts.symm.trans (by obtain ⟨_, _, h0, _⟩ := q7; exact h0)) (by simp)

end Go.Proofs.YtebkfinhhpelbaaGreat

namespace Go.Fw
open Go Go.RowKit
structure VEnc (α : Type) where
 R : GH → Value → α → Prop
 mono : ∀ {G G' : GH} {v a}, Le G G' → R G v a → R G' v a
def vNode : VEnc Nd := ⟨fun G v n => ∃ cs, v = .agg (List.toArray cs) ∧ NodeC G cs n, fun hl ⟨cs, h1, h2⟩ => ⟨cs, h1, h2.mono hl⟩⟩
def vBool : VEnc Bool := ⟨fun _ v b => v = .bool b, fun _ h => h⟩
section
variable {α : Type}
def MpE (V : VEnc α) (G : GH) : List MapEntry → List (Int × α) → Prop
 | [], [] => True
 | e :: es, p :: m => e.key = .int .i64 p.1 ∧ V.R G e.val p.2 ∧ MpE V G es m
 | _, _ => False
theorem MpE.mono {V : VEnc α} {G G' : GH} (hl : Le G G') : ∀ {es : List MapEntry} {m : List (Int × α)}, MpE V G es m → MpE V G' es m
 | [], [], _ => trivial
 | e :: es, p :: m, h => ⟨h.1, V.mono hl h.2.1, h.2.2.mono hl⟩
 | [], _ :: _, h => h.elim
 | _ :: _, [], h => h.elim
theorem MpE.len {V : VEnc α} {G : GH} : ∀ {es : List MapEntry} {m : List (Int × α)}, MpE V G es m → es.length = m.length
 | [], [], _ => rfl
 | e :: es, p :: m, h => by simp [h.2.2.len]
 | [], _ :: _, h => h.elim
 | _ :: _, [], h => h.elim
def getM (m : List (Int × α)) (k : Int) : Option α := (m.find? fun p => decide (p.1 = k)).map (·.2)
def putM : List (Int × α) → Int → α → List (Int × α)
 | [], k, a => [(k, a)]
 | p :: m, k, a => if p.1 = k then (k, a) :: m else p :: putM m k a
def delM : List (Int × α) → Int → List (Int × α)
 | [], _ => []
 | p :: m, k => if p.1 = k then m else p :: delM m k
theorem getM_cons (p : Int × α) (m : List (Int × α)) (k : Int) : getM (p :: m) k = if p.1 = k then some p.2 else getM m k := by
 unfold getM
 by_cases h : p.1 = k
 ·rw [List.find?_cons_of_pos (by simpa using h), if_pos h]; rfl
 ·rw [List.find?_cons_of_neg (by simpa using h), if_neg h]
theorem getM_put : ∀ (m : List (Int × α)) (k : Int) (a : α) (j : Int), getM (putM m k a) j = if j = k then some a else getM m j
 | [], k, a, j => by
  rw [putM, getM_cons]
  by_cases h : k = j
  ·rw [if_pos h, if_pos h.symm]
  ·rw [if_neg h, if_neg (fun e => h e.symm)]
 | p :: m, k, a, j => by
  rw [putM]
  by_cases hp : p.1 = k
  ·rw [if_pos hp, getM_cons, getM_cons]
   by_cases h : k = j
   ·rw [if_pos h, if_pos h.symm]
   ·rw [if_neg h, if_neg (fun e => h e.symm), if_neg (by rw [hp]; exact h)]
  ·rw [if_neg hp, getM_cons, getM_cons, getM_put m k a j]
   by_cases h : p.1 = j
   ·rw [if_pos h, if_pos h, if_neg (fun e => hp (h.trans e))]
   ·rw [if_neg h, if_neg h]
theorem same_int (k j : Int) : Instr.sameNow (.int .i64) (.int .i64 k) (.int .i64 j) = some (k == j) := by simp [Instr.sameNow]
theorem find_mp {V : VEnc α} {G : GH} {k : Int} : ∀ {es : List MapEntry} {m : List (Int × α)} (i : Nat), MpE V G es m →
  (getM m k = none ∧ Instr.findNow (.int .i64) (.int .i64 k) es i = some none ∧ (∀ x a n, V.R G x a → MpE V G (es ++ [⟨.int .i64 k, x, n⟩]) (putM m k a)) ∧ delM m k = m) ∨
  ∃ j e a, getM m k = some a ∧ es[j]? = some e ∧ Instr.findNow (.int .i64) (.int .i64 k) es i = some (some (i + j, e.val)) ∧ e.key = .int .i64 k ∧ V.R G e.val a ∧
   (∀ x b, V.R G x b → MpE V G (es.modify j fun e => { e with key := .int .i64 k, val := x }) (putM m k b)) ∧ MpE V G (es.eraseIdx j) (delM m k)
 | [], [], i, _ => .inl ⟨rfl, rfl, fun x a n hx => ⟨rfl, hx, trivial⟩, rfl⟩
 | e :: es, p :: m, i, h => by
  by_cases hk : p.1 = k
  ·refine .inr ⟨0, e, p.2, by rw [getM_cons, if_pos hk], rfl, ?_, by rw [h.1, hk], h.2.1, fun x b hx => ?_, ?_⟩
   ·rw [Instr.findNow, h.1, same_int, hk]; simp
   ·rw [putM, if_pos hk]
    simp only [List.modify_zero_cons]
    exact ⟨rfl, hx, h.2.2⟩
   ·rw [delM, if_pos hk]; exact h.2.2
  ·have hf : ∀ i, Instr.findNow (.int .i64) (.int .i64 k) (e :: es) i = Instr.findNow (.int .i64) (.int .i64 k) es (i + 1) := fun i => by
    rw [Instr.findNow, h.1, same_int]
    have : (k == p.1) = false := by simpa using fun e => hk e.symm
    rw [this]
   rcases find_mp (V := V) (k := k) (i + 1) h.2.2 with ⟨h1, h2, h3, h4⟩ | ⟨j, e', a, h1, h2, h3, h4, h5, h6, h7⟩
   ·refine .inl ⟨by rw [getM_cons, if_neg hk]; exact h1, by rw [hf]; exact h2, fun x a n hx => ?_, by rw [delM, if_neg hk, h4]⟩
    rw [putM, if_neg hk]
    exact ⟨h.1, h.2.1, h3 x a n hx⟩
   ·refine .inr ⟨j + 1, e', a, by rw [getM_cons, if_neg hk]; exact h1, by simpa using h2, by rw [hf, h3]; congr 3; omega, h4, h5, fun x b hx => ?_, ?_⟩
    ·rw [putM, if_neg hk]
     simp only [List.modify_succ_cons]
     exact ⟨h.1, h.2.1, h6 x b hx⟩
    ·rw [delM, if_neg hk]
     exact ⟨h.1, h.2.1, h7⟩
 | [], _ :: _, _, h => h.elim
 | _ :: _, [], _, h => h.elim
def mapIK (P : Program) (t : TypeId) : Option TypeId :=
 match P.underlying t with
 | some (.map kt e) => match P.underlying kt with
  | some (.int .i64) => some e
  | _ => none
 | _ => none
theorem mapIK_ok {P : Program} {t e : TypeId} (h : mapIK P t = some e) : ∃ kt, P.underlying t = some (.map kt e) ∧ P.underlying kt = some (.int .i64) ∧ ∀ b n v (w : World), (Instr.checkKey b (n + 1) kt v).run P w = .ok () w := by
 unfold mapIK at h
 split at h
 ·rename_i kt e' h1
  split at h
  ·rename_i h2
   cases h
   refine ⟨kt, h1, h2, fun b n v w => ?_⟩
   simp only [Instr.checkKey, Sem.run_bind, run_underlying h2, Result.andThen_ok]
   rfl
  ·cases h
 ·cases h
def MpR (V : VEnc α) (b : Nat) (G : GH) (m : List (Int × α)) (M : MH) : Prop := ∃ (es : List MapEntry) (clock : Nat), M = [(b, .map es.toArray clock)] ∧ MpE V G es m
theorem MpR.mono {V : VEnc α} {b : Nat} {G G' : GH} {m : List (Int × α)} {M : MH} (hl : Le G G') (h : MpR V b G m M) : MpR V b G' m M := by
 obtain ⟨es, c, h1, h2⟩ := h; exact ⟨es, c, h1, h2.mono hl⟩
def MpG (V : VEnc α) (G : GH) (v : Value) (m : List (Int × α)) : Prop := ∃ (b : Nat) (es : List MapEntry) (clock : Nat), v = .map (some b) ∧ G b = some (.map es.toArray clock) ∧ MpE V G es m
theorem MpG.mono {V : VEnc α} {G G' : GH} {v : Value} {m : List (Int × α)} (hl : Le G G') (h : MpG V G v m) : MpG V G' v m := by
 obtain ⟨b, es, c, h1, h2, h3⟩ := h; exact ⟨b, es, c, h1, hl _ _ h2, h3.mono hl⟩
theorem MpG.form {V : VEnc α} {G : GH} {v : Value} {m : List (Int × α)} (h : MpG V G v m) : ∃ b, v = .map (some b) := by
 obtain ⟨b, _, _, h1, _⟩ := h; exact ⟨b, h1⟩
end
section
variable {α : Type} {E : Env} {f : Fr} {G : GH} {M Mk Ms Mr : MH} {ops rest : List Oper} {q : Bool} {K : Kt} {d : Nat} {ty : TypeId} {pos : String} {aft : Array Edge} {t et : TypeId} {x y kk : Operand} {b : Nat} {k : Int} {m : List (Int × α)} {V : VEnc α}
def zvK (P : Program) (t : TypeId) : Option Value := (P.info? t).bind (·.zero)
theorem look_run {P : Program} {es : List MapEntry} {clock : Nat} {z0 : Value} {z : α} (ht : mapIK P t = some et) (hz : zvK P et = some z0) (hzz : V.R G z0 z) (he : MpE V G es m) :
  ∃ v, V.R G v ((getM m k).getD z) ∧ ∀ (w : World) (ok : Bool), w.heap[b]? = some (.map es.toArray clock) → (Instr.lookup t (.map (some b)) (.int .i64 k) ok).run P w = .ok (if ok = true then .tuple #[v, .bool (getM m k).isSome] else v) w := by
 obtain ⟨kt, h1, h2, h3⟩ := mapIK_ok ht
 have hzv : ∀ w, (zeroValue et).run P w = .ok z0 w := fun w => by
  unfold zvK at hz
  cases hi : P.info? et with
  | none => rw [hi] at hz; cases hz
  | some info => rw [hi] at hz; simp at hz; simp [zeroValue, typeInfo, hi, hz]
 rcases find_mp (k := k) 0 he with ⟨g1, g2, _, _⟩ | ⟨j, e, a, g1, g2, g3, g4, g5, _, _⟩
 ·refine ⟨z0, by rw [g1]; exact hzz, fun w ok hb => ?_⟩
  have hgo := MapKept.run_getObj_map (P := P) hb
  have hfk := MapKept.run_findKey (P := P) (w := w) h2 g2
  simp only [Instr.lookup, Sem.run_bind, run_underlying h1, Result.andThen_ok, hgo, Sem.run_pure]
  rw [h3]
  simp only [Result.andThen_ok]
  rw [hfk, g1]
  simp [hzv]
 ·refine ⟨e.val, by rw [g1]; exact g5, fun w ok hb => ?_⟩
  have hgo := MapKept.run_getObj_map (P := P) hb
  have hfk := MapKept.run_findKey (P := P) (w := w) h2 g3
  simp only [Instr.lookup, Sem.run_bind, run_underlying h1, Result.andThen_ok, hgo, Sem.run_pure]
  rw [h3]
  simp only [Result.andThen_ok]
  rw [hfk, g1]
  simp
theorem mem_own {es : List MapEntry} {clock : Nat} (hp : ([(b, Obj.map es.toArray clock)] ++ Mr).Perm M) {w : World} (hr : E.real G M w) : w.heap[b]? = some (.map es.toArray clock) :=
 hr.r.mu (b, .map es.toArray clock) (hp.mem_iff.1 (by simp))
theorem look_own {z0 : Value} {z : α} {ok : Bool} (ht : mapIK E.P t = some et) (hz : zvK E.P et = some z0) (hzz : V.R G z0 z) (hx : ev f x = .map (some b)) (hk : ev f kk = .int .i64 k) (hm : MpR V b G m Ms) (hp : (Ms ++ Mr).Perm M) :
  ∃ v, V.R G v ((getM m k).getD z) ∧ Ok E f G M ⟨some d, .lookup t x kk ok, ty, pos, aft, none⟩ (if ok = true then .tuple #[v, .bool (getM m k).isSome] else v) := by
 obtain ⟨es, clock, rfl, he⟩ := hm
 obtain ⟨v, h1, h2⟩ := look_run (b := b) (clock := clock) (k := k) ht hz hzz he
 refine ⟨v, h1, fun w hr => ?_⟩
 have := h2 w ok (mem_own hp hr)
 simp [execOp, hx, hk, this]
theorem setMap_real {es : List MapEntry} {clock : Nat} {o : Obj} {w : World} (hr : E.real G ((b, Obj.map es.toArray clock) :: Mr) w) : E.real G ((b, o) :: Mr) { w with heap := w.heap.setIfInBounds b o } :=
 ⟨Real.set (M₁ := []) hr.r, hr.le, hr.nw⟩
theorem W.mapUp {v : Value} {a : α} (ht : mapIK E.P t = some et) (hx : ev f x = .map (some b)) (hk : ev f kk = .int .i64 k) (hy : ev f y = v) (hm : MpR V b G m Ms) (hp : (Ms ++ Mr).Perm M) (ha : V.R G v a)
  (h : ∀ Ms', MpR V b G (putM m k a) Ms' → W E ops.toArray false rest f G (Ms' ++ Mr) K) : W E ops.toArray false (⟨none, .mapUpdate t x kk y, ty, pos, aft, none⟩ :: rest) f G M K := by
 intro a' w Q hi hr0 hK
 obtain ⟨es, clock, rfl, he⟩ := hm
 have hr := hr0.perm hp
 obtain ⟨kt, h1, h2, h3⟩ := mapIK_ok ht
 have hb : w.heap[b]? = some (.map es.toArray clock) := hr.r.mu (b, .map es.toArray clock) (by simp)
 have hgo := MapKept.run_getObj_map (P := E.P) hb
 have key : ∃ es' clock', MpE V G es' (putM m k a) ∧ (Instr.mapUpdate t (.map (some b)) (.int .i64 k) v).run E.P w = .ok () { w with heap := w.heap.setIfInBounds b (.map es'.toArray clock') } := by
  rcases find_mp (k := k) 0 he with ⟨g1, g2, g3, _⟩ | ⟨j, e, a2, g1, g2, g3, g4, g5, g6, _⟩
  ·refine ⟨_, clock + 1, g3 v a clock ha, ?_⟩
   have hfk := MapKept.run_findKey (P := E.P) (w := w) h2 g2
   have hset := MapKept.run_setObj_map (P := E.P) (.map (es.toArray.push ⟨.int .i64 k, v, clock⟩) (clock + 1)) hb
   simp only [Instr.mapUpdate, Sem.run_bind, run_underlying h1, Result.andThen_ok, hgo]
   rw [h3]
   simp only [Result.andThen_ok]
   rw [hfk]
   simp only [Result.andThen_ok, hset]
   congr 4
   simp
  ·refine ⟨_, clock, g6 v a ha, ?_⟩
   rw [Nat.zero_add] at g3
   have hfk := MapKept.run_findKey (P := E.P) (w := w) h2 g3
   have hset := MapKept.run_setObj_map (P := E.P) (.map (es.toArray.modify j fun e => { e with key := .int .i64 k, val := v }) clock) hb
   simp only [Instr.mapUpdate, Sem.run_bind, run_underlying h1, Result.andThen_ok, hgo]
   rw [h3]
   simp only [Result.andThen_ok]
   rw [hfk]
   have hsb : Instr.sameBits 10000 (((es.toArray[j]?).map (·.key)).getD (.int .i64 k)) (.int .i64 k) = true := by
    simp [g2, g4, Instr.sameBits]
   simp only [Result.andThen_ok, Instr.keyThatStays, hsb, if_true, Sem.run_pure]
   simp only [Sem.run_bind, Sem.run_pure, Result.andThen_ok, hset]
   congr 4
   simp
 obtain ⟨es', clock', k1, k2⟩ := key
 have hrun : (execOp (ev f) ⟨none, .mapUpdate t x kk y, ty, pos, aft, none⟩).run E.P w = .ok .skip { w with heap := w.heap.setIfInBounds b (.map es'.toArray clock') } := by
  simp [execOp, hx, hk, hy, k2]
 refine wpList_plain rfl fun K' hK' => ?_
 unfold Oper.wp
 rw [hi.eval, hrun]
 exact hK' _ _ (h _ ⟨es', clock', rfl, k1⟩ _ _ Q (hi.put_none undef) (setMap_real hr) hK)
theorem W.makeMap (h : ∀ b, MpR V b G [] [(b, .map #[] 0)] → W E ops.toArray false rest (upd f d (.map (some b))) G ((b, .map #[] 0) :: M) K) (hd : Nat.blt d E.n = true := by rfl) :
  W E ops.toArray false (⟨some d, .makeMap t none, ty, pos, aft, none⟩ :: rest) f G M K := by
 intro a w Q hi hr hK
 have hrun : (execOp (ev f) ⟨some d, .makeMap t none, ty, pos, aft, none⟩).run E.P w = .ok (.value (.map (some w.heap.size))) (w.alloc (.map #[] 0)) := by
  have h0 : (Instr.makeMap t none).run E.P w = .ok (.map (some w.heap.size)) (w.alloc (.map #[] 0)) := by simp [Instr.makeMap, newObj, Sem.run, bind, Sem.bind, pure]
  simp [execOp, h0]
 refine wpList_plain rfl fun K' hK' => ?_
 unfold Oper.wp
 rw [hi.eval, hrun]
 exact hK' _ _ (h _ ⟨[], 0, rfl, trivial⟩ _ _ Q (hi.put hd _) (hr.alloc _) hK)
end
end Go.Fw

namespace Go.Fw
def cutN (l : List Pair) (n : Int) : Nat := (max 0 (min (l.length : Int) n)).toNat
def partN (l : List Pair) (s : Span) (ms : List Msg) (c : Str) (n : Int) : List Pair × Str × Bool :=
 if s.empty = true then ([], c, true) else ((foldN (l.filter fun p => Span.has s p.key) (clips s ms)).take (cutN (foldN (l.filter fun p => Span.has s p.key) (clips s ms)) n), (if s.opn = true then Str.nil else s.hi), s.opn || decide (n ≤ ((foldN (l.filter fun p => Span.has s p.key) (clips s ms)).length : Int)))
theorem partN_n {l : List Pair} {s : Span} {ms : List Msg} {c : Str} {n : Int} (h : s.empty = false) {x : Str} {b : Bool} (hx : x = if s.opn = true then Str.nil else s.hi) (hb : b = (s.opn || decide (n ≤ ((foldN (l.filter fun p => Span.has s p.key) (clips s ms)).length : Int)))) :
  partN l s ms c n = ((foldN (l.filter fun p => Span.has s p.key) (clips s ms)).take (cutN (foldN (l.filter fun p => Span.has s p.key) (clips s ms)) n), x, b) := by rw [partN, if_neg (by simp [h]), hx, hb]
end Go.Fw
