/- Walks of functions on effects, and where a key stands. -/
import Derived.Test.YtmbafmifalppaaaQbW4
import Derived.Test.YtmbafmifalppaaaQbW2
set_option maxRecDepth 100000
set_option maxHeartbeats 1600000
set_option linter.unusedVariables false
set_option linter.unusedSimpArgs false
set_option linter.unnecessarySimpa false
namespace Go.Proofs.Ytmbafmifalppaaa
open Go Go.Fw Go.RowKit
theorem rget_fc {G : GH} {v_l : Value} {l : List Pair} (h_l : SlR ePair G v_l l) (k : Str) :
    Fc Try.prog 53 [v_l, .string k.b] G [] (fun v _ _ => v = .tuple #[.string (Str.b ((getN l k).getD Str.nil)), .bool ((getN l k).isSome)]) := by
 obtain ⟨sa_l, sc_l, rfl⟩ := h_l.form
 have hl := h_l.len47
 refine Fc.intro (rs := [.tmp 4, .tmp 5]) cl53 Try.func53 rfl Try.ntmps53 rfl rfl (fun w0 => ?_)
 refine WC.seq (WC.region (W.as (W.as (W.nil (thn_n (WC.seq (WC.seq (WC.region (W.as (W.nil (thn_n (WC.block ?_))))))))))))
 refine WC.loop (X := Nat) (fun i => [(6, .int .i64 ((i : Nat) : Int)), (0, .slice sa_l l.length sc_l), (1, .string k.b)]) (fun i _ Ml => Ml = [] ∧ i ≤ l.length ∧ ∀ j (h : j < l.length), j < i → l[j].key ≠ k) (fun i => l.length - i) 0 ⟨eqv, eqv, eqv, trivial⟩ ?_ ?_
 ·exact ⟨rfl, by omega, fun j _ h => by omega⟩
 rintro i gG12 G12 _ hG12 ⟨rfl, hi, hj⟩
 refine WC.seq (WC.seq (WC.region (W.mv (W.mv (W.ok (ok_len sl31 (h_l.mono hG12) rfl) (W.ok (ok_lss rfl rfl) (W.nil (thn_n ?_))))))))
 refine WC.cond (b := _) rfl (fun h10 => ?_) (fun h10 => ?_)
 ·have p10 := of_decide_eq_true h10
  refine WC.skip (thn_n (WC.seq (WC.block (WC.seq (WC.region (W.mv (W.mv ?_)))))))
  have q15 := (h_l.mono hG12).at (i := i) (by omega)
  refine match q15 with | ⟨_, he13, e_14⟩ => ?_
  subst e_14
  refine W.ok (ok_indexAddr (i := i) sl31 ty71 (h_l.mono hG12) rfl rfl ⟨by omega, by omega⟩) (W.ok (ok_fieldE fd71_0 rfl he13.form) (W.ok (ok_loadE (vs := [.string _]) ty9 he13 rfl rfl rfl (by simp)) (W.mv (W.ok (ok_eqlS rfl rfl) (W.nil (thn_n ?_))))))
  refine WC.cond (b := _) rfl (fun h19 => ?_) (fun h19 => ?_)
  ·have p19 := of_decide_eq_true h19
   refine WC.seq (WC.region (W.mv (W.mv ?_)))
   have q18 := (h_l.mono hG12).at (i := i) (by omega)
   refine match q18 with | ⟨_, he16, e_17⟩ => ?_
   subst e_17
   refine W.ok (ok_indexAddr (i := i) sl31 ty71 (h_l.mono hG12) rfl rfl ⟨by omega, by omega⟩) (W.ok (ok_fieldE fd71_1 rfl he16.form) (W.ok (ok_loadE (vs := [.string _]) ty9 he16 rfl rfl rfl (by simp)) (W.as (W.as (W.nil (thn_n (WC.ret (blk_r (thn_r (thn_r (blk_r (thn_r ?_))))))))))))
   refine ⟨.inr rfl, [_, _], ⟨rfl, rfl, trivial⟩, [], sn9, ?_⟩
   show Value.tuple #[Value.string _, Value.bool _] = _
   have e1 : l[i].key = k := Str.ext' p19
   have e := getN_at (by omega : i < l.length) (fun j h hji => by rw [e1]; exact hj j h hji)
   rw [e1] at e
   rw [e]; rfl
  have p19 := of_decide_eq_false h19
  refine WC.skip (blk_n (thn_n (WC.region (W.mv (W.ok (ok_add rfl rfl (by omega)) (W.as (W.nil (thn_n ?_))))))))
  exact ⟨Le.rfl, i + 1, ⟨eqv, eqv, eqv, trivial⟩, ⟨rfl, by omega, fun j h hji e => by
      by_cases e2 : j = i
      · subst e2; exact p19 (congrArg Str.b e)
      · exact hj j h (by omega) e⟩, by omega⟩
 have p10 := of_decide_eq_false h10
 refine WC.exit (thn_x (thn_x (blk_h (thn_n (WC.seq (WC.region (W.as (W.as (W.nil (thn_n (WC.ret ?_)))))))))))
 refine ⟨.inr rfl, [_, _], ⟨rfl, rfl, trivial⟩, [], sn9, ?_⟩
 show Value.tuple #[Value.string _, Value.bool _] = _
 rw [getN_no (fun j h => hj j h (by omega))]; rfl

theorem cmp_fc {G : GH} (a : Str) (b : Str) :
    Fc Try.prog 201 [.string a.b, .string b.b] G [] (fun v _ _ => v = .int .i64 (cmpN a b)) := by
 refine Fc.intro (rs := [.tmp 4]) cl201 Try.func201 rfl Try.ntmps201 rfl rfl (fun w0 => ?_)
 refine WC.seq (WC.region (W.as (W.nil (thn_n (WC.seq (WC.region (W.mv (W.qcall (isnan_fc _) rfl (W.as (W.nil (thn_n (WC.seq (WC.region (W.mv (W.qcall (isnan_fc _) rfl ?_)))))))))))))))
 refine W.as (W.nil (thn_n (WC.seq (WC.seq (WC.region (W.mv (W.nil (thn_n ?_))))))))
 refine WC.cond (b := _) rfl (fun h8 => ?_) (fun h8 => ?_)
 ·cases h8
 refine WC.skip (thn_n (WC.seq (WC.seq (WC.region (W.mv (W.nil (thn_n ?_)))))))
 refine WC.cond (b := _) rfl (fun h10 => ?_) (fun h10 => ?_)
 ·cases h10
 refine WC.skip (thn_n (WC.seq (WC.seq (WC.region (W.mv (W.mv (W.ok (ok_lssS rfl rfl) (W.nil (thn_n ?_)))))))))
 refine WC.cond (b := _) rfl (fun h16 => ?_) (fun h16 => ?_)
 ·refine WC.seq (WC.region (W.as (W.nil (thn_n (WC.ret (thn_r ?_))))))
  refine ⟨.inr rfl, [_], ⟨rfl, trivial⟩, [], sn9, ?_⟩
  refine congrArg (Value.int .i64) ?_
  simp_all [cmpN, Str.lt]
 refine WC.skip (thn_n (WC.seq (WC.seq (WC.region (W.mv (W.mv (W.ok (ok_gtrS rfl rfl) (W.nil (thn_n ?_)))))))))
 refine WC.cond (b := _) rfl (fun h19 => ?_) (fun h19 => ?_)
 ·refine WC.seq (WC.region (W.as (W.nil (thn_n (WC.ret (thn_r ?_))))))
  refine ⟨.inr rfl, [_], ⟨rfl, trivial⟩, [], sn9, ?_⟩
  refine congrArg (Value.int .i64) ?_
  simp_all [cmpN, Str.lt]
 refine WC.skip (thn_n (WC.seq (WC.region (W.as (W.nil (thn_n (WC.ret ?_)))))))
 refine ⟨.inr rfl, [_], ⟨rfl, trivial⟩, [], sn9, ?_⟩
 refine congrArg (Value.int .i64) ?_
 simp_all [cmpN, Str.lt]

theorem kcmp_fc {G : GH} (a : Str) (b : Str) :
    Fc Try.prog 190 [.string a.b, .string b.b] G [] (fun v _ _ => v = .int .i64 (cmpN a b)) := by
 refine Fc.intro (rs := [.tmp 4]) cl190 Try.func190 rfl Try.ntmps190 rfl rfl (fun w0 => ?_)
 refine WC.seq (WC.region (W.as (W.nil (thn_n (WC.seq (WC.region (W.mv (W.mv (W.qcall (cmp_fc _ _) rfl (W.as (W.nil (thn_n (WC.ret ?_)))))))))))))
 refine ⟨.inr rfl, [_], ⟨rfl, trivial⟩, [], sn9, ?_⟩
 rfl

theorem cl_m_fc {G : GH} (pk : Str) (pv : Str) (k : Str) :
    Fc Try.prog 189 [.agg #[.string pk.b, .string pv.b], .string k.b] G [] (fun v _ _ => v = .int .i64 (cmpN pk k)) := by
 refine Fc.intro (rs := [.tmp 4]) cl189 Try.func189 rfl Try.ntmps189 rfl rfl (fun w0 => ?_)
 refine WC.seq (WC.region (W.box (L := [.string _, .string _]) rfl rfl (fun b19 => (W.as (W.nil (thn_n (WC.seq (WC.region (W.ok (ok_fieldB fd71_0 rfl) (W.ok (ok_loadB (i := 0) (vs := [.string _]) ty9 rfl rfl rfl rfl (by simp)) (W.mv (W.qcall (kcmp_fc _ _) rfl (W.as (W.nil (thn_n (WC.ret ?_))))))))))))))))
 refine ⟨.inr rfl, [_], ⟨rfl, trivial⟩, [], sn9, ?_⟩
 rfl

theorem cl_r_fc {G : GH} (pk : Str) (pv : Str) (k : Str) :
    Fc Try.prog 206 [.agg #[.string pk.b, .string pv.b], .string k.b] G [] (fun v _ _ => v = .int .i64 (cmpN pk k)) := by
 refine Fc.intro (rs := [.tmp 4]) cl206 Try.func206 rfl Try.ntmps206 rfl rfl (fun w0 => ?_)
 refine WC.seq (WC.region (W.box (L := [.string _, .string _]) rfl rfl (fun b20 => (W.as (W.nil (thn_n (WC.seq (WC.region (W.ok (ok_fieldB fd71_0 rfl) (W.ok (ok_loadB (i := 0) (vs := [.string _]) ty9 rfl rfl rfl rfl (by simp)) (W.mv (W.qcall (kcmp_fc _ _) rfl (W.as (W.nil (thn_n (WC.ret ?_))))))))))))))))
 refine ⟨.inr rfl, [_], ⟨rfl, trivial⟩, [], sn9, ?_⟩
 rfl

theorem bsfm_fc {G : GH} {v_l : Value} {l : List Pair} (h_l : SlR ePair G v_l l) (k : Str) (hr : Srt l) :
    Fc Try.prog 188 [v_l, .string k.b, .func (.func 189) #[] #[]] G [] (fun v _ _ => v = .tuple #[.int .i64 ((fndN l k : Nat) : Int), .bool ((getN l k).isSome)]) := by
 obtain ⟨sa_l, sc_l, rfl⟩ := h_l.form
 have hlen := h_l.len47
 refine Fc.intro (rs := [.tmp 6, .tmp 7]) cl188 Try.func188 rfl Try.ntmps188 rfl rfl (fun w0 => ?_)
 refine WC.seq (WC.region (W.as (W.as (W.nil (thn_n (WC.seq (WC.region (W.mv (W.ok (ok_len sl31 h_l rfl) (W.as (W.nil (thn_n (WC.seq (WC.region (W.mv ?_)))))))))))))))
 refine W.as (W.as (W.nil (thn_n (WC.seq (WC.block ?_)))))
 refine WC.loop (X := Nat × Nat) (fun x => [(9, .int .i64 ((x.1 : Nat) : Int)), (10, .int .i64 ((x.2 : Nat) : Int)), (0, .slice sa_l l.length sc_l), (1, .string k.b), (2, .func (.func 189) #[] #[]), (8, .int .i64 (((l).length : Nat) : Int))]) (fun x _ Ml => Ml = [] ∧ x.1 ≤ x.2 ∧ x.2 ≤ l.length ∧ (∀ q (h : q < l.length), q < x.1 → l[q].key.lt k = true) ∧ (∀ q (h : q < l.length), x.2 ≤ q → l[q].key.lt k = false)) (fun x => x.2 - x.1) (0, l.length) ⟨eqv, eqv, eqv, eqv, eqv, eqv, trivial⟩ ?_ ?_
 ·exact ⟨rfl, by simp, by simp, (fun q _ h => by simp at h), (fun q h h' => by simp at h'; omega)⟩
 rintro ⟨i, j⟩ gG21 G21 _ hG21 ⟨rfl, hi, hj, h1, h2⟩
 dsimp only at hi hj h1 h2
 refine WC.seq (WC.seq (WC.region (W.mv (W.mv (W.ok (ok_lss rfl rfl) (W.nil (thn_n ?_)))))))
 refine WC.cond (b := _) rfl (fun h17 => ?_) (fun h17 => ?_)
 ·have p17 := of_decide_eq_true h17
  refine WC.skip (thn_n (WC.block (WC.seq (WC.region (W.mv (W.mv (W.ok (ok_add rfl rfl (by omega)) (W.ok (ok_convU un3 un63 rfl (by omega)) (W.ok (ok_shr1 rfl rfl (by omega)) (W.ok (ok_convI un63 un3 rfl (by omega)) (W.as (W.nil (thn_n (WC.seq (WC.region ?_)))))))))))))))
  refine W.mv (W.mv (W.mv ?_))
  have q24 := (h_l.mono hG21).at (i := (i + j) / 2) (by omega)
  refine match q24 with | ⟨_, he22, e_23⟩ => ?_
  subst e_23
  refine W.ok (ok_indexAddr (i := (i + j) / 2) sl31 ty71 (h_l.mono hG21) rfl rfl ⟨by dsimp only; omega, by omega⟩) (W.ok (ok_loadE (vs := [.string _, .string _]) ty71 he22 rfl rfl rfl (by simp)) (W.mv (W.qcallV (fst := []) (caps := []) rfl (cl_m_fc _ _ _) rfl (W.ok (ok_lss rfl rfl) (W.nil (thn_n ?_))))))
  refine WC.cond (b := _) rfl (fun h31 => ?_) (fun h31 => ?_)
  ·have p31 := of_decide_eq_true h31
   refine WC.region (W.mv (W.ok (ok_add rfl rfl (by omega)) (W.as (W.nil (blk_n (thn_n ?_))))))
   exact ⟨Le.rfl, ((i + j) / 2 + 1, j), ⟨eqv, eqv, eqv, eqv, eqv, eqv, trivial⟩, ⟨rfl, by dsimp only; omega, by dsimp only; omega, (fun q h hq => hr.below (by omega) (cmpN_neg.1 p31) q h (by dsimp only at hq; omega)), h2⟩, by dsimp only; omega⟩
  have p31 := of_decide_eq_false h31
  refine WC.region (W.mv (W.as (W.nil (blk_n (thn_n ?_)))))
  exact ⟨Le.rfl, (i, (i + j) / 2), ⟨eqv, eqv, eqv, eqv, eqv, eqv, trivial⟩, ⟨rfl, by dsimp only; omega, by dsimp only; omega, h1, (fun q h hq => hr.above (by omega) (cmpN_nn p31) q h (by dsimp only at hq; omega))⟩, by dsimp only; omega⟩
 have p17 := of_decide_eq_false h17
 refine WC.exit (thn_x (thn_x (blk_h (thn_n (WC.seq (WC.region (W.mv (W.mv (W.mv (W.ok (ok_lss rfl rfl) (W.mv ?_)))))))))))
 refine W.sp 39 rfl (fun h38 => ?_) (fun h38 => ?_)
 ·have p38 := of_decide_eq_true h38
  refine W.yes (dj := 39) rfl rfl h38 (W.mv (W.yes (dj := 39) rfl rfl h38 (W.mv (W.yes (dj := 39) rfl rfl h38 (W.mv (W.yes (dj := 39) rfl rfl h38 ?_))))))
  have q27 := (h_l.mono hG21).at (i := i) (by omega)
  refine match q27 with | ⟨_, he25, e_26⟩ => ?_
  subst e_26
  refine W.ok (ok_indexAddr (i := i) sl31 ty71 (h_l.mono hG21) rfl rfl ⟨by dsimp only, by omega⟩) (W.yes (dj := 39) rfl rfl h38 (W.ok (ok_loadE (vs := [.string _, .string _]) ty71 he25 rfl rfl rfl (by simp)) (W.yes (dj := 39) rfl rfl h38 (W.mv (W.yes (dj := 39) rfl rfl h38 (W.qcallV (fst := []) (caps := []) rfl (cl_m_fc _ _ _) rfl (W.yes (dj := 39) rfl rfl h38 (W.ok (ok_eql rfl rfl) (W.ok (ok_pick_t rfl h38) (W.as (W.as (W.nil (thn_n (WC.ret ?_))))))))))))))
  refine ⟨.inr rfl, [_, _], ⟨rfl, rfl, trivial⟩, [], sn9, ?_⟩
  have hlow : fndN l k = i := fnd_eq (by omega) h1 (fun q h hq => h2 q h (by omega))
  refine tup2 (by rw [hlow]) ?_
  rw [hr.has]
  rw [cmpN_zero_d]
  exact decide_eq_decide.2 ⟨fun e => ⟨by omega, by simp only [hlow]; exact e⟩, fun ⟨_, e⟩ => by simp only [hlow] at e; exact e⟩
 have p38 := of_decide_eq_false h38
 refine W.no (dj := 39) rfl rfl h38 (W.no (dj := 39) rfl rfl h38 (W.no (dj := 39) rfl rfl h38 (W.no (dj := 39) rfl rfl h38 (W.no (dj := 39) rfl rfl h38 (W.no (dj := 39) rfl rfl h38 (W.no (dj := 39) rfl rfl h38 (W.no (dj := 39) rfl rfl h38 (W.ok (ok_pick_f rfl h38) (W.as (W.as (W.nil (thn_n (WC.ret ?_)))))))))))))
 refine ⟨.inr rfl, [_, _], ⟨rfl, rfl, trivial⟩, [], sn9, ?_⟩
 have hlow : fndN l k = i := fnd_eq (by omega) h1 (fun q h hq => h2 q h (by omega))
 refine tup2 (by rw [hlow]) ?_
 rw [hr.has]
 exact (decide_eq_false (by rintro ⟨h, _⟩; omega)).symm

theorem bsfr_fc {G : GH} {v_l : Value} {l : List Pair} (h_l : SlR ePair G v_l l) (k : Str) (hr : Srt l) :
    Fc Try.prog 188 [v_l, .string k.b, .func (.func 206) #[] #[]] G [] (fun v _ _ => v = .tuple #[.int .i64 ((fndN l k : Nat) : Int), .bool ((getN l k).isSome)]) := by
 obtain ⟨sa_l, sc_l, rfl⟩ := h_l.form
 have hlen := h_l.len47
 refine Fc.intro (rs := [.tmp 6, .tmp 7]) cl188 Try.func188 rfl Try.ntmps188 rfl rfl (fun w0 => ?_)
 refine WC.seq (WC.region (W.as (W.as (W.nil (thn_n (WC.seq (WC.region (W.mv (W.ok (ok_len sl31 h_l rfl) (W.as (W.nil (thn_n (WC.seq (WC.region (W.mv ?_)))))))))))))))
 refine W.as (W.as (W.nil (thn_n (WC.seq (WC.block ?_)))))
 refine WC.loop (X := Nat × Nat) (fun x => [(9, .int .i64 ((x.1 : Nat) : Int)), (10, .int .i64 ((x.2 : Nat) : Int)), (0, .slice sa_l l.length sc_l), (1, .string k.b), (2, .func (.func 206) #[] #[]), (8, .int .i64 (((l).length : Nat) : Int))]) (fun x _ Ml => Ml = [] ∧ x.1 ≤ x.2 ∧ x.2 ≤ l.length ∧ (∀ q (h : q < l.length), q < x.1 → l[q].key.lt k = true) ∧ (∀ q (h : q < l.length), x.2 ≤ q → l[q].key.lt k = false)) (fun x => x.2 - x.1) (0, l.length) ⟨eqv, eqv, eqv, eqv, eqv, eqv, trivial⟩ ?_ ?_
 ·exact ⟨rfl, by simp, by simp, (fun q _ h => by simp at h), (fun q h h' => by simp at h'; omega)⟩
 rintro ⟨i, j⟩ gG28 G28 _ hG28 ⟨rfl, hi, hj, h1, h2⟩
 dsimp only at hi hj h1 h2
 refine WC.seq (WC.seq (WC.region (W.mv (W.mv (W.ok (ok_lss rfl rfl) (W.nil (thn_n ?_)))))))
 refine WC.cond (b := _) rfl (fun h17 => ?_) (fun h17 => ?_)
 ·have p17 := of_decide_eq_true h17
  refine WC.skip (thn_n (WC.block (WC.seq (WC.region (W.mv (W.mv (W.ok (ok_add rfl rfl (by omega)) (W.ok (ok_convU un3 un63 rfl (by omega)) (W.ok (ok_shr1 rfl rfl (by omega)) (W.ok (ok_convI un63 un3 rfl (by omega)) (W.as (W.nil (thn_n (WC.seq (WC.region ?_)))))))))))))))
  refine W.mv (W.mv (W.mv ?_))
  have q31 := (h_l.mono hG28).at (i := (i + j) / 2) (by omega)
  refine match q31 with | ⟨_, he29, e_30⟩ => ?_
  subst e_30
  refine W.ok (ok_indexAddr (i := (i + j) / 2) sl31 ty71 (h_l.mono hG28) rfl rfl ⟨by dsimp only; omega, by omega⟩) (W.ok (ok_loadE (vs := [.string _, .string _]) ty71 he29 rfl rfl rfl (by simp)) (W.mv (W.qcallV (fst := []) (caps := []) rfl (cl_r_fc _ _ _) rfl (W.ok (ok_lss rfl rfl) (W.nil (thn_n ?_))))))
  refine WC.cond (b := _) rfl (fun h31 => ?_) (fun h31 => ?_)
  ·have p31 := of_decide_eq_true h31
   refine WC.region (W.mv (W.ok (ok_add rfl rfl (by omega)) (W.as (W.nil (blk_n (thn_n ?_))))))
   exact ⟨Le.rfl, ((i + j) / 2 + 1, j), ⟨eqv, eqv, eqv, eqv, eqv, eqv, trivial⟩, ⟨rfl, by dsimp only; omega, by dsimp only; omega, (fun q h hq => hr.below (by omega) (cmpN_neg.1 p31) q h (by dsimp only at hq; omega)), h2⟩, by dsimp only; omega⟩
  have p31 := of_decide_eq_false h31
  refine WC.region (W.mv (W.as (W.nil (blk_n (thn_n ?_)))))
  exact ⟨Le.rfl, (i, (i + j) / 2), ⟨eqv, eqv, eqv, eqv, eqv, eqv, trivial⟩, ⟨rfl, by dsimp only; omega, by dsimp only; omega, h1, (fun q h hq => hr.above (by omega) (cmpN_nn p31) q h (by dsimp only at hq; omega))⟩, by dsimp only; omega⟩
 have p17 := of_decide_eq_false h17
 refine WC.exit (thn_x (thn_x (blk_h (thn_n (WC.seq (WC.region (W.mv (W.mv (W.mv (W.ok (ok_lss rfl rfl) (W.mv ?_)))))))))))
 refine W.sp 39 rfl (fun h38 => ?_) (fun h38 => ?_)
 ·have p38 := of_decide_eq_true h38
  refine W.yes (dj := 39) rfl rfl h38 (W.mv (W.yes (dj := 39) rfl rfl h38 (W.mv (W.yes (dj := 39) rfl rfl h38 (W.mv (W.yes (dj := 39) rfl rfl h38 ?_))))))
  have q34 := (h_l.mono hG28).at (i := i) (by omega)
  refine match q34 with | ⟨_, he32, e_33⟩ => ?_
  subst e_33
  refine W.ok (ok_indexAddr (i := i) sl31 ty71 (h_l.mono hG28) rfl rfl ⟨by dsimp only, by omega⟩) (W.yes (dj := 39) rfl rfl h38 (W.ok (ok_loadE (vs := [.string _, .string _]) ty71 he32 rfl rfl rfl (by simp)) (W.yes (dj := 39) rfl rfl h38 (W.mv (W.yes (dj := 39) rfl rfl h38 (W.qcallV (fst := []) (caps := []) rfl (cl_r_fc _ _ _) rfl (W.yes (dj := 39) rfl rfl h38 (W.ok (ok_eql rfl rfl) (W.ok (ok_pick_t rfl h38) (W.as (W.as (W.nil (thn_n (WC.ret ?_))))))))))))))
  refine ⟨.inr rfl, [_, _], ⟨rfl, rfl, trivial⟩, [], sn9, ?_⟩
  have hlow : fndN l k = i := fnd_eq (by omega) h1 (fun q h hq => h2 q h (by omega))
  refine tup2 (by rw [hlow]) ?_
  rw [hr.has]
  rw [cmpN_zero_d]
  exact decide_eq_decide.2 ⟨fun e => ⟨by omega, by simp only [hlow]; exact e⟩, fun ⟨_, e⟩ => by simp only [hlow] at e; exact e⟩
 have p38 := of_decide_eq_false h38
 refine W.no (dj := 39) rfl rfl h38 (W.no (dj := 39) rfl rfl h38 (W.no (dj := 39) rfl rfl h38 (W.no (dj := 39) rfl rfl h38 (W.no (dj := 39) rfl rfl h38 (W.no (dj := 39) rfl rfl h38 (W.no (dj := 39) rfl rfl h38 (W.no (dj := 39) rfl rfl h38 (W.ok (ok_pick_f rfl h38) (W.as (W.as (W.nil (thn_n (WC.ret ?_)))))))))))))
 refine ⟨.inr rfl, [_, _], ⟨rfl, rfl, trivial⟩, [], sn9, ?_⟩
 have hlow : fndN l k = i := fnd_eq (by omega) h1 (fun q h hq => h2 q h (by omega))
 refine tup2 (by rw [hlow]) ?_
 rw [hr.has]
 exact (decide_eq_false (by rintro ⟨h, _⟩; omega)).symm

theorem find_fc {G : GH} {v_l : Value} {l : List Pair} (h_l : SlR ePair G v_l l) (k : Str) (hr : Srt l) :
    Fc Try.prog 170 [v_l, .string k.b] G [] (fun v _ _ => v = .tuple #[.int .i64 ((fndN l k : Nat) : Int), .bool ((getN l k).isSome)]) := by
 obtain ⟨sa_l, sc_l, rfl⟩ := h_l.form
 refine Fc.intro (rs := [.tmp 4, .tmp 5]) cl170 Try.func170 rfl Try.ntmps170 rfl rfl (fun w0 => ?_)
 refine WC.seq (WC.region (W.as (W.as (W.nil (thn_n (WC.seq (WC.region (W.mv (W.mv (W.qcall (bsfm_fc h_l k hr) rfl (W.ok (ok_extract rfl rfl) (W.ok (ok_extract rfl rfl) (W.as (W.as ?_))))))))))))))
 refine W.nil (thn_n (WC.ret ?_))
 refine ⟨.inr rfl, [_, _], ⟨rfl, rfl, trivial⟩, [], sn9, ?_⟩
 rfl

theorem rfind_fc {G : GH} {v_l : Value} {l : List Pair} (h_l : SlR ePair G v_l l) (k : Str) (hr : Srt l) :
    Fc Try.prog 202 [v_l, .string k.b] G [] (fun v _ _ => v = .tuple #[.int .i64 ((fndN l k : Nat) : Int), .bool ((getN l k).isSome)]) := by
 obtain ⟨sa_l, sc_l, rfl⟩ := h_l.form
 refine Fc.intro (rs := [.tmp 4, .tmp 5]) cl202 Try.func202 rfl Try.ntmps202 rfl rfl (fun w0 => ?_)
 refine WC.seq (WC.region (W.as (W.as (W.nil (thn_n (WC.seq (WC.region (W.mv (W.mv (W.qcall (bsfr_fc h_l k hr) rfl (W.ok (ok_extract rfl rfl) (W.ok (ok_extract rfl rfl) (W.as (W.as ?_))))))))))))))
 refine W.nil (thn_n (WC.ret ?_))
 refine ⟨.inr rfl, [_, _], ⟨rfl, rfl, trivial⟩, [], sn9, ?_⟩
 rfl

end Go.Proofs.Ytmbafmifalppaaa
