/- Walks of functions on effects, and where a key stands. -/
import Derived.Test.YtebkfinhhpelbaaGreatQbW4
import Derived.Test.YtebkfinhhpelbaaGreatQbW2
set_option maxRecDepth 100000
set_option maxHeartbeats 1600000
set_option linter.unusedVariables false
set_option linter.unusedSimpArgs false
set_option linter.unnecessarySimpa false
namespace Go.Proofs.YtebkfinhhpelbaaGreat
open Go Go.Fw Go.RowKit
theorem rget_fc {G : GH} {v_l : Value} {l : List Pair} (h_l : SlR ePair G v_l l) (k : Str) :
    Fc Tryz.prog 26 [v_l, .string k.b] G [] (fun v _ _ => v = .tuple #[.string (Str.b ((getN l k).getD Str.nil)), .bool ((getN l k).isSome)]) := by
 obtain ⟨sa_l, sc_l, rfl⟩ := h_l.form
 have hl := h_l.len47
 refine Fc.intro (rs := [.tmp 4, .tmp 5]) cl26 Tryz.func26 rfl Tryz.ntmps26 rfl rfl (fun w0 => ?_)
 refine WC.seq (WC.region (W.as (W.as (W.nil (thn_n (WC.seq (WC.seq (WC.region (W.as (W.nil (thn_n (WC.block ?_))))))))))))
 refine WC.loop (X := Nat) (fun i => [(6, .int .i64 ((i : Nat) : Int)), (0, .slice sa_l l.length sc_l), (1, .string k.b)]) (fun i _ Ml => Ml = [] ∧ i ≤ l.length ∧ ∀ j (h : j < l.length), j < i → l[j].key ≠ k) (fun i => l.length - i) 0 ⟨eqv, eqv, eqv, trivial⟩ ?_ ?_
 ·exact ⟨rfl, by omega, fun j _ h => by omega⟩
 rintro i gG12 G12 _ hG12 ⟨rfl, hi, hj⟩
 refine WC.seq (WC.seq (WC.region (W.mv (W.mv (W.ok (ok_len sl41 (h_l.mono hG12) rfl) (W.ok (ok_lss rfl rfl) (W.nil (thn_n ?_))))))))
 refine WC.cond (b := _) rfl (fun h10 => ?_) (fun h10 => ?_)
 ·have p10 := of_decide_eq_true h10
  refine WC.skip (thn_n (WC.seq (WC.block (WC.seq (WC.region (W.mv (W.mv ?_)))))))
  have q15 := (h_l.mono hG12).at (i := i) (by omega)
  refine match q15 with | ⟨_, he13, e_14⟩ => ?_
  subst e_14
  refine W.ok (ok_indexAddr (i := i) sl41 ty69 (h_l.mono hG12) rfl rfl ⟨by omega, by omega⟩) (W.ok (ok_fieldE fd69_0 rfl he13.form) (W.ok (ok_loadE (vs := [.string _]) ty9 he13 rfl rfl rfl (by simp)) (W.mv (W.ok (ok_eqlS rfl rfl) (W.nil (thn_n ?_))))))
  refine WC.cond (b := _) rfl (fun h19 => ?_) (fun h19 => ?_)
  ·have p19 := of_decide_eq_true h19
   refine WC.seq (WC.region (W.mv (W.mv ?_)))
   have q18 := (h_l.mono hG12).at (i := i) (by omega)
   refine match q18 with | ⟨_, he16, e_17⟩ => ?_
   subst e_17
   refine W.ok (ok_indexAddr (i := i) sl41 ty69 (h_l.mono hG12) rfl rfl ⟨by omega, by omega⟩) (W.ok (ok_fieldE fd69_1 rfl he16.form) (W.ok (ok_loadE (vs := [.string _]) ty9 he16 rfl rfl rfl (by simp)) (W.as (W.as (W.nil (thn_n (WC.ret (blk_r (thn_r (thn_r (blk_r (thn_r ?_))))))))))))
   refine ⟨.inr rfl, [_, _], ⟨rfl, rfl, trivial⟩, [], sn9, ?_⟩
   show Value.tuple #[Value.string _, Value.bool _] = _
   have e1 : l[i].key = k := Str.ext' p19
   have e := getN_at (by omega : i < l.length) (fun j h hji => by rw [e1]; exact hj j h hji)
   rw [e1] at e
   rw [e]; rfl
  have p19 := of_decide_eq_false h19
  refine WC.skip (blk_n (thn_n (WC.region (W.mv (W.ok (ok_add rfl rfl (by omega)) (W.as (W.nil (thn_n ?_))))))))
  exact ⟨Le.rfl, i + 1, ⟨eqv, eqv, eqv, trivial⟩, ⟨rfl, by omega, fun j h hji e => by
      by_cases e2 : j = i
      · subst e2; exact p19 (congrArg Str.b e)
      · exact hj j h (by omega) e⟩, by omega⟩
 have p10 := of_decide_eq_false h10
 refine WC.exit (thn_x (thn_x (blk_h (thn_n (WC.seq (WC.region (W.as (W.as (W.nil (thn_n (WC.ret ?_)))))))))))
 refine ⟨.inr rfl, [_, _], ⟨rfl, rfl, trivial⟩, [], sn9, ?_⟩
 show Value.tuple #[Value.string _, Value.bool _] = _
 rw [getN_no (fun j h => hj j h (by omega))]; rfl

theorem cmp_fc {G : GH} (a : Str) (b : Str) :
    Fc Tryz.prog 213 [.string a.b, .string b.b] G [] (fun v _ _ => v = .int .i64 (cmpN a b)) := by
 refine Fc.intro (rs := [.tmp 4]) cl213 Tryz.func213 rfl Tryz.ntmps213 rfl rfl (fun w0 => ?_)
 refine WC.seq (WC.region (W.as (W.nil (thn_n (WC.seq (WC.region (W.mv (W.qcall (isnan_fc _) rfl (W.as (W.nil (thn_n (WC.seq (WC.region (W.mv (W.qcall (isnan_fc _) rfl ?_)))))))))))))))
 refine W.as (W.nil (thn_n (WC.seq (WC.seq (WC.region (W.mv (W.nil (thn_n ?_))))))))
 refine WC.cond (b := _) rfl (fun h8 => ?_) (fun h8 => ?_)
 ·cases h8
 refine WC.skip (thn_n (WC.seq (WC.seq (WC.region (W.mv (W.nil (thn_n ?_)))))))
 refine WC.cond (b := _) rfl (fun h10 => ?_) (fun h10 => ?_)
 ·cases h10
 refine WC.skip (thn_n (WC.seq (WC.seq (WC.region (W.mv (W.mv (W.ok (ok_lssS rfl rfl) (W.nil (thn_n ?_)))))))))
 refine WC.cond (b := _) rfl (fun h16 => ?_) (fun h16 => ?_)
 ·refine WC.seq (WC.region (W.as (W.nil (thn_n (WC.ret (thn_r ?_))))))
  refine ⟨.inr rfl, [_], ⟨rfl, trivial⟩, [], sn9, ?_⟩
  refine congrArg (Value.int .i64) ?_
  simp_all [cmpN, Str.lt]
 refine WC.skip (thn_n (WC.seq (WC.seq (WC.region (W.mv (W.mv (W.ok (ok_gtrS rfl rfl) (W.nil (thn_n ?_)))))))))
 refine WC.cond (b := _) rfl (fun h19 => ?_) (fun h19 => ?_)
 ·refine WC.seq (WC.region (W.as (W.nil (thn_n (WC.ret (thn_r ?_))))))
  refine ⟨.inr rfl, [_], ⟨rfl, trivial⟩, [], sn9, ?_⟩
  refine congrArg (Value.int .i64) ?_
  simp_all [cmpN, Str.lt]
 refine WC.skip (thn_n (WC.seq (WC.region (W.as (W.nil (thn_n (WC.ret ?_)))))))
 refine ⟨.inr rfl, [_], ⟨rfl, trivial⟩, [], sn9, ?_⟩
 refine congrArg (Value.int .i64) ?_
 simp_all [cmpN, Str.lt]

theorem kcmp_fc {G : GH} (a : Str) (b : Str) :
    Fc Tryz.prog 189 [.string a.b, .string b.b] G [] (fun v _ _ => v = .int .i64 (cmpN a b)) := by
 refine Fc.intro (rs := [.tmp 4]) cl189 Tryz.func189 rfl Tryz.ntmps189 rfl rfl (fun w0 => ?_)
 refine WC.seq (WC.region (W.as (W.nil (thn_n (WC.seq (WC.region (W.mv (W.mv (W.qcall (cmp_fc _ _) rfl (W.as (W.nil (thn_n (WC.ret ?_)))))))))))))
 refine ⟨.inr rfl, [_], ⟨rfl, trivial⟩, [], sn9, ?_⟩
 rfl

theorem cl_m_fc {G : GH} (pk : Str) (pv : Str) (k : Str) :
    Fc Tryz.prog 215 [.agg #[.string pk.b, .string pv.b], .string k.b] G [] (fun v _ _ => v = .int .i64 (cmpN pk k)) := by
 refine Fc.intro (rs := [.tmp 4]) cl215 Tryz.func215 rfl Tryz.ntmps215 rfl rfl (fun w0 => ?_)
 refine WC.seq (WC.region (W.box (L := [.string _, .string _]) rfl rfl (fun b19 => (W.as (W.nil (thn_n (WC.seq (WC.region (W.ok (ok_fieldB fd69_0 rfl) (W.ok (ok_loadB (i := 0) (vs := [.string _]) ty9 rfl rfl rfl rfl (by simp)) (W.mv (W.qcall (kcmp_fc _ _) rfl (W.as (W.nil (thn_n (WC.ret ?_))))))))))))))))
 refine ⟨.inr rfl, [_], ⟨rfl, trivial⟩, [], sn9, ?_⟩
 rfl

theorem cl_r_fc {G : GH} (pk : Str) (pv : Str) (k : Str) :
    Fc Tryz.prog 188 [.agg #[.string pk.b, .string pv.b], .string k.b] G [] (fun v _ _ => v = .int .i64 (cmpN pk k)) := by
 refine Fc.intro (rs := [.tmp 4]) cl188 Tryz.func188 rfl Tryz.ntmps188 rfl rfl (fun w0 => ?_)
 refine WC.seq (WC.region (W.box (L := [.string _, .string _]) rfl rfl (fun b20 => (W.as (W.nil (thn_n (WC.seq (WC.region (W.ok (ok_fieldB fd69_0 rfl) (W.ok (ok_loadB (i := 0) (vs := [.string _]) ty9 rfl rfl rfl rfl (by simp)) (W.mv (W.qcall (kcmp_fc _ _) rfl (W.as (W.nil (thn_n (WC.ret ?_))))))))))))))))
 refine ⟨.inr rfl, [_], ⟨rfl, trivial⟩, [], sn9, ?_⟩
 rfl

theorem bsfm_fc {G : GH} {v_l : Value} {l : List Pair} (h_l : SlR ePair G v_l l) (k : Str) (hr : Srt l) :
    Fc Tryz.prog 187 [v_l, .string k.b, .func (.func 215) #[] #[]] G [] (fun v _ _ => v = .tuple #[.int .i64 ((fndN l k : Nat) : Int), .bool ((getN l k).isSome)]) := by
 obtain ⟨sa_l, sc_l, rfl⟩ := h_l.form
 have hlen := h_l.len47
 refine Fc.intro (rs := [.tmp 6, .tmp 7]) cl187 Tryz.func187 rfl Tryz.ntmps187 rfl rfl (fun w0 => ?_)
 refine WC.seq (WC.region (W.as (W.as (W.nil (thn_n (WC.seq (WC.region (W.mv (W.ok (ok_len sl41 h_l rfl) (W.as (W.nil (thn_n (WC.seq (WC.region (W.mv ?_)))))))))))))))
 refine W.as (W.as (W.nil (thn_n (WC.seq (WC.block ?_)))))
 refine WC.loop (X := Nat × Nat) (fun x => [(9, .int .i64 ((x.1 : Nat) : Int)), (10, .int .i64 ((x.2 : Nat) : Int)), (0, .slice sa_l l.length sc_l), (1, .string k.b), (2, .func (.func 215) #[] #[]), (8, .int .i64 (((l).length : Nat) : Int))]) (fun x _ Ml => Ml = [] ∧ x.1 ≤ x.2 ∧ x.2 ≤ l.length ∧ (∀ q (h : q < l.length), q < x.1 → l[q].key.lt k = true) ∧ (∀ q (h : q < l.length), x.2 ≤ q → l[q].key.lt k = false)) (fun x => x.2 - x.1) (0, l.length) ⟨eqv, eqv, eqv, eqv, eqv, eqv, trivial⟩ ?_ ?_
 ·exact ⟨rfl, by simp, by simp, (fun q _ h => by simp at h), (fun q h h' => by simp at h'; omega)⟩
 rintro ⟨i, j⟩ gG21 G21 _ hG21 ⟨rfl, hi, hj, h1, h2⟩
 dsimp only at hi hj h1 h2
 refine WC.seq (WC.seq (WC.region (W.mv (W.mv (W.ok (ok_lss rfl rfl) (W.nil (thn_n ?_)))))))
 refine WC.cond (b := _) rfl (fun h17 => ?_) (fun h17 => ?_)
 ·have p17 := of_decide_eq_true h17
  refine WC.skip (thn_n (WC.block (WC.seq (WC.region (W.mv (W.mv (W.ok (ok_add rfl rfl (by omega)) (W.ok (ok_convU un3 un64 rfl (by omega)) (W.ok (ok_shr1 rfl rfl (by omega)) (W.ok (ok_convI un64 un3 rfl (by omega)) (W.as (W.nil (thn_n (WC.seq (WC.region ?_)))))))))))))))
  refine W.mv (W.mv (W.mv ?_))
  have q24 := (h_l.mono hG21).at (i := (i + j) / 2) (by omega)
  refine match q24 with | ⟨_, he22, e_23⟩ => ?_
  subst e_23
  refine W.ok (ok_indexAddr (i := (i + j) / 2) sl41 ty69 (h_l.mono hG21) rfl rfl ⟨by dsimp only; omega, by omega⟩) (W.ok (ok_loadE (vs := [.string _, .string _]) ty69 he22 rfl rfl rfl (by simp)) (W.mv (W.qcallV (fst := []) (caps := []) rfl (cl_m_fc _ _ _) rfl (W.ok (ok_lss rfl rfl) (W.nil (thn_n ?_))))))
  refine WC.cond (b := _) rfl (fun h31 => ?_) (fun h31 => ?_)
  ·have p31 := of_decide_eq_true h31
   refine WC.region (W.mv (W.ok (ok_add rfl rfl (by omega)) (W.as (W.nil (blk_n (thn_n ?_))))))
   exact ⟨Le.rfl, ((i + j) / 2 + 1, j), ⟨eqv, eqv, eqv, eqv, eqv, eqv, trivial⟩, ⟨rfl, by dsimp only; omega, by dsimp only; omega, (fun q h hq => hr.below (by omega) (cmpN_neg.1 p31) q h (by dsimp only at hq; omega)), h2⟩, by dsimp only; omega⟩
  have p31 := of_decide_eq_false h31
  refine WC.region (W.mv (W.as (W.nil (blk_n (thn_n ?_)))))
  exact ⟨Le.rfl, (i, (i + j) / 2), ⟨eqv, eqv, eqv, eqv, eqv, eqv, trivial⟩, ⟨rfl, by dsimp only; omega, by dsimp only; omega, h1, (fun q h hq => hr.above (by omega) (cmpN_nn p31) q h (by dsimp only at hq; omega))⟩, by dsimp only; omega⟩
 have p17 := of_decide_eq_false h17
 refine WC.exit (thn_x (thn_x (blk_h (thn_n (WC.seq (WC.region (W.mv (W.mv (W.mv (W.ok (ok_lss rfl rfl) (W.mv ?_)))))))))))
 refine W.sp 39 rfl (fun h38 => ?_) (fun h38 => ?_)
 ·have p38 := of_decide_eq_true h38
  refine W.yes (dj := 39) rfl rfl h38 (W.mv (W.yes (dj := 39) rfl rfl h38 (W.mv (W.yes (dj := 39) rfl rfl h38 (W.mv (W.yes (dj := 39) rfl rfl h38 ?_))))))
  have q27 := (h_l.mono hG21).at (i := i) (by omega)
  refine match q27 with | ⟨_, he25, e_26⟩ => ?_
  subst e_26
  refine W.ok (ok_indexAddr (i := i) sl41 ty69 (h_l.mono hG21) rfl rfl ⟨by dsimp only, by omega⟩) (W.yes (dj := 39) rfl rfl h38 (W.ok (ok_loadE (vs := [.string _, .string _]) ty69 he25 rfl rfl rfl (by simp)) (W.yes (dj := 39) rfl rfl h38 (W.mv (W.yes (dj := 39) rfl rfl h38 (W.qcallV (fst := []) (caps := []) rfl (cl_m_fc _ _ _) rfl (W.yes (dj := 39) rfl rfl h38 (W.ok (ok_eql rfl rfl) (W.ok (ok_pick_t rfl h38) (W.as (W.as (W.nil (thn_n (WC.ret ?_))))))))))))))
  refine ⟨.inr rfl, [_, _], ⟨rfl, rfl, trivial⟩, [], sn9, ?_⟩
  have hlow : fndN l k = i := fnd_eq (by omega) h1 (fun q h hq => h2 q h (by omega))
  refine tup2 (by rw [hlow]) ?_
  rw [hr.has]
  rw [cmpN_zero_d]
  exact decide_eq_decide.2 ⟨fun e => ⟨by omega, by simp only [hlow]; exact e⟩, fun ⟨_, e⟩ => by simp only [hlow] at e; exact e⟩
 have p38 := of_decide_eq_false h38
 refine W.no (dj := 39) rfl rfl h38 (W.no (dj := 39) rfl rfl h38 (W.no (dj := 39) rfl rfl h38 (W.no (dj := 39) rfl rfl h38 (W.no (dj := 39) rfl rfl h38 (W.no (dj := 39) rfl rfl h38 (W.no (dj := 39) rfl rfl h38 (W.no (dj := 39) rfl rfl h38 (W.ok (ok_pick_f rfl h38) (W.as (W.as (W.nil (thn_n (WC.ret ?_)))))))))))))
 refine ⟨.inr rfl, [_, _], ⟨rfl, rfl, trivial⟩, [], sn9, ?_⟩
 have hlow : fndN l k = i := fnd_eq (by omega) h1 (fun q h hq => h2 q h (by omega))
 refine tup2 (by rw [hlow]) ?_
 rw [hr.has]
 exact (decide_eq_false (by rintro ⟨h, _⟩; omega)).symm

theorem bsfr_fc {G : GH} {v_l : Value} {l : List Pair} (h_l : SlR ePair G v_l l) (k : Str) (hr : Srt l) :
    Fc Tryz.prog 187 [v_l, .string k.b, .func (.func 188) #[] #[]] G [] (fun v _ _ => v = .tuple #[.int .i64 ((fndN l k : Nat) : Int), .bool ((getN l k).isSome)]) := by
 obtain ⟨sa_l, sc_l, rfl⟩ := h_l.form
 have hlen := h_l.len47
 refine Fc.intro (rs := [.tmp 6, .tmp 7]) cl187 Tryz.func187 rfl Tryz.ntmps187 rfl rfl (fun w0 => ?_)
 refine WC.seq (WC.region (W.as (W.as (W.nil (thn_n (WC.seq (WC.region (W.mv (W.ok (ok_len sl41 h_l rfl) (W.as (W.nil (thn_n (WC.seq (WC.region (W.mv ?_)))))))))))))))
 refine W.as (W.as (W.nil (thn_n (WC.seq (WC.block ?_)))))
 refine WC.loop (X := Nat × Nat) (fun x => [(9, .int .i64 ((x.1 : Nat) : Int)), (10, .int .i64 ((x.2 : Nat) : Int)), (0, .slice sa_l l.length sc_l), (1, .string k.b), (2, .func (.func 188) #[] #[]), (8, .int .i64 (((l).length : Nat) : Int))]) (fun x _ Ml => Ml = [] ∧ x.1 ≤ x.2 ∧ x.2 ≤ l.length ∧ (∀ q (h : q < l.length), q < x.1 → l[q].key.lt k = true) ∧ (∀ q (h : q < l.length), x.2 ≤ q → l[q].key.lt k = false)) (fun x => x.2 - x.1) (0, l.length) ⟨eqv, eqv, eqv, eqv, eqv, eqv, trivial⟩ ?_ ?_
 ·exact ⟨rfl, by simp, by simp, (fun q _ h => by simp at h), (fun q h h' => by simp at h'; omega)⟩
 rintro ⟨i, j⟩ gG28 G28 _ hG28 ⟨rfl, hi, hj, h1, h2⟩
 dsimp only at hi hj h1 h2
 refine WC.seq (WC.seq (WC.region (W.mv (W.mv (W.ok (ok_lss rfl rfl) (W.nil (thn_n ?_)))))))
 refine WC.cond (b := _) rfl (fun h17 => ?_) (fun h17 => ?_)
 ·have p17 := of_decide_eq_true h17
  refine WC.skip (thn_n (WC.block (WC.seq (WC.region (W.mv (W.mv (W.ok (ok_add rfl rfl (by omega)) (W.ok (ok_convU un3 un64 rfl (by omega)) (W.ok (ok_shr1 rfl rfl (by omega)) (W.ok (ok_convI un64 un3 rfl (by omega)) (W.as (W.nil (thn_n (WC.seq (WC.region ?_)))))))))))))))
  refine W.mv (W.mv (W.mv ?_))
  have q31 := (h_l.mono hG28).at (i := (i + j) / 2) (by omega)
  refine match q31 with | ⟨_, he29, e_30⟩ => ?_
  subst e_30
  refine W.ok (ok_indexAddr (i := (i + j) / 2) sl41 ty69 (h_l.mono hG28) rfl rfl ⟨by dsimp only; omega, by omega⟩) (W.ok (ok_loadE (vs := [.string _, .string _]) ty69 he29 rfl rfl rfl (by simp)) (W.mv (W.qcallV (fst := []) (caps := []) rfl (cl_r_fc _ _ _) rfl (W.ok (ok_lss rfl rfl) (W.nil (thn_n ?_))))))
  refine WC.cond (b := _) rfl (fun h31 => ?_) (fun h31 => ?_)
  ·have p31 := of_decide_eq_true h31
   refine WC.region (W.mv (W.ok (ok_add rfl rfl (by omega)) (W.as (W.nil (blk_n (thn_n ?_))))))
   exact ⟨Le.rfl, ((i + j) / 2 + 1, j), ⟨eqv, eqv, eqv, eqv, eqv, eqv, trivial⟩, ⟨rfl, by dsimp only; omega, by dsimp only; omega, (fun q h hq => hr.below (by omega) (cmpN_neg.1 p31) q h (by dsimp only at hq; omega)), h2⟩, by dsimp only; omega⟩
  have p31 := of_decide_eq_false h31
  refine WC.region (W.mv (W.as (W.nil (blk_n (thn_n ?_)))))
  exact ⟨Le.rfl, (i, (i + j) / 2), ⟨eqv, eqv, eqv, eqv, eqv, eqv, trivial⟩, ⟨rfl, by dsimp only; omega, by dsimp only; omega, h1, (fun q h hq => hr.above (by omega) (cmpN_nn p31) q h (by dsimp only at hq; omega))⟩, by dsimp only; omega⟩
 have p17 := of_decide_eq_false h17
 refine WC.exit (thn_x (thn_x (blk_h (thn_n (WC.seq (WC.region (W.mv (W.mv (W.mv (W.ok (ok_lss rfl rfl) (W.mv ?_)))))))))))
 refine W.sp 39 rfl (fun h38 => ?_) (fun h38 => ?_)
 ·have p38 := of_decide_eq_true h38
  refine W.yes (dj := 39) rfl rfl h38 (W.mv (W.yes (dj := 39) rfl rfl h38 (W.mv (W.yes (dj := 39) rfl rfl h38 (W.mv (W.yes (dj := 39) rfl rfl h38 ?_))))))
  have q34 := (h_l.mono hG28).at (i := i) (by omega)
  refine match q34 with | ⟨_, he32, e_33⟩ => ?_
  subst e_33
  refine W.ok (ok_indexAddr (i := i) sl41 ty69 (h_l.mono hG28) rfl rfl ⟨by dsimp only, by omega⟩) (W.yes (dj := 39) rfl rfl h38 (W.ok (ok_loadE (vs := [.string _, .string _]) ty69 he32 rfl rfl rfl (by simp)) (W.yes (dj := 39) rfl rfl h38 (W.mv (W.yes (dj := 39) rfl rfl h38 (W.qcallV (fst := []) (caps := []) rfl (cl_r_fc _ _ _) rfl (W.yes (dj := 39) rfl rfl h38 (W.ok (ok_eql rfl rfl) (W.ok (ok_pick_t rfl h38) (W.as (W.as (W.nil (thn_n (WC.ret ?_))))))))))))))
  refine ⟨.inr rfl, [_, _], ⟨rfl, rfl, trivial⟩, [], sn9, ?_⟩
  have hlow : fndN l k = i := fnd_eq (by omega) h1 (fun q h hq => h2 q h (by omega))
  refine tup2 (by rw [hlow]) ?_
  rw [hr.has]
  rw [cmpN_zero_d]
  exact decide_eq_decide.2 ⟨fun e => ⟨by omega, by simp only [hlow]; exact e⟩, fun ⟨_, e⟩ => by simp only [hlow] at e; exact e⟩
 have p38 := of_decide_eq_false h38
 refine W.no (dj := 39) rfl rfl h38 (W.no (dj := 39) rfl rfl h38 (W.no (dj := 39) rfl rfl h38 (W.no (dj := 39) rfl rfl h38 (W.no (dj := 39) rfl rfl h38 (W.no (dj := 39) rfl rfl h38 (W.no (dj := 39) rfl rfl h38 (W.no (dj := 39) rfl rfl h38 (W.ok (ok_pick_f rfl h38) (W.as (W.as (W.nil (thn_n (WC.ret ?_)))))))))))))
 refine ⟨.inr rfl, [_, _], ⟨rfl, rfl, trivial⟩, [], sn9, ?_⟩
 have hlow : fndN l k = i := fnd_eq (by omega) h1 (fun q h hq => h2 q h (by omega))
 refine tup2 (by rw [hlow]) ?_
 rw [hr.has]
 exact (decide_eq_false (by rintro ⟨h, _⟩; omega)).symm

theorem find_fc {G : GH} {v_l : Value} {l : List Pair} (h_l : SlR ePair G v_l l) (k : Str) (hr : Srt l) :
    Fc Tryz.prog 194 [v_l, .string k.b] G [] (fun v _ _ => v = .tuple #[.int .i64 ((fndN l k : Nat) : Int), .bool ((getN l k).isSome)]) := by
 obtain ⟨sa_l, sc_l, rfl⟩ := h_l.form
 refine Fc.intro (rs := [.tmp 4, .tmp 5]) cl194 Tryz.func194 rfl Tryz.ntmps194 rfl rfl (fun w0 => ?_)
 refine WC.seq (WC.region (W.as (W.as (W.nil (thn_n (WC.seq (WC.region (W.mv (W.mv (W.qcall (bsfm_fc h_l k hr) rfl (W.ok (ok_extract rfl rfl) (W.ok (ok_extract rfl rfl) (W.as (W.as ?_))))))))))))))
 refine W.nil (thn_n (WC.ret ?_))
 refine ⟨.inr rfl, [_, _], ⟨rfl, rfl, trivial⟩, [], sn9, ?_⟩
 rfl

theorem rfind_fc {G : GH} {v_l : Value} {l : List Pair} (h_l : SlR ePair G v_l l) (k : Str) (hr : Srt l) :
    Fc Tryz.prog 144 [v_l, .string k.b] G [] (fun v _ _ => v = .tuple #[.int .i64 ((fndN l k : Nat) : Int), .bool ((getN l k).isSome)]) := by
 obtain ⟨sa_l, sc_l, rfl⟩ := h_l.form
 refine Fc.intro (rs := [.tmp 4, .tmp 5]) cl144 Tryz.func144 rfl Tryz.ntmps144 rfl rfl (fun w0 => ?_)
 refine WC.seq (WC.region (W.as (W.as (W.nil (thn_n (WC.seq (WC.region (W.mv (W.mv (W.qcall (bsfr_fc h_l k hr) rfl (W.ok (ok_extract rfl rfl) (W.ok (ok_extract rfl rfl) (W.as (W.as ?_))))))))))))))
 refine W.nil (thn_n (WC.ret ?_))
 refine ⟨.inr rfl, [_, _], ⟨rfl, rfl, trivial⟩, [], sn9, ?_⟩
 rfl

end Go.Proofs.YtebkfinhhpelbaaGreat
namespace Go.Proofs.YtebkfinhhpelbaaGreat
open Go Go.Fw Go.RowKit
theorem rscan_fc {G : GH} {v_l : Value} {l : List Pair} (h_l : SlR ePair G v_l l) (slo : Str) (shi : Str) (so : Bool) (n : Int) (hn : l.length ≤ 100000000) :
    Fc Tryz.prog 50 [v_l, .agg #[.string slo.b, .string shi.b, .bool so], .int .i64 n] G [] (fun v G' M' => M' = [] ∧ ∃ u0, v = u0 ∧ SlR ePair G' u0 (scanN l ⟨slo, shi, so⟩ n)) := by
 obtain ⟨sa_l, sc_l, rfl⟩ := h_l.form
 have hl := h_l.len47
 refine Fc.intro (rs := [.tmp 6]) cl50 Tryz.func50 rfl Tryz.ntmps50 rfl rfl (fun w0 => ?_)
 refine WC.seq (WC.region (W.box (L := [.string _, .string _, .bool _]) rfl rfl (fun b13 => (W.as (W.nil (thn_n (WC.seq (WC.region (W.as (W.nil (thn_n (WC.seq (WC.seq (WC.region (W.as (W.nil (thn_n ?_)))))))))))))))))
 refine WC.block ?_
 refine WC.loop (X := (Nat) × Value × MH) (fun i => [(8, .int .i64 ((i.1 : Nat) : Int)), (4, .pointer (some ⟨b13, 0, none⟩)), (0, .slice sa_l l.length sc_l), (2, .int .i64 n), (7, i.2.1)]) (fun i G Ml => Ml = ((b13, .cells (List.toArray [.string slo.b, .string shi.b, .bool so]) 52 (0, 0)) :: (i.2.2 ++ [])) ∧ OwnR ePair 69 G i.2.1 (scanN (l.take i.1) ⟨slo, shi, so⟩ n) i.2.2 ∧ i.1 ≤ l.length) (fun i => l.length - i.1) (0, .slice none 0 0, ([] : MH)) ⟨eqv, eqv, eqv, eqv, eqv, trivial⟩ ?_ ?_
 ·exact ⟨rfl, (by simpa [scanN] using OwnR.nil), by omega⟩
 rintro ⟨i, v_7, M_7⟩ gG14 G14 _ hG14 ⟨rfl, ho_7, hi⟩
 try dsimp only at ho_7 hi
 have hsl := scan_len (l := l.take i) (s := ⟨slo, shi, so⟩) (n := n)
 have htl : (l.take i).length ≤ i := by simp; omega
 refine WC.fr (f := setL gG14 [(8, .int .i64 ((i : Nat) : Int)), (4, .pointer (some ⟨b13, 0, none⟩)), (0, .slice sa_l l.length sc_l), (2, .int .i64 n), (7, v_7)]) rfl (WC.seq (WC.seq (WC.region (W.mv (W.mv (W.ok (ok_len sl41 (h_l.mono hG14) rfl) (W.ok (ok_lss rfl rfl) (W.nil (thn_n ?_)))))))))
 refine WC.cond (b := _) rfl (fun h12 => ?_) (fun h12 => ?_)
 ·have p12 := of_decide_eq_true h12
  refine WC.skip (thn_n (WC.seq (WC.block (WC.seq (WC.draw mix (by kernel_rfl) (W.ok (ok_loadB (i := 0) (vs := [.string _, .string _, .bool _]) ty52 rfl rfl rfl rfl (by simp)) (W.mv (W.mv ?_))))))))
  have q17 := (h_l.mono hG14).at (i := i) (by omega)
  refine match q17 with | ⟨_, he15, e_16⟩ => ?_
  subst e_16
  refine W.ok (ok_indexAddr (i := i) sl41 ty69 (h_l.mono hG14) rfl rfl ⟨by omega, by omega⟩) (W.ok (ok_fieldE fd69_0 rfl he15.form) (W.ok (ok_loadE (vs := [.string _]) ty9 he15 rfl rfl rfl (by simp)) (W.qcall (has_fc _ _ _ _) rfl (W.mv ?_))))
  refine W.sp 22 rfl (fun h21 => ?_) (fun h21 => ?_)
  ·refine W.yes (dj := 22) rfl rfl h21 (W.mv (W.yes (dj := 22) rfl rfl h21 (W.ok (ok_lenO sl41 ho_7 rfl) (W.yes (dj := 22) rfl rfl h21 (W.mv (W.yes (dj := 22) rfl rfl h21 (W.ok (ok_lss rfl rfl) (W.ok (ok_pick_t rfl h21) (W.nil (thn_n ?_))))))))))
   refine WC.cond (b := _) rfl (fun h26 => ?_) (fun h26 => ?_)
   ·have p26 := of_decide_eq_true h26
    refine WC.region (W.mv (W.mv (W.mv ?_)))
    have q20 := (h_l.mono hG14).at (i := i) (by omega)
    refine match q20 with | ⟨_, he18, e_19⟩ => ?_
    subst e_19
    refine W.ok (ok_indexAddr (i := i) sl41 ty69 (h_l.mono hG14) rfl rfl ⟨by omega, by omega⟩) (W.ok (ok_loadE (vs := [.string _, .string _]) ty69 he18 rfl rfl rfl (by simp)) (W.lit (e := ePair) (l := [((l)[i])]) (css := [[.string _, .string _]]) sl41 ty69 zr69 rfl rfl rfl rfl rfl rfl ⟨rfl, trivial⟩ (fun bl21 G21 hG21 hv21 => (W.app (e := ePair) sl41 ty69 zr69 rfl by69 rfl rfl ((ho_7.mono hG21)) (hv21) (pmC pr9) (by show (_ + 1) * 32 ≤ _; (try simp only [List.length_append] at *); omega) (fun v22 Ms23 ho24 => (W.perm (pmC pr9).symm (W.as (W.nil (blk_n (thn_n (WC.region (W.mv (W.ok (ok_add rfl rfl (by omega)) (W.as (W.nil (thn_n ?_))))))))))))))))
    exact ⟨hG21, (i + 1, v22, Ms23), ⟨eqv, eqv, eqv, eqv, eqv, trivial⟩, ⟨rfl, (by have h := ho24; rw [scan_succ_t (by omega) (by omega) (by simpa using h21)]; exact h), by omega⟩, by omega⟩
   have p26 := of_decide_eq_false h26
   refine WC.skip (blk_n (thn_n (WC.region (W.mv (W.ok (ok_add rfl rfl (by omega)) (W.as (W.nil (thn_n ?_))))))))
   exact ⟨Le.rfl, (i + 1, v_7, M_7), ⟨eqv, eqv, eqv, eqv, eqv, trivial⟩, ⟨rfl, (by have h := ho_7; rw [scan_full' (by omega) (by omega)]; exact h), by omega⟩, by omega⟩
  refine W.no (dj := 22) rfl rfl h21 (W.no (dj := 22) rfl rfl h21 (W.no (dj := 22) rfl rfl h21 (W.no (dj := 22) rfl rfl h21 (W.ok (ok_pick_f rfl h21) (W.nil (thn_n (WC.cond_f rfl rfl (WC.skip (blk_n (thn_n (WC.region (W.mv (W.ok (ok_add rfl rfl (by omega)) (W.as (W.nil (thn_n ?_))))))))))))))))
  exact ⟨Le.rfl, (i + 1, v_7, M_7), ⟨eqv, eqv, eqv, eqv, eqv, trivial⟩, ⟨rfl, (by have h := ho_7; rw [scan_succ_f (by omega) (by simpa using h21)]; exact h), by omega⟩, by omega⟩
 have p12 := of_decide_eq_false h12
 refine WC.exit (thn_x (thn_x (blk_h (thn_n (WC.seq (WC.region (W.mv (W.as (W.nil (thn_n (WC.giveO ho_7 (pmC pr9) (fun G25 hG25 hv25 => (WC.ret ?_)))))))))))))
 refine ⟨.inr rfl, [_], ⟨rfl, trivial⟩, [], sn9, ?_⟩
 refine ⟨rfl, _, rfl, ?_⟩
 · have h := hv25; rw [List.take_of_length_le (by omega)] at h; exact h

theorem within_fc {G : GH} {v_l : Value} {l : List Pair} (h_l : SlR ePair G v_l l) (slo : Str) (shi : Str) (so : Bool) (hn : l.length ≤ 1000000) :
    Fc Tryz.prog 153 [v_l, .agg #[.string slo.b, .string shi.b, .bool so]] G [] (fun v G' M' => M' = [] ∧ ∃ u0, v = u0 ∧ SlR ePair G' u0 (l.filter (fun p : Pair => Span.has ⟨slo, shi, so⟩ p.key))) := by
 obtain ⟨sa_l, sc_l, rfl⟩ := h_l.form
 have hl := h_l.len47
 refine Fc.intro (rs := [.tmp 4]) cl153 Tryz.func153 rfl Tryz.ntmps153 rfl rfl (fun w0 => ?_)
 refine WC.seq (WC.region (W.box (L := [.string _, .string _, .bool _]) rfl rfl (fun b26 => (W.as (W.nil (thn_n (WC.seq (WC.region (W.as (W.nil (thn_n (WC.seq (WC.seq (WC.region (W.mv (W.ok (ok_len sl41 h_l rfl) ?_))))))))))))))))
 refine W.mv (W.nil (thn_n (WC.block ?_)))
 refine WC.loop (X := (Nat) × Value × MH) (fun i => [(10, .int .i64 ((i.1 : Nat) : Int)), (3, .pointer (some ⟨b26, 0, none⟩)), (8, .slice sa_l l.length sc_l), (9, .int .i64 (((l).length : Nat) : Int)), (5, i.2.1)]) (fun i G Ml => Ml = ((b26, .cells (List.toArray [.string slo.b, .string shi.b, .bool so]) 52 (0, 0)) :: (i.2.2 ++ [])) ∧ OwnR ePair 69 G i.2.1 (List.filter (fun p : Pair => Span.has ⟨slo, shi, so⟩ p.key) (l.take i.1)) i.2.2 ∧ i.1 ≤ l.length) (fun i => l.length - i.1) (0, .slice none 0 0, ([] : MH)) ⟨eqv, eqv, eqv, eqv, eqv, trivial⟩ ?_ ?_
 ·exact ⟨rfl, (by simpa using OwnR.nil), by omega⟩
 rintro ⟨i, v_5, M_5⟩ gG27 G27 _ hG27 ⟨rfl, ho_5, hi⟩
 try dsimp only at ho_5 hi
 have hfl := filt_le (fun p : Pair => Span.has ⟨slo, shi, so⟩ p.key) l i
 refine WC.fr (f := setL gG27 [(10, .int .i64 ((i : Nat) : Int)), (3, .pointer (some ⟨b26, 0, none⟩)), (8, .slice sa_l l.length sc_l), (9, .int .i64 (((l).length : Nat) : Int)), (5, v_5)]) rfl (WC.seq (WC.region (W.ok (ok_lss rfl rfl) (W.nil (thn_n (WC.seq ?_))))))
 refine WC.cond (b := _) rfl (fun h11 => ?_) (fun h11 => ?_)
 ·have p11 := of_decide_eq_true h11
  refine WC.skip (thn_n (WC.seq (WC.block (WC.seq (WC.region ?_)))))
  have q30 := (h_l.mono hG27).at (i := i) (by omega)
  refine match q30 with | ⟨_, he28, e_29⟩ => ?_
  subst e_29
  refine W.ok (ok_indexAddr (i := i) sl41 ty69 (h_l.mono hG27) rfl rfl ⟨by omega, by omega⟩) (W.ok (ok_loadE (vs := [.string _, .string _]) ty69 he28 rfl rfl rfl (by simp)) (W.alloc zr69 (fun b31 => (W.store (i := 0) (vs := [.string _, .string _]) (L' := [.string _, .string _]) ty69 rfl rfl rfl rfl rfl rfl rfl rfl (W.nil (thn_n (WC.seq (WC.region (W.ok (ok_loadB (i := 1) (vs := [.string _, .string _, .bool _]) ty52 rfl rfl rfl rfl (by simp)) (W.ok (ok_fieldB fd69_0 rfl) (W.ok (ok_loadB (i := 0) (vs := [.string _]) ty9 rfl rfl rfl rfl (by simp)) (W.qcall (spanhas_fc _ _ _ _) rfl (W.nil (thn_n ?_))))))))))))))
  refine WC.cond (b := _) rfl (fun h17 => ?_) (fun h17 => ?_)
  ·refine WC.region (W.mv (W.ok (ok_loadB (i := 0) (vs := [.string _, .string _]) ty69 rfl rfl rfl rfl (by simp)) (W.lit (e := ePair) (l := [⟨((l)[i]).key, ((l)[i]).val⟩]) (css := [[.string _, .string _]]) sl41 ty69 zr69 rfl rfl rfl rfl rfl rfl ⟨rfl, trivial⟩ (fun bl32 G32 hG32 hv32 => (W.app (e := ePair) sl41 ty69 zr69 rfl by69 rfl rfl ((ho_5.mono hG32)) (hv32) (pmC (pmC pr9)) (by show (_ + 1) * 32 ≤ _; (try simp only [List.length_append] at *); omega) (fun v33 Ms34 ho35 => (W.perm (pmC (pmC pr9)).symm (W.as (W.nil (blk_n (thn_n (WC.region (W.ok (ok_add rfl rfl (by omega)) (W.mv (W.sub (sr9.cons _) (W.nil (thn_n ?_)))))))))))))))))
   exact ⟨hG32, (i + 1, v33, Ms34), ⟨eqv, eqv, eqv, eqv, eqv, trivial⟩, ⟨rfl, (by have h := ho35; rw [filt_t (p := (fun p : Pair => Span.has ⟨slo, shi, so⟩ p.key)) (by omega) (by simpa using h17)]; exact h), by omega⟩, by omega⟩
  refine WC.skip (blk_n (thn_n (WC.region (W.ok (ok_add rfl rfl (by omega)) (W.mv (W.sub (sr9.cons _) (W.nil (thn_n ?_))))))))
  exact ⟨Le.rfl, (i + 1, v_5, M_5), ⟨eqv, eqv, eqv, eqv, eqv, trivial⟩, ⟨rfl, (by have h := ho_5; rw [filt_f (p := (fun p : Pair => Span.has ⟨slo, shi, so⟩ p.key)) (by omega) (by simpa using h17)]; exact h), by omega⟩, by omega⟩
 have p11 := of_decide_eq_false h11
 refine WC.exit (thn_x (thn_x (blk_h (thn_n (WC.seq (WC.region (W.mv (W.as (W.nil (thn_n (WC.giveO ho_5 (pmC pr9) (fun G36 hG36 hv36 => (WC.ret ?_)))))))))))))
 refine ⟨.inr rfl, [_], ⟨rfl, trivial⟩, [], sn9, ?_⟩
 refine ⟨rfl, _, rfl, ?_⟩
 · have h := hv36; rw [List.take_of_length_le (by omega)] at h; exact h

end Go.Proofs.YtebkfinhhpelbaaGreat

namespace Go.Fw
section
variable {α : Type} {q : α → Bool} {l m : List α}
def idxN (q : α → Bool) (l : List α) : Int := match l.findIdx? q with
 | some i => i
 | none => -1
theorem idxN_at {k : Nat} (hk : k < l.length) (h : q l[k] = true) (hj : ∀ j (h : j < l.length), j < k → q l[j] = false) : idxN q l = k := by
 have e : l.findIdx? q = some k := by
  rw [List.findIdx?_eq_some_iff_getElem]
  exact ⟨hk, h, fun j hji => by have := hj j (by omega) hji; simp [this]⟩
 unfold idxN; rw [e]
theorem idxN_no (h : ∀ j (h : j < l.length), q l[j] = false) : idxN q l = -1 := by
 have e : l.findIdx? q = none := by
  rw [List.findIdx?_eq_none_iff]
  intro x hx
  obtain ⟨j, hj, rfl⟩ := List.getElem_of_mem hx
  exact h j hj
 unfold idxN; rw [e]
theorem idxN_cases (q : α → Bool) (l : List α) : (idxN q l = -1 ∧ ∀ x ∈ l, q x = false) ∨ ∃ k, ∃ h : k < l.length, idxN q l = (k : Nat) ∧ q l[k] = true ∧ ∀ j (h : j < l.length), j < k → q l[j] = false := by
 cases e : l.findIdx? q with
 | none =>
  left
  refine ⟨by unfold idxN; rw [e], ?_⟩
  exact List.findIdx?_eq_none_iff.1 e
 | some k =>
  right
  obtain ⟨h1, h2, h3⟩ := List.findIdx?_eq_some_iff_getElem.1 e
  exact ⟨k, h1, by unfold idxN; rw [e], h2, fun j hj hji => by have := h3 j hji; simpa using this⟩
theorem idxN_le (q : α → Bool) (l : List α) : -1 ≤ idxN q l ∧ idxN q l < (l.length : Nat) := by
 rcases idxN_cases q l with ⟨h, _⟩ | ⟨k, h1, h2, _⟩
 ·omega
 ·omega
theorem idx_none (h : idxN q l = -1) : l.filter (fun a => !q a) = l := by
 rcases idxN_cases q l with ⟨_, h2⟩ | ⟨k, h1, h2, _⟩
 ·exact List.filter_eq_self.2 fun a ha => by rw [h2 a ha]; rfl
 ·omega
theorem idx_first (h : ¬ idxN q l = -1) : l.take (idxN q l).toNat = (l.take ((idxN q l).toNat + 1)).filter (fun a => !q a) := by
 rcases idxN_cases q l with ⟨h1, _⟩ | ⟨k, h1, h2, h3, h4⟩
 ·exact absurd h1 h
 ·rw [h2]
  simp only [Int.toNat_natCast]
  rw [filt_f (p := fun a => !q a) h1 (by rw [h3]; rfl)]
  symm
  refine List.filter_eq_self.2 fun a ha => ?_
  obtain ⟨j, hj, rfl⟩ := List.getElem_of_mem ha
  simp only [List.length_take] at hj
  rw [List.getElem_take, h4 j (by omega) (by omega)]; rfl
theorem drop_get {j : Nat} (hj : j < m.length) (hl : j < l.length) (h : m.drop j = l.drop j) : m[j] = l[j] := by
 rw [List.drop_eq_getElem_cons hj, List.drop_eq_getElem_cons hl] at h
 exact (List.cons.inj h).1
theorem drop_succ_of {j : Nat} (h : m.drop j = l.drop j) : m.drop (j + 1) = l.drop (j + 1) := by
 have := congrArg (List.drop 1) h
 rwa [List.drop_drop, List.drop_drop] at this
theorem del_keep {i j : Nat} {p : α → Bool} (hij : i < j) (hjl : j < l.length) (hml : m.length = l.length) (hmt : m.take i = (l.take j).filter p) (hmd : m.drop j = l.drop j) (hq : p l[j] = true) : (m.set i (m[j]'(by omega))).take (i + 1) = (l.take (j + 1)).filter p ∧ (m.set i (m[j]'(by omega))).drop (j + 1) = l.drop (j + 1) := by
 have e := drop_get (by omega) hjl hmd
 constructor
 ·rw [filt_t hjl hq, ← hmt, e, List.take_succ_eq_append_getElem (by simp; omega), List.take_set_of_le (Nat.le_refl _)]
  simp
 ·rw [List.drop_set_of_lt (by omega)]
  exact drop_succ_of hmd
theorem del_skip {i j : Nat} {p : α → Bool} (hjl : j < l.length) (hmt : m.take i = (l.take j).filter p) (hmd : m.drop j = l.drop j) (hq : p l[j] = false) : m.take i = (l.take (j + 1)).filter p ∧ m.drop (j + 1) = l.drop (j + 1) :=
 ⟨by rw [filt_f hjl hq]; exact hmt, drop_succ_of hmd⟩
end
end Go.Fw
