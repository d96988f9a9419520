/- Walks of functions on effects, and where a key stands. -/
import Derived.Test.YthmkpaoolhcibaaDoorW4
import Derived.Test.YthmkpaoolhcibaaDoorW2
namespace Go.Proofs.YthmkpaoolhcibaaDoor
open Go Go.Fw Go.RowKit
set_option maxRecDepth 100000
set_option maxHeartbeats 1600000
set_option linter.unusedVariables false
set_option linter.unusedSimpArgs false
set_option linter.unnecessarySimpa false
theorem rget_fc {G : GH} {v_l : Value} {l : List Pair} (h_l : SlR ePair G v_l l) (k : Str) :
    Fc Tryd.prog 33 [v_l, .string k.b] G [] (fun v _ _ => v = .tuple #[.string (Str.b ((getN l k).getD Str.nil)), .bool ((getN l k).isSome)]) := by
 obtain ⟨sa_l, sc_l, rfl⟩ := h_l.form
 have hl := h_l.len47
 refine Fc.intro (rs := [.tmp 4, .tmp 5]) cl33 Tryd.func33 rfl Tryd.ntmps33 rfl rfl (fun w0 => ?_)
 refine WC.seq ?_
 refine WC.region ?_
 refine W.as ?_
 refine W.as ?_
 refine W.nil (thn_n ?_)
 refine WC.seq ?_
 refine WC.seq ?_
 refine WC.region ?_
 refine W.as ?_
 refine W.nil (thn_n ?_)
 refine WC.block ?_
 refine WC.loop (X := Nat) (fun i => [(6, .int .i64 ((i : Nat) : Int)), (0, .slice sa_l l.length sc_l), (1, .string k.b)]) (fun i _ Ml => Ml = [] ∧ i ≤ l.length ∧ ∀ j (h : j < l.length), j < i → l[j].key ≠ k) (fun i => l.length - i) 0 ⟨(by first | rfl | exact iv (by dsimp only; omega) | exact iv (by omega)), (by first | rfl | exact iv (by dsimp only; omega) | exact iv (by omega)), (by first | rfl | exact iv (by dsimp only; omega) | exact iv (by omega)), trivial⟩ ?_ ?_
 ·exact ⟨rfl, by omega, fun j _ h => by omega⟩
 ·rintro i gG1 G1 _ hG1 ⟨rfl, hi, hj⟩
  refine WC.seq ?_
  refine WC.seq ?_
  refine WC.region ?_
  refine W.mv ?_
  refine W.mv ?_
  refine W.ok (ok_len sl25 (h_l.mono hG1) rfl) ?_
  refine W.ok (ok_lss rfl rfl) ?_
  refine W.nil (thn_n ?_)
  refine WC.cond (b := _) rfl (fun h10 => ?_) (fun h10 => ?_)
  ·have p10 := of_decide_eq_true h10
   refine WC.skip (thn_n ?_)
   refine WC.seq ?_
   refine WC.block ?_
   refine WC.seq ?_
   refine WC.region ?_
   refine W.mv ?_
   refine W.mv ?_
   have q4 := (h_l.mono hG1).at (i := i) (by omega)
   refine match q4 with | ⟨_, he2, e_3⟩ => ?_
   subst e_3
   refine W.ok (ok_indexAddr (i := i) sl25 ty45 (h_l.mono hG1) rfl rfl ⟨by omega, by omega⟩) ?_
   refine W.ok (ok_fieldE fd45_0 rfl he2.form) ?_
   refine W.ok (ok_loadE (vs := [.string _]) ty9 he2 rfl rfl rfl (by simp)) ?_
   refine W.mv ?_
   refine W.ok (ok_eqlS rfl rfl) ?_
   refine W.nil (thn_n ?_)
   refine WC.cond (b := _) rfl (fun h19 => ?_) (fun h19 => ?_)
   ·have p19 := of_decide_eq_true h19
    refine WC.seq ?_
    refine WC.region ?_
    refine W.mv ?_
    refine W.mv ?_
    have q7 := (h_l.mono hG1).at (i := i) (by omega)
    refine match q7 with | ⟨_, he5, e_6⟩ => ?_
    subst e_6
    refine W.ok (ok_indexAddr (i := i) sl25 ty45 (h_l.mono hG1) rfl rfl ⟨by omega, by omega⟩) ?_
    refine W.ok (ok_fieldE fd45_1 rfl he5.form) ?_
    refine W.ok (ok_loadE (vs := [.string _]) ty9 he5 rfl rfl rfl (by simp)) ?_
    refine W.as ?_
    refine W.as ?_
    refine W.nil (thn_n ?_)
    refine WC.ret (blk_r (thn_r (thn_r (blk_r (thn_r ?_)))))
    refine ⟨.inr rfl, [_, _], ⟨rfl, rfl, trivial⟩, [], List.nil_sublist _, ?_⟩
    show Value.tuple #[Value.string _, Value.bool _] = _
    have e1 : l[i].key = k := Str.ext' p19
    have e := getN_at (by omega : i < l.length) (fun j h hji => by rw [e1]; exact hj j h hji)
    rw [e1] at e
    rw [e]; rfl
   ·have p19 := of_decide_eq_false h19
    refine WC.skip (blk_n (thn_n ?_))
    refine WC.region ?_
    refine W.mv ?_
    refine W.ok (ok_add rfl rfl (by omega)) ?_
    refine W.as ?_
    refine W.nil (thn_n ?_)
    exact ⟨Le.rfl, i + 1, ⟨(by first | rfl | exact iv (by dsimp only; omega) | exact iv (by omega)), (by first | rfl | exact iv (by dsimp only; omega) | exact iv (by omega)), (by first | rfl | exact iv (by dsimp only; omega) | exact iv (by omega)), trivial⟩, ⟨rfl, by omega, fun j h hji e => by
      by_cases e2 : j = i
      · subst e2; exact p19 (congrArg Str.b e)
      · exact hj j h (by omega) e⟩, by omega⟩
  ·have p10 := of_decide_eq_false h10
   refine WC.exit (thn_x (thn_x (blk_h (thn_n ?_))))
   refine WC.seq ?_
   refine WC.region ?_
   refine W.as ?_
   refine W.as ?_
   refine W.nil (thn_n ?_)
   refine WC.ret ?_
   refine ⟨.inr rfl, [_, _], ⟨rfl, rfl, trivial⟩, [], List.nil_sublist _, ?_⟩
   show Value.tuple #[Value.string _, Value.bool _] = _
   rw [getN_no (fun j h => hj j h (by omega))]; rfl

theorem cmp_fc {G : GH} (a : Str) (b : Str) :
    Fc Tryd.prog 76 [.string a.b, .string b.b] G [] (fun v _ _ => v = .int .i64 (cmpN a b)) := by
 refine Fc.intro (rs := [.tmp 4]) cl76 Tryd.func76 rfl Tryd.ntmps76 rfl rfl (fun w0 => ?_)
 refine WC.seq ?_
 refine WC.region ?_
 refine W.as ?_
 refine W.nil (thn_n ?_)
 refine WC.seq ?_
 refine WC.region ?_
 refine W.mv ?_
 refine W.qcall (isnan_fc _) rfl ?_
 refine W.as ?_
 refine W.nil (thn_n ?_)
 refine WC.seq ?_
 refine WC.region ?_
 refine W.mv ?_
 refine W.qcall (isnan_fc _) rfl ?_
 refine W.as ?_
 refine W.nil (thn_n ?_)
 refine WC.seq ?_
 refine WC.seq ?_
 refine WC.region ?_
 refine W.mv ?_
 refine W.nil (thn_n ?_)
 refine WC.cond (b := _) rfl (fun h8 => ?_) (fun h8 => ?_)
 ·cases h8
 ·refine WC.skip (thn_n ?_)
  refine WC.seq ?_
  refine WC.seq ?_
  refine WC.region ?_
  refine W.mv ?_
  refine W.nil (thn_n ?_)
  refine WC.cond (b := _) rfl (fun h10 => ?_) (fun h10 => ?_)
  ·cases h10
  ·refine WC.skip (thn_n ?_)
   refine WC.seq ?_
   refine WC.seq ?_
   refine WC.region ?_
   refine W.mv ?_
   refine W.mv ?_
   refine W.ok (ok_lssS rfl rfl) ?_
   refine W.nil (thn_n ?_)
   refine WC.cond (b := _) rfl (fun h16 => ?_) (fun h16 => ?_)
   ·refine WC.seq ?_
    refine WC.region ?_
    refine W.as ?_
    refine W.nil (thn_n ?_)
    refine WC.ret (thn_r ?_)
    refine ⟨.inr rfl, [_], ⟨rfl, trivial⟩, [], List.nil_sublist _, ?_⟩
    refine congrArg (Value.int .i64) ?_
    simp_all [cmpN, Str.lt]
   ·refine WC.skip (thn_n ?_)
    refine WC.seq ?_
    refine WC.seq ?_
    refine WC.region ?_
    refine W.mv ?_
    refine W.mv ?_
    refine W.ok (ok_gtrS rfl rfl) ?_
    refine W.nil (thn_n ?_)
    refine WC.cond (b := _) rfl (fun h19 => ?_) (fun h19 => ?_)
    ·refine WC.seq ?_
     refine WC.region ?_
     refine W.as ?_
     refine W.nil (thn_n ?_)
     refine WC.ret (thn_r ?_)
     refine ⟨.inr rfl, [_], ⟨rfl, trivial⟩, [], List.nil_sublist _, ?_⟩
     refine congrArg (Value.int .i64) ?_
     simp_all [cmpN, Str.lt]
    ·refine WC.skip (thn_n ?_)
     refine WC.seq ?_
     refine WC.region ?_
     refine W.as ?_
     refine W.nil (thn_n ?_)
     refine WC.ret ?_
     refine ⟨.inr rfl, [_], ⟨rfl, trivial⟩, [], List.nil_sublist _, ?_⟩
     refine congrArg (Value.int .i64) ?_
     simp_all [cmpN, Str.lt]

theorem kcmp_fc {G : GH} (a : Str) (b : Str) :
    Fc Tryd.prog 66 [.string a.b, .string b.b] G [] (fun v _ _ => v = .int .i64 (cmpN a b)) := by
 refine Fc.intro (rs := [.tmp 4]) cl66 Tryd.func66 rfl Tryd.ntmps66 rfl rfl (fun w0 => ?_)
 refine WC.seq ?_
 refine WC.region ?_
 refine W.as ?_
 refine W.nil (thn_n ?_)
 refine WC.seq ?_
 refine WC.region ?_
 refine W.mv ?_
 refine W.mv ?_
 refine W.qcall (cmp_fc _ _) rfl ?_
 refine W.as ?_
 refine W.nil (thn_n ?_)
 refine WC.ret ?_
 refine ⟨.inr rfl, [_], ⟨rfl, trivial⟩, [], List.nil_sublist _, ?_⟩
 rfl

theorem cl_m_fc {G : GH} (pk : Str) (pv : Str) (k : Str) :
    Fc Tryd.prog 65 [.agg #[.string pk.b, .string pv.b], .string k.b] G [] (fun v _ _ => v = .int .i64 (cmpN pk k)) := by
 refine Fc.intro (rs := [.tmp 4]) cl65 Tryd.func65 rfl Tryd.ntmps65 rfl rfl (fun w0 => ?_)
 refine WC.seq ?_
 refine WC.region ?_
 refine W.box (L := [.string _, .string _]) rfl rfl (fun b8 => ?_)
 refine W.as ?_
 refine W.nil (thn_n ?_)
 refine WC.seq ?_
 refine WC.region ?_
 refine W.ok (ok_fieldB fd45_0 rfl) ?_
 refine W.ok (ok_loadB (i := 0) (vs := [.string _]) ty9 rfl rfl rfl rfl (by simp)) ?_
 refine W.mv ?_
 refine W.qcall (kcmp_fc _ _) rfl ?_
 refine W.as ?_
 refine W.nil (thn_n ?_)
 refine WC.ret ?_
 refine ⟨.inr rfl, [_], ⟨rfl, trivial⟩, [], List.nil_sublist _, ?_⟩
 rfl

theorem bsfm_fc {G : GH} {v_l : Value} {l : List Pair} (h_l : SlR ePair G v_l l) (k : Str) (hr : Srt l) :
    Fc Tryd.prog 64 [v_l, .string k.b, .func (.func 65) #[] #[]] G [] (fun v _ _ => v = .tuple #[.int .i64 ((fndN l k : Nat) : Int), .bool ((getN l k).isSome)]) := by
 obtain ⟨sa_l, sc_l, rfl⟩ := h_l.form
 have hlen := h_l.len47
 refine Fc.intro (rs := [.tmp 6, .tmp 7]) cl64 Tryd.func64 rfl Tryd.ntmps64 rfl rfl (fun w0 => ?_)
 refine WC.seq ?_
 refine WC.region ?_
 refine W.as ?_
 refine W.as ?_
 refine W.nil (thn_n ?_)
 refine WC.seq ?_
 refine WC.region ?_
 refine W.mv ?_
 refine W.ok (ok_len sl25 h_l rfl) ?_
 refine W.as ?_
 refine W.nil (thn_n ?_)
 refine WC.seq ?_
 refine WC.region ?_
 refine W.mv ?_
 refine W.as ?_
 refine W.as ?_
 refine W.nil (thn_n ?_)
 refine WC.seq ?_
 refine WC.block ?_
 refine WC.loop (X := Nat × Nat) (fun x => [(9, .int .i64 ((x.1 : Nat) : Int)), (10, .int .i64 ((x.2 : Nat) : Int)), (0, .slice sa_l l.length sc_l), (1, .string k.b), (2, .func (.func 65) #[] #[]), (8, .int .i64 (((l).length : Nat) : Int))]) (fun x _ Ml => Ml = [] ∧ x.1 ≤ x.2 ∧ x.2 ≤ l.length ∧ (∀ q (h : q < l.length), q < x.1 → l[q].key.lt k = true) ∧ (∀ q (h : q < l.length), x.2 ≤ q → l[q].key.lt k = false)) (fun x => x.2 - x.1) (0, l.length) ⟨(by first | rfl | exact iv (by dsimp only; omega) | exact iv (by omega)), (by first | rfl | exact iv (by dsimp only; omega) | exact iv (by omega)), (by first | rfl | exact iv (by dsimp only; omega) | exact iv (by omega)), (by first | rfl | exact iv (by dsimp only; omega) | exact iv (by omega)), (by first | rfl | exact iv (by dsimp only; omega) | exact iv (by omega)), (by first | rfl | exact iv (by dsimp only; omega) | exact iv (by omega)), trivial⟩ ?_ ?_
 ·exact ⟨rfl, by simp, by simp, (fun q _ h => by simp at h), (fun q h h' => by simp at h'; omega)⟩
 ·rintro ⟨i, j⟩ gG9 G9 _ hG9 ⟨rfl, hi, hj, h1, h2⟩
  dsimp only at hi hj h1 h2
  refine WC.seq ?_
  refine WC.seq ?_
  refine WC.region ?_
  refine W.mv ?_
  refine W.mv ?_
  refine W.ok (ok_lss rfl rfl) ?_
  refine W.nil (thn_n ?_)
  refine WC.cond (b := _) rfl (fun h17 => ?_) (fun h17 => ?_)
  ·have p17 := of_decide_eq_true h17
   refine WC.skip (thn_n ?_)
   refine WC.block ?_
   refine WC.seq ?_
   refine WC.region ?_
   refine W.mv ?_
   refine W.mv ?_
   refine W.ok (ok_add rfl rfl (by omega)) ?_
   refine W.ok (ok_convU un3 un74 rfl (by omega)) ?_
   refine W.ok (ok_shr1 rfl rfl (by omega)) ?_
   refine W.ok (ok_convI un74 un3 rfl (by omega)) ?_
   refine W.as ?_
   refine W.nil (thn_n ?_)
   refine WC.seq ?_
   refine WC.region ?_
   refine W.mv ?_
   refine W.mv ?_
   refine W.mv ?_
   have q12 := (h_l.mono hG9).at (i := (i + j) / 2) (by omega)
   refine match q12 with | ⟨_, he10, e_11⟩ => ?_
   subst e_11
   refine W.ok (ok_indexAddr (i := (i + j) / 2) sl25 ty45 (h_l.mono hG9) rfl rfl ⟨by dsimp only; omega, by omega⟩) ?_
   refine W.ok (ok_loadE (vs := [.string _, .string _]) ty45 he10 rfl rfl rfl (by simp)) ?_
   refine W.mv ?_
   refine W.qcallV (fst := []) (caps := []) rfl (cl_m_fc _ _ _) rfl ?_
   refine W.ok (ok_lss rfl rfl) ?_
   refine W.nil (thn_n ?_)
   refine WC.cond (b := _) rfl (fun h31 => ?_) (fun h31 => ?_)
   ·have p31 := of_decide_eq_true h31
    refine WC.region ?_
    refine W.mv ?_
    refine W.ok (ok_add rfl rfl (by omega)) ?_
    refine W.as ?_
    refine W.nil (blk_n (thn_n ?_))
    exact ⟨Le.rfl, ((i + j) / 2 + 1, j), ⟨(by first | rfl | exact iv (by dsimp only; omega) | exact iv (by omega)), (by first | rfl | exact iv (by dsimp only; omega) | exact iv (by omega)), (by first | rfl | exact iv (by dsimp only; omega) | exact iv (by omega)), (by first | rfl | exact iv (by dsimp only; omega) | exact iv (by omega)), (by first | rfl | exact iv (by dsimp only; omega) | exact iv (by omega)), (by first | rfl | exact iv (by dsimp only; omega) | exact iv (by omega)), trivial⟩, ⟨rfl, by dsimp only; omega, by dsimp only; omega, (fun q h hq => hr.below (by omega) (cmpN_neg.1 p31) q h (by dsimp only at hq; omega)), h2⟩, by dsimp only; omega⟩
   ·have p31 := of_decide_eq_false h31
    refine WC.region ?_
    refine W.mv ?_
    refine W.as ?_
    refine W.nil (blk_n (thn_n ?_))
    exact ⟨Le.rfl, (i, (i + j) / 2), ⟨(by first | rfl | exact iv (by dsimp only; omega) | exact iv (by omega)), (by first | rfl | exact iv (by dsimp only; omega) | exact iv (by omega)), (by first | rfl | exact iv (by dsimp only; omega) | exact iv (by omega)), (by first | rfl | exact iv (by dsimp only; omega) | exact iv (by omega)), (by first | rfl | exact iv (by dsimp only; omega) | exact iv (by omega)), (by first | rfl | exact iv (by dsimp only; omega) | exact iv (by omega)), trivial⟩, ⟨rfl, by dsimp only; omega, by dsimp only; omega, h1, (fun q h hq => hr.above (by omega) (cmpN_nn p31) q h (by dsimp only at hq; omega))⟩, by dsimp only; omega⟩
  ·have p17 := of_decide_eq_false h17
   refine WC.exit (thn_x (thn_x (blk_h (thn_n ?_))))
   refine WC.seq ?_
   refine WC.region ?_
   refine W.mv ?_
   refine W.mv ?_
   refine W.mv ?_
   refine W.ok (ok_lss rfl rfl) ?_
   refine W.mv ?_
   refine W.sp 39 rfl (fun h38 => ?_) (fun h38 => ?_)
   ·have p38 := of_decide_eq_true h38
    refine W.yes (dj := 39) rfl rfl h38 ?_
    refine W.mv ?_
    refine W.yes (dj := 39) rfl rfl h38 ?_
    refine W.mv ?_
    refine W.yes (dj := 39) rfl rfl h38 ?_
    refine W.mv ?_
    refine W.yes (dj := 39) rfl rfl h38 ?_
    have q15 := (h_l.mono hG9).at (i := i) (by omega)
    refine match q15 with | ⟨_, he13, e_14⟩ => ?_
    subst e_14
    refine W.ok (ok_indexAddr (i := i) sl25 ty45 (h_l.mono hG9) rfl rfl ⟨by dsimp only, by omega⟩) ?_
    refine W.yes (dj := 39) rfl rfl h38 ?_
    refine W.ok (ok_loadE (vs := [.string _, .string _]) ty45 he13 rfl rfl rfl (by simp)) ?_
    refine W.yes (dj := 39) rfl rfl h38 ?_
    refine W.mv ?_
    refine W.yes (dj := 39) rfl rfl h38 ?_
    refine W.qcallV (fst := []) (caps := []) rfl (cl_m_fc _ _ _) rfl ?_
    refine W.yes (dj := 39) rfl rfl h38 ?_
    refine W.ok (ok_eql rfl rfl) ?_
    refine W.ok (ok_pick_t rfl h38) ?_
    refine W.as ?_
    refine W.as ?_
    refine W.nil (thn_n ?_)
    refine WC.ret ?_
    refine ⟨.inr rfl, [_, _], ⟨rfl, rfl, trivial⟩, [], List.nil_sublist _, ?_⟩
    have hlow : fndN l k = i := fnd_eq (by omega) h1 (fun q h hq => h2 q h (by omega))
    refine tup2 (by rw [hlow]) ?_
    rw [hr.has]
    rw [cmpN_zero_d]
    exact decide_eq_decide.2 ⟨fun e => ⟨by omega, by simp only [hlow]; exact e⟩, fun ⟨_, e⟩ => by simp only [hlow] at e; exact e⟩
   ·have p38 := of_decide_eq_false h38
    refine W.no (dj := 39) rfl rfl h38 ?_
    refine W.no (dj := 39) rfl rfl h38 ?_
    refine W.no (dj := 39) rfl rfl h38 ?_
    refine W.no (dj := 39) rfl rfl h38 ?_
    refine W.no (dj := 39) rfl rfl h38 ?_
    refine W.no (dj := 39) rfl rfl h38 ?_
    refine W.no (dj := 39) rfl rfl h38 ?_
    refine W.no (dj := 39) rfl rfl h38 ?_
    refine W.ok (ok_pick_f rfl h38) ?_
    refine W.as ?_
    refine W.as ?_
    refine W.nil (thn_n ?_)
    refine WC.ret ?_
    refine ⟨.inr rfl, [_, _], ⟨rfl, rfl, trivial⟩, [], List.nil_sublist _, ?_⟩
    have hlow : fndN l k = i := fnd_eq (by omega) h1 (fun q h hq => h2 q h (by omega))
    refine tup2 (by rw [hlow]) ?_
    rw [hr.has]
    exact (decide_eq_false (by rintro ⟨h, _⟩; omega)).symm

theorem find_fc {G : GH} {v_l : Value} {l : List Pair} (h_l : SlR ePair G v_l l) (k : Str) (hr : Srt l) :
    Fc Tryd.prog 49 [v_l, .string k.b] G [] (fun v _ _ => v = .tuple #[.int .i64 ((fndN l k : Nat) : Int), .bool ((getN l k).isSome)]) := by
 obtain ⟨sa_l, sc_l, rfl⟩ := h_l.form
 refine Fc.intro (rs := [.tmp 4, .tmp 5]) cl49 Tryd.func49 rfl Tryd.ntmps49 rfl rfl (fun w0 => ?_)
 refine WC.seq ?_
 refine WC.region ?_
 refine W.as ?_
 refine W.as ?_
 refine W.nil (thn_n ?_)
 refine WC.seq ?_
 refine WC.region ?_
 refine W.mv ?_
 refine W.mv ?_
 refine W.qcall (bsfm_fc h_l k hr) rfl ?_
 refine W.ok (ok_extract rfl rfl) ?_
 refine W.ok (ok_extract rfl rfl) ?_
 refine W.as ?_
 refine W.as ?_
 refine W.nil (thn_n ?_)
 refine WC.ret ?_
 refine ⟨.inr rfl, [_, _], ⟨rfl, rfl, trivial⟩, [], List.nil_sublist _, ?_⟩
 rfl

theorem mget_fc {G : GH} {v_l : Value} {l : List Pair} (h_l : SlR ePair G v_l l) (k : Str) (hr : Srt l) :
    Fc Tryd.prog 27 [v_l, .string k.b] G [] (fun v _ _ => v = .tuple #[.string (Str.b ((getN l k).getD Str.nil)), .bool ((getN l k).isSome)]) := by
 obtain ⟨sa_l, sc_l, rfl⟩ := h_l.form
 have hlen := h_l.len47
 have hh := hr.has k
 refine Fc.intro (rs := [.tmp 4, .tmp 5]) cl27 Tryd.func27 rfl Tryd.ntmps27 rfl rfl (fun w0 => ?_)
 refine WC.seq ?_
 refine WC.region ?_
 refine W.as ?_
 refine W.as ?_
 refine W.nil (thn_n ?_)
 refine WC.seq ?_
 refine WC.region ?_
 refine W.mv ?_
 refine W.mv ?_
 refine W.qcall (find_fc h_l _ (by assumption)) rfl ?_
 refine W.mv ?_
 refine W.ok (ok_extract rfl rfl) ?_
 refine W.ok (ok_extract rfl rfl) ?_
 refine W.as ?_
 refine W.as ?_
 refine W.nil (thn_n ?_)
 refine WC.seq ?_
 refine WC.seq ?_
 refine WC.region ?_
 refine W.mv ?_
 refine W.ok (ok_not rfl) ?_
 refine W.nil (thn_n ?_)
 refine WC.cond (b := _) rfl (fun h15 => ?_) (fun h15 => ?_)
 ·refine WC.seq ?_
  refine WC.region ?_
  refine W.as ?_
  refine W.as ?_
  refine W.nil (thn_n ?_)
  refine WC.ret (thn_r ?_)
  refine ⟨.inr rfl, [_, _], ⟨rfl, rfl, trivial⟩, [], List.nil_sublist _, ?_⟩
  show Value.tuple #[Value.string _, Value.bool _] = _
  have e : getN l k = none := by simpa using h15
  rw [e]; rfl
 ·have hs : (getN l k).isSome = true := by simpa using h15
  obtain ⟨q1, q2⟩ := of_decide_eq_true (hh.symm.trans hs)
  have hv := hr.val q1 q2
  refine WC.skip (thn_n ?_)
  refine WC.seq ?_
  refine WC.region ?_
  refine W.mv ?_
  refine W.mv ?_
  have q18 := h_l.at (i := fndN l k) (q1)
  refine match q18 with | ⟨_, he16, e_17⟩ => ?_
  subst e_17
  refine W.ok (ok_indexAddr (i := fndN l k) sl25 ty45 h_l rfl rfl ⟨by omega, q1⟩) ?_
  refine W.ok (ok_fieldE fd45_1 rfl he16.form) ?_
  refine W.ok (ok_loadE (vs := [.string _]) ty9 he16 rfl rfl rfl (by simp)) ?_
  refine W.as ?_
  refine W.as ?_
  refine W.nil (thn_n ?_)
  refine WC.ret ?_
  refine ⟨.inr rfl, [_, _], ⟨rfl, rfl, trivial⟩, [], List.nil_sublist _, ?_⟩
  show Value.tuple #[Value.string _, Value.bool _] = _
  rw [hv]; rfl

end Go.Proofs.YthmkpaoolhcibaaDoor
