/- Walks of keys and operations of two maps, by definition. -/
import Derived.Test.YtlkdcbmdihefpaaWp
namespace Go.Proofs.Ytlkdcbmdihefpaa
open Go Go.Fw Go.RowKit
set_option maxRecDepth 100000
set_option maxHeartbeats 1600000
set_option linter.unusedVariables false
set_option linter.unusedSimpArgs false
set_option linter.unnecessarySimpa false
theorem has1_fc {G : GH} {v_l : Value} {l : List Str} {Ms_l : MH} (h_l : OwnR eStr 9 G v_l l Ms_l) (k : Str) :
    Fc Try.prog 34 [v_l, .string k.b] G Ms_l (fun v _ M' => v = .bool (decide (k ∈ l)) ∧ Ms_l = M') := by
 have hl := h_l.len47
 refine Fc.intro (rs := [.tmp 4]) cl34 Try.func34 rfl Try.ntmps34 rfl rfl (fun w0 => ?_)
 refine WC.perm (M' := (Ms_l ++ [])) (by simp) ?_
 refine WC.seq ?_
 refine WC.region ?_
 refine W.as ?_
 refine W.nil (thn_n ?_)
 refine WC.seq ?_
 refine WC.seq ?_
 refine WC.region ?_
 refine W.as ?_
 refine W.nil (thn_n ?_)
 refine WC.block ?_
 refine WC.loop (X := Nat) (fun j => [(5, .int .i64 ((j : Nat) : Int)), (0, v_l), (1, .string k.b)]) (fun j _ Ml => Ml = (Ms_l ++ []) ∧ ∀ i (h : i < l.length), i < j → l[i] ≠ k) (fun j => l.length - j) 0 ⟨(by first | rfl | exact iv (by dsimp only; omega) | exact iv (by omega)), (by first | rfl | exact iv (by dsimp only; omega) | exact iv (by omega)), (by first | rfl | exact iv (by dsimp only; omega) | exact iv (by omega)), trivial⟩ ?_ ?_
 ·exact ⟨rfl, fun i _ h => by omega⟩
 ·rintro j gG1 G1 _ hG1 ⟨rfl, hk⟩
  refine WC.seq ?_
  refine WC.seq ?_
  refine WC.region ?_
  refine W.mv ?_
  refine W.mv ?_
  refine W.ok (ok_lenO sl46 (h_l.mono hG1) rfl) ?_
  refine W.ok (ok_lss rfl rfl) ?_
  refine W.nil (thn_n ?_)
  refine WC.cond (b := _) rfl (fun h9 => ?_) (fun h9 => ?_)
  ·have p9 := of_decide_eq_true h9
   refine WC.skip (thn_n ?_)
   refine WC.seq ?_
   refine WC.block ?_
   refine WC.seq ?_
   refine WC.region ?_
   refine W.mv ?_
   refine W.mv ?_
   have q4 := (h_l.mono hG1).at (i := j) (by omega)
   refine match q4 with | ⟨_, he2, e_3⟩ => ?_
   subst e_3
   refine W.ok (ok_indexAddrO (i := j) sl46 ty9 (h_l.mono hG1) rfl rfl ⟨by omega, by omega⟩) ?_
   refine W.ok (ok_loadO (vs := [.string _]) ty9 he2 (List.Perm.refl _) rfl rfl rfl (by simp)) ?_
   refine W.mv ?_
   refine W.ok (ok_eqlS rfl rfl) ?_
   refine W.nil (thn_n ?_)
   refine WC.cond (b := _) rfl (fun h17 => ?_) (fun h17 => ?_)
   ·have p17 := of_decide_eq_true h17
    refine WC.seq ?_
    refine WC.region ?_
    refine W.as ?_
    refine W.nil (thn_n ?_)
    refine WC.ret (blk_r (thn_r (thn_r (blk_r (thn_r ?_)))))
    refine ⟨.inr rfl, [_], ⟨rfl, trivial⟩, Ms_l, List.sublist_append_left _ _, ?_⟩
    refine ⟨congrArg Value.bool ?_, rfl⟩
    exact (decide_eq_true (by have e : l[j] = k := Str.ext' p17; rw [← e]; exact List.getElem_mem _)).symm
   ·have p17 := of_decide_eq_false h17
    refine WC.skip (blk_n (thn_n ?_))
    refine WC.region ?_
    refine W.mv ?_
    refine W.ok (ok_add rfl rfl (by omega)) ?_
    refine W.as ?_
    refine W.nil (thn_n ?_)
    exact ⟨Le.rfl, j + 1, ⟨(by first | rfl | exact iv (by dsimp only; omega) | exact iv (by omega)), (by first | rfl | exact iv (by dsimp only; omega) | exact iv (by omega)), (by first | rfl | exact iv (by dsimp only; omega) | exact iv (by omega)), trivial⟩, ⟨rfl, fun i h hi => by
      by_cases e : i = j
      · subst e; exact fun e2 => p17 (congrArg Str.b e2)
      · exact hk i h (by omega)⟩, by omega⟩
  ·have p9 := of_decide_eq_false h9
   refine WC.exit (thn_x (thn_x (blk_h (thn_n ?_))))
   refine WC.seq ?_
   refine WC.region ?_
   refine W.as ?_
   refine W.nil (thn_n ?_)
   refine WC.ret ?_
   refine ⟨.inr rfl, [_], ⟨rfl, trivial⟩, Ms_l, List.sublist_append_left _ _, ?_⟩
   refine ⟨congrArg Value.bool ?_, rfl⟩
   exact (decide_eq_false fun hm => by obtain ⟨i, hi, e⟩ := List.getElem_of_mem hm; exact hk i hi (by omega) e).symm

theorem ops53_fc {G : GH} {v_a : Value} {a : List Opr} (h_a : SlR eOp G v_a a) {v_b : Value} {b : List Opr} (h_b : SlR eOp G v_b b) :
    Fc Try.prog 9 [v_a, v_b] G [] (fun v _ _ => v = .bool (decide (a = b))) := by
 obtain ⟨sa_a, sc_a, rfl⟩ := h_a.form
 obtain ⟨sa_b, sc_b, rfl⟩ := h_b.form
 have ha := h_a.len47
 have hb := h_b.len47
 refine Fc.intro (rs := [.tmp 4]) cl9 Try.func9 rfl Try.ntmps9 rfl rfl (fun w0 => ?_)
 refine WC.seq ?_
 refine WC.region ?_
 refine W.as ?_
 refine W.nil (thn_n ?_)
 refine WC.seq ?_
 refine WC.seq ?_
 refine WC.region ?_
 refine W.mv ?_
 refine W.ok (ok_len sl26 h_a rfl) ?_
 refine W.mv ?_
 refine W.ok (ok_len sl26 h_b rfl) ?_
 refine W.ok (ok_neq rfl rfl) ?_
 refine W.nil (thn_n ?_)
 refine WC.cond (b := _) rfl (fun h10 => ?_) (fun h10 => ?_)
 ·have p10 := nd_t h10
  refine WC.seq ?_
  refine WC.region ?_
  refine W.as ?_
  refine W.nil (thn_n ?_)
  refine WC.ret (thn_r ?_)
  refine ⟨.inr rfl, [_], ⟨rfl, trivial⟩, [], List.nil_sublist _, ?_⟩
  refine congrArg Value.bool ?_
  exact (decide_eq_false fun e => by subst e; omega).symm
 ·have p10 := nd_f h10
  have hab : a.length = b.length := by omega
  refine WC.skip (thn_n ?_)
  refine WC.seq ?_
  refine WC.seq ?_
  refine WC.region ?_
  refine W.as ?_
  refine W.nil (thn_n ?_)
  refine WC.block ?_
  refine WC.loop (X := Nat) (fun k => [(5, .int .i64 ((k : Nat) : Int)), (0, .slice sa_a a.length sc_a), (1, .slice sa_b b.length sc_b)]) (fun k _ Ml => Ml = [] ∧ k ≤ a.length ∧ ∀ i (h : i < a.length) (h2 : i < b.length), i < k → a[i] = b[i]) (fun k => a.length - k) 0 ⟨(by first | rfl | exact iv (by dsimp only; omega) | exact iv (by omega)), (by first | rfl | exact iv (by dsimp only; omega) | exact iv (by omega)), (by first | rfl | exact iv (by dsimp only; omega) | exact iv (by omega)), trivial⟩ ?_ ?_
  ·exact ⟨rfl, by omega, fun i _ _ h => by omega⟩
  ·rintro k gG5 G5 _ hG5 ⟨rfl, hk0, hk⟩
   refine WC.seq ?_
   refine WC.seq ?_
   refine WC.region ?_
   refine W.mv ?_
   refine W.mv ?_
   refine W.ok (ok_len sl26 (h_a.mono hG5) rfl) ?_
   refine W.ok (ok_lss rfl rfl) ?_
   refine W.nil (thn_n ?_)
   refine WC.cond (b := _) rfl (fun h14 => ?_) (fun h14 => ?_)
   ·have p14 := of_decide_eq_true h14
    refine WC.skip (thn_n ?_)
    refine WC.seq ?_
    refine WC.block ?_
    refine WC.seq ?_
    refine WC.draw mix (by kernel_rfl) ?_
    refine W.mv ?_
    refine W.mv ?_
    have q10 := (h_a.mono hG5).at (i := k) (by omega)
    refine match q10 with | ⟨_, he6, ⟨e_9, hm7⟩⟩ => ?_
    subst e_9
    refine W.ok (ok_indexAddr (i := k) sl26 ty38 (h_a.mono hG5) rfl rfl ⟨by omega, by omega⟩) ?_
    refine W.ok (ok_loadE (vs := [.int .i64 _, .string _, .string _, .bool _, .string _, .int .i64 _]) ty38 he6 rfl rfl rfl (by simp)) ?_
    refine W.mv ?_
    refine W.mv ?_
    have q15 := (h_b.mono hG5).at (i := k) (by omega)
    refine match q15 with | ⟨_, he11, ⟨e_14, hm12⟩⟩ => ?_
    subst e_14
    refine W.ok (ok_indexAddr (i := k) sl26 ty38 (h_b.mono hG5) rfl rfl ⟨by omega, by omega⟩) ?_
    refine W.ok (ok_loadE (vs := [.int .i64 _, .string _, .string _, .bool _, .string _, .int .i64 _]) ty38 he11 rfl rfl rfl (by simp)) ?_
    refine W.ok (ok_neqA (L1 := [.int .i64 _, .string _, .string _, .bool _, .string _, .int .i64 _]) (L2 := [.int .i64 _, .string _, .string _, .bool _, .string _, .int .i64 _]) eq38 rfl rfl rfl rfl) ?_
    refine W.nil (thn_n ?_)
    refine WC.cond (b := _) rfl (fun h25 => ?_) (fun h25 => ?_)
    ·refine WC.seq ?_
     refine WC.region ?_
     refine W.as ?_
     refine W.nil (thn_n ?_)
     refine WC.ret (blk_r (thn_r (thn_r (blk_r (thn_r ?_)))))
     refine ⟨.inr rfl, [_], ⟨rfl, trivial⟩, [], List.nil_sublist _, ?_⟩
     refine congrArg Value.bool ?_
     exact (decide_eq_false fun e => by subst e; exact Opr.ne_of h25 rfl).symm
    ·refine WC.skip (blk_n (thn_n ?_))
     refine WC.region ?_
     refine W.mv ?_
     refine W.ok (ok_add rfl rfl (by omega)) ?_
     refine W.as ?_
     refine W.nil (thn_n ?_)
     exact ⟨Le.rfl, k + 1, ⟨(by first | rfl | exact iv (by dsimp only; omega) | exact iv (by omega)), (by first | rfl | exact iv (by dsimp only; omega) | exact iv (by omega)), (by first | rfl | exact iv (by dsimp only; omega) | exact iv (by omega)), trivial⟩, ⟨rfl, by omega, fun i h h2 hi => by
      by_cases e : i = k
      · subst e; exact Opr.eq_of h25
      · exact hk i h h2 (by omega)⟩, by omega⟩
   ·have p14 := of_decide_eq_false h14
    refine WC.exit (thn_x (thn_x (blk_h (thn_n ?_))))
    refine WC.seq ?_
    refine WC.region ?_
    refine W.as ?_
    refine W.nil (thn_n ?_)
    refine WC.ret ?_
    refine ⟨.inr rfl, [_], ⟨rfl, trivial⟩, [], List.nil_sublist _, ?_⟩
    refine congrArg Value.bool ?_
    exact (decide_eq_true (List.ext_getElem (by omega) fun i h h2 => hk i h h2 (by omega))).symm

end Go.Proofs.Ytlkdcbmdihefpaa
