/- The walk of wipes, by definition. -/
import Derived.Test.YtlkdcbmdihefpaaWx
import Derived.Test.YtlkdcbmdihefpaaNa
namespace Go.Proofs.Ytlkdcbmdihefpaa
open Go Go.Fw Go.RowKit
set_option maxRecDepth 100000
set_option maxHeartbeats 1600000
set_option linter.unusedVariables false
set_option linter.unusedSimpArgs false
set_option linter.unnecessarySimpa false
theorem wipes53_fc {G : GH} {v_a : Value} {a : List Pair} (h_a : SlR ePair G v_a a) {v_b : Value} {b : List Pair} (h_b : SlR ePair G v_b b) (n : Int) (hra : Srt a) (hrb : Srt b) (hn : a.length + b.length ≤ 1000000) :
    Fc Try.prog 11 [v_a, v_b, .int .i64 n] G [] (fun v G' M' => M' = [] ∧ ∃ u0, v = u0 ∧ SlR eOp G' u0 (wipN n (bothN a b))) := by
 obtain ⟨sa_a, sc_a, rfl⟩ := h_a.form
 obtain ⟨sa_b, sc_b, rfl⟩ := h_b.form
 have hla := h_a.len47
 have hlb := h_b.len47
 have hbl := both_len a b
 have hkl := keys_len hra hrb
 have hwl := wip_len n (bothN a b)
 have hfl := List.length_filterMap_le chg (bothN a b)
 have hcc : (chgN a b).length ≤ (bothN a b).length := hfl
 refine Fc.intro (rs := [.tmp 6]) cl11 Try.func11 rfl Try.ntmps11 rfl rfl (fun w0 => ?_)
 refine WC.seq ?_
 refine WC.region ?_
 refine W.as ?_
 refine W.nil (thn_n ?_)
 refine WC.seq ?_
 refine WC.region ?_
 refine W.as ?_
 refine W.nil (thn_n ?_)
 refine WC.seq ?_
 refine WC.region ?_
 refine W.mv ?_
 refine W.mv ?_
 refine W.call (Mp := []) (keys53_fc h_a h_b (by first | assumption | omega | (simp; omega) | (exact PairsR.fold (by assumption) (by assumption)))) rfl (List.Perm.refl _) ?_
 intro _ G1 _ hG1 q3
 refine match q3 with | ⟨e_4, _, e_5, hv2⟩ => ?_
 subst e_4
 subst e_5
 have q7 := hv2.form
 refine match q7 with | ⟨sa_hv2, sc_hv2, e_6⟩ => ?_
 subst e_6
 refine W.as ?_
 refine W.nil (thn_n ?_)
 refine WC.join (X := Unit) (fun u5 => [(2, .int .i64 (max n 2)), (0, .slice sa_a a.length sc_a), (1, .slice sa_b b.length sc_b), (7, .slice none 0 0), (8, .slice sa_hv2 (keysN (a) (b)).length sc_hv2)]) (fun u5 _ Ml => Ml = []) ?_ ?_
 ·refine WC.seq ?_
  refine WC.region ?_
  refine W.mv ?_
  refine W.ok (ok_lss rfl rfl) ?_
  refine W.nil (thn_n ?_)
  refine WC.cond (b := _) rfl (fun h21 => ?_) (fun h21 => ?_)
  ·have p21 := of_decide_eq_true h21
   try dsimp only at p21
   refine WC.region ?_
   refine W.as ?_
   refine W.nil (thn_n ?_)
   exact ⟨Le.rfl, (), ⟨(by first | rfl | exact iv (by dsimp only; omega) | exact iv (by omega)), (by first | rfl | exact iv (by dsimp only; omega) | exact iv (by omega)), (by first | rfl | exact iv (by dsimp only; omega) | exact iv (by omega)), (by first | rfl | exact iv (by dsimp only; omega) | exact iv (by omega)), (by first | rfl | exact iv (by dsimp only; omega) | exact iv (by omega)), trivial⟩, rfl⟩
  ·have p21 := of_decide_eq_false h21
   try dsimp only at p21
   refine WC.skip (thn_n ?_)
   exact ⟨Le.rfl, (), ⟨(by first | rfl | exact iv (by dsimp only; omega) | exact iv (by omega)), (by first | rfl | exact iv (by dsimp only; omega) | exact iv (by omega)), (by first | rfl | exact iv (by dsimp only; omega) | exact iv (by omega)), (by first | rfl | exact iv (by dsimp only; omega) | exact iv (by omega)), (by first | rfl | exact iv (by dsimp only; omega) | exact iv (by omega)), trivial⟩, rfl⟩
 ·rintro u5 gG8 G8 _ hG8 rfl
  refine WC.seq ?_
  refine WC.seq ?_
  refine WC.region ?_
  refine W.as ?_
  refine W.nil (thn_n ?_)
  refine WC.block ?_
  refine WC.loop (X := (Nat × List Opr) × Value × MH) (fun x => [(9, .int .i64 ((x.1.1 : Nat) : Int)), (0, .slice sa_a a.length sc_a), (1, .slice sa_b b.length sc_b), (2, .int .i64 (max n 2)), (8, .slice sa_hv2 (keysN (a) (b)).length sc_hv2), (7, x.2.1)]) (fun x G Ml => Ml = (x.2.2 ++ []) ∧ OwnR eOp 38 G x.2.1 (x.1.2) x.2.2 ∧ x.1.2 ++ wipN n ((bothN a b).drop x.1.1) = wipN n (bothN a b) ∧ x.1.1 ≤ (bothN a b).length) (fun x => (bothN a b).length - x.1.1) (((0, []) : Nat × List Opr), .slice none 0 0, ([] : MH)) ⟨(by first | rfl | exact iv (by dsimp only; omega) | exact iv (by omega)), (by first | rfl | exact iv (by dsimp only; omega) | exact iv (by omega)), (by first | rfl | exact iv (by dsimp only; omega) | exact iv (by omega)), (by first | rfl | exact iv (by dsimp only; omega) | exact iv (by omega)), (by first | rfl | exact iv (by dsimp only; omega) | exact iv (by omega)), (by first | rfl | exact iv (by dsimp only; omega) | exact iv (by omega)), trivial⟩ ?_ ?_
  ·exact ⟨rfl, (by exact OwnR.nil), by simp, by simp⟩
  ·rintro ⟨⟨p, m⟩, v_7, M_7⟩ gG9 G9 _ hG9 ⟨rfl, ho_7, hinv, hp⟩
   try dsimp only at ho_7 hinv hp
   have hds : ((bothN a b).drop p).length = (bothN a b).length - p := List.length_drop ..
   have hsn := strN_le ((bothN a b).drop p)
   have hml : m.length + (wipN n ((bothN a b).drop p)).length = (wipN n (bothN a b)).length := by rw [← hinv, List.length_append]
   refine WC.seq ?_
   refine WC.seq ?_
   refine WC.region ?_
   refine W.mv ?_
   refine W.mv ?_
   refine W.ok (ok_len sl46 (hv2.mono (hG8.trans hG9)) rfl) ?_
   refine W.ok (ok_lss rfl rfl) ?_
   refine W.nil (thn_n ?_)
   refine WC.cond (b := _) rfl (fun h25 => ?_) (fun h25 => ?_)
   ·have p25 := of_decide_eq_true h25
    try dsimp only at p25
    refine WC.skip (thn_n ?_)
    refine WC.block ?_
    refine WC.seq ?_
    refine WC.region ?_
    refine W.as ?_
    refine W.nil (thn_n ?_)
    refine WC.join (X := Unit) (fun u12 => [(10, .int .i64 ((strN ((bothN a b).drop p) : Nat) : Int)), (7, v_7), (0, .slice sa_a a.length sc_a), (1, .slice sa_b b.length sc_b), (2, .int .i64 (max n 2)), (8, .slice sa_hv2 (keysN (a) (b)).length sc_hv2), (9, .int .i64 ((p : Nat) : Int))]) (fun u12 _ Ml => Ml = (M_7 ++ [])) ?_ ?_
    ·refine WC.block ?_
     refine WC.loop (X := Nat) (fun c => [(10, .int .i64 ((c : Nat) : Int)), (7, v_7), (0, .slice sa_a a.length sc_a), (1, .slice sa_b b.length sc_b), (2, .int .i64 (max n 2)), (8, .slice sa_hv2 (keysN (a) (b)).length sc_hv2), (9, .int .i64 ((p : Nat) : Int))]) (fun c _ Ml => Ml = (M_7 ++ []) ∧ p + c ≤ (bothN a b).length ∧ ∀ j (h : p + j < (bothN a b).length), j < c → (bothN a b)[p + j].inB = false) (fun c => (bothN a b).length - c) 0 ⟨(by first | rfl | exact iv (by dsimp only; omega) | exact iv (by omega)), (by first | rfl | exact iv (by dsimp only; omega) | exact iv (by omega)), (by first | rfl | exact iv (by dsimp only; omega) | exact iv (by omega)), (by first | rfl | exact iv (by dsimp only; omega) | exact iv (by omega)), (by first | rfl | exact iv (by dsimp only; omega) | exact iv (by omega)), (by first | rfl | exact iv (by dsimp only; omega) | exact iv (by omega)), (by first | rfl | exact iv (by dsimp only; omega) | exact iv (by omega)), trivial⟩ ?_ ?_
     ·exact ⟨rfl, by omega, fun j _ h => by omega⟩
     ·rintro c gG10 G10 _ hG10 ⟨rfl, hc1, hc2⟩
      refine WC.seq ?_
      refine WC.seq ?_
      refine WC.region ?_
      refine W.mv ?_
      refine W.mv ?_
      refine W.ok (Ok.int (n := ((p + c : Nat) : Int)) (ok_add rfl rfl (by omega)) (by omega)) ?_
      refine W.mv ?_
      refine W.ok (ok_len sl46 (hv2.mono ((hG8.trans hG9).trans hG10)) rfl) ?_
      refine W.ok (ok_lss rfl rfl) ?_
      refine W.nil (thn_n ?_)
      refine WC.cond (b := _) rfl (fun h31 => ?_) (fun h31 => ?_)
      ·have p31 := of_decide_eq_true h31
       try dsimp only at p31
       refine WC.skip (thn_n ?_)
       refine WC.block ?_
       refine WC.seq ?_
       refine WC.region ?_
       refine W.mv ?_
       refine W.mv ?_
       refine W.mv ?_
       refine W.mv ?_
       refine W.ok (Ok.int (n := ((p + c : Nat) : Int)) (ok_add rfl rfl (by omega)) (by omega)) ?_
       have q13 := (hv2.mono ((hG8.trans hG9).trans hG10)).at (i := p + c) (by omega)
       refine match q13 with | ⟨_, he11, e_12⟩ => ?_
       subst e_12
       refine W.ok (ok_indexAddr (i := p + c) sl46 ty9 (hv2.mono ((hG8.trans hG9).trans hG10)) rfl rfl ⟨by omega, by omega⟩) ?_
       refine W.ok (ok_loadE (vs := [.string _]) ty9 he11 rfl rfl rfl (by simp)) ?_
       refine W.qcall (rget_fc (h_b.mono (((hG1.trans hG8).trans hG9).trans hG10)) _) rfl ?_
       refine W.mv ?_
       refine W.ok (ok_extract rfl rfl) ?_
       refine W.ok (ok_extract rfl rfl) ?_
       refine W.as ?_
       refine W.as ?_
       refine W.nil (thn_n ?_)
       refine WC.seq ?_
       refine WC.seq ?_
       refine WC.region ?_
       refine W.mv ?_
       refine W.nil (thn_n ?_)
       refine WC.cond (b := _) rfl (fun h40_1 => ?_) (fun h40_1 => ?_)
       ·refine WC.exit (thn_x (blk_m (thn_x (blk_h (thn_n ?_)))))
        exact ⟨hG10, (), ⟨(by exact iv (congrArg Nat.cast (strN_drop hc1 hc2 (fun h => by rw [← keys_inB hra hrb (by omega) h]; exact h40_1)).symm)), (by first | rfl | exact iv (by dsimp only; omega) | exact iv (by omega)), (by first | rfl | exact iv (by dsimp only; omega) | exact iv (by omega)), (by first | rfl | exact iv (by dsimp only; omega) | exact iv (by omega)), (by first | rfl | exact iv (by dsimp only; omega) | exact iv (by omega)), (by first | rfl | exact iv (by dsimp only; omega) | exact iv (by omega)), (by first | rfl | exact iv (by dsimp only; omega) | exact iv (by omega)), trivial⟩, rfl⟩
       ·refine WC.skip (thn_n ?_)
        refine WC.region ?_
        refine W.mv ?_
        refine W.ok (ok_add rfl rfl (by omega)) ?_
        refine W.as ?_
        refine W.nil (blk_n (thn_n ?_))
        exact ⟨Le.rfl, c + 1, ⟨(by first | rfl | exact iv (by dsimp only; omega) | exact iv (by omega)), (by first | rfl | exact iv (by dsimp only; omega) | exact iv (by omega)), (by first | rfl | exact iv (by dsimp only; omega) | exact iv (by omega)), (by first | rfl | exact iv (by dsimp only; omega) | exact iv (by omega)), (by first | rfl | exact iv (by dsimp only; omega) | exact iv (by omega)), (by first | rfl | exact iv (by dsimp only; omega) | exact iv (by omega)), (by first | rfl | exact iv (by dsimp only; omega) | exact iv (by omega)), trivial⟩, ⟨rfl, by omega, fun j h hj => by
      by_cases e : j = c
      · subst e; rw [← keys_inB hra hrb (by omega) h]; exact h40_1
      · exact hc2 j h (by omega)⟩, by omega⟩
      ·have p31 := of_decide_eq_false h31
       try dsimp only at p31
       refine WC.exit (thn_x (thn_x (blk_h (thn_n ?_))))
       exact ⟨hG10, (), ⟨(by exact iv (congrArg Nat.cast (strN_drop hc1 hc2 (fun h => by omega)).symm)), (by first | rfl | exact iv (by dsimp only; omega) | exact iv (by omega)), (by first | rfl | exact iv (by dsimp only; omega) | exact iv (by omega)), (by first | rfl | exact iv (by dsimp only; omega) | exact iv (by omega)), (by first | rfl | exact iv (by dsimp only; omega) | exact iv (by omega)), (by first | rfl | exact iv (by dsimp only; omega) | exact iv (by omega)), (by first | rfl | exact iv (by dsimp only; omega) | exact iv (by omega)), trivial⟩, rfl⟩
    ·rintro u12 gG14 G14 _ hG14 rfl
     refine WC.seq ?_
     refine WC.seq ?_
     refine WC.region ?_
     refine W.mv ?_
     refine W.mv ?_
     refine W.ok (ok_geq rfl rfl) ?_
     refine W.nil (thn_n ?_)
     refine WC.cond (b := _) rfl (fun h48 => ?_) (fun h48 => ?_)
     ·have p48 := of_decide_eq_true h48
      try dsimp only at p48
      refine WC.seq ?_
      refine WC.region ?_
      refine W.mv ?_
      refine W.mv ?_
      have q17 := (hv2.mono ((hG8.trans hG9).trans hG14)).at (i := (p)) (by omega)
      refine match q17 with | ⟨_, he15, e_16⟩ => ?_
      subst e_16
      refine W.ok (ok_indexAddr (i := (p)) sl46 ty9 (hv2.mono ((hG8.trans hG9).trans hG14)) rfl rfl ⟨by omega, by omega⟩) ?_
      refine W.ok (ok_loadE (vs := [.string _]) ty9 he15 rfl rfl rfl (by simp)) ?_
      refine W.ok (ok_build (L := [.int .i64 _, .string _, .string _, .bool _, .string _, .int .i64 _]) pl38 zr38 rfl rfl rfl) ?_
      refine W.alloc zr38 (fun b18 => ?_)
      refine W.store (i := 0) (vs := [.int .i64 _, .string _, .string _, .bool _, .string _, .int .i64 _]) (L' := [.int .i64 _, .string _, .string _, .bool _, .string _, .int .i64 _]) ty38 rfl rfl rfl rfl rfl rfl rfl rfl ?_
      refine W.nil (thn_n ?_)
      refine WC.seq ?_
      refine WC.seq ?_
      refine WC.region ?_
      refine W.mv ?_
      refine W.mv ?_
      refine W.ok (Ok.int (n := ((p + strN ((bothN a b).drop p) : Nat) : Int)) (ok_add rfl rfl (by omega)) (by omega)) ?_
      refine W.mv ?_
      refine W.ok (ok_len sl46 (hv2.mono ((hG8.trans hG9).trans hG14)) rfl) ?_
      refine W.ok (ok_lss rfl rfl) ?_
      refine W.nil (thn_n ?_)
      refine WC.cond (b := _) rfl (fun h59 => ?_) (fun h59 => ?_)
      ·have p59 := of_decide_eq_true h59
       try dsimp only at p59
       refine WC.region ?_
       refine W.mv ?_
       refine W.mv ?_
       refine W.mv ?_
       refine W.ok (Ok.int (n := ((p + strN ((bothN a b).drop p) : Nat) : Int)) (ok_add rfl rfl (by omega)) (by omega)) ?_
       have q21 := (hv2.mono ((hG8.trans hG9).trans hG14)).at (i := p + strN ((bothN a b).drop p)) (by omega)
       refine match q21 with | ⟨_, he19, e_20⟩ => ?_
       subst e_20
       refine W.ok (ok_indexAddr (i := p + strN ((bothN a b).drop p)) sl46 ty9 (hv2.mono ((hG8.trans hG9).trans hG14)) rfl rfl ⟨by omega, by omega⟩) ?_
       refine W.ok (ok_loadE (vs := [.string _]) ty9 he19 rfl rfl rfl (by simp)) ?_
       refine W.ok (ok_fieldB fd38_2 rfl) ?_
       refine W.store (i := 0) (vs := [.string _]) (L' := [.int .i64 _, .string _, .string _, .bool _, .string _, .int .i64 _]) ty9 rfl rfl rfl rfl rfl rfl rfl rfl ?_
       refine W.nil (thn_n ?_)
       refine WC.seq ?_
       refine WC.region ?_
       refine W.mv ?_
       refine W.ok (ok_loadB (i := 0) (vs := [.int .i64 _, .string _, .string _, .bool _, .string _, .int .i64 _]) ty38 rfl rfl rfl rfl (by simp)) ?_
       refine W.lit (e := eOp) (l := [(wipeOp ((bothN a b).drop p) (strN ((bothN a b).drop p)) ((keysN a b)[p]'(by omega)))]) (css := [[.int .i64 _, .string _, .string _, .bool _, .string _, .int .i64 _]]) sl26 ty38 zr38 rfl rfl rfl rfl rfl rfl ⟨⟨by rw [← wip53_in hra hrb (by omega)]; rfl, wipeOp_ok _ _ _⟩, trivial⟩ (fun bl22 G22 hG22 hv22 => ?_)
       refine W.app (e := eOp) sl26 ty38 zr38 rfl by38 rfl rfl ((ho_7.mono (hG14.trans hG22))) (hv22) (pmC (List.Perm.refl _)) (by show (_ + 1) * 72 ≤ _; omega) (fun v23 Ms24 ho25 => ?_)
       refine W.perm (pmC (List.Perm.refl _)).symm ?_
       refine W.as ?_
       refine W.nil (thn_n ?_)
       refine WC.seq ?_
       refine WC.region ?_
       refine W.mv ?_
       refine W.mv ?_
       refine W.ok (Ok.int (n := ((p + strN ((bothN a b).drop p) : Nat) : Int)) (ok_add rfl rfl (by omega)) (by omega)) ?_
       refine W.as ?_
       refine W.nil (thn_n ?_)
       refine WC.sub ((List.Sublist.refl _).cons _) ?_
       refine WC.exit (thn_x (blk_h (thn_n ?_)))
       exact ⟨(hG14.trans hG22), (((p + strN ((bothN a b).drop p), m ++ [wipeOp ((bothN a b).drop p) (strN ((bothN a b).drop p)) ((keysN a b)[p]'(by omega))]) : Nat × List Opr), v23, Ms24), ⟨(by first | rfl | exact iv (by dsimp only; omega) | exact iv (by omega)), (by first | rfl | exact iv (by dsimp only; omega) | exact iv (by omega)), (by first | rfl | exact iv (by dsimp only; omega) | exact iv (by omega)), (by first | rfl | exact iv (by dsimp only; omega) | exact iv (by omega)), (by first | rfl | exact iv (by dsimp only; omega) | exact iv (by omega)), (by first | rfl | exact iv (by dsimp only; omega) | exact iv (by omega)), trivial⟩, ⟨rfl, (by exact ho25), by
      dsimp only
      rw [← hinv, wip_w (n := n) (S := List.drop p (bothN a b)) (by omega) (by omega), List.append_assoc, List.drop_drop, key53 hra hrb (by omega)]; rfl, by dsimp only; omega⟩, by dsimp only; omega⟩
      ·have p59 := of_decide_eq_false h59
       try dsimp only at p59
       refine WC.region ?_
       refine W.ok (ok_fieldB fd38_3 rfl) ?_
       refine W.store (i := 0) (vs := [.bool _]) (L' := [.int .i64 _, .string _, .string _, .bool _, .string _, .int .i64 _]) ty4 rfl rfl rfl rfl rfl rfl rfl rfl ?_
       refine W.nil (thn_n ?_)
       refine WC.seq ?_
       refine WC.region ?_
       refine W.mv ?_
       refine W.ok (ok_loadB (i := 0) (vs := [.int .i64 _, .string _, .string _, .bool _, .string _, .int .i64 _]) ty38 rfl rfl rfl rfl (by simp)) ?_
       refine W.lit (e := eOp) (l := [(wipeOp ((bothN a b).drop p) (strN ((bothN a b).drop p)) ((keysN a b)[p]'(by omega)))]) (css := [[.int .i64 _, .string _, .string _, .bool _, .string _, .int .i64 _]]) sl26 ty38 zr38 rfl rfl rfl rfl rfl rfl ⟨⟨by rw [← wip53_end hra hrb (by omega) (by omega) (by omega)]; rfl, wipeOp_ok _ _ _⟩, trivial⟩ (fun bl26 G26 hG26 hv26 => ?_)
       refine W.app (e := eOp) sl26 ty38 zr38 rfl by38 rfl rfl ((ho_7.mono (hG14.trans hG26))) (hv26) (pmC (List.Perm.refl _)) (by show (_ + 1) * 72 ≤ _; omega) (fun v27 Ms28 ho29 => ?_)
       refine W.perm (pmC (List.Perm.refl _)).symm ?_
       refine W.as ?_
       refine W.nil (thn_n ?_)
       refine WC.seq ?_
       refine WC.region ?_
       refine W.mv ?_
       refine W.mv ?_
       refine W.ok (Ok.int (n := ((p + strN ((bothN a b).drop p) : Nat) : Int)) (ok_add rfl rfl (by omega)) (by omega)) ?_
       refine W.as ?_
       refine W.nil (thn_n ?_)
       refine WC.sub ((List.Sublist.refl _).cons _) ?_
       refine WC.exit (thn_x (blk_h (thn_n ?_)))
       exact ⟨(hG14.trans hG26), (((p + strN ((bothN a b).drop p), m ++ [wipeOp ((bothN a b).drop p) (strN ((bothN a b).drop p)) ((keysN a b)[p]'(by omega))]) : Nat × List Opr), v27, Ms28), ⟨(by first | rfl | exact iv (by dsimp only; omega) | exact iv (by omega)), (by first | rfl | exact iv (by dsimp only; omega) | exact iv (by omega)), (by first | rfl | exact iv (by dsimp only; omega) | exact iv (by omega)), (by first | rfl | exact iv (by dsimp only; omega) | exact iv (by omega)), (by first | rfl | exact iv (by dsimp only; omega) | exact iv (by omega)), (by first | rfl | exact iv (by dsimp only; omega) | exact iv (by omega)), trivial⟩, ⟨rfl, (by exact ho29), by
      dsimp only
      rw [← hinv, wip_w (n := n) (S := List.drop p (bothN a b)) (by omega) (by omega), List.append_assoc, List.drop_drop, key53 hra hrb (by omega)]; rfl, by dsimp only; omega⟩, by dsimp only; omega⟩
     ·have p48 := of_decide_eq_false h48
      try dsimp only at p48
      refine WC.skip (thn_n ?_)
      refine WC.join (X := Unit) (fun u21 => [(10, .int .i64 (((max (strN ((bothN a b).drop p)) 1) : Nat) : Int)), (7, v_7), (0, .slice sa_a a.length sc_a), (1, .slice sa_b b.length sc_b), (2, .int .i64 (max n 2)), (8, .slice sa_hv2 (keysN (a) (b)).length sc_hv2), (9, .int .i64 ((p : Nat) : Int))]) (fun u21 _ Ml => Ml = (M_7 ++ [])) ?_ ?_
      ·refine WC.seq ?_
       refine WC.region ?_
       refine W.mv ?_
       refine W.ok (ok_eql rfl rfl) ?_
       refine W.nil (thn_n ?_)
       refine WC.cond (b := _) rfl (fun h76 => ?_) (fun h76 => ?_)
       ·have p76 := of_decide_eq_true h76
        try dsimp only at p76
        refine WC.region ?_
        refine W.as ?_
        refine W.nil (thn_n ?_)
        exact ⟨Le.rfl, (), ⟨(by first | rfl | exact iv (by dsimp only; omega) | exact iv (by omega)), (by first | rfl | exact iv (by dsimp only; omega) | exact iv (by omega)), (by first | rfl | exact iv (by dsimp only; omega) | exact iv (by omega)), (by first | rfl | exact iv (by dsimp only; omega) | exact iv (by omega)), (by first | rfl | exact iv (by dsimp only; omega) | exact iv (by omega)), (by first | rfl | exact iv (by dsimp only; omega) | exact iv (by omega)), (by first | rfl | exact iv (by dsimp only; omega) | exact iv (by omega)), trivial⟩, rfl⟩
       ·have p76 := of_decide_eq_false h76
        try dsimp only at p76
        refine WC.skip (thn_n ?_)
        exact ⟨Le.rfl, (), ⟨(by first | rfl | exact iv (by dsimp only; omega) | exact iv (by omega)), (by first | rfl | exact iv (by dsimp only; omega) | exact iv (by omega)), (by first | rfl | exact iv (by dsimp only; omega) | exact iv (by omega)), (by first | rfl | exact iv (by dsimp only; omega) | exact iv (by omega)), (by first | rfl | exact iv (by dsimp only; omega) | exact iv (by omega)), (by first | rfl | exact iv (by dsimp only; omega) | exact iv (by omega)), (by first | rfl | exact iv (by dsimp only; omega) | exact iv (by omega)), trivial⟩, rfl⟩
      ·rintro u21 gG30 G30 _ hG30 rfl
       refine WC.seq ?_
       refine WC.seq ?_
       refine WC.region ?_
       refine W.mv ?_
       refine W.as ?_
       refine W.nil (thn_n ?_)
       refine WC.block ?_
       refine WC.loop (X := (Nat) × Value × MH) (fun i => [(14, .int .i64 ((p + i.1 : Nat) : Int)), (0, .slice sa_a a.length sc_a), (1, .slice sa_b b.length sc_b), (2, .int .i64 (max n 2)), (8, .slice sa_hv2 (keysN (a) (b)).length sc_hv2), (9, .int .i64 ((p : Nat) : Int)), (10, .int .i64 (((max (strN ((bothN a b).drop p)) 1) : Nat) : Int)), (7, i.2.1)]) (fun i G Ml => Ml = (i.2.2 ++ []) ∧ OwnR eOp 38 G i.2.1 (m ++ ((((bothN a b).drop p).take (max (strN ((bothN a b).drop p)) 1)).take i.1).filterMap chg) i.2.2 ∧ i.1 ≤ (max (strN ((bothN a b).drop p)) 1)) (fun i => (max (strN ((bothN a b).drop p)) 1) - i.1) (0, v_7, M_7) ⟨(by first | rfl | exact iv (by dsimp only; omega) | exact iv (by omega)), (by first | rfl | exact iv (by dsimp only; omega) | exact iv (by omega)), (by first | rfl | exact iv (by dsimp only; omega) | exact iv (by omega)), (by first | rfl | exact iv (by dsimp only; omega) | exact iv (by omega)), (by first | rfl | exact iv (by dsimp only; omega) | exact iv (by omega)), (by first | rfl | exact iv (by dsimp only; omega) | exact iv (by omega)), (by first | rfl | exact iv (by dsimp only; omega) | exact iv (by omega)), (by first | rfl | exact iv (by dsimp only; omega) | exact iv (by omega)), trivial⟩ ?_ ?_
       ·exact ⟨rfl, (by simpa using (ho_7.mono (hG14.trans hG30))), by omega⟩
       ·rintro ⟨i, v_7, M_7⟩ gG31 G31 _ hG31 ⟨rfl, ho_7, hi⟩
        try dsimp only at ho_7 hi
        have hst : (((bothN a b).drop p).take (max (strN ((bothN a b).drop p)) 1)).length = min (max (strN ((bothN a b).drop p)) 1) ((bothN a b).drop p).length := List.length_take ..
        have hcl := List.length_filterMap_le chg ((((bothN a b).drop p).take (max (strN ((bothN a b).drop p)) 1)).take i)
        have htl : ((((bothN a b).drop p).take (max (strN ((bothN a b).drop p)) 1)).take i).length ≤ i := by simp; omega
        refine WC.seq ?_
        refine WC.seq ?_
        refine WC.region ?_
        refine W.mv ?_
        refine W.mv ?_
        refine W.mv ?_
        refine W.ok (Ok.int (n := ((p + (max (strN ((bothN a b).drop p)) 1) : Nat) : Int)) (ok_add rfl rfl (by omega)) (by omega)) ?_
        refine W.ok (ok_lss rfl rfl) ?_
        refine W.nil (thn_n ?_)
        refine WC.cond (b := _) rfl (fun h82 => ?_) (fun h82 => ?_)
        ·have p82 := of_decide_eq_true h82
         try dsimp only at p82
         refine WC.skip (thn_n ?_)
         refine WC.seq ?_
         refine WC.block ?_
         refine WC.seq ?_
         refine WC.region ?_
         refine W.mv ?_
         refine W.mv ?_
         refine W.call (Mp := []) (changes53_fc (h_a.mono (((((hG1.trans hG8).trans hG9).trans hG14).trans hG30).trans hG31)) (h_b.mono (((((hG1.trans hG8).trans hG9).trans hG14).trans hG30).trans hG31)) (by assumption) (by assumption) (by first | assumption | omega | (simp; omega) | (exact PairsR.fold (by assumption) (by assumption)))) rfl (List.Perm.refl _) ?_
         intro _ G32 _ hG32 q34
         refine match q34 with | ⟨e_35, _, e_36, hv33⟩ => ?_
         subst e_35
         subst e_36
         have q38 := hv33.form
         refine match q38 with | ⟨sa_hv33, sc_hv33, e_37⟩ => ?_
         subst e_37
         refine W.ok (ok_len sl26 hv33 rfl) ?_
         refine W.mv ?_
         refine W.nil (thn_n ?_)
         refine WC.block ?_
         refine WC.loop (X := (Nat) × Value × MH) (fun q => [(89, .int .i64 ((q.1 : Nat) : Int)), (0, .slice sa_a a.length sc_a), (1, .slice sa_b b.length sc_b), (2, .int .i64 (max n 2)), (8, .slice sa_hv2 (keysN (a) (b)).length sc_hv2), (9, .int .i64 ((p : Nat) : Int)), (10, .int .i64 (((max (strN ((bothN a b).drop p)) 1) : Nat) : Int)), (14, .int .i64 ((p + i : Nat) : Int)), (87, .slice sa_hv33 (chgN (a) (b)).length sc_hv33), (88, .int .i64 (((chgN (a) (b)).length : Nat) : Int)), (7, q.2.1)]) (fun q G Ml => Ml = (q.2.2 ++ []) ∧ OwnR eOp 38 G q.2.1 (m ++ ((((bothN a b).drop p).take (max (strN ((bothN a b).drop p)) 1)).take i).filterMap chg ++ ((chgN a b).take q.1).filter (fun o : Opr => decide (o.key = ((keysN a b)[p + i]'(by omega))))) q.2.2 ∧ q.1 ≤ (chgN a b).length) (fun q => (chgN a b).length - q.1) (0, v_7, M_7) ⟨(by first | rfl | exact iv (by dsimp only; omega) | exact iv (by omega)), (by first | rfl | exact iv (by dsimp only; omega) | exact iv (by omega)), (by first | rfl | exact iv (by dsimp only; omega) | exact iv (by omega)), (by first | rfl | exact iv (by dsimp only; omega) | exact iv (by omega)), (by first | rfl | exact iv (by dsimp only; omega) | exact iv (by omega)), (by first | rfl | exact iv (by dsimp only; omega) | exact iv (by omega)), (by first | rfl | exact iv (by dsimp only; omega) | exact iv (by omega)), (by first | rfl | exact iv (by dsimp only; omega) | exact iv (by omega)), (by first | rfl | exact iv (by dsimp only; omega) | exact iv (by omega)), (by first | rfl | exact iv (by dsimp only; omega) | exact iv (by omega)), (by first | rfl | exact iv (by dsimp only; omega) | exact iv (by omega)), trivial⟩ ?_ ?_
         ·exact ⟨rfl, (by simpa using (ho_7.mono hG32)), by omega⟩
         ·rintro ⟨q, v_7, M_7⟩ gG39 G39 _ hG39 ⟨rfl, ho_7, hq⟩
          try dsimp only at ho_7 hq
          have hfq := List.length_filter_le (fun o : Opr => decide (o.key = ((keysN a b)[p + i]'(by omega)))) ((chgN a b).take q)
          have htq : ((chgN a b).take q).length ≤ q := by simp; omega
          refine WC.seq ?_
          refine WC.region ?_
          refine W.ok (ok_lss rfl rfl) ?_
          refine W.nil (thn_n ?_)
          refine WC.seq ?_
          refine WC.cond (b := _) rfl (fun h90 => ?_) (fun h90 => ?_)
          ·have p90 := of_decide_eq_true h90
           try dsimp only at p90
           refine WC.skip (thn_n ?_)
           refine WC.seq ?_
           refine WC.block ?_
           refine WC.seq ?_
           refine WC.region ?_
           have q44 := (hv33.mono hG39).at (i := q) (by omega)
           refine match q44 with | ⟨_, he40, ⟨e_43, hm41⟩⟩ => ?_
           subst e_43
           refine W.ok (ok_indexAddr (i := q) sl26 ty38 (hv33.mono hG39) rfl rfl ⟨by omega, by omega⟩) ?_
           refine W.ok (ok_loadE (vs := [.int .i64 _, .string _, .string _, .bool _, .string _, .int .i64 _]) ty38 he40 rfl rfl rfl (by simp)) ?_
           refine W.alloc zr38 (fun b45 => ?_)
           refine W.store (i := 0) (vs := [.int .i64 _, .string _, .string _, .bool _, .string _, .int .i64 _]) (L' := [.int .i64 _, .string _, .string _, .bool _, .string _, .int .i64 _]) ty38 rfl rfl rfl rfl rfl rfl rfl rfl ?_
           refine W.nil (thn_n ?_)
           refine WC.seq ?_
           refine WC.draw mix (by kernel_rfl) ?_
           refine W.ok (ok_fieldB fd38_1 rfl) ?_
           refine W.ok (ok_loadB (i := 0) (vs := [.string _]) ty9 rfl rfl rfl rfl (by simp)) ?_
           refine W.mv ?_
           refine W.mv ?_
           have q48 := (hv2.mono ((((((hG8.trans hG9).trans hG14).trans hG30).trans hG31).trans hG32).trans hG39)).at (i := (p + i)) (by omega)
           refine match q48 with | ⟨_, he46, e_47⟩ => ?_
           subst e_47
           refine W.ok (ok_indexAddr (i := (p + i)) sl46 ty9 (hv2.mono ((((((hG8.trans hG9).trans hG14).trans hG30).trans hG31).trans hG32).trans hG39)) rfl rfl ⟨by omega, by omega⟩) ?_
           refine W.ok (ok_loadE (vs := [.string _]) ty9 he46 rfl rfl rfl (by simp)) ?_
           refine W.ok (ok_eqlS rfl rfl) ?_
           refine W.nil (thn_n ?_)
           refine WC.cond (b := _) rfl (fun h99 => ?_) (fun h99 => ?_)
           ·have p99 := of_decide_eq_true h99
            try dsimp only at p99
            refine WC.region ?_
            refine W.mv ?_
            refine W.ok (ok_loadB (i := 0) (vs := [.int .i64 _, .string _, .string _, .bool _, .string _, .int .i64 _]) ty38 rfl rfl rfl rfl (by simp)) ?_
            refine W.lit (e := eOp) (l := [((chgN a b)[q]'_)]) (css := [[.int .i64 _, .string _, .string _, .bool _, .string _, .int .i64 _]]) sl26 ty38 zr38 rfl rfl rfl rfl rfl rfl ⟨⟨rfl, by assumption⟩, trivial⟩ (fun bl49 G49 hG49 hv49 => ?_)
            refine W.app (e := eOp) sl26 ty38 zr38 rfl by38 rfl rfl ((ho_7.mono hG49)) (hv49) (pmC (List.Perm.refl _)) (by show (List.length _ + 1) * 72 ≤ _; rw [List.length_append, List.length_append]; omega) (fun v50 Ms51 ho52 => ?_)
            refine W.perm (pmC (List.Perm.refl _)).symm ?_
            refine W.as ?_
            refine W.nil (blk_n (thn_n ?_))
            refine WC.region ?_
            refine W.ok (ok_add rfl rfl (by omega)) ?_
            refine W.mv ?_
            refine W.sub ((List.Sublist.refl _).cons _) ?_
            refine W.nil (thn_n ?_)
            exact ⟨hG49, (q + 1, v50, Ms51), ⟨(by first | rfl | exact iv (by dsimp only; omega) | exact iv (by omega)), (by first | rfl | exact iv (by dsimp only; omega) | exact iv (by omega)), (by first | rfl | exact iv (by dsimp only; omega) | exact iv (by omega)), (by first | rfl | exact iv (by dsimp only; omega) | exact iv (by omega)), (by first | rfl | exact iv (by dsimp only; omega) | exact iv (by omega)), (by first | rfl | exact iv (by dsimp only; omega) | exact iv (by omega)), (by first | rfl | exact iv (by dsimp only; omega) | exact iv (by omega)), (by first | rfl | exact iv (by dsimp only; omega) | exact iv (by omega)), (by first | rfl | exact iv (by dsimp only; omega) | exact iv (by omega)), (by first | rfl | exact iv (by dsimp only; omega) | exact iv (by omega)), (by first | rfl | exact iv (by dsimp only; omega) | exact iv (by omega)), trivial⟩, ⟨rfl, (by have h := ho52; rw [fl_t (f := fun o : Opr => decide (o.key = ((keysN a b)[p + i]'(by omega)))) (l := chgN a b) (k := q) (by omega) (decide_eq_true (Str.ext' p99)), ← List.append_assoc]; exact h), by omega⟩, by omega⟩
           ·have p99 := of_decide_eq_false h99
            try dsimp only at p99
            refine WC.skip (blk_n (thn_n ?_))
            refine WC.region ?_
            refine W.ok (ok_add rfl rfl (by omega)) ?_
            refine W.mv ?_
            refine W.sub ((List.Sublist.refl _).cons _) ?_
            refine W.nil (thn_n ?_)
            exact ⟨Le.rfl, (q + 1, v_7, M_7), ⟨(by first | rfl | exact iv (by dsimp only; omega) | exact iv (by omega)), (by first | rfl | exact iv (by dsimp only; omega) | exact iv (by omega)), (by first | rfl | exact iv (by dsimp only; omega) | exact iv (by omega)), (by first | rfl | exact iv (by dsimp only; omega) | exact iv (by omega)), (by first | rfl | exact iv (by dsimp only; omega) | exact iv (by omega)), (by first | rfl | exact iv (by dsimp only; omega) | exact iv (by omega)), (by first | rfl | exact iv (by dsimp only; omega) | exact iv (by omega)), (by first | rfl | exact iv (by dsimp only; omega) | exact iv (by omega)), (by first | rfl | exact iv (by dsimp only; omega) | exact iv (by omega)), (by first | rfl | exact iv (by dsimp only; omega) | exact iv (by omega)), (by first | rfl | exact iv (by dsimp only; omega) | exact iv (by omega)), trivial⟩, ⟨rfl, (by have h := ho_7; rw [fl_f (f := fun o : Opr => decide (o.key = ((keysN a b)[p + i]'(by omega)))) (l := chgN a b) (k := q) (by omega) (decide_eq_false fun e => p99 (congrArg Str.b e))]; exact h), by omega⟩, by omega⟩
          ·have p90 := of_decide_eq_false h90
           try dsimp only at p90
           refine WC.exit (thn_x (thn_x (blk_h (blk_n (thn_n ?_)))))
           refine WC.region ?_
           refine W.mv ?_
           refine W.ok (ok_add rfl rfl (by omega)) ?_
           refine W.as ?_
           refine W.nil (thn_n ?_)
           exact ⟨(hG32.trans hG39), (i + 1, v_7, M_7), ⟨(by first | rfl | exact iv (by dsimp only; omega) | exact iv (by omega)), (by first | rfl | exact iv (by dsimp only; omega) | exact iv (by omega)), (by first | rfl | exact iv (by dsimp only; omega) | exact iv (by omega)), (by first | rfl | exact iv (by dsimp only; omega) | exact iv (by omega)), (by first | rfl | exact iv (by dsimp only; omega) | exact iv (by omega)), (by first | rfl | exact iv (by dsimp only; omega) | exact iv (by omega)), (by first | rfl | exact iv (by dsimp only; omega) | exact iv (by omega)), (by first | rfl | exact iv (by dsimp only; omega) | exact iv (by omega)), trivial⟩, ⟨rfl, (by have h := ho_7; rw [show List.take q (chgN a b) = chgN a b from List.take_of_length_le (by omega), chg53 hra hrb (p := p) (i := i) (c := max (strN ((bothN a b).drop p)) 1) (by omega), List.append_assoc, ← fm_step] at h; exact h), by omega⟩, by omega⟩
        ·have p82 := of_decide_eq_false h82
         try dsimp only at p82
         refine WC.exit (thn_x (thn_x (blk_h (thn_n ?_))))
         refine WC.region ?_
         refine W.mv ?_
         refine W.mv ?_
         refine W.ok (Ok.int (n := ((p + (max (strN ((bothN a b).drop p)) 1) : Nat) : Int)) (ok_add rfl rfl (by omega)) (by omega)) ?_
         refine W.as ?_
         refine W.nil (blk_n (thn_n ?_))
         exact ⟨((hG14.trans hG30).trans hG31), (((p + (max (strN ((bothN a b).drop p)) 1), m ++ (((bothN a b).drop p).take (max (strN ((bothN a b).drop p)) 1)).filterMap chg) : Nat × List Opr), v_7, M_7), ⟨(by first | rfl | exact iv (by dsimp only; omega) | exact iv (by omega)), (by first | rfl | exact iv (by dsimp only; omega) | exact iv (by omega)), (by first | rfl | exact iv (by dsimp only; omega) | exact iv (by omega)), (by first | rfl | exact iv (by dsimp only; omega) | exact iv (by omega)), (by first | rfl | exact iv (by dsimp only; omega) | exact iv (by omega)), (by first | rfl | exact iv (by dsimp only; omega) | exact iv (by omega)), trivial⟩, ⟨rfl, (by have h := ho_7; rw [List.take_of_length_le (by simp; omega)] at h; exact h), by
      dsimp only
      rw [← hinv, wip_c (n := n) (S := List.drop p (bothN a b)) (by omega) (by omega), List.append_assoc, List.drop_drop], by dsimp only; omega⟩, by dsimp only; omega⟩
   ·have p25 := of_decide_eq_false h25
    try dsimp only at p25
    refine WC.exit (thn_x (thn_x (blk_h (thn_n ?_))))
    refine WC.seq ?_
    refine WC.region ?_
    refine W.mv ?_
    refine W.as ?_
    refine W.nil (thn_n ?_)
    refine WC.giveO ho_7 (List.Perm.refl _) (fun G53 hG53 hv53 => ?_)
    refine WC.ret ?_
    refine ⟨.inr rfl, [_], ⟨rfl, trivial⟩, [], List.nil_sublist _, ?_⟩
    refine ⟨rfl, _, rfl, ?_⟩
    · exact SlR.cast hv53 (by rw [← hinv, List.drop_eq_nil_of_le (by omega), wipN, List.append_nil])

end Go.Proofs.Ytlkdcbmdihefpaa
