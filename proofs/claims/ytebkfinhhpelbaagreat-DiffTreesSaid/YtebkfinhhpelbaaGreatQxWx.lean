/- The walk of diff.Wipes. -/
import Derived.Test.YtebkfinhhpelbaaGreatQxMz
namespace Go.Proofs.YtebkfinhhpelbaaGreat
open Go Go.Fw Go.RowKit
set_option maxRecDepth 100000
set_option maxHeartbeats 1600000
set_option linter.unusedVariables false
set_option linter.unusedSimpArgs false
set_option linter.unnecessarySimpa false
theorem dwipes_fc {G : GH} {v_a : Value} {a : List Pair} (h_a : SlR ePair G v_a a) {v_b : Value} {b : List Pair} (h_b : SlR ePair G v_b b) (n : Int) (hn : a.length + b.length ≤ 1000000) :
    Fc Tryz.prog 99 [v_a, v_b, .int .i64 n] G [] (fun v G' M' => M' = [] ∧ ∃ u0, v = u0 ∧ SlR eOp G' u0 (wipN n (bothN a b))) := by
 obtain ⟨sa_a, sc_a, rfl⟩ := h_a.form
 obtain ⟨sa_b, sc_b, rfl⟩ := h_b.form
 have hla := h_a.len47
 have hlb := h_b.len47
 have hbl := both_len a b
 have hwl := wip_len n (bothN a b)
 have hfl := List.length_filterMap_le chg (bothN a b)
 refine Fc.intro (rs := [.tmp 6]) cl99 Tryz.func99 rfl Tryz.ntmps99 rfl rfl (fun w0 => ?_)
 refine WC.seq (WC.region (W.as (W.nil (thn_n (WC.seq (WC.region (W.as (W.nil (thn_n ?_)))))))))
 refine WC.seq (WC.seq (WC.region (W.mv (W.mv (W.call (Mp := []) (both_fc h_a h_b (by first | assumption | omega | (simp; omega) | (exact PairsR.fold (by assumption) (by assumption)))) rfl (List.Perm.refl _) ?_)))))
 intro _ G1 _ hG1 q3
 refine match q3 with | ⟨e_4, _, e_5, hv2⟩ => ?_
 subst e_4
 subst e_5
 have q7 := hv2.form
 refine match q7 with | ⟨sa_hv2, sc_hv2, e_6⟩ => ?_
 subst e_6
 refine W.as (W.nil (thn_n (WC.block ?_)))
 refine WC.loop (X := (Nat × List Opr) × Value × MH × Value) (fun x => [(2, .int .i64 n), (7, x.2.1), (8, x.2.2.2)]) (fun x G Ml => Ml = (x.2.2.1 ++ []) ∧ OwnR eOp 155 G x.2.1 (x.1.2) x.2.2.1 ∧ SlR eRow G x.2.2.2 ((bothN a b).drop x.1.1) ∧ x.1.2 ++ wipN n ((bothN a b).drop x.1.1) = wipN n (bothN a b) ∧ x.1.1 ≤ (bothN a b).length) (fun x => (bothN a b).length - x.1.1) (((0, []) : Nat × List Opr), .slice none 0 0, ([] : MH), .slice sa_hv2 (bothN (a) (b)).length sc_hv2) ⟨eqv, eqv, eqv, trivial⟩ ?_ ?_
 ·exact ⟨rfl, (by exact OwnR.nil), (by simpa using hv2), by simp, by simp⟩
 ·rintro ⟨⟨p, m⟩, v_7, M_7, v_8⟩ gG8 G8 _ hG8 ⟨rfl, ho_7, ho_8, hinv, hp⟩
  try dsimp only at ho_7 ho_8 hinv hp
  have hds : ((bothN a b).drop p).length = (bothN a b).length - p := List.length_drop ..
  have hsn := strN_le ((bothN a b).drop p)
  have hml : m.length + (wipN n ((bothN a b).drop p)).length = (wipN n (bothN a b)).length := by rw [← hinv, List.length_append]
  refine WC.fr (f := setL gG8 [(2, .int .i64 n), (7, v_7), (8, v_8)]) rfl (WC.seq (WC.seq (WC.region (W.mv (W.ok (ok_len sl221 ho_8 rfl) (W.ok (ok_gtr rfl rfl) (W.nil (thn_n ?_))))))))
  refine WC.cond (b := _) rfl (fun h20 => ?_) (fun h20 => ?_)
  ·have p20 := of_decide_eq_true h20
   refine WC.skip (thn_n (WC.block (WC.seq (WC.region (W.mv (W.qcall (stretch_fc ho_8) rfl (W.as (W.nil (thn_n ?_)))))))))
   refine WC.seq (WC.seq (WC.region (W.mv (W.mv (W.ok (ok_maxi rfl rfl) (W.ok (ok_lss rfl rfl) (W.nil (thn_n ?_))))))))
   refine WC.cond (b := _) rfl (fun h26 => ?_) (fun h26 => ?_)
   ·have p26 := of_decide_eq_true h26
    have hdt : (List.drop 0 (((bothN a b).drop p).take (max (strN ((bothN a b).drop p)) 1))).length = (((bothN a b).drop p).take (max (strN ((bothN a b).drop p)) 1)).length := rfl
    have hst : (((bothN a b).drop p).take (max (strN ((bothN a b).drop p)) 1)).length = min (max (strN ((bothN a b).drop p)) 1) ((bothN a b).drop p).length := List.length_take ..
    refine WC.seq (WC.region (W.mv (W.ok (Ok.int (n := ((max (strN ((bothN a b).drop p)) 1 : Nat) : Int)) (ok_maxi rfl rfl) (by omega)) (W.as (W.nil (thn_n (WC.seq (WC.seq ?_))))))))
    refine WC.region (W.mv (W.mv ?_))
    have hs9 := SlR.slice ho_8 (lo := 0) (hi := (max (strN ((bothN a b).drop p)) 1)) (by omega) (by omega)
    refine W.ok (ok_slice (0) ((max (strN ((bothN a b).drop p)) 1)) sl221 ty225 ho_8 rfl rfl ⟨_, _, rfl, by omega⟩ ⟨by omega, by omega⟩) (W.ok (ok_len sl221 hs9 rfl) (W.mv (W.nil (thn_n (WC.block ?_)))))
    refine WC.loop (X := (Nat) × Value × MH) (fun i => [(33, .int .i64 ((i.1 : Nat) : Int)), (2, .int .i64 n), (8, v_8), (9, .int .i64 ((max (strN ((bothN a b).drop p)) 1 : Nat) : Int)), (31, (sliceV v_8 (eRow).k (0) ((max (strN ((bothN a b).drop p)) 1)))), (32, .int .i64 ((((((bothN a b).drop p).take ((max (strN ((bothN a b).drop p)) 1))).drop (0)).length : Nat) : Int)), (7, i.2.1)]) (fun i G Ml => Ml = (i.2.2 ++ []) ∧ OwnR eOp 155 G i.2.1 (m ++ ((((bothN a b).drop p).take (max (strN ((bothN a b).drop p)) 1)).take i.1).filterMap chg) i.2.2 ∧ i.1 ≤ (((bothN a b).drop p).take (max (strN ((bothN a b).drop p)) 1)).length) (fun i => (((bothN a b).drop p).take (max (strN ((bothN a b).drop p)) 1)).length - i.1) (0, v_7, M_7) ⟨eqv, eqv, eqv, eqv, eqv, eqv, eqv, trivial⟩ ?_ ?_
    ·exact ⟨rfl, (by simpa using ho_7), by omega⟩
    ·rintro ⟨i, v_7, M_7⟩ gG10 G10 _ hG10 ⟨rfl, ho_7, hi⟩
     try dsimp only at ho_7 hi
     have hcl := List.length_filterMap_le chg ((((bothN a b).drop p).take (max (strN ((bothN a b).drop p)) 1)).take i)
     have htl : ((((bothN a b).drop p).take (max (strN ((bothN a b).drop p)) 1)).take i).length ≤ i := by simp; omega
     refine WC.fr (f := setL gG10 [(33, .int .i64 ((i : Nat) : Int)), (2, .int .i64 n), (8, v_8), (9, .int .i64 ((max (strN ((bothN a b).drop p)) 1 : Nat) : Int)), (31, (sliceV v_8 (eRow).k (0) ((max (strN ((bothN a b).drop p)) 1)))), (32, .int .i64 ((((((bothN a b).drop p).take ((max (strN ((bothN a b).drop p)) 1))).drop (0)).length : Nat) : Int)), (7, v_7)]) rfl (WC.seq (WC.region (W.ok (ok_lss rfl rfl) (W.nil (thn_n (WC.seq ?_))))))
     refine WC.cond (b := _) rfl (fun h34 => ?_) (fun h34 => ?_)
     ·have p34 := of_decide_eq_true h34
      refine WC.skip (thn_n (WC.seq (WC.block (WC.seq (WC.region ?_)))))
      have q15 := (hs9.mono hG10).at (i := i) (by omega)
      refine match q15 with | ⟨_, he11, e_14⟩ => ?_
      subst e_14
      refine W.ok (ok_indexAddr (i := i) sl221 ty225 (hs9.mono hG10) rfl rfl ⟨by omega, by omega⟩) (W.ok (ok_loadE (vs := [.string _, .string _, .string _, .bool _, .bool _]) ty225 he11 rfl rfl rfl (by simp)) (W.alloc zr225 (fun b16 => (W.store (i := 0) (vs := [.string _, .string _, .string _, .bool _, .bool _]) (L' := [.string _, .string _, .string _, .bool _, .bool _]) ty225 rfl rfl rfl rfl rfl rfl rfl rfl (W.nil (thn_n (WC.seq (WC.region (W.ok (ok_loadB (i := 0) (vs := [.string _, .string _, .string _, .bool _, .bool _]) ty225 rfl rfl rfl rfl (by simp)) ?_)))))))))
      refine W.qcall (rchange_fc _ _ _ _ _) rfl (W.mv (W.ok (ok_extract rfl rfl) (W.ok (ok_extract rfl rfl) (W.alloc zr155 (fun b17 => (W.store (i := 0) (vs := [.int .i64 _, .string _, .string _, .bool _, .string _, .int .i64 _]) (L' := [.int .i64 _, .string _, .string _, .bool _, .string _, .int .i64 _]) ty155 rfl rfl rfl rfl rfl rfl rfl rfl (W.as (W.nil (thn_n ?_)))))))))
      refine WC.seq (WC.region (W.mv (W.nil (thn_n ?_))))
      refine WC.cond (b := _) rfl (fun h39_1 => ?_) (fun h39_1 => ?_)
      ·refine WC.region (W.mv (W.ok (ok_loadB (i := 0) (vs := [.int .i64 _, .string _, .string _, .bool _, .string _, .int .i64 _]) ty155 rfl rfl rfl rfl (by simp)) (W.lit (e := eOp) (l := [((chg ((((bothN a b).drop p).take (max (strN ((bothN a b).drop p)) 1))[i]'_)).getD Opr.zero)]) (css := [[.int .i64 _, .string _, .string _, .bool _, .string _, .int .i64 _]]) sl77 ty155 zr155 rfl rfl rfl rfl rfl rfl ⟨⟨rfl, chg_ok _⟩, trivial⟩ (fun bl18 G18 hG18 hv18 => (W.app (e := eOp) sl77 ty155 zr155 rfl by155 rfl rfl ((ho_7.mono hG18)) (hv18) (pmC (pmC (List.Perm.refl _))) (by show (List.length _ + 1) * 72 ≤ _; rw [List.length_append]; omega) (fun v19 Ms20 ho21 => (W.perm (pmC (pmC (List.Perm.refl _))).symm (W.as (W.nil (blk_n (thn_n ?_)))))))))))
       refine WC.region (W.ok (ok_add rfl rfl (by omega)) (W.mv (W.sub (((List.Sublist.refl _).cons _).cons _) (W.nil (thn_n ?_)))))
       exact ⟨hG18, (i + 1, v19, Ms20), ⟨eqv, eqv, eqv, eqv, eqv, eqv, eqv, trivial⟩, ⟨rfl, (by have h := ho21; rw [fm_t (by omega) Opr.zero (by assumption), ← List.append_assoc]; exact h), by omega⟩, by omega⟩
      ·refine WC.skip (blk_n (thn_n (WC.region (W.ok (ok_add rfl rfl (by omega)) (W.mv (W.sub (((List.Sublist.refl _).cons _).cons _) (W.nil (thn_n ?_))))))))
       exact ⟨Le.rfl, (i + 1, v_7, M_7), ⟨eqv, eqv, eqv, eqv, eqv, eqv, eqv, trivial⟩, ⟨rfl, (by have h := ho_7; rw [fm_f (by omega) (by assumption)]; exact h), by omega⟩, by omega⟩
     ·have p34 := of_decide_eq_false h34
      refine WC.exit (thn_x (thn_x (blk_h (thn_n (WC.seq (WC.region (W.mv (W.mv ?_))))))))
      have hs22 := SlR.slice (ho_8.mono hG10) (lo := (max (strN ((bothN a b).drop p)) 1)) (hi := ((bothN a b).drop p).length) (by omega) (by omega)
      refine W.ok (ok_slice ((max (strN ((bothN a b).drop p)) 1)) (((bothN a b).drop p).length) sl221 ty225 (ho_8.mono hG10) rfl ⟨_, _, rfl, by omega⟩ rfl ⟨by omega, by omega⟩) (W.as (W.nil (thn_n (WC.exit (thn_x (blk_h (thn_n ?_)))))))
      exact ⟨hG10, (((p + (max (strN ((bothN a b).drop p)) 1), m ++ (((bothN a b).drop p).take (max (strN ((bothN a b).drop p)) 1)).filterMap chg) : Nat × List Opr), v_7, M_7, (sliceV v_8 (eRow).k ((max (strN ((bothN a b).drop p)) 1)) (((bothN a b).drop p).length))), ⟨eqv, eqv, eqv, trivial⟩, ⟨rfl, (by have h := ho_7; rw [List.take_of_length_le (by simp; omega)] at h; exact h), (by exact SlR.cast hs22 (by dsimp only; rw [List.take_length, List.drop_drop])), by
      dsimp only
      rw [← hinv, wip_c (by omega) p26, List.append_assoc, List.drop_drop], by dsimp only; omega⟩, by dsimp only; omega⟩
   ·have p26 := of_decide_eq_false h26
    refine WC.skip (thn_n (WC.seq (WC.region (W.mv ?_))))
    have q27 := ho_8.at (i := 0) (by omega)
    refine match q27 with | ⟨_, he23, e_26⟩ => ?_
    subst e_26
    refine W.ok (ok_indexAddr (i := 0) sl221 ty225 ho_8 rfl rfl ⟨by omega, by omega⟩) (W.ok (ok_fieldE fd225_0 rfl he23.form) (W.ok (ok_loadE (vs := [.string _]) ty9 he23 rfl rfl rfl (by simp)) (W.mv (W.mv (W.ok (ok_len sl221 ho_8 rfl) (W.ok (ok_eql rfl rfl) (W.ok (ok_build (L := [.int .i64 _, .string _, .string _, .bool _, .string _, .int .i64 _]) pl155 zr155 rfl rfl rfl) ?_)))))))
    refine W.alloc zr155 (fun b28 => (W.store (i := 0) (vs := [.int .i64 _, .string _, .string _, .bool _, .string _, .int .i64 _]) (L' := [.int .i64 _, .string _, .string _, .bool _, .string _, .int .i64 _]) ty155 rfl rfl rfl rfl rfl rfl rfl rfl (W.nil (thn_n (WC.seq (WC.seq (WC.region (W.ok (ok_fieldB fd155_3 rfl) (W.ok (ok_loadB (i := 0) (vs := [.bool _]) ty4 rfl rfl rfl rfl (by simp)) ?_)))))))))
    refine W.ok (ok_not rfl) (W.nil (thn_n ?_))
    refine WC.cond (b := _) rfl (fun h62 => ?_) (fun h62 => ?_)
    ·have p62 := nd_t h62
     refine WC.region (W.mv (W.mv ?_))
     have q33 := ho_8.at (i := strN ((bothN a b).drop p)) (by omega)
     refine match q33 with | ⟨_, he29, e_32⟩ => ?_
     subst e_32
     refine W.ok (ok_indexAddr (i := strN ((bothN a b).drop p)) sl221 ty225 ho_8 rfl rfl ⟨by omega, by omega⟩) (W.ok (ok_fieldE fd225_0 rfl he29.form) (W.ok (ok_loadE (vs := [.string _]) ty9 he29 rfl rfl rfl (by simp)) (W.ok (ok_fieldB fd155_2 rfl) (W.store (i := 0) (vs := [.string _]) (L' := [.int .i64 _, .string _, .string _, .bool _, .string _, .int .i64 _]) ty9 rfl rfl rfl rfl rfl rfl rfl rfl (W.nil (thn_n (WC.drawW _ ((List.nil_sublist _).cons_cons _) mix (by rintro _ _ _ _ ⟨h | h, _⟩ <;> cases h) (WD.take 0 rfl rfl rfl (by kernel_rfl) (by kernel_rfl) (by kernel_rfl) (ok_mv) ?_))))))))
     refine WD.take 1 rfl rfl rfl (by kernel_rfl) (by kernel_rfl) (by kernel_rfl) (ok_loadB (i := 0) (vs := [.int .i64 _, .string _, .string _, .bool _, .string _, .int .i64 _]) ty155 rfl rfl rfl rfl (by simp)) (WD.take 4 rfl rfl rfl (by kernel_rfl) (by kernel_rfl) (by kernel_rfl) (ok_mv) (WD.take 5 rfl rfl rfl (by kernel_rfl) (by kernel_rfl) (by kernel_rfl) (ok_mv) ?_))
     have hs34 := SlR.slice ho_8 (lo := strN ((bothN a b).drop p)) (hi := ((bothN a b).drop p).length) (by omega) (by omega)
     refine WD.take 6 rfl rfl rfl (by kernel_rfl) (by kernel_rfl) (by kernel_rfl) (ok_slice (strN ((bothN a b).drop p)) (((bothN a b).drop p).length) sl221 ty225 ho_8 rfl ⟨_, _, rfl, by omega⟩ rfl ⟨by omega, by omega⟩) (WD.any [2] (by kernel_rfl) rfl ⟨⟨_, rfl, rfl, (W.lit (e := eOp) (l := [(wipeOp ((bothN a b).drop p) (strN ((bothN a b).drop p)) (((bothN a b).drop p)[0]'_).key)]) (css := [[.int .i64 _, .string _, .string _, .bool _, .string _, .int .i64 _]]) sl77 ty155 zr155 rfl rfl rfl rfl rfl rfl ⟨⟨by rw [wipeOp_in (by omega)]; rfl, wipeOp_ok _ _ _⟩, trivial⟩ (fun bl35 G35 hG35 hv35 => (W.nil ⟨hG35, (List.nil_sublist _).cons_cons _, _, (List.nil_sublist _).cons_cons _, List.Sublist.refl _, (WD.any [3] (by kernel_rfl) rfl ⟨⟨_, rfl, rfl, (W.app (e := eOp) sl77 ty155 zr155 rfl by155 rfl rfl ((ho_7.mono hG35)) (hv35) (pmC (List.Perm.refl _)) (by show (_ + 1) * 72 ≤ _; omega) (fun v36 Ms37 ho38 => (W.perm (pmC (List.Perm.refl _)).symm (W.nil ⟨Le.rfl, (List.nil_sublist _).cons_cons _, _, (List.nil_sublist _).cons_cons _, List.Sublist.refl _, ?_⟩))))⟩, trivial⟩)⟩)))⟩, trivial⟩)
     refine WD.take 7 rfl rfl rfl (by kernel_rfl) (by kernel_rfl) (by kernel_rfl) (ok_as) (WD.take 8 rfl rfl rfl (by kernel_rfl) (by kernel_rfl) (by kernel_rfl) (ok_as) (WD.doneS (by kernel_rfl) ((List.Sublist.refl _).cons _) (blk_n (thn_n ?_))))
     exact ⟨hG35, (((p + strN ((bothN a b).drop p), m ++ [wipeOp ((bothN a b).drop p) (strN ((bothN a b).drop p)) (((bothN a b).drop p)[0]'(by omega)).key]) : Nat × List Opr), v36, Ms37, (sliceV v_8 (eRow).k (strN ((bothN a b).drop p)) (((bothN a b).drop p).length))), ⟨eqv, eqv, eqv, trivial⟩, ⟨rfl, (by exact ho38), (by exact SlR.cast (hs34.mono hG35) (by dsimp only; rw [List.take_length, List.drop_drop])), by
      dsimp only
      rw [← hinv, wip_w (by omega) p26, List.append_assoc, List.drop_drop]; rfl, by dsimp only; omega⟩, by dsimp only; omega⟩
    ·have p62 := nd_f h62
     refine WC.skip (thn_n (WC.drawW _ ((List.nil_sublist _).cons_cons _) mix (by rintro _ _ _ _ ⟨h | h, _⟩ <;> cases h) (WD.take 0 rfl rfl rfl (by kernel_rfl) (by kernel_rfl) (by kernel_rfl) (ok_mv) (WD.take 1 rfl rfl rfl (by kernel_rfl) (by kernel_rfl) (by kernel_rfl) (ok_loadB (i := 0) (vs := [.int .i64 _, .string _, .string _, .bool _, .string _, .int .i64 _]) ty155 rfl rfl rfl rfl (by simp)) (WD.take 4 rfl rfl rfl (by kernel_rfl) (by kernel_rfl) (by kernel_rfl) (ok_mv) (WD.take 5 rfl rfl rfl (by kernel_rfl) (by kernel_rfl) (by kernel_rfl) (ok_mv) ?_))))))
     have hs39 := SlR.slice ho_8 (lo := strN ((bothN a b).drop p)) (hi := ((bothN a b).drop p).length) (by omega) (by omega)
     refine WD.take 6 rfl rfl rfl (by kernel_rfl) (by kernel_rfl) (by kernel_rfl) (ok_slice (strN ((bothN a b).drop p)) (((bothN a b).drop p).length) sl221 ty225 ho_8 rfl ⟨_, _, rfl, by omega⟩ rfl ⟨by omega, by omega⟩) (WD.any [2] (by kernel_rfl) rfl ⟨⟨_, rfl, rfl, (W.lit (e := eOp) (l := [(wipeOp ((bothN a b).drop p) (strN ((bothN a b).drop p)) (((bothN a b).drop p)[0]'_).key)]) (css := [[.int .i64 _, .string _, .string _, .bool _, .string _, .int .i64 _]]) sl77 ty155 zr155 rfl rfl rfl rfl rfl rfl ⟨⟨by rw [wipeOp_end (by omega) (by omega)]; rfl, wipeOp_ok _ _ _⟩, trivial⟩ (fun bl40 G40 hG40 hv40 => (W.nil ⟨hG40, (List.nil_sublist _).cons_cons _, _, (List.nil_sublist _).cons_cons _, List.Sublist.refl _, (WD.any [3] (by kernel_rfl) rfl ⟨⟨_, rfl, rfl, (W.app (e := eOp) sl77 ty155 zr155 rfl by155 rfl rfl ((ho_7.mono hG40)) (hv40) (pmC (List.Perm.refl _)) (by show (_ + 1) * 72 ≤ _; omega) (fun v41 Ms42 ho43 => (W.perm (pmC (List.Perm.refl _)).symm (W.nil ⟨Le.rfl, (List.nil_sublist _).cons_cons _, _, (List.nil_sublist _).cons_cons _, List.Sublist.refl _, ?_⟩))))⟩, trivial⟩)⟩)))⟩, trivial⟩)
     refine WD.take 7 rfl rfl rfl (by kernel_rfl) (by kernel_rfl) (by kernel_rfl) (ok_as) (WD.take 8 rfl rfl rfl (by kernel_rfl) (by kernel_rfl) (by kernel_rfl) (ok_as) (WD.doneS (by kernel_rfl) ((List.Sublist.refl _).cons _) (blk_n (thn_n ?_))))
     exact ⟨hG40, (((p + strN ((bothN a b).drop p), m ++ [wipeOp ((bothN a b).drop p) (strN ((bothN a b).drop p)) (((bothN a b).drop p)[0]'(by omega)).key]) : Nat × List Opr), v41, Ms42, (sliceV v_8 (eRow).k (strN ((bothN a b).drop p)) (((bothN a b).drop p).length))), ⟨eqv, eqv, eqv, trivial⟩, ⟨rfl, (by exact ho43), (by exact SlR.cast (hs39.mono hG40) (by dsimp only; rw [List.take_length, List.drop_drop])), by
      dsimp only
      rw [← hinv, wip_w (by omega) p26, List.append_assoc, List.drop_drop]; rfl, by dsimp only; omega⟩, by dsimp only; omega⟩
  ·have p20 := of_decide_eq_false h20
   refine WC.exit (thn_x (thn_x (blk_h (thn_n (WC.seq (WC.region (W.mv (W.as (W.nil (thn_n (WC.giveO ho_7 (List.Perm.refl _) (fun G44 hG44 hv44 => (WC.ret ?_)))))))))))))
   refine ⟨.inr rfl, [_], ⟨rfl, trivial⟩, [], List.nil_sublist _, ?_⟩
   refine ⟨rfl, _, rfl, ?_⟩
   · exact SlR.cast hv44 (by rw [← hinv, List.drop_eq_nil_of_le (by omega), wipN, List.append_nil])

end Go.Proofs.YtebkfinhhpelbaaGreat
