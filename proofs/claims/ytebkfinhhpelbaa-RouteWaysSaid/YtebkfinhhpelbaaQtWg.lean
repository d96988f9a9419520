/- Walks of lists of messages. -/
import Derived.Test.YtebkfinhhpelbaaQtW3
namespace Go.Proofs.Ytebkfinhhpelbaa
open Go Go.Fw Go.RowKit
set_option maxRecDepth 100000
set_option maxHeartbeats 1600000
set_option linter.unusedVariables false
set_option linter.unusedSimpArgs false
set_option linter.unnecessarySimpa false
theorem rclips_fc {G : GH} {v_l : Value} {l : List Msg} (h_l : SlR eMsg G v_l l) (alo : Str) (ahi : Str) (ao : Bool) (hks : ∀ m ∈ l, m.key.b.size < 140737488355328) :
    Fc Try.prog 57 [v_l, .agg #[.string alo.b, .string ahi.b, .bool ao]] G [] (fun v G' M' => M' = [] ∧ ∃ u0, v = u0 ∧ SlR eMsg G' u0 (clips ⟨alo, ahi, ao⟩ l)) := by
 obtain ⟨sa_l, sc_l, rfl⟩ := h_l.form
 have hl := h_l.len47
 have hlb : l.length * 72 ≤ 140737488355328 := h_l.bytes
 refine Fc.intro (rs := [.tmp 4]) cl57 Try.func57 rfl Try.ntmps57 rfl rfl (fun w0 => ?_)
 refine WC.seq ?_
 refine WC.region ?_
 refine W.box (L := [.string _, .string _, .bool _]) rfl rfl (fun b1 => ?_)
 refine W.as ?_
 refine W.nil (thn_n ?_)
 refine WC.seq ?_
 refine WC.region ?_
 refine W.as ?_
 refine W.nil (thn_n ?_)
 refine WC.seq ?_
 refine WC.seq ?_
 refine WC.region ?_
 refine W.as ?_
 refine W.nil (thn_n ?_)
 refine WC.block ?_
 refine WC.loop (X := (Nat) × Value × MH) (fun i => [(6, .int .i64 ((i.1 : Nat) : Int)), (3, .pointer (some ⟨b1, 0, none⟩)), (0, .slice sa_l l.length sc_l), (5, i.2.1)]) (fun i G Ml => Ml = ((b1, .cells (List.toArray [.string alo.b, .string ahi.b, .bool ao]) 37 (0, 0)) :: (i.2.2 ++ [])) ∧ OwnR eMsg 123 G i.2.1 (clips ⟨alo, ahi, ao⟩ (l.take i.1)) i.2.2 ∧ i.1 ≤ l.length) (fun i => l.length - i.1) (0, .slice none 0 0, ([] : MH)) ⟨eqv, eqv, eqv, eqv, trivial⟩ ?_ ?_
 ·exact ⟨rfl, (by exact OwnR.nil), by omega⟩
 ·rintro ⟨i, v_5, M_5⟩ gG2 G2 _ hG2 ⟨rfl, ho_5, hi⟩
  try dsimp only at ho_5 hi
  have hcl := clips_le (s := ⟨alo, ahi, ao⟩) (l := l.take i)
  have htl : (l.take i).length ≤ i := by simp; omega
  refine WC.fr (f := setL gG2 [(6, .int .i64 ((i : Nat) : Int)), (3, .pointer (some ⟨b1, 0, none⟩)), (0, .slice sa_l l.length sc_l), (5, v_5)]) rfl ?_
  refine WC.seq ?_
  refine WC.seq ?_
  refine WC.region ?_
  refine W.mv ?_
  refine W.mv ?_
  refine W.ok (ok_len sl33 (h_l.mono hG2) rfl) ?_
  refine W.ok (ok_lss rfl rfl) ?_
  refine W.nil (thn_n ?_)
  refine WC.cond (b := _) rfl (fun h12 => ?_) (fun h12 => ?_)
  ·have p12 := of_decide_eq_true h12
   refine WC.skip (thn_n ?_)
   refine WC.seq ?_
   refine WC.block ?_
   refine WC.seq ?_
   refine WC.drawW _ ((List.Sublist.refl _).cons_cons _) mix (by rintro _ _ _ _ ⟨h | h, _⟩ <;> cases h) ?_
   refine WD.take 0 rfl rfl rfl (by kernel_rfl) (by kernel_rfl) (by kernel_rfl) (ok_mv) ?_
   refine WD.take 1 rfl rfl rfl (by kernel_rfl) (by kernel_rfl) (by kernel_rfl) (ok_mv) ?_
   have q7 := (h_l.mono hG2).at (i := i) (by omega)
   refine match q7 with | ⟨_, he3, ⟨e_6, hm4⟩⟩ => ?_
   subst e_6
   refine WD.take 2 rfl rfl rfl (by kernel_rfl) (by kernel_rfl) (by kernel_rfl) (ok_indexAddr (i := i) sl33 ty123 (h_l.mono hG2) rfl rfl ⟨by omega, by omega⟩) ?_
   refine WD.take 3 rfl rfl rfl (by kernel_rfl) (by kernel_rfl) (by kernel_rfl) (ok_loadE (vs := [.int .i64 _, .int .i64 _, .string _, .string _, .bool _, .string _]) ty123 he3 rfl rfl rfl (by simp)) ?_
   refine WD.take 4 rfl rfl rfl (by kernel_rfl) (by kernel_rfl) (by kernel_rfl) (ok_loadB (i := 0) (vs := [.string _, .string _, .bool _]) ty37 rfl rfl rfl rfl (by simp)) ?_
   refine WD.any [5, 9] (by kernel_rfl) rfl ⟨⟨_, rfl, rfl, ?_⟩, ⟨_, rfl, rfl, ?_⟩, trivial⟩
   ·refine W.qcall (rclip_fc _ _ _ _ _ _ _ _ _ (hks _ (List.getElem_mem _))) rfl ?_
    refine W.nil ⟨Le.rfl, (List.Sublist.refl _).cons_cons _, _, (List.Sublist.refl _).cons_cons _, List.Sublist.refl _, ?_⟩
    refine WD.take 6 rfl rfl rfl (by kernel_rfl) (by kernel_rfl) (by kernel_rfl) (ok_mv) ?_
    refine WD.take 7 rfl rfl rfl (by kernel_rfl) (by kernel_rfl) (by kernel_rfl) (ok_extract rfl rfl) ?_
    refine WD.take 8 rfl rfl rfl (by kernel_rfl) (by kernel_rfl) (by kernel_rfl) (ok_extract rfl rfl) ?_
    refine WD.any [9] (by kernel_rfl) rfl ⟨⟨_, rfl, rfl, ?_⟩, trivial⟩
    refine W.alloc zr123 (fun b8 => ?_)
    refine W.nil ⟨Le.rfl, ((List.Sublist.refl _).cons_cons _).cons _, _, ((List.Sublist.refl _).cons_cons _).cons _, List.Sublist.refl _, ?_⟩
    refine WD.any [10] (by kernel_rfl) rfl ⟨⟨_, rfl, rfl, ?_⟩, trivial⟩
    refine W.store (i := 0) (vs := [.int .i64 _, .int .i64 _, .string _, .string _, .bool _, .string _]) (L' := [.int .i64 _, .int .i64 _, .string _, .string _, .bool _, .string _]) ty123 rfl rfl rfl rfl rfl rfl rfl rfl ?_
    refine W.nil ⟨Le.rfl, ((List.Sublist.refl _).cons_cons _).cons _, _, ((List.Sublist.refl _).cons_cons _).cons _, List.Sublist.refl _, ?_⟩
    refine WD.take 11 rfl rfl rfl (by kernel_rfl) (by kernel_rfl) (by kernel_rfl) (ok_as) ?_
    refine WD.done (by kernel_rfl) (thn_n ?_)
    refine WC.seq ?_
    refine WC.region ?_
    refine W.mv ?_
    refine W.nil (thn_n ?_)
    refine WC.cond (b := _) rfl (fun h21_1 => ?_) (fun h21_1 => ?_)
    ·refine WC.region ?_
     refine W.mv ?_
     refine W.ok (ok_loadB (i := 0) (vs := [.int .i64 _, .int .i64 _, .string _, .string _, .bool _, .string _]) ty123 rfl rfl rfl rfl (by simp)) ?_
     refine W.lit (e := eMsg) (l := [(Msg.clip l[i] ⟨alo, ahi, ao⟩).1]) (css := [[.int .i64 _, .int .i64 _, .string _, .string _, .bool _, .string _]]) sl33 ty123 zr123 rfl rfl rfl rfl rfl rfl ⟨⟨rfl, clip_ok (by assumption)⟩, trivial⟩ (fun bl9 G9 hG9 hv9 => ?_)
     refine W.app (e := eMsg) sl33 ty123 zr123 rfl by123 rfl rfl ((ho_5.mono hG9)) (hv9) (pmC (pmC (List.Perm.refl _))) (by show ((clips ⟨alo, ahi, ao⟩ (l.take i)).length + 1) * 72 ≤ _; omega) (fun v10 Ms11 ho12 => ?_)
     refine W.perm (pmC (pmC (List.Perm.refl _))).symm ?_
     refine W.as ?_
     refine W.nil (blk_n (thn_n ?_))
     refine WC.region ?_
     refine W.mv ?_
     refine W.ok (ok_add rfl rfl (by omega)) ?_
     refine W.as ?_
     refine W.sub ((List.Sublist.refl _).cons _) ?_
     refine W.nil (thn_n ?_)
     exact ⟨hG9, (i + 1, v10, Ms11), ⟨eqv, eqv, eqv, eqv, trivial⟩, ⟨rfl, (by have h := ho12; rw [clips_t (by omega) h21_1]; exact h), by omega⟩, by omega⟩
    ·refine WC.skip (blk_n (thn_n ?_))
     refine WC.region ?_
     refine W.mv ?_
     refine W.ok (ok_add rfl rfl (by omega)) ?_
     refine W.as ?_
     refine W.sub ((List.Sublist.refl _).cons _) ?_
     refine W.nil (thn_n ?_)
     exact ⟨Le.rfl, (i + 1, v_5, M_5), ⟨eqv, eqv, eqv, eqv, trivial⟩, ⟨rfl, (by have h := ho_5; rw [clips_f (by omega) h21_1]; exact h), by omega⟩, by omega⟩
   ·refine W.alloc zr123 (fun b13 => ?_)
    refine W.nil ⟨Le.rfl, ((List.Sublist.refl _).cons_cons _).cons _, _, ((List.Sublist.refl _).cons_cons _).cons _, List.Sublist.refl _, ?_⟩
    refine WD.any [5] (by kernel_rfl) rfl ⟨⟨_, rfl, rfl, ?_⟩, trivial⟩
    refine W.qcall (rclip_fc _ _ _ _ _ _ _ _ _ (hks _ (List.getElem_mem _))) rfl ?_
    refine W.nil ⟨Le.rfl, ((List.Sublist.refl _).cons_cons _).cons _, _, ((List.Sublist.refl _).cons_cons _).cons _, List.Sublist.refl _, ?_⟩
    refine WD.take 6 rfl rfl rfl (by kernel_rfl) (by kernel_rfl) (by kernel_rfl) (ok_mv) ?_
    refine WD.take 7 rfl rfl rfl (by kernel_rfl) (by kernel_rfl) (by kernel_rfl) (ok_extract rfl rfl) ?_
    refine WD.take 8 rfl rfl rfl (by kernel_rfl) (by kernel_rfl) (by kernel_rfl) (ok_extract rfl rfl) ?_
    refine WD.any [10] (by kernel_rfl) rfl ⟨⟨_, rfl, rfl, ?_⟩, trivial⟩
    refine W.store (i := 0) (vs := [.int .i64 _, .int .i64 _, .string _, .string _, .bool _, .string _]) (L' := [.int .i64 _, .int .i64 _, .string _, .string _, .bool _, .string _]) ty123 rfl rfl rfl rfl rfl rfl rfl rfl ?_
    refine W.nil ⟨Le.rfl, ((List.Sublist.refl _).cons_cons _).cons _, _, ((List.Sublist.refl _).cons_cons _).cons _, List.Sublist.refl _, ?_⟩
    refine WD.take 11 rfl rfl rfl (by kernel_rfl) (by kernel_rfl) (by kernel_rfl) (ok_as) ?_
    refine WD.done (by kernel_rfl) (thn_n ?_)
    refine WC.seq ?_
    refine WC.region ?_
    refine W.mv ?_
    refine W.nil (thn_n ?_)
    refine WC.cond (b := _) rfl (fun h21_1 => ?_) (fun h21_1 => ?_)
    ·refine WC.region ?_
     refine W.mv ?_
     refine W.ok (ok_loadB (i := 0) (vs := [.int .i64 _, .int .i64 _, .string _, .string _, .bool _, .string _]) ty123 rfl rfl rfl rfl (by simp)) ?_
     refine W.lit (e := eMsg) (l := [(Msg.clip l[i] ⟨alo, ahi, ao⟩).1]) (css := [[.int .i64 _, .int .i64 _, .string _, .string _, .bool _, .string _]]) sl33 ty123 zr123 rfl rfl rfl rfl rfl rfl ⟨⟨rfl, clip_ok (by assumption)⟩, trivial⟩ (fun bl14 G14 hG14 hv14 => ?_)
     refine W.app (e := eMsg) sl33 ty123 zr123 rfl by123 rfl rfl ((ho_5.mono hG14)) (hv14) (pmC (pmC (List.Perm.refl _))) (by show ((clips ⟨alo, ahi, ao⟩ (l.take i)).length + 1) * 72 ≤ _; omega) (fun v15 Ms16 ho17 => ?_)
     refine W.perm (pmC (pmC (List.Perm.refl _))).symm ?_
     refine W.as ?_
     refine W.nil (blk_n (thn_n ?_))
     refine WC.region ?_
     refine W.mv ?_
     refine W.ok (ok_add rfl rfl (by omega)) ?_
     refine W.as ?_
     refine W.sub ((List.Sublist.refl _).cons _) ?_
     refine W.nil (thn_n ?_)
     exact ⟨hG14, (i + 1, v15, Ms16), ⟨eqv, eqv, eqv, eqv, trivial⟩, ⟨rfl, (by have h := ho17; rw [clips_t (by omega) h21_1]; exact h), by omega⟩, by omega⟩
    ·refine WC.skip (blk_n (thn_n ?_))
     refine WC.region ?_
     refine W.mv ?_
     refine W.ok (ok_add rfl rfl (by omega)) ?_
     refine W.as ?_
     refine W.sub ((List.Sublist.refl _).cons _) ?_
     refine W.nil (thn_n ?_)
     exact ⟨Le.rfl, (i + 1, v_5, M_5), ⟨eqv, eqv, eqv, eqv, trivial⟩, ⟨rfl, (by have h := ho_5; rw [clips_f (by omega) h21_1]; exact h), by omega⟩, by omega⟩
  ·have p12 := of_decide_eq_false h12
   refine WC.exit (thn_x (thn_x (blk_h (thn_n ?_))))
   refine WC.seq ?_
   refine WC.region ?_
   refine W.mv ?_
   refine W.as ?_
   refine W.nil (thn_n ?_)
   refine WC.giveO ho_5 (pmC (List.Perm.refl _)) (fun G18 hG18 hv18 => ?_)
   refine WC.ret ?_
   refine ⟨.inr rfl, [_], ⟨rfl, trivial⟩, [], List.nil_sublist _, ?_⟩
   refine ⟨rfl, _, rfl, ?_⟩
   · have h := hv18; rw [List.take_of_length_le (by omega)] at h; exact h

theorem bclips_fc {G : GH} {v_l : Value} {l : List Msg} (h_l : SlR eMsg G v_l l) (alo : Str) (ahi : Str) (ao : Bool) (hks : ∀ m ∈ l, m.key.b.size < 140737488355328) :
    Fc Try.prog 110 [v_l, .agg #[.string alo.b, .string ahi.b, .bool ao]] G [] (fun v G' M' => M' = [] ∧ ∃ u0, v = u0 ∧ SlR eMsg G' u0 (clips ⟨alo, ahi, ao⟩ l)) := by
 obtain ⟨sa_l, sc_l, rfl⟩ := h_l.form
 have hl := h_l.len47
 have hlb : l.length * 72 ≤ 140737488355328 := h_l.bytes
 refine Fc.intro (rs := [.tmp 4]) cl110 Try.func110 rfl Try.ntmps110 rfl rfl (fun w0 => ?_)
 refine WC.seq ?_
 refine WC.region ?_
 refine W.box (L := [.string _, .string _, .bool _]) rfl rfl (fun b19 => ?_)
 refine W.as ?_
 refine W.nil (thn_n ?_)
 refine WC.seq ?_
 refine WC.region ?_
 refine W.as ?_
 refine W.nil (thn_n ?_)
 refine WC.seq ?_
 refine WC.seq ?_
 refine WC.region ?_
 refine W.mv ?_
 refine W.ok (ok_len sl33 h_l rfl) ?_
 refine W.mv ?_
 refine W.nil (thn_n ?_)
 refine WC.block ?_
 refine WC.loop (X := (Nat) × Value × MH) (fun i => [(10, .slice sa_l l.length sc_l), (11, .int .i64 ((l.length : Nat) : Int)), (12, .int .i64 ((i.1 : Nat) : Int)), (3, .pointer (some ⟨b19, 0, none⟩)), (5, i.2.1)]) (fun i G Ml => Ml = ((b19, .cells (List.toArray [.string alo.b, .string ahi.b, .bool ao]) 37 (0, 0)) :: (i.2.2 ++ [])) ∧ OwnR eMsg 123 G i.2.1 (clips ⟨alo, ahi, ao⟩ (l.take i.1)) i.2.2 ∧ i.1 ≤ l.length) (fun i => l.length - i.1) (0, .slice none 0 0, ([] : MH)) ⟨eqv, eqv, eqv, eqv, eqv, trivial⟩ ?_ ?_
 ·exact ⟨rfl, (by exact OwnR.nil), by omega⟩
 ·rintro ⟨i, v_5, M_5⟩ gG20 G20 _ hG20 ⟨rfl, ho_5, hi⟩
  try dsimp only at ho_5 hi
  have hcl := clips_le (s := ⟨alo, ahi, ao⟩) (l := l.take i)
  have htl : (l.take i).length ≤ i := by simp; omega
  refine WC.fr (f := setL gG20 [(10, .slice sa_l l.length sc_l), (11, .int .i64 ((l.length : Nat) : Int)), (12, .int .i64 ((i : Nat) : Int)), (3, .pointer (some ⟨b19, 0, none⟩)), (5, v_5)]) rfl ?_
  refine WC.seq ?_
  refine WC.region ?_
  refine W.ok (ok_lss rfl rfl) ?_
  refine W.nil (thn_n ?_)
  refine WC.seq ?_
  refine WC.cond (b := _) rfl (fun h13 => ?_) (fun h13 => ?_)
  ·have p13 := of_decide_eq_true h13
   refine WC.skip (thn_n ?_)
   refine WC.seq ?_
   refine WC.block ?_
   refine WC.seq ?_
   refine WC.region ?_
   have q25 := (h_l.mono hG20).at (i := i) (by omega)
   refine match q25 with | ⟨_, he21, ⟨e_24, hm22⟩⟩ => ?_
   subst e_24
   refine W.ok (ok_indexAddr (i := i) sl33 ty123 (h_l.mono hG20) rfl rfl ⟨by omega, by omega⟩) ?_
   refine W.ok (ok_loadE (vs := [.int .i64 _, .int .i64 _, .string _, .string _, .bool _, .string _]) ty123 he21 rfl rfl rfl (by simp)) ?_
   refine W.alloc zr123 (fun b26 => ?_)
   refine W.store (i := 0) (vs := [.int .i64 _, .int .i64 _, .string _, .string _, .bool _, .string _]) (L' := [.int .i64 _, .int .i64 _, .string _, .string _, .bool _, .string _]) ty123 rfl rfl rfl rfl rfl rfl rfl rfl ?_
   refine W.nil (thn_n ?_)
   refine WC.seq ?_
   refine WC.region ?_
   refine W.ok (ok_loadB (i := 0) (vs := [.int .i64 _, .int .i64 _, .string _, .string _, .bool _, .string _]) ty123 rfl rfl rfl rfl (by simp)) ?_
   refine W.ok (ok_loadB (i := 1) (vs := [.string _, .string _, .bool _]) ty37 rfl rfl rfl rfl (by simp)) ?_
   refine W.qcall (mclip_fc _ _ _ _ _ _ _ _ _ (hks _ (List.getElem_mem _))) rfl ?_
   refine W.mv ?_
   refine W.ok (ok_extract rfl rfl) ?_
   refine W.ok (ok_extract rfl rfl) ?_
   refine W.alloc zr123 (fun b27 => ?_)
   refine W.store (i := 0) (vs := [.int .i64 _, .int .i64 _, .string _, .string _, .bool _, .string _]) (L' := [.int .i64 _, .int .i64 _, .string _, .string _, .bool _, .string _]) ty123 rfl rfl rfl rfl rfl rfl rfl rfl ?_
   refine W.as ?_
   refine W.nil (thn_n ?_)
   refine WC.seq ?_
   refine WC.region ?_
   refine W.mv ?_
   refine W.nil (thn_n ?_)
   refine WC.cond (b := _) rfl (fun h19_1 => ?_) (fun h19_1 => ?_)
   ·refine WC.region ?_
    refine W.mv ?_
    refine W.ok (ok_loadB (i := 0) (vs := [.int .i64 _, .int .i64 _, .string _, .string _, .bool _, .string _]) ty123 rfl rfl rfl rfl (by simp)) ?_
    refine W.lit (e := eMsg) (l := [(Msg.clip l[i] ⟨alo, ahi, ao⟩).1]) (css := [[.int .i64 _, .int .i64 _, .string _, .string _, .bool _, .string _]]) sl33 ty123 zr123 rfl rfl rfl rfl rfl rfl ⟨⟨rfl, clip_ok (by assumption)⟩, trivial⟩ (fun bl28 G28 hG28 hv28 => ?_)
    refine W.app (e := eMsg) sl33 ty123 zr123 rfl by123 rfl rfl ((ho_5.mono hG28)) (hv28) (pmC (pmC (pmC (List.Perm.refl _)))) (by show ((clips ⟨alo, ahi, ao⟩ (l.take i)).length + 1) * 72 ≤ _; omega) (fun v29 Ms30 ho31 => ?_)
    refine W.perm (pmC (pmC (pmC (List.Perm.refl _)))).symm ?_
    refine W.as ?_
    refine W.nil (blk_n (thn_n ?_))
    refine WC.region ?_
    refine W.ok (ok_add rfl rfl (by omega)) ?_
    refine W.mv ?_
    refine W.sub (((List.Sublist.refl _).cons _).cons _) ?_
    refine W.nil (thn_n ?_)
    exact ⟨hG28, (i + 1, v29, Ms30), ⟨eqv, eqv, eqv, eqv, eqv, trivial⟩, ⟨rfl, (by have h := ho31; rw [clips_t (by omega) h19_1]; exact h), by omega⟩, by omega⟩
   ·refine WC.skip (blk_n (thn_n ?_))
    refine WC.region ?_
    refine W.ok (ok_add rfl rfl (by omega)) ?_
    refine W.mv ?_
    refine W.sub (((List.Sublist.refl _).cons _).cons _) ?_
    refine W.nil (thn_n ?_)
    exact ⟨Le.rfl, (i + 1, v_5, M_5), ⟨eqv, eqv, eqv, eqv, eqv, trivial⟩, ⟨rfl, (by have h := ho_5; rw [clips_f (by omega) h19_1]; exact h), by omega⟩, by omega⟩
  ·have p13 := of_decide_eq_false h13
   refine WC.exit (thn_x (thn_x (blk_h (thn_n ?_))))
   refine WC.seq ?_
   refine WC.region ?_
   refine W.mv ?_
   refine W.as ?_
   refine W.nil (thn_n ?_)
   refine WC.giveO ho_5 (pmC (List.Perm.refl _)) (fun G32 hG32 hv32 => ?_)
   refine WC.ret ?_
   refine ⟨.inr rfl, [_], ⟨rfl, trivial⟩, [], List.nil_sublist _, ?_⟩
   refine ⟨rfl, _, rfl, ?_⟩
   · have h := hv32; rw [List.take_of_length_le (by omega)] at h; exact h

end Go.Proofs.Ytebkfinhhpelbaa
