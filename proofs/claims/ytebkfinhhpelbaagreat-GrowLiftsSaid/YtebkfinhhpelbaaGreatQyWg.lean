/- Walks of lists of messages. -/
import Derived.Test.YtebkfinhhpelbaaGreatQyW3
namespace Go.Proofs.YtebkfinhhpelbaaGreat
open Go Go.Fw Go.RowKit
set_option maxRecDepth 100000
set_option maxHeartbeats 1600000
set_option linter.unusedVariables false
set_option linter.unusedSimpArgs false
set_option linter.unnecessarySimpa false
theorem rclips_fc {G : GH} {v_l : Value} {l : List Msg} (h_l : SlR eMsg G v_l l) (alo : Str) (ahi : Str) (ao : Bool) (hks : ∀ m ∈ l, m.key.b.size < 140737488355328) :
    Fc Tryz.prog 130 [v_l, .agg #[.string alo.b, .string ahi.b, .bool ao]] G [] (fun v G' M' => M' = [] ∧ ∃ u0, v = u0 ∧ SlR eMsg G' u0 (clips ⟨alo, ahi, ao⟩ l)) := by
 obtain ⟨sa_l, sc_l, rfl⟩ := h_l.form
 have hl := h_l.len47
 have hlb : l.length * 72 ≤ 140737488355328 := h_l.bytes
 refine Fc.intro (rs := [.tmp 4]) cl130 Tryz.func130 rfl Tryz.ntmps130 rfl rfl (fun w0 => ?_)
 refine WC.seq (WC.region (W.box (L := [.string _, .string _, .bool _]) rfl rfl (fun b1 => (W.as (W.nil (thn_n (WC.seq (WC.region (W.as ?_)))))))))
 refine W.nil (thn_n (WC.seq (WC.seq (WC.region (W.as (W.nil (thn_n (WC.block ?_))))))))
 refine WC.loop (X := (Nat) × Value × MH) (fun i => [(6, .int .i64 ((i.1 : Nat) : Int)), (3, .pointer (some ⟨b1, 0, none⟩)), (0, .slice sa_l l.length sc_l), (5, i.2.1)]) (fun i G Ml => Ml = ((b1, .cells (List.toArray [.string alo.b, .string ahi.b, .bool ao]) 52 (0, 0)) :: (i.2.2 ++ [])) ∧ OwnR eMsg 49 G i.2.1 (clips ⟨alo, ahi, ao⟩ (l.take i.1)) i.2.2 ∧ i.1 ≤ l.length) (fun i => l.length - i.1) (0, .slice none 0 0, ([] : MH)) ⟨eqv, eqv, eqv, eqv, trivial⟩ ?_ ?_
 ·exact ⟨rfl, (by exact OwnR.nil), by omega⟩
 ·rintro ⟨i, v_5, M_5⟩ gG2 G2 _ hG2 ⟨rfl, ho_5, hi⟩
  try dsimp only at ho_5 hi
  have hcl := clips_le (s := ⟨alo, ahi, ao⟩) (l := l.take i)
  have htl : (l.take i).length ≤ i := by simp; omega
  refine WC.fr (f := setL gG2 [(6, .int .i64 ((i : Nat) : Int)), (3, .pointer (some ⟨b1, 0, none⟩)), (0, .slice sa_l l.length sc_l), (5, v_5)]) rfl (WC.seq (WC.seq (WC.region (W.mv (W.mv (W.ok (ok_len sl45 (h_l.mono hG2) rfl) (W.ok (ok_lss rfl rfl) ?_)))))))
  refine W.nil (thn_n ?_)
  refine WC.cond (b := _) rfl (fun h12 => ?_) (fun h12 => ?_)
  ·have p12 := of_decide_eq_true h12
   refine WC.skip (thn_n (WC.seq (WC.block (WC.seq (WC.drawW _ ((List.Sublist.refl _).cons_cons _) mix (by rintro _ _ _ _ ⟨h | h, _⟩ <;> cases h) (WD.take 0 rfl rfl rfl (by kernel_rfl) (by kernel_rfl) (by kernel_rfl) (ok_mv) (WD.take 1 rfl rfl rfl (by kernel_rfl) (by kernel_rfl) (by kernel_rfl) (ok_mv) ?_)))))))
   have q7 := (h_l.mono hG2).at (i := i) (by omega)
   refine match q7 with | ⟨_, he3, ⟨e_6, hm4⟩⟩ => ?_
   subst e_6
   refine WD.take 2 rfl rfl rfl (by kernel_rfl) (by kernel_rfl) (by kernel_rfl) (ok_indexAddr (i := i) sl45 ty49 (h_l.mono hG2) rfl rfl ⟨by omega, by omega⟩) (WD.take 3 rfl rfl rfl (by kernel_rfl) (by kernel_rfl) (by kernel_rfl) (ok_loadE (vs := [.int .i64 _, .int .i64 _, .string _, .string _, .bool _, .string _]) ty49 he3 rfl rfl rfl (by simp)) (WD.take 4 rfl rfl rfl (by kernel_rfl) (by kernel_rfl) (by kernel_rfl) (ok_loadB (i := 0) (vs := [.string _, .string _, .bool _]) ty52 rfl rfl rfl rfl (by simp)) ?_))
   refine WD.any [5, 9] (by kernel_rfl) rfl ⟨⟨_, rfl, rfl, ?_⟩, ⟨_, rfl, rfl, ?_⟩, trivial⟩
   ·refine W.qcall (rclip_fc _ _ _ _ _ _ _ _ _ (hks _ (List.getElem_mem _))) rfl (W.nil ⟨Le.rfl, (List.Sublist.refl _).cons_cons _, _, (List.Sublist.refl _).cons_cons _, List.Sublist.refl _, (WD.take 6 rfl rfl rfl (by kernel_rfl) (by kernel_rfl) (by kernel_rfl) (ok_mv) (WD.take 7 rfl rfl rfl (by kernel_rfl) (by kernel_rfl) (by kernel_rfl) (ok_extract rfl rfl) (WD.take 8 rfl rfl rfl (by kernel_rfl) (by kernel_rfl) (by kernel_rfl) (ok_extract rfl rfl) (WD.any [9] (by kernel_rfl) rfl ⟨⟨_, rfl, rfl, (W.alloc zr49 (fun b8 => (W.nil ⟨Le.rfl, ((List.Sublist.refl _).cons_cons _).cons _, _, ((List.Sublist.refl _).cons_cons _).cons _, List.Sublist.refl _, ?_⟩)))⟩, trivial⟩))))⟩)
    refine WD.any [10] (by kernel_rfl) rfl ⟨⟨_, rfl, rfl, (W.store (i := 0) (vs := [.int .i64 _, .int .i64 _, .string _, .string _, .bool _, .string _]) (L' := [.int .i64 _, .int .i64 _, .string _, .string _, .bool _, .string _]) ty49 rfl rfl rfl rfl rfl rfl rfl rfl (W.nil ⟨Le.rfl, ((List.Sublist.refl _).cons_cons _).cons _, _, ((List.Sublist.refl _).cons_cons _).cons _, List.Sublist.refl _, (WD.take 11 rfl rfl rfl (by kernel_rfl) (by kernel_rfl) (by kernel_rfl) (ok_as) (WD.done (by kernel_rfl) (thn_n (WC.seq (WC.region (W.mv ?_))))))⟩))⟩, trivial⟩
    refine W.nil (thn_n ?_)
    refine WC.cond (b := _) rfl (fun h21_1 => ?_) (fun h21_1 => ?_)
    ·refine WC.region (W.mv (W.ok (ok_loadB (i := 0) (vs := [.int .i64 _, .int .i64 _, .string _, .string _, .bool _, .string _]) ty49 rfl rfl rfl rfl (by simp)) (W.lit (e := eMsg) (l := [(Msg.clip l[i] ⟨alo, ahi, ao⟩).1]) (css := [[.int .i64 _, .int .i64 _, .string _, .string _, .bool _, .string _]]) sl45 ty49 zr49 rfl rfl rfl rfl rfl rfl ⟨⟨rfl, clip_ok (by assumption)⟩, trivial⟩ (fun bl9 G9 hG9 hv9 => (W.app (e := eMsg) sl45 ty49 zr49 rfl by49 rfl rfl ((ho_5.mono hG9)) (hv9) (pmC (pmC (List.Perm.refl _))) (by show ((clips ⟨alo, ahi, ao⟩ (l.take i)).length + 1) * 72 ≤ _; omega) (fun v10 Ms11 ho12 => (W.perm (pmC (pmC (List.Perm.refl _))).symm (W.as (W.nil (blk_n (thn_n ?_)))))))))))
     refine WC.region (W.mv (W.ok (ok_add rfl rfl (by omega)) (W.as (W.sub ((List.Sublist.refl _).cons _) (W.nil (thn_n ?_))))))
     exact ⟨hG9, (i + 1, v10, Ms11), ⟨eqv, eqv, eqv, eqv, trivial⟩, ⟨rfl, (by have h := ho12; rw [clips_t (by omega) h21_1]; exact h), by omega⟩, by omega⟩
    ·refine WC.skip (blk_n (thn_n (WC.region (W.mv (W.ok (ok_add rfl rfl (by omega)) (W.as (W.sub ((List.Sublist.refl _).cons _) (W.nil (thn_n ?_)))))))))
     exact ⟨Le.rfl, (i + 1, v_5, M_5), ⟨eqv, eqv, eqv, eqv, trivial⟩, ⟨rfl, (by have h := ho_5; rw [clips_f (by omega) h21_1]; exact h), by omega⟩, by omega⟩
   ·refine W.alloc zr49 (fun b13 => (W.nil ⟨Le.rfl, ((List.Sublist.refl _).cons_cons _).cons _, _, ((List.Sublist.refl _).cons_cons _).cons _, List.Sublist.refl _, (WD.any [5] (by kernel_rfl) rfl ⟨⟨_, rfl, rfl, (W.qcall (rclip_fc _ _ _ _ _ _ _ _ _ (hks _ (List.getElem_mem _))) rfl (W.nil ⟨Le.rfl, ((List.Sublist.refl _).cons_cons _).cons _, _, ((List.Sublist.refl _).cons_cons _).cons _, List.Sublist.refl _, (WD.take 6 rfl rfl rfl (by kernel_rfl) (by kernel_rfl) (by kernel_rfl) (ok_mv) (WD.take 7 rfl rfl rfl (by kernel_rfl) (by kernel_rfl) (by kernel_rfl) (ok_extract rfl rfl) (WD.take 8 rfl rfl rfl (by kernel_rfl) (by kernel_rfl) (by kernel_rfl) (ok_extract rfl rfl) ?_)))⟩))⟩, trivial⟩)⟩))
    refine WD.any [10] (by kernel_rfl) rfl ⟨⟨_, rfl, rfl, (W.store (i := 0) (vs := [.int .i64 _, .int .i64 _, .string _, .string _, .bool _, .string _]) (L' := [.int .i64 _, .int .i64 _, .string _, .string _, .bool _, .string _]) ty49 rfl rfl rfl rfl rfl rfl rfl rfl (W.nil ⟨Le.rfl, ((List.Sublist.refl _).cons_cons _).cons _, _, ((List.Sublist.refl _).cons_cons _).cons _, List.Sublist.refl _, (WD.take 11 rfl rfl rfl (by kernel_rfl) (by kernel_rfl) (by kernel_rfl) (ok_as) (WD.done (by kernel_rfl) (thn_n (WC.seq (WC.region (W.mv ?_))))))⟩))⟩, trivial⟩
    refine W.nil (thn_n ?_)
    refine WC.cond (b := _) rfl (fun h21_1 => ?_) (fun h21_1 => ?_)
    ·refine WC.region (W.mv (W.ok (ok_loadB (i := 0) (vs := [.int .i64 _, .int .i64 _, .string _, .string _, .bool _, .string _]) ty49 rfl rfl rfl rfl (by simp)) (W.lit (e := eMsg) (l := [(Msg.clip l[i] ⟨alo, ahi, ao⟩).1]) (css := [[.int .i64 _, .int .i64 _, .string _, .string _, .bool _, .string _]]) sl45 ty49 zr49 rfl rfl rfl rfl rfl rfl ⟨⟨rfl, clip_ok (by assumption)⟩, trivial⟩ (fun bl14 G14 hG14 hv14 => (W.app (e := eMsg) sl45 ty49 zr49 rfl by49 rfl rfl ((ho_5.mono hG14)) (hv14) (pmC (pmC (List.Perm.refl _))) (by show ((clips ⟨alo, ahi, ao⟩ (l.take i)).length + 1) * 72 ≤ _; omega) (fun v15 Ms16 ho17 => (W.perm (pmC (pmC (List.Perm.refl _))).symm (W.as (W.nil (blk_n (thn_n ?_)))))))))))
     refine WC.region (W.mv (W.ok (ok_add rfl rfl (by omega)) (W.as (W.sub ((List.Sublist.refl _).cons _) (W.nil (thn_n ?_))))))
     exact ⟨hG14, (i + 1, v15, Ms16), ⟨eqv, eqv, eqv, eqv, trivial⟩, ⟨rfl, (by have h := ho17; rw [clips_t (by omega) h21_1]; exact h), by omega⟩, by omega⟩
    ·refine WC.skip (blk_n (thn_n (WC.region (W.mv (W.ok (ok_add rfl rfl (by omega)) (W.as (W.sub ((List.Sublist.refl _).cons _) (W.nil (thn_n ?_)))))))))
     exact ⟨Le.rfl, (i + 1, v_5, M_5), ⟨eqv, eqv, eqv, eqv, trivial⟩, ⟨rfl, (by have h := ho_5; rw [clips_f (by omega) h21_1]; exact h), by omega⟩, by omega⟩
  ·have p12 := of_decide_eq_false h12
   refine WC.exit (thn_x (thn_x (blk_h (thn_n (WC.seq (WC.region (W.mv (W.as (W.nil (thn_n (WC.giveO ho_5 (pmC (List.Perm.refl _)) (fun G18 hG18 hv18 => (WC.ret ?_)))))))))))))
   refine ⟨.inr rfl, [_], ⟨rfl, trivial⟩, [], List.nil_sublist _, ?_⟩
   refine ⟨rfl, _, rfl, ?_⟩
   · have h := hv18; rw [List.take_of_length_le (by omega)] at h; exact h

theorem bclips_fc {G : GH} {v_l : Value} {l : List Msg} (h_l : SlR eMsg G v_l l) (alo : Str) (ahi : Str) (ao : Bool) (hks : ∀ m ∈ l, m.key.b.size < 140737488355328) :
    Fc Tryz.prog 74 [v_l, .agg #[.string alo.b, .string ahi.b, .bool ao]] G [] (fun v G' M' => M' = [] ∧ ∃ u0, v = u0 ∧ SlR eMsg G' u0 (clips ⟨alo, ahi, ao⟩ l)) := by
 obtain ⟨sa_l, sc_l, rfl⟩ := h_l.form
 have hl := h_l.len47
 have hlb : l.length * 72 ≤ 140737488355328 := h_l.bytes
 refine Fc.intro (rs := [.tmp 4]) cl74 Tryz.func74 rfl Tryz.ntmps74 rfl rfl (fun w0 => ?_)
 refine WC.seq (WC.region (W.box (L := [.string _, .string _, .bool _]) rfl rfl (fun b19 => (W.as (W.nil (thn_n (WC.seq (WC.region (W.as ?_)))))))))
 refine W.nil (thn_n (WC.seq (WC.seq (WC.region (W.mv (W.ok (ok_len sl45 h_l rfl) (W.mv (W.nil (thn_n ?_)))))))))
 refine WC.block ?_
 refine WC.loop (X := (Nat) × Value × MH) (fun i => [(10, .slice sa_l l.length sc_l), (11, .int .i64 ((l.length : Nat) : Int)), (12, .int .i64 ((i.1 : Nat) : Int)), (3, .pointer (some ⟨b19, 0, none⟩)), (5, i.2.1)]) (fun i G Ml => Ml = ((b19, .cells (List.toArray [.string alo.b, .string ahi.b, .bool ao]) 52 (0, 0)) :: (i.2.2 ++ [])) ∧ OwnR eMsg 49 G i.2.1 (clips ⟨alo, ahi, ao⟩ (l.take i.1)) i.2.2 ∧ i.1 ≤ l.length) (fun i => l.length - i.1) (0, .slice none 0 0, ([] : MH)) ⟨eqv, eqv, eqv, eqv, eqv, trivial⟩ ?_ ?_
 ·exact ⟨rfl, (by exact OwnR.nil), by omega⟩
 ·rintro ⟨i, v_5, M_5⟩ gG20 G20 _ hG20 ⟨rfl, ho_5, hi⟩
  try dsimp only at ho_5 hi
  have hcl := clips_le (s := ⟨alo, ahi, ao⟩) (l := l.take i)
  have htl : (l.take i).length ≤ i := by simp; omega
  refine WC.fr (f := setL gG20 [(10, .slice sa_l l.length sc_l), (11, .int .i64 ((l.length : Nat) : Int)), (12, .int .i64 ((i : Nat) : Int)), (3, .pointer (some ⟨b19, 0, none⟩)), (5, v_5)]) rfl (WC.seq (WC.region (W.ok (ok_lss rfl rfl) (W.nil (thn_n (WC.seq ?_))))))
  refine WC.cond (b := _) rfl (fun h13 => ?_) (fun h13 => ?_)
  ·have p13 := of_decide_eq_true h13
   refine WC.skip (thn_n (WC.seq (WC.block (WC.seq (WC.region ?_)))))
   have q25 := (h_l.mono hG20).at (i := i) (by omega)
   refine match q25 with | ⟨_, he21, ⟨e_24, hm22⟩⟩ => ?_
   subst e_24
   refine W.ok (ok_indexAddr (i := i) sl45 ty49 (h_l.mono hG20) rfl rfl ⟨by omega, by omega⟩) (W.ok (ok_loadE (vs := [.int .i64 _, .int .i64 _, .string _, .string _, .bool _, .string _]) ty49 he21 rfl rfl rfl (by simp)) (W.alloc zr49 (fun b26 => (W.store (i := 0) (vs := [.int .i64 _, .int .i64 _, .string _, .string _, .bool _, .string _]) (L' := [.int .i64 _, .int .i64 _, .string _, .string _, .bool _, .string _]) ty49 rfl rfl rfl rfl rfl rfl rfl rfl (W.nil (thn_n (WC.seq (WC.region (W.ok (ok_loadB (i := 0) (vs := [.int .i64 _, .int .i64 _, .string _, .string _, .bool _, .string _]) ty49 rfl rfl rfl rfl (by simp)) ?_)))))))))
   refine W.ok (ok_loadB (i := 1) (vs := [.string _, .string _, .bool _]) ty52 rfl rfl rfl rfl (by simp)) (W.qcall (mclip_fc _ _ _ _ _ _ _ _ _ (hks _ (List.getElem_mem _))) rfl (W.mv (W.ok (ok_extract rfl rfl) (W.ok (ok_extract rfl rfl) (W.alloc zr49 (fun b27 => (W.store (i := 0) (vs := [.int .i64 _, .int .i64 _, .string _, .string _, .bool _, .string _]) (L' := [.int .i64 _, .int .i64 _, .string _, .string _, .bool _, .string _]) ty49 rfl rfl rfl rfl rfl rfl rfl rfl (W.as ?_))))))))
   refine W.nil (thn_n (WC.seq (WC.region (W.mv (W.nil (thn_n ?_))))))
   refine WC.cond (b := _) rfl (fun h19_1 => ?_) (fun h19_1 => ?_)
   ·refine WC.region (W.mv (W.ok (ok_loadB (i := 0) (vs := [.int .i64 _, .int .i64 _, .string _, .string _, .bool _, .string _]) ty49 rfl rfl rfl rfl (by simp)) (W.lit (e := eMsg) (l := [(Msg.clip l[i] ⟨alo, ahi, ao⟩).1]) (css := [[.int .i64 _, .int .i64 _, .string _, .string _, .bool _, .string _]]) sl45 ty49 zr49 rfl rfl rfl rfl rfl rfl ⟨⟨rfl, clip_ok (by assumption)⟩, trivial⟩ (fun bl28 G28 hG28 hv28 => (W.app (e := eMsg) sl45 ty49 zr49 rfl by49 rfl rfl ((ho_5.mono hG28)) (hv28) (pmC (pmC (pmC (List.Perm.refl _)))) (by show ((clips ⟨alo, ahi, ao⟩ (l.take i)).length + 1) * 72 ≤ _; omega) (fun v29 Ms30 ho31 => (W.perm (pmC (pmC (pmC (List.Perm.refl _)))).symm (W.as (W.nil (blk_n (thn_n ?_)))))))))))
    refine WC.region (W.ok (ok_add rfl rfl (by omega)) (W.mv (W.sub (((List.Sublist.refl _).cons _).cons _) (W.nil (thn_n ?_)))))
    exact ⟨hG28, (i + 1, v29, Ms30), ⟨eqv, eqv, eqv, eqv, eqv, trivial⟩, ⟨rfl, (by have h := ho31; rw [clips_t (by omega) h19_1]; exact h), by omega⟩, by omega⟩
   ·refine WC.skip (blk_n (thn_n (WC.region (W.ok (ok_add rfl rfl (by omega)) (W.mv (W.sub (((List.Sublist.refl _).cons _).cons _) (W.nil (thn_n ?_))))))))
    exact ⟨Le.rfl, (i + 1, v_5, M_5), ⟨eqv, eqv, eqv, eqv, eqv, trivial⟩, ⟨rfl, (by have h := ho_5; rw [clips_f (by omega) h19_1]; exact h), by omega⟩, by omega⟩
  ·have p13 := of_decide_eq_false h13
   refine WC.exit (thn_x (thn_x (blk_h (thn_n (WC.seq (WC.region (W.mv (W.as (W.nil (thn_n (WC.giveO ho_5 (pmC (List.Perm.refl _)) (fun G32 hG32 hv32 => (WC.ret ?_)))))))))))))
   refine ⟨.inr rfl, [_], ⟨rfl, trivial⟩, [], List.nil_sublist _, ?_⟩
   refine ⟨rfl, _, rfl, ?_⟩
   · have h := hv32; rw [List.take_of_length_le (by omega)] at h; exact h

end Go.Proofs.YtebkfinhhpelbaaGreat
