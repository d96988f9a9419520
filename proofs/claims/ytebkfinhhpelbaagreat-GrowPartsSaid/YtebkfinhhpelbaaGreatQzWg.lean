/- Walks of lists of messages. -/
import Derived.Test.YtebkfinhhpelbaaGreatQzW3
set_option maxRecDepth 100000
set_option maxHeartbeats 1600000
set_option linter.unusedVariables false
set_option linter.unusedSimpArgs false
set_option linter.unnecessarySimpa false
namespace Go.Proofs.YtebkfinhhpelbaaGreat
open Go Go.Fw Go.RowKit
theorem rclips_fc {G : GH} {v_l : Value} {l : List Msg} (h_l : SlR eMsg G v_l l) (alo : Str) (ahi : Str) (ao : Bool) (hks : ∀ m ∈ l, m.key.b.size < 140737488355328) :
    Fc Tryz.prog 130 [v_l, .agg #[.string alo.b, .string ahi.b, .bool ao]] G [] (fun v G' M' => M' = [] ∧ ∃ u0, v = u0 ∧ SlR eMsg G' u0 (clips ⟨alo, ahi, ao⟩ l)) := by
 obtain ⟨sa_l, sc_l, rfl⟩ := h_l.form
 have hl := h_l.len47
 have hlb : l.length * 72 ≤ 140737488355328 := h_l.bytes
 refine Fc.intro (rs := [.tmp 4]) cl130 Tryz.func130 rfl Tryz.ntmps130 rfl rfl (fun w0 => ?_)
 refine WC.seq (WC.region (W.box (L := [.string _, .string _, .bool _]) rfl rfl (fun b1 => (W.as (W.nil (thn_n (WC.seq (WC.region (W.as (W.nil (thn_n (WC.seq (WC.seq (WC.region (W.as (W.nil (thn_n ?_)))))))))))))))))
 refine WC.block ?_
 refine WC.loop (X := (Nat) × Value × MH) (fun i => [(6, .int .i64 ((i.1 : Nat) : Int)), (3, .pointer (some ⟨b1, 0, none⟩)), (0, .slice sa_l l.length sc_l), (5, i.2.1)]) (fun i G Ml => Ml = ((b1, .cells (List.toArray [.string alo.b, .string ahi.b, .bool ao]) 52 (0, 0)) :: (i.2.2 ++ [])) ∧ OwnR eMsg 49 G i.2.1 (clips ⟨alo, ahi, ao⟩ (l.take i.1)) i.2.2 ∧ i.1 ≤ l.length) (fun i => l.length - i.1) (0, .slice none 0 0, ([] : MH)) ⟨eqv, eqv, eqv, eqv, trivial⟩ ?_ ?_
 ·exact ⟨rfl, (by exact OwnR.nil), by omega⟩
 rintro ⟨i, v_5, M_5⟩ gG2 G2 _ hG2 ⟨rfl, ho_5, hi⟩
 try dsimp only at ho_5 hi
 have hcl := clips_le (s := ⟨alo, ahi, ao⟩) (l := l.take i)
 have htl : (l.take i).length ≤ i := by simp; omega
 refine WC.fr (f := setL gG2 [(6, .int .i64 ((i : Nat) : Int)), (3, .pointer (some ⟨b1, 0, none⟩)), (0, .slice sa_l l.length sc_l), (5, v_5)]) rfl (WC.seq (WC.seq (WC.region (W.mv (W.mv (W.ok (ok_len sl45 (h_l.mono hG2) rfl) (W.ok (ok_lss rfl rfl) (W.nil (thn_n ?_)))))))))
 refine WC.cond (b := _) rfl (fun h12 => ?_) (fun h12 => ?_)
 ·have p12 := of_decide_eq_true h12
  refine WC.skip (thn_n (WC.seq (WC.block (WC.seq (WC.drawW _ sr9.k9 mix (by rintro _ _ _ _ ⟨h | h, _⟩ <;> cases h) (WD.tk 0 rfl (ok_mv) (WD.tk 1 rfl (ok_mv) ?_)))))))
  have q7 := (h_l.mono hG2).at (i := i) (by omega)
  refine match q7 with | ⟨_, he3, ⟨e_6, hm4⟩⟩ => ?_
  subst e_6
  refine WD.tk 2 rfl (ok_indexAddr (i := i) sl45 ty49 (h_l.mono hG2) rfl rfl ⟨by omega, by omega⟩) (WD.tk 3 rfl (ok_loadE (vs := [.int .i64 _, .int .i64 _, .string _, .string _, .bool _, .string _]) ty49 he3 rfl rfl rfl (by simp)) (WD.tk 4 rfl (ok_loadB (i := 0) (vs := [.string _, .string _, .bool _]) ty52 rfl rfl rfl rfl (by simp)) ?_))
  refine WD.any [5, 9] (by kernel_rfl) rfl ⟨⟨_, rfl, rfl, ?_⟩, ⟨_, rfl, rfl, ?_⟩, trivial⟩
  ·refine W.qcall (rclip_fc _ _ _ _ _ _ _ _ _ (hks _ (List.getElem_mem _))) rfl (W.nil (WD.n9 Le.rfl sr9.k9 (WD.tk 6 rfl (ok_mv) (WD.tk 7 rfl (ok_extract rfl rfl) (WD.tk 8 rfl (ok_extract rfl rfl) (WD.a1 9 rfl (W.alloc zr49 (fun b8 => (W.nil (WD.n9 Le.rfl (sr9.k9.cons _) (WD.a1 10 rfl (W.store (i := 0) (vs := [.int .i64 _, .int .i64 _, .string _, .string _, .bool _, .string _]) (L' := [.int .i64 _, .int .i64 _, .string _, .string _, .bool _, .string _]) ty49 rfl rfl rfl rfl rfl rfl rfl rfl (W.nil (WD.n9 Le.rfl (sr9.k9.cons _) (WD.tk 11 rfl (ok_as) (WD.done (by kernel_rfl) (thn_n (WC.seq ?_))))))))))))))))))
   refine WC.region (W.mv (W.nil (thn_n ?_)))
   refine WC.cond (b := _) rfl (fun h21_1 => ?_) (fun h21_1 => ?_)
   ·refine WC.region (W.mv (W.ok (ok_loadB (i := 0) (vs := [.int .i64 _, .int .i64 _, .string _, .string _, .bool _, .string _]) ty49 rfl rfl rfl rfl (by simp)) (W.lit (e := eMsg) (l := [(Msg.clip l[i] ⟨alo, ahi, ao⟩).1]) (css := [[.int .i64 _, .int .i64 _, .string _, .string _, .bool _, .string _]]) sl45 ty49 zr49 rfl rfl rfl rfl rfl rfl ⟨⟨rfl, clip_ok (by assumption)⟩, trivial⟩ (fun bl9 G9 hG9 hv9 => (W.app (e := eMsg) sl45 ty49 zr49 rfl by49 rfl rfl ((ho_5.mono hG9)) (hv9) (pmC (pmC pr9)) (by show ((clips ⟨alo, ahi, ao⟩ (l.take i)).length + 1) * 72 ≤ _; omega) (fun v10 Ms11 ho12 => (W.perm (pmC (pmC pr9)).symm (W.as (W.nil (blk_n (thn_n (WC.region (W.mv (W.ok (ok_add rfl rfl (by omega)) (W.as (W.sub (sr9.cons _) (W.nil (thn_n ?_))))))))))))))))))
    exact ⟨hG9, (i + 1, v10, Ms11), ⟨eqv, eqv, eqv, eqv, trivial⟩, ⟨rfl, (by have h := ho12; rw [clips_t (by omega) h21_1]; exact h), by omega⟩, by omega⟩
   refine WC.skip (blk_n (thn_n (WC.region (W.mv (W.ok (ok_add rfl rfl (by omega)) (W.as (W.sub (sr9.cons _) (W.nil (thn_n ?_)))))))))
   exact ⟨Le.rfl, (i + 1, v_5, M_5), ⟨eqv, eqv, eqv, eqv, trivial⟩, ⟨rfl, (by have h := ho_5; rw [clips_f (by omega) h21_1]; exact h), by omega⟩, by omega⟩
  refine W.alloc zr49 (fun b13 => (W.nil (WD.n9 Le.rfl (sr9.k9.cons _) (WD.a1 5 rfl (W.qcall (rclip_fc _ _ _ _ _ _ _ _ _ (hks _ (List.getElem_mem _))) rfl (W.nil (WD.n9 Le.rfl (sr9.k9.cons _) (WD.tk 6 rfl (ok_mv) (WD.tk 7 rfl (ok_extract rfl rfl) (WD.tk 8 rfl (ok_extract rfl rfl) (WD.a1 10 rfl (W.store (i := 0) (vs := [.int .i64 _, .int .i64 _, .string _, .string _, .bool _, .string _]) (L' := [.int .i64 _, .int .i64 _, .string _, .string _, .bool _, .string _]) ty49 rfl rfl rfl rfl rfl rfl rfl rfl (W.nil (WD.n9 Le.rfl (sr9.k9.cons _) (WD.tk 11 rfl (ok_as) (WD.done (by kernel_rfl) (thn_n (WC.seq ?_))))))))))))))))))
  refine WC.region (W.mv (W.nil (thn_n ?_)))
  refine WC.cond (b := _) rfl (fun h21_1 => ?_) (fun h21_1 => ?_)
  ·refine WC.region (W.mv (W.ok (ok_loadB (i := 0) (vs := [.int .i64 _, .int .i64 _, .string _, .string _, .bool _, .string _]) ty49 rfl rfl rfl rfl (by simp)) (W.lit (e := eMsg) (l := [(Msg.clip l[i] ⟨alo, ahi, ao⟩).1]) (css := [[.int .i64 _, .int .i64 _, .string _, .string _, .bool _, .string _]]) sl45 ty49 zr49 rfl rfl rfl rfl rfl rfl ⟨⟨rfl, clip_ok (by assumption)⟩, trivial⟩ (fun bl14 G14 hG14 hv14 => (W.app (e := eMsg) sl45 ty49 zr49 rfl by49 rfl rfl ((ho_5.mono hG14)) (hv14) (pmC (pmC pr9)) (by show ((clips ⟨alo, ahi, ao⟩ (l.take i)).length + 1) * 72 ≤ _; omega) (fun v15 Ms16 ho17 => (W.perm (pmC (pmC pr9)).symm (W.as (W.nil (blk_n (thn_n (WC.region (W.mv (W.ok (ok_add rfl rfl (by omega)) (W.as (W.sub (sr9.cons _) (W.nil (thn_n ?_))))))))))))))))))
   exact ⟨hG14, (i + 1, v15, Ms16), ⟨eqv, eqv, eqv, eqv, trivial⟩, ⟨rfl, (by have h := ho17; rw [clips_t (by omega) h21_1]; exact h), by omega⟩, by omega⟩
  refine WC.skip (blk_n (thn_n (WC.region (W.mv (W.ok (ok_add rfl rfl (by omega)) (W.as (W.sub (sr9.cons _) (W.nil (thn_n ?_)))))))))
  exact ⟨Le.rfl, (i + 1, v_5, M_5), ⟨eqv, eqv, eqv, eqv, trivial⟩, ⟨rfl, (by have h := ho_5; rw [clips_f (by omega) h21_1]; exact h), by omega⟩, by omega⟩
 have p12 := of_decide_eq_false h12
 refine WC.exit (thn_x (thn_x (blk_h (thn_n (WC.seq (WC.region (W.mv (W.as (W.nil (thn_n (WC.giveO ho_5 (pmC pr9) (fun G18 hG18 hv18 => (WC.ret ?_)))))))))))))
 refine ⟨.inr rfl, [_], ⟨rfl, trivial⟩, [], sn9, ?_⟩
 refine ⟨rfl, _, rfl, ?_⟩
 · have h := hv18; rw [List.take_of_length_le (by omega)] at h; exact h

theorem bclips_fc {G : GH} {v_l : Value} {l : List Msg} (h_l : SlR eMsg G v_l l) (alo : Str) (ahi : Str) (ao : Bool) (hks : ∀ m ∈ l, m.key.b.size < 140737488355328) :
    Fc Tryz.prog 74 [v_l, .agg #[.string alo.b, .string ahi.b, .bool ao]] G [] (fun v G' M' => M' = [] ∧ ∃ u0, v = u0 ∧ SlR eMsg G' u0 (clips ⟨alo, ahi, ao⟩ l)) := by
 obtain ⟨sa_l, sc_l, rfl⟩ := h_l.form
 have hl := h_l.len47
 have hlb : l.length * 72 ≤ 140737488355328 := h_l.bytes
 refine Fc.intro (rs := [.tmp 4]) cl74 Tryz.func74 rfl Tryz.ntmps74 rfl rfl (fun w0 => ?_)
 refine WC.seq (WC.region (W.box (L := [.string _, .string _, .bool _]) rfl rfl (fun b19 => (W.as (W.nil (thn_n (WC.seq (WC.region (W.as (W.nil (thn_n (WC.seq (WC.seq (WC.region (W.mv (W.ok (ok_len sl45 h_l rfl) ?_))))))))))))))))
 refine W.mv (W.nil (thn_n (WC.block ?_)))
 refine WC.loop (X := (Nat) × Value × MH) (fun i => [(10, .slice sa_l l.length sc_l), (11, .int .i64 ((l.length : Nat) : Int)), (12, .int .i64 ((i.1 : Nat) : Int)), (3, .pointer (some ⟨b19, 0, none⟩)), (5, i.2.1)]) (fun i G Ml => Ml = ((b19, .cells (List.toArray [.string alo.b, .string ahi.b, .bool ao]) 52 (0, 0)) :: (i.2.2 ++ [])) ∧ OwnR eMsg 49 G i.2.1 (clips ⟨alo, ahi, ao⟩ (l.take i.1)) i.2.2 ∧ i.1 ≤ l.length) (fun i => l.length - i.1) (0, .slice none 0 0, ([] : MH)) ⟨eqv, eqv, eqv, eqv, eqv, trivial⟩ ?_ ?_
 ·exact ⟨rfl, (by exact OwnR.nil), by omega⟩
 rintro ⟨i, v_5, M_5⟩ gG20 G20 _ hG20 ⟨rfl, ho_5, hi⟩
 try dsimp only at ho_5 hi
 have hcl := clips_le (s := ⟨alo, ahi, ao⟩) (l := l.take i)
 have htl : (l.take i).length ≤ i := by simp; omega
 refine WC.fr (f := setL gG20 [(10, .slice sa_l l.length sc_l), (11, .int .i64 ((l.length : Nat) : Int)), (12, .int .i64 ((i : Nat) : Int)), (3, .pointer (some ⟨b19, 0, none⟩)), (5, v_5)]) rfl (WC.seq (WC.region (W.ok (ok_lss rfl rfl) (W.nil (thn_n (WC.seq ?_))))))
 refine WC.cond (b := _) rfl (fun h13 => ?_) (fun h13 => ?_)
 ·have p13 := of_decide_eq_true h13
  refine WC.skip (thn_n (WC.seq (WC.block (WC.seq (WC.region ?_)))))
  have q25 := (h_l.mono hG20).at (i := i) (by omega)
  refine match q25 with | ⟨_, he21, ⟨e_24, hm22⟩⟩ => ?_
  subst e_24
  refine W.ok (ok_indexAddr (i := i) sl45 ty49 (h_l.mono hG20) rfl rfl ⟨by omega, by omega⟩) (W.ok (ok_loadE (vs := [.int .i64 _, .int .i64 _, .string _, .string _, .bool _, .string _]) ty49 he21 rfl rfl rfl (by simp)) (W.alloc zr49 (fun b26 => (W.store (i := 0) (vs := [.int .i64 _, .int .i64 _, .string _, .string _, .bool _, .string _]) (L' := [.int .i64 _, .int .i64 _, .string _, .string _, .bool _, .string _]) ty49 rfl rfl rfl rfl rfl rfl rfl rfl (W.nil (thn_n (WC.seq (WC.region (W.ok (ok_loadB (i := 0) (vs := [.int .i64 _, .int .i64 _, .string _, .string _, .bool _, .string _]) ty49 rfl rfl rfl rfl (by simp)) (W.ok (ok_loadB (i := 1) (vs := [.string _, .string _, .bool _]) ty52 rfl rfl rfl rfl (by simp)) (W.qcall (mclip_fc _ _ _ _ _ _ _ _ _ (hks _ (List.getElem_mem _))) rfl (W.mv (W.ok (ok_extract rfl rfl) (W.ok (ok_extract rfl rfl) (W.alloc zr49 (fun b27 => ?_))))))))))))))))
  refine W.store (i := 0) (vs := [.int .i64 _, .int .i64 _, .string _, .string _, .bool _, .string _]) (L' := [.int .i64 _, .int .i64 _, .string _, .string _, .bool _, .string _]) ty49 rfl rfl rfl rfl rfl rfl rfl rfl (W.as (W.nil (thn_n (WC.seq (WC.region (W.mv (W.nil (thn_n ?_))))))))
  refine WC.cond (b := _) rfl (fun h19_1 => ?_) (fun h19_1 => ?_)
  ·refine WC.region (W.mv (W.ok (ok_loadB (i := 0) (vs := [.int .i64 _, .int .i64 _, .string _, .string _, .bool _, .string _]) ty49 rfl rfl rfl rfl (by simp)) (W.lit (e := eMsg) (l := [(Msg.clip l[i] ⟨alo, ahi, ao⟩).1]) (css := [[.int .i64 _, .int .i64 _, .string _, .string _, .bool _, .string _]]) sl45 ty49 zr49 rfl rfl rfl rfl rfl rfl ⟨⟨rfl, clip_ok (by assumption)⟩, trivial⟩ (fun bl28 G28 hG28 hv28 => (W.app (e := eMsg) sl45 ty49 zr49 rfl by49 rfl rfl ((ho_5.mono hG28)) (hv28) (pmC (pmC (pmC pr9))) (by show ((clips ⟨alo, ahi, ao⟩ (l.take i)).length + 1) * 72 ≤ _; omega) (fun v29 Ms30 ho31 => (W.perm (pmC (pmC (pmC pr9))).symm (W.as (W.nil (blk_n (thn_n (WC.region (W.ok (ok_add rfl rfl (by omega)) (W.mv (W.sub ((sr9.cons _).cons _) (W.nil (thn_n ?_)))))))))))))))))
   exact ⟨hG28, (i + 1, v29, Ms30), ⟨eqv, eqv, eqv, eqv, eqv, trivial⟩, ⟨rfl, (by have h := ho31; rw [clips_t (by omega) h19_1]; exact h), by omega⟩, by omega⟩
  refine WC.skip (blk_n (thn_n (WC.region (W.ok (ok_add rfl rfl (by omega)) (W.mv (W.sub ((sr9.cons _).cons _) (W.nil (thn_n ?_))))))))
  exact ⟨Le.rfl, (i + 1, v_5, M_5), ⟨eqv, eqv, eqv, eqv, eqv, trivial⟩, ⟨rfl, (by have h := ho_5; rw [clips_f (by omega) h19_1]; exact h), by omega⟩, by omega⟩
 have p13 := of_decide_eq_false h13
 refine WC.exit (thn_x (thn_x (blk_h (thn_n (WC.seq (WC.region (W.mv (W.as (W.nil (thn_n (WC.giveO ho_5 (pmC pr9) (fun G32 hG32 hv32 => (WC.ret ?_)))))))))))))
 refine ⟨.inr rfl, [_], ⟨rfl, trivial⟩, [], sn9, ?_⟩
 refine ⟨rfl, _, rfl, ?_⟩
 · have h := hv32; rw [List.take_of_length_le (by omega)] at h; exact h

end Go.Proofs.YtebkfinhhpelbaaGreat
namespace Go.Proofs.YtebkfinhhpelbaaGreat
open Go Go.Fw Go.RowKit
theorem hdown_fc {G : GH} {α : Type} [Inhabited α] {lt : α → α → Bool} {x0 : Value} {Rep : GH → List α → MH → Prop} {EV : GH → Value → α → Prop} (hK : HeapK Tryz.prog lt x0 Rep EV) {l : List α} {Ms_l : MH} (h_l : Rep G l Ms_l) (i0 : Nat) (n : Nat) (f : Nat) (hf : n ≤ i0 + f) (hn : n ≤ l.length) (hi : i0 ≤ 1000000000000000) :
    Fc Tryz.prog 191 [x0, .int .i64 ((i0 : Nat) : Int), .int .i64 ((n : Nat) : Int)] G Ms_l (fun v G' M' => (∃ b, v = .bool b) ∧ Rep G' (downL lt f l i0 n) M') := by
 have hbd := hK.bound h_l
 refine Fc.intro (rs := [.tmp 6]) cl191 Tryz.func191 rfl Tryz.ntmps191 rfl rfl (fun w0 => ?_)
 refine WC.perm (M' := (Ms_l ++ [])) (by simp) (WC.seq (WC.region (W.as (W.nil (thn_n (WC.seq (WC.region (W.mv (W.as (W.nil (thn_n (WC.seq (WC.block ?_)))))))))))))
 refine WC.loop (X := (Nat × Nat × List α) × MH) (fun x => [(7, .int .i64 ((x.1.1 : Nat) : Int)), (1, .int .i64 ((i0 : Nat) : Int)), (2, .int .i64 ((n : Nat) : Int)), (0, x0)]) (fun x G Ml => Ml = (x.2 ++ []) ∧ Rep G (x.1.2.2) x.2 ∧ downL lt x.1.2.1 x.1.2.2 x.1.1 n = downL lt f l i0 n ∧ n ≤ x.1.1 + x.1.2.1 ∧ x.1.2.2.length = l.length ∧ x.1.1 ≤ n + 1000000000000000) (fun x => n - x.1.1) (((i0, f, l) : Nat × Nat × List α), Ms_l) ⟨eqv, eqv, eqv, eqv, trivial⟩ ?_ ?_
 ·exact ⟨rfl, (by simpa using h_l), rfl, hf, rfl, by dsimp only; omega⟩
 rintro ⟨⟨i, f9, L⟩, M_0⟩ gG1 G1 _ hG1 ⟨rfl, ho_0, hd, hfi, hL, hib⟩
 try dsimp only at ho_0 hd hfi hL hib
 have hbL : L.length ≤ 140737488355328 := by omega
 refine WC.fr (f := setL gG1 [(7, .int .i64 ((i : Nat) : Int)), (1, .int .i64 ((i0 : Nat) : Int)), (2, .int .i64 ((n : Nat) : Int)), (0, x0)]) rfl (WC.block (WC.seq (WC.region (W.mv (W.ok (ok_mul rfl rfl (by omega)) (W.ok (Ok.int (n := ((2 * i + 1 : Nat) : Int)) (ok_add rfl rfl (by omega)) (by omega)) (W.as (W.nil (thn_n (WC.seq (WC.seq (WC.region (W.mv (W.mv ?_))))))))))))))
 refine W.ok (ok_geq rfl rfl) (W.mv ?_)
 refine W.sp 18 rfl (fun h17 => ?_) (fun h17 => ?_)
 ·have p17 := of_decide_eq_true h17
  try dsimp only at p17
  refine W.no (dj := 18) rfl rfl h17 (W.no (dj := 18) rfl rfl h17 (W.ok (ok_pick_t rfl h17) (W.nil (thn_n (WC.cond_t rfl rfl (WC.exit (thn_x (blk_m (thn_x (blk_h (thn_n (WC.seq (WC.region (W.mv (W.mv (W.ok (ok_gtr rfl rfl) (W.as (W.nil (thn_n (WC.ret ?_))))))))))))))))))))
  refine ⟨.inr rfl, [_], ⟨rfl, trivial⟩, M_0, List.sublist_append_left _ _, ?_⟩
  refine ⟨⟨_, rfl⟩, ?_⟩
  have h := ho_0
  rw [downL_stop (by omega)] at hd
  rw [← hd]; exact h
 have p17 := of_decide_eq_false h17
 try dsimp only at p17
 refine W.yes (dj := 18) rfl rfl h17 (W.mv (W.yes (dj := 18) rfl rfl h17 (W.ok (ok_lss rfl rfl) (W.ok (ok_pick_f rfl h17) (W.nil (thn_n ?_))))))
 refine WC.cond (b := _) rfl (fun h20 => ?_) (fun h20 => ?_)
 ·have p20 := of_decide_eq_true h20
  try dsimp only at p20
  exfalso; omega
 have p20 := of_decide_eq_false h20
 try dsimp only at p20
 have hkj := kidJ_lt (lt := lt) (l := L) (i := i) (n := n) (by omega)
 refine WC.skip (thn_n (WC.seq (WC.region (W.mv (W.as (W.nil (thn_n ?_)))))))
 refine WC.join (X := Unit) (fun u8 => [(9, .int .i64 (((kidJ lt L i n) : Nat) : Int)), (0, x0), (1, .int .i64 ((i0 : Nat) : Int)), (2, .int .i64 ((n : Nat) : Int)), (7, .int .i64 ((i : Nat) : Int))]) (fun u8 _ Ml => Ml = (M_0 ++ [])) ?_ ?_
 ·refine WC.seq (WC.region (W.mv (W.ok (Ok.int (n := ((2 * i + 2 : Nat) : Int)) (ok_add rfl rfl (by omega)) (by omega)) (W.as (W.nil (thn_n (WC.seq (WC.region (W.mv (W.mv (W.ok (ok_lss rfl rfl) (W.mv ?_))))))))))))
  refine W.sp 28 rfl (fun h27 => ?_) (fun h27 => ?_)
  ·have p27 := of_decide_eq_true h27
   try dsimp only at p27
   refine W.yes (dj := 28) rfl rfl h27 (W.mv (W.yes (dj := 28) rfl rfl h27 (W.mv (W.yes (dj := 28) rfl rfl h27 (W.mv (W.yes (dj := 28) rfl rfl h27 (W.inv (hK.less (i := 2 * i + 2) (j := 2 * i + 1) ho_0 (by omega) (by omega)) rfl rfl pr9 ?_)))))))
   intro _ G2 Ms4 hG2 q3
   refine match q3 with | ⟨e_6, eeq3⟩ => ?_
   subst e_6
   have eeq3 := eeq3.symm
   subst eeq3
   refine W.ok (ok_pick_t rfl h27) (W.nil (thn_n ?_))
   refine WC.cond (b := _) rfl (fun h32 => ?_) (fun h32 => ?_)
   ·refine WC.region (W.mv (W.as (W.nil (thn_n ?_))))
    exact ⟨hG2, (), ⟨(by exact iv (congrArg Nat.cast (kidJ_t (by omega) h32).symm)), eqv, eqv, eqv, eqv, trivial⟩, rfl⟩
   refine WC.skip (thn_n ?_)
   exact ⟨hG2, (), ⟨(by exact iv (congrArg Nat.cast (kidJ_f (.inr h32)).symm)), eqv, eqv, eqv, eqv, trivial⟩, rfl⟩
  have p27 := of_decide_eq_false h27
  try dsimp only at p27
  refine W.no (dj := 28) rfl rfl h27 (W.no (dj := 28) rfl rfl h27 (W.no (dj := 28) rfl rfl h27 (W.no (dj := 28) rfl rfl h27 (W.ok (ok_pick_f rfl h27) (W.nil (thn_n (WC.cond_f rfl rfl (WC.skip (thn_n ?_)))))))))
  exact ⟨Le.rfl, (), ⟨(by exact iv (congrArg Nat.cast (kidJ_f (.inl (by omega))).symm)), eqv, eqv, eqv, eqv, trivial⟩, rfl⟩
 rintro u8 gG7 G7 _ hG7 rfl
 refine WC.seq (WC.seq (WC.region (W.mv (W.mv (W.mv (W.inv (hK.less (i := (kidJ lt L i n)) (j := i) (hK.mono hG7 ho_0) (by omega) (by omega)) rfl rfl pr9 ?_))))))
 intro _ G8 Ms10 hG8 q9
 refine match q9 with | ⟨e_12, eeq9⟩ => ?_
 subst e_12
 have eeq9 := eeq9.symm
 subst eeq9
 refine W.ok (ok_not rfl) (W.nil (thn_n ?_))
 refine WC.cond (b := _) rfl (fun h39 => ?_) (fun h39 => ?_)
 ·refine WC.exit (thn_x (blk_m (thn_x (blk_h (thn_n (WC.seq (WC.region (W.mv (W.mv (W.ok (ok_gtr rfl rfl) (W.as (W.nil (thn_n (WC.ret ?_))))))))))))))
  refine ⟨.inr rfl, [_], ⟨rfl, trivial⟩, M_0, List.sublist_append_left _ _, ?_⟩
  refine ⟨⟨_, rfl⟩, ?_⟩
  have h := (hK.mono (hG7.trans hG8) ho_0)
  rw [downL_end (by omega) (by simpa using h39)] at hd
  rw [← hd]; exact h
 refine WC.skip (thn_n (WC.seq (WC.region (W.mv (W.mv (W.mv (W.inv (hK.swap (i := i) (j := (kidJ lt L i n)) (hK.mono (hG7.trans hG8) ho_0) (by omega) (by omega)) rfl rfl pr9 ?_)))))))
 intro _ G13 Ms15 hG13 q14
 refine match q14 with | ⟨e_18, hR17⟩ => ?_
 subst e_18
 refine W.nil (thn_n (WC.region (W.mv (W.as (W.nil (blk_n (thn_n ?_)))))))
 exact ⟨((hG7.trans hG8).trans hG13), ((((kidJ lt L i n), f9 - 1, swapL L i (kidJ lt L i n)) : Nat × Nat × List α), Ms15), ⟨eqv, eqv, eqv, eqv, trivial⟩, ⟨rfl, (by simpa using hR17), by dsimp only; rw [← hd, downL_go hfi (by omega) (by simpa using h39)], by dsimp only; omega, by dsimp only; rw [swapL_length]; exact hL, by dsimp only; omega⟩, by dsimp only; omega⟩

theorem hpop_fc {G : GH} {α : Type} [Inhabited α] {lt : α → α → Bool} {x0 : Value} {Rep : GH → List α → MH → Prop} {EV : GH → Value → α → Prop} (hK : HeapK Tryz.prog lt x0 Rep EV) {l : List α} {Ms_l : MH} (h_l : Rep G l Ms_l) (h0 : 0 < l.length) :
    Fc Tryz.prog 147 [x0] G Ms_l (fun v G' M' => EV G' v (nth l 0) ∧ Rep G' (popL lt l) M') := by
 have hbd := hK.bound h_l
 refine Fc.intro (rs := [.tmp 2]) cl147 Tryz.func147 rfl Tryz.ntmps147 rfl rfl (fun w0 => ?_)
 refine WC.perm (M' := (Ms_l ++ [])) (by simp) (WC.seq (WC.region (W.as (W.nil (thn_n (WC.seq (WC.region (W.mv (W.inv (hK.len h_l) rfl rfl pr9 ?_)))))))))
 intro _ G31 Ms33 hG31 q32
 refine match q32 with | ⟨e_35, eeq32⟩ => ?_
 subst e_35
 have eeq32 := eeq32.symm
 subst eeq32
 refine W.ok (Ok.int (n := ((l.length - 1 : Nat) : Int)) (ok_sub rfl rfl (by omega)) (by omega)) (W.as (W.nil (thn_n (WC.seq (WC.region (W.mv (W.mv (W.inv (hK.swap (i := 0) (j := l.length - 1) (hK.mono hG31 h_l) (by omega) (by omega)) rfl rfl pr9 ?_))))))))
 intro _ G36 Ms38 hG36 q37
 refine match q37 with | ⟨e_41, hR40⟩ => ?_
 subst e_41
 refine W.nil (thn_n (WC.seq (WC.region (W.mv (W.mv (W.call (Mp := Ms38) (hdown_fc hK hR40 0 _ l.length (by omega) (by first | omega | (simp only [swapL_length]; omega)) (by omega)) rfl pr9 ?_))))))
 intro _ G42 Ms44 hG42 q43
 refine match q43 with | ⟨⟨_, e_47⟩, hR46⟩ => ?_
 subst e_47
 refine W.nil (thn_n (WC.seq (WC.region (W.mv (W.inv (hK.pop hR46 (by rw [downL_length, swapL_length]; omega)) rfl rfl pr9 ?_)))))
 intro v51 G48 Ms50 hG48 q49
 refine match q49 with | ⟨hvhR52, hR52⟩ => ?_
 refine W.as (W.nil (thn_n (WC.ret ?_)))
 refine ⟨.inr rfl, [_], ⟨rfl, trivial⟩, Ms50, List.sublist_append_left _ _, ?_⟩
 refine ⟨(by have h := hvhR52; rw [(popL_eq (lt := lt) h0).2] at h; exact h), ?_⟩
 have h := hR52
 rw [(popL_eq h0).1] at h; exact h

theorem hinit_fc {G : GH} {α : Type} [Inhabited α] {lt : α → α → Bool} {x0 : Value} {Rep : GH → List α → MH → Prop} {EV : GH → Value → α → Prop} (hK : HeapK Tryz.prog lt x0 Rep EV) {l : List α} {Ms_l : MH} (h_l : Rep G l Ms_l) (hh : Heap lt l) (hb : l.length < 1000000) :
    Fc Tryz.prog 175 [x0] G Ms_l (fun v G' M' => v = .tuple #[] ∧ Rep G' (l) M') := by
 have hbd := hK.bound h_l
 refine Fc.intro (rs := []) cl175 Tryz.func175 rfl Tryz.ntmps175 rfl rfl (fun w0 => ?_)
 refine WC.perm (M' := (Ms_l ++ [])) (by simp) (WC.seq (WC.region (W.mv (W.inv (hK.len h_l) rfl rfl pr9 ?_))))
 intro _ G70 Ms72 hG70 q71
 refine match q71 with | ⟨e_74, eeq71⟩ => ?_
 subst e_74
 have eeq71 := eeq71.symm
 subst eeq71
 refine W.as (W.nil (thn_n (WC.seq (WC.region (W.mv (W.ok (Ok.int (n := ((l.length / 2 : Nat) : Int)) (ok_quo' rfl rfl (by omega) (by omega) (by omega)) (by omega)) (W.ok (ok_sub rfl rfl (by omega)) (W.as (W.nil (thn_n (WC.block ?_)))))))))))
 refine WC.loop (X := (Int) × MH) (fun z => [(3, .int .i64 z.1), (2, .int .i64 (((l).length : Nat) : Int)), (0, x0)]) (fun z G Ml => Ml = (z.2 ++ []) ∧ Rep G (l) z.2 ∧ -1 ≤ z.1 ∧ z.1 ≤ l.length) (fun z => (z.1 + 1).toNat) (((((l.length / 2 : Nat) : Int) - 1) : Int), Ms_l) ⟨eqv, eqv, eqv, trivial⟩ ?_ ?_
 ·exact ⟨rfl, (by simpa using (hK.mono hG70 h_l)), by omega, by omega⟩
 rintro ⟨z, M_0⟩ gG75 G75 _ hG75 ⟨rfl, ho_0, hz1, hz2⟩
 try dsimp only at ho_0 hz1 hz2
 refine WC.fr (f := setL gG75 [(3, .int .i64 z), (2, .int .i64 (((l).length : Nat) : Int)), (0, x0)]) rfl (WC.seq (WC.seq (WC.region (W.mv (W.ok (ok_geq rfl rfl) (W.nil (thn_n ?_)))))))
 refine WC.cond (b := _) rfl (fun h10 => ?_) (fun h10 => ?_)
 ·have p10 := of_decide_eq_true h10
  try dsimp only at p10
  obtain ⟨m, rfl⟩ : ∃ m : Nat, z = (m : Int) := ⟨z.toNat, by omega⟩
  refine WC.skip (thn_n (WC.seq (WC.block (WC.region (W.mv (W.mv (W.mv (W.call (Mp := M_0) (hdown_fc hK ho_0 _ _ l.length (by omega) (by first | omega | (simp only [swapL_length]; omega)) (by omega)) rfl pr9 ?_))))))))
  intro _ G76 Ms78 hG76 q77
  refine match q77 with | ⟨⟨_, e_81⟩, hR80⟩ => ?_
  subst e_81
  refine W.nil (blk_n (thn_n (WC.region (W.mv (W.ok (ok_sub rfl rfl (by omega)) (W.as (W.nil (thn_n ?_))))))))
  exact ⟨hG76, (((m : Int) - 1), Ms78), ⟨eqv, eqv, eqv, trivial⟩, ⟨rfl, (by have h := hR80; rw [downL_id hh] at h; exact h), by dsimp only; omega, by dsimp only; omega⟩, by dsimp only; omega⟩
 have p10 := of_decide_eq_false h10
 try dsimp only at p10
 refine WC.exit (thn_x (thn_x (blk_h ?_)))
 refine ⟨.inl rfl, [], trivial, M_0, List.sublist_append_left _ _, ?_⟩
 refine ⟨rfl, ?_⟩
 exact ho_0

end Go.Proofs.YtebkfinhhpelbaaGreat
namespace Go.Proofs.YtebkfinhhpelbaaGreat
open Go Go.Fw Go.RowKit
theorem llen_fc {G : GH} {v_l : Value} {l : List Int} {Ms_l : MH} (h_l : OwnR eInt 3 G v_l l Ms_l) :
    Fc Tryz.prog 256 [v_l] G Ms_l (fun v _ M' => v = .int .i64 ((l.length : Int)) ∧ Ms_l = M') := by
 refine Fc.intro (rs := [.tmp 2]) cl256 Tryz.func256 rfl Tryz.ntmps256 rfl rfl (fun w0 => ?_)
 refine WC.perm (M' := (Ms_l ++ [])) (by simp) (WC.seq (WC.region (W.as (W.nil (thn_n (WC.seq (WC.region (W.mv (W.ok (ok_lenO sl180 h_l rfl) (W.as (W.nil (thn_n (WC.ret ?_)))))))))))))
 refine ⟨.inr rfl, [_], ⟨rfl, trivial⟩, Ms_l, List.sublist_append_left _ _, ?_⟩
 exact ⟨rfl, rfl⟩

theorem lless_fc {G : GH} {v_l : Value} {l : List Int} {Ms_l : MH} (h_l : OwnR eInt 3 G v_l l Ms_l) (i : Nat) (j : Nat) (hi : i < l.length) (hj : j < l.length) :
    Fc Tryz.prog 257 [v_l, .int .i64 ((i : Nat) : Int), .int .i64 ((j : Nat) : Int)] G Ms_l (fun v _ M' => v = .bool (decide (nth l i < nth l j)) ∧ Ms_l = M') := by
 have hl := h_l.len47
 refine Fc.intro (rs := [.tmp 6]) cl257 Tryz.func257 rfl Tryz.ntmps257 rfl rfl (fun w0 => ?_)
 refine WC.perm (M' := (Ms_l ++ [])) (by simp) (WC.seq (WC.region (W.as (W.nil (thn_n (WC.seq (WC.draw mix (by kernel_rfl) (W.mv (W.mv ?_)))))))))
 have q4 := h_l.at (i := i) (by omega)
 refine match q4 with | ⟨_, he1, ⟨e_3, hi2⟩⟩ => ?_
 subst e_3
 refine W.ok (ok_indexAddrO (i := i) sl180 ty3 h_l rfl rfl ⟨by omega, by omega⟩) (W.ok (ok_loadO (vs := [.int .i64 _]) ty3 he1 pr9 rfl rfl rfl (by simp)) (W.mv (W.mv ?_)))
 have q8 := h_l.at (i := j) (by omega)
 refine match q8 with | ⟨_, he5, ⟨e_7, hi6⟩⟩ => ?_
 subst e_7
 refine W.ok (ok_indexAddrO (i := j) sl180 ty3 h_l rfl rfl ⟨by omega, by omega⟩) (W.ok (ok_loadO (vs := [.int .i64 _]) ty3 he5 pr9 rfl rfl rfl (by simp)) (W.ok (ok_lss rfl rfl) (W.as (W.nil (thn_n (WC.ret ?_))))))
 refine ⟨.inr rfl, [_], ⟨rfl, trivial⟩, Ms_l, List.sublist_append_left _ _, ?_⟩
 exact ⟨by rw [nth_lt hi, nth_lt hj]; rfl, rfl⟩

theorem lswap_fc {G : GH} {v_l : Value} {l : List Int} {Ms_l : MH} (h_l : OwnR eInt 3 G v_l l Ms_l) (i : Nat) (j : Nat) (hi : i < l.length) (hj : j < l.length) :
    Fc Tryz.prog 258 [v_l, .int .i64 ((i : Nat) : Int), .int .i64 ((j : Nat) : Int)] G Ms_l (fun v G' M' => v = .tuple #[] ∧ OwnR eInt 3 G' v_l (swapL l i j) M') := by
 have hl := h_l.len47
 have ho_i : i64 l[i] := by obtain ⟨_, _, _, h⟩ := h_l.at hi; exact h
 have ho_j : i64 l[j] := by obtain ⟨_, _, _, h⟩ := h_l.at hj; exact h
 have hls : (l.set i l[j]).length = l.length := List.length_set ..
 refine Fc.intro (rs := []) cl258 Tryz.func258 rfl Tryz.ntmps258 rfl rfl (fun w0 => ?_)
 refine WC.perm (M' := (Ms_l ++ [])) (by simp) (WC.drawW _ sn9 mix (by rintro _ _ _ _ ⟨h | h, _⟩ <;> cases h) (WD.tk 0 rfl (ok_mv) (WD.tk 1 rfl (ok_mv) (WD.tk 2 rfl (ok_mv) (WD.tk 3 rfl (ok_mv) (WD.tk 4 rfl (ok_mv) (WD.tk 5 rfl (ok_mv) ?_)))))))
 have q12 := h_l.at (i := j) (by omega)
 refine match q12 with | ⟨_, he9, ⟨e_11, hi10⟩⟩ => ?_
 subst e_11
 refine WD.tk 6 rfl (ok_indexAddrO (i := j) sl180 ty3 h_l rfl rfl ⟨by omega, by omega⟩) (WD.tk 8 rfl (ok_mv) (WD.tk 9 rfl (ok_mv) ?_))
 have q16 := h_l.at (i := i) (by omega)
 refine match q16 with | ⟨_, he13, ⟨e_15, hi14⟩⟩ => ?_
 subst e_15
 refine WD.tk 10 rfl (ok_indexAddrO (i := i) sl180 ty3 h_l rfl rfl ⟨by omega, by omega⟩) ?_
 refine WD.any [7, 11] (by kernel_rfl) rfl ⟨⟨_, rfl, rfl, ?_⟩, ⟨_, rfl, rfl, ?_⟩, trivial⟩
 ·refine W.ok (ok_loadO (vs := [.int .i64 _]) ty3 he9 pr9 rfl rfl rfl (by simp)) (W.nil (WD.n9 Le.rfl sn9 (WD.a1 11 rfl (W.ok (ok_loadO (vs := [.int .i64 _]) ty3 he13 pr9 rfl rfl rfl (by simp)) (W.nil (WD.n9 Le.rfl sn9 ?_))))))
  have q20 := h_l.at (i := i) (by omega)
  refine match q20 with | ⟨_, he17, ⟨e_19, hi18⟩⟩ => ?_
  subst e_19
  refine WD.tk 12 rfl (ok_indexAddrO (i := i) sl180 ty3 h_l rfl rfl ⟨by omega, by omega⟩) (WD.a1 13 rfl (W.storeO (i := i) (o := 0) (vs := [.int .i64 _]) (a' := l[j]) ty3 rfl rfl rfl rfl rfl (h_l) pr9 (by omega) (by decide) (fun cs h => by rw [h.1]; exact ⟨rfl, ho_j⟩) (fun Ms21 ho22 => (W.nil (WD.n9 Le.rfl sn9 ?_)))))
  have q26 := ho22.at (i := j) (by omega)
  refine match q26 with | ⟨_, he23, ⟨e_25, hi24⟩⟩ => ?_
  subst e_25
  refine WD.tk 14 rfl (ok_indexAddrO (i := j) sl180 ty3 ho22 rfl rfl ⟨by omega, by omega⟩) (WD.a1 15 rfl (W.storeO (i := j) (o := 0) (vs := [.int .i64 _]) (a' := l[i]) ty3 rfl rfl rfl rfl rfl (ho22) pr9 (by omega) (by decide) (fun cs h => by rw [h.1]; exact ⟨rfl, ho_i⟩) (fun Ms27 ho28 => (W.nil (WD.n9 Le.rfl sn9 (WD.done (by kernel_rfl) ?_))))))
  refine ⟨.inl rfl, [], trivial, (Ms27 ++ []), sr9, ?_⟩
  have h := ho28
  refine ⟨rfl, ?_⟩
  rw [swapL, nth_lt hi, nth_lt hj, List.append_nil]; exact h
 refine W.ok (ok_loadO (vs := [.int .i64 _]) ty3 he13 pr9 rfl rfl rfl (by simp)) (W.nil (WD.n9 Le.rfl sn9 (WD.a1 7 rfl (W.ok (ok_loadO (vs := [.int .i64 _]) ty3 he9 pr9 rfl rfl rfl (by simp)) (W.nil (WD.n9 Le.rfl sn9 ?_))))))
 have q32 := h_l.at (i := i) (by omega)
 refine match q32 with | ⟨_, he29, ⟨e_31, hi30⟩⟩ => ?_
 subst e_31
 refine WD.tk 12 rfl (ok_indexAddrO (i := i) sl180 ty3 h_l rfl rfl ⟨by omega, by omega⟩) (WD.a1 13 rfl (W.storeO (i := i) (o := 0) (vs := [.int .i64 _]) (a' := l[j]) ty3 rfl rfl rfl rfl rfl (h_l) pr9 (by omega) (by decide) (fun cs h => by rw [h.1]; exact ⟨rfl, ho_j⟩) (fun Ms33 ho34 => (W.nil (WD.n9 Le.rfl sn9 ?_)))))
 have q38 := ho34.at (i := j) (by omega)
 refine match q38 with | ⟨_, he35, ⟨e_37, hi36⟩⟩ => ?_
 subst e_37
 refine WD.tk 14 rfl (ok_indexAddrO (i := j) sl180 ty3 ho34 rfl rfl ⟨by omega, by omega⟩) (WD.a1 15 rfl (W.storeO (i := j) (o := 0) (vs := [.int .i64 _]) (a' := l[i]) ty3 rfl rfl rfl rfl rfl (ho34) pr9 (by omega) (by decide) (fun cs h => by rw [h.1]; exact ⟨rfl, ho_i⟩) (fun Ms39 ho40 => (W.nil (WD.n9 Le.rfl sn9 (WD.done (by kernel_rfl) ?_))))))
 refine ⟨.inl rfl, [], trivial, (Ms39 ++ []), sr9, ?_⟩
 have h := ho40
 refine ⟨rfl, ?_⟩
 rw [swapL, nth_lt hi, nth_lt hj, List.append_nil]; exact h

theorem lpush_fc {G : GH} {b_b : Nat} {Tb : TypeId} {c0 : Value} {c1 : Value} {v_l : Value} {l : List Int} {Ms_l : MH} (h_l : OwnR eInt 3 G v_l l Ms_l) (a : Int) (hi_a : i64 a) (hb : l.length < 1000000) :
    Fc Tryz.prog 264 [.pointer (some ⟨b_b, 2, none⟩), .iface 3 (.int .i64 a)] G ((b_b, .cells (List.toArray [c0, c1, v_l]) Tb (0, 0)) :: (Ms_l)) (fun v G' M' => v = .tuple #[] ∧ ∃ v' Ms', M' = (b_b, .cells (List.toArray [c0, c1, v']) Tb (0, 0)) :: Ms' ∧ OwnR eInt 3 G' v' (l ++ [a]) Ms') := by
 obtain ⟨sa_l, sc_l, rfl⟩ := h_l.form
 refine Fc.intro (rs := []) cl264 Tryz.func264 rfl Tryz.ntmps264 rfl rfl (fun w0 => ?_)
 refine WC.perm (M' := ((b_b, .cells (List.toArray [c0, c1, .slice sa_l l.length sc_l]) Tb (0, 0)) :: (Ms_l ++ []))) (by simp) (WC.drawW _ (sn9.cons _) mix (by rintro _ _ _ _ ⟨h | h, _⟩ <;> cases h) (WD.tk 0 rfl (ok_mv) (WD.tk 1 rfl (ok_mv) (WD.tk 2 rfl (ok_nilP rfl) (WD.tk 4 rfl (ok_mv) (WD.tk 5 rfl (ok_tyA pi3 rfl) ?_))))))
 refine WD.any [3, 6] (by kernel_rfl) rfl ⟨⟨_, rfl, rfl, ?_⟩, ⟨_, rfl, rfl, ?_⟩, trivial⟩
 ·refine W.ok (ok_loadB (i := 0) (vs := [.slice _ _ _]) ty180 rfl rfl rfl rfl (by simp)) (W.nil (WD.n9 Le.rfl (sn9.cons _) (WD.a1 6 rfl (W.lit (e := eInt) (l := [a]) (css := [[.int .i64 _]]) sl180 ty3 zr3 rfl rfl rfl rfl rfl rfl ⟨⟨rfl, hi_a⟩, trivial⟩ (fun bl41 G41 hG41 hv41 => (W.nil (WD.n9 hG41 (sn9.cons _) (WD.a1 7 rfl (W.app (e := eInt) sl180 ty3 zr3 rfl by3 rfl rfl ((h_l.mono hG41)) (hv41) (pmC pr9) (by show (_ + 1) * 8 ≤ _; omega) (fun v42 Ms43 ho44 => (W.perm (pmC pr9).symm ?_)))))))))))
  have q48 := ho44.form
  refine match q48 with | ⟨sa45, sc46, e_47⟩ => ?_
  subst e_47
  refine W.nil (WD.n9 Le.rfl (sn9.cons _) (WD.tk 8 rfl (ok_nilP rfl) (WD.a1 9 rfl (W.store (i := 0) (vs := [.slice _ _ _]) (L' := [_, _, .slice _ _ _]) ty180 rfl rfl rfl rfl rfl rfl rfl rfl (W.nil (WD.n9 Le.rfl (sn9.cons _) (WD.done (by kernel_rfl) ?_)))))))
  refine ⟨.inl rfl, [], trivial, ((b_b, .cells (List.toArray [c0, c1, .slice sa45 ((l ++ [a])).length sc46]) Tb (0, 0)) :: (Ms43 ++ [])), sr9.k9, ?_⟩
  exact ⟨rfl, _, _, congrArg _ (List.append_nil _), ho44⟩
 refine W.lit (e := eInt) (l := [a]) (css := [[.int .i64 _]]) sl180 ty3 zr3 rfl rfl rfl rfl rfl rfl ⟨⟨rfl, hi_a⟩, trivial⟩ (fun bl49 G49 hG49 hv49 => (W.nil (WD.n9 hG49 (sn9.cons _) (WD.a1 3 rfl (W.ok (ok_loadB (i := 0) (vs := [.slice _ _ _]) ty180 rfl rfl rfl rfl (by simp)) (W.nil (WD.n9 Le.rfl (sn9.cons _) (WD.a1 7 rfl (W.app (e := eInt) sl180 ty3 zr3 rfl by3 rfl rfl ((h_l.mono hG49)) (hv49) (pmC pr9) (by show (_ + 1) * 8 ≤ _; omega) (fun v50 Ms51 ho52 => (W.perm (pmC pr9).symm ?_)))))))))))
 have q56 := ho52.form
 refine match q56 with | ⟨sa53, sc54, e_55⟩ => ?_
 subst e_55
 refine W.nil (WD.n9 Le.rfl (sn9.cons _) (WD.tk 8 rfl (ok_nilP rfl) (WD.a1 9 rfl (W.store (i := 0) (vs := [.slice _ _ _]) (L' := [_, _, .slice _ _ _]) ty180 rfl rfl rfl rfl rfl rfl rfl rfl (W.nil (WD.n9 Le.rfl (sn9.cons _) (WD.done (by kernel_rfl) ?_)))))))
 refine ⟨.inl rfl, [], trivial, ((b_b, .cells (List.toArray [c0, c1, .slice sa53 ((l ++ [a])).length sc54]) Tb (0, 0)) :: (Ms51 ++ [])), sr9.k9, ?_⟩
 exact ⟨rfl, _, _, congrArg _ (List.append_nil _), ho52⟩

theorem lpop_fc {G : GH} {b_b : Nat} {Tb : TypeId} {c0 : Value} {c1 : Value} {v_l : Value} {l : List Int} {Ms_l : MH} (h_l : OwnR eInt 3 G v_l l Ms_l) (h0 : 0 < l.length) :
    Fc Tryz.prog 263 [.pointer (some ⟨b_b, 2, none⟩)] G ((b_b, .cells (List.toArray [c0, c1, v_l]) Tb (0, 0)) :: (Ms_l)) (fun v G' M' => v = .iface 3 (.int .i64 (nth l (l.length - 1))) ∧ i64 (nth l (l.length - 1)) ∧ ∃ v' Ms', M' = (b_b, .cells (List.toArray [c0, c1, v']) Tb (0, 0)) :: Ms' ∧ OwnR eInt 3 G' v' (l.take (l.length - 1)) Ms') := by
 obtain ⟨sa_l, sc_l, rfl⟩ := h_l.form
 have hl := h_l.len47
 have hlast : nth l (l.length - 1) = l[l.length - 1] := nth_lt (by omega)
 have ho_z : i64 l[l.length - 1] := by obtain ⟨_, _, _, h⟩ := h_l.at (i := l.length - 1) (by omega); exact h
 refine Fc.intro (rs := [.tmp 2]) cl263 Tryz.func263 rfl Tryz.ntmps263 rfl rfl (fun w0 => ?_)
 refine WC.perm (M' := ((b_b, .cells (List.toArray [c0, c1, .slice sa_l l.length sc_l]) Tb (0, 0)) :: (Ms_l ++ []))) (by simp) (WC.seq (WC.region (W.as (W.nil (thn_n (WC.seq (WC.region (W.mv (W.ok (ok_nilP rfl) (W.ok (ok_loadB (i := 0) (vs := [.slice _ _ _]) ty180 rfl rfl rfl rfl (by simp)) (W.ok (ok_lenO sl180 h_l rfl) (W.ok (Ok.int (n := ((l.length - 1 : Nat) : Int)) (ok_sub rfl rfl (by omega)) (by omega)) (W.as (W.nil (thn_n ?_)))))))))))))))
 refine WC.seq (WC.region (W.mv (W.ok (ok_nilP rfl) (W.ok (ok_loadB (i := 0) (vs := [.slice _ _ _]) ty180 rfl rfl rfl rfl (by simp)) (W.mv ?_)))))
 have q60 := h_l.at (i := l.length - 1) (by omega)
 refine match q60 with | ⟨_, he57, ⟨e_59, hi58⟩⟩ => ?_
 subst e_59
 refine W.ok (ok_indexAddrO (i := l.length - 1) sl180 ty3 h_l rfl rfl ⟨by omega, by omega⟩) (W.ok (ok_loadO (vs := [.int .i64 _]) ty3 he57 (pmC pr9) rfl rfl rfl (by simp)) (W.as (W.nil (thn_n (WC.seq (WC.region (W.mv (W.mv (W.ok (ok_nilP rfl) (W.ok (ok_loadB (i := 0) (vs := [.slice _ _ _]) ty180 rfl rfl rfl rfl (by simp)) (W.mv (W.shortO (l.length - 1) sl180 ty3 h_l rfl ⟨_, _, rfl, by omega⟩ (by omega) (fun v61 ho62 => ?_)))))))))))))
 have q66 := ho62.form
 refine match q66 with | ⟨sa63, sc64, e_65⟩ => ?_
 subst e_65
 refine W.ok (ok_nilP rfl) (W.store (i := 0) (vs := [.slice _ _ _]) (L' := [_, _, .slice _ _ _]) ty180 rfl rfl rfl rfl rfl rfl rfl rfl (W.nil (thn_n (WC.seq (WC.region (W.mv (W.ok (ok_mkI pi3 rfl) (W.as (W.nil (thn_n (WC.ret ?_)))))))))))
 refine ⟨.inr rfl, [_], ⟨rfl, trivial⟩, ((b_b, .cells (List.toArray [c0, c1, .slice sa63 (((l).take (l.length - 1))).length sc64]) Tb (0, 0)) :: (Ms_l ++ [])), sr9.k9, ?_⟩
 exact ⟨by rw [hlast]; rfl, by rw [hlast]; exact ho_z, _, _, congrArg _ (List.append_nil _), ho62⟩

end Go.Proofs.YtebkfinhhpelbaaGreat
namespace Go.Proofs.YtebkfinhhpelbaaGreat
open Go Go.Fw Go.RowKit

abbrev LeastR (b : Nat) (Tb : TypeId) (c0 c1 : Value) (G : GH) (l : List Int) (M : MH) : Prop := ∃ v Ms, M = (b, .cells (List.toArray [c0, c1, v]) Tb (0, 0)) :: Ms ∧ OwnR eInt 3 G v l Ms
theorem least_heap {b : Nat} {Tb : TypeId} {c0 c1 : Value} : HeapK Tryz.prog (fun a b : Int => decide (a < b)) (.iface 239 (.pointer (some ⟨b, 2, none⟩))) (LeastR b Tb c0 c1) (fun _ u a => u = .iface 3 (.int .i64 a) ∧ i64 a) where
  mono := fun hl ⟨v, Ms, h1, h2⟩ => ⟨v, Ms, h1, h2.mono hl⟩
  bound := fun ⟨v, Ms, h1, h2⟩ => h2.len47
  len := fun {G l M} ⟨v, Ms, h1, h2⟩ => by
    subst h1
    exact Inv.val (e := 180) (by kernel_rfl) (by kernel_rfl) rfl (llen_fc h2) (fun v' G' M' hl ⟨e1, e2⟩ => ⟨e1, by rw [← e2]⟩)
  less := fun {G l M i j} ⟨v, Ms, h1, h2⟩ hi hj => by
    subst h1
    exact Inv.val (e := 180) (by kernel_rfl) (by kernel_rfl) rfl (lless_fc h2 i j hi hj) (fun v' G' M' hl ⟨e1, e2⟩ => ⟨e1, by rw [← e2]⟩)
  swap := fun {G l M i j} ⟨v, Ms, h1, h2⟩ hi hj => by
    subst h1
    exact Inv.val (e := 180) (by kernel_rfl) (by kernel_rfl) rfl (lswap_fc h2 i j hi hj) (fun v' G' M' hl ⟨e1, e2⟩ => ⟨e1, v, M', rfl, e2⟩)
  push := fun {G l M u a} ⟨v, Ms, h1, h2⟩ hb ⟨h3, h4⟩ => by
    subst h1 h3
    exact Inv.ptr (g := 264) (by kernel_rfl) (lpush_fc h2 a h4 hb) (fun v' G' M' hl ⟨e1, v2, M2, e2, e3⟩ => ⟨e1, v2, M2, e2, e3⟩)
  pop := fun {G l M} ⟨v, Ms, h1, h2⟩ h0 => by
    subst h1
    exact Inv.ptr (g := 263) (by kernel_rfl) (lpop_fc h2 h0) (fun v' G' M' hl ⟨e1, e4, v2, M2, e2, e3⟩ => ⟨⟨e1, e4⟩, v2, M2, e2, e3⟩)

abbrev HeadsR (b : Nat) (Tb : TypeId) (G : GH) (l : List Hd) (M : MH) : Prop := (∀ h ∈ l, 0 < h.1.length) ∧ ∃ v Ms, M = (b, .cells (List.toArray [v]) Tb (0, 0)) :: Ms ∧ OwnR eHead 205 G v l Ms
abbrev HeadV (G : GH) (u : Value) (a : Hd) : Prop := (∃ p c, u = .iface 205 (.agg (List.toArray [.slice p a.1.length c, .int .i64 a.2])) ∧ SlR eMsg G (.slice p a.1.length c) a.1 ∧ i64 a.2) ∧ 0 < a.1.length
end Go.Proofs.YtebkfinhhpelbaaGreat
