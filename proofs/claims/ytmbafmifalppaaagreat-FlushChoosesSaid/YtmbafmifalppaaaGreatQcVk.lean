/- Walks of messages that may be moved on, by definition. -/
import Derived.Test.YtmbafmifalppaaaGreatQcVi
import Derived.Test.YtmbafmifalppaaaGreatQcNz
set_option maxRecDepth 100000
set_option maxHeartbeats 1600000
set_option linter.unusedVariables false
set_option linter.unusedSimpArgs false
set_option linter.unnecessarySimpa false
namespace Go.Proofs.YtmbafmifalppaaaGreat
open Go Go.Fw Go.RowKit
theorem rfront_fc {G : GH} {v_l : Value} {l : List Msg} (h_l : SlR eMsg G v_l l) :
    Fc Tryz.prog 124 [v_l] G [] (fun v G' M' => M' = [] ∧ ∃ u0, v = u0 ∧ SlR eMsg G' u0 (frontN l)) := by
 obtain ⟨sa_l, sc_l, rfl⟩ := h_l.form
 have hl := h_l.len47
 have hlb : l.length * 72 ≤ 140737488355328 := h_l.bytes
 refine Fc.intro (rs := [.tmp 2]) cl124 Tryz.func124 rfl Tryz.ntmps124 rfl rfl (fun w0 => ?_)
 refine WC.seq (WC.region (W.as (W.nil (thn_n (WC.seq (WC.region (W.as (W.nil (thn_n (WC.seq (WC.seq (WC.region (W.as (W.nil (thn_n (WC.block ?_))))))))))))))))
 refine WC.loop (X := (Nat) × Value × MH) (fun k => [(4, .int .i64 ((k.1 : Nat) : Int)), (0, .slice sa_l l.length sc_l), (3, k.2.1)]) (fun k G Ml => Ml = (k.2.2 ++ []) ∧ OwnR eMsg 150 G k.2.1 (l.take k.1) k.2.2 ∧ k.1 ≤ l.length ∧ ∀ j (h : j < l.length), j < k.1 → isW l[j] = false) (fun k => l.length - k.1) (0, .slice none 0 0, ([] : MH)) ⟨eqv, eqv, eqv, trivial⟩ ?_ ?_
 ·exact ⟨rfl, (by exact OwnR.nil), by omega, fun j _ h => by omega⟩
 rintro ⟨k, v_3, M_3⟩ gG1 G1 _ hG1 ⟨rfl, ho_3, hk, hj⟩
 try dsimp only at ho_3 hk hj
 refine WC.fr (f := setL gG1 [(4, .int .i64 ((k : Nat) : Int)), (0, .slice sa_l l.length sc_l), (3, v_3)]) rfl (WC.seq (WC.seq (WC.region (W.mv (W.mv (W.ok (ok_len sl40 (h_l.mono hG1) rfl) (W.ok (ok_lss rfl rfl) (W.nil (thn_n ?_)))))))))
 refine WC.cond (b := _) rfl (fun h8 => ?_) (fun h8 => ?_)
 ·have p8 := of_decide_eq_true h8
  refine WC.skip (thn_n (WC.seq (WC.block (WC.seq (WC.seq (WC.region (W.mv (W.mv ?_))))))))
  have q6 := (h_l.mono hG1).at (i := k) (by omega)
  refine match q6 with | ⟨_, he2, ⟨e_5, hm3⟩⟩ => ?_
  subst e_5
  refine W.ok (ok_indexAddr (i := k) sl40 ty150 (h_l.mono hG1) rfl rfl ⟨by omega, by omega⟩) (W.ok (ok_fieldE fd150_1 rfl he2.form) (W.ok (ok_loadE (vs := [.int .i64 _]) ty3 he2 rfl rfl rfl (by simp)) (W.ok (ok_eql rfl rfl) (W.nil (thn_n ?_)))))
  refine WC.cond (b := _) rfl (fun h16 => ?_) (fun h16 => ?_)
  ·have p16 := of_decide_eq_true h16
   have hix : idxN isW l = ((k : Nat) : Int) := idxN_at (q := isW) (by omega) h16 hj
   refine WC.seq (WC.seq (WC.region (W.mv (W.ok (ok_eql rfl rfl) (W.nil (thn_n ?_))))))
   refine WC.cond (b := _) rfl (fun h18 => ?_) (fun h18 => ?_)
   ·have p18 := of_decide_eq_true h18
    refine WC.seq (WC.region (W.mv ?_))
    have hs7 := SlR.slice (h_l.mono hG1) (lo := 0) (hi := 1) (by omega) (by omega)
    refine W.ok (ok_slice (0) (1) sl40 ty150 (h_l.mono hG1) rfl rfl ⟨_, _, rfl, by omega⟩ ⟨by omega, by omega⟩) (W.as (W.nil (thn_n (WC.ret (thn_r (thn_r (blk_r (thn_r (thn_r (blk_r (thn_r ?_)))))))))))
    refine ⟨.inr rfl, [_], ⟨rfl, trivial⟩, [], sn9, ?_⟩
    refine ⟨rfl, _, rfl, ?_⟩
    exact SlR.cast hs7 (front_1 hix (by omega))
   have p18 := of_decide_eq_false h18
   refine WC.skip (thn_n (WC.seq (WC.region (W.mv (W.as (W.nil (thn_n (WC.giveO ho_3 pr9 (fun G8 hG8 hv8 => (WC.ret (thn_r (blk_r (thn_r (thn_r (blk_r (thn_r ?_))))))))))))))))
   refine ⟨.inr rfl, [_], ⟨rfl, trivial⟩, [], sn9, ?_⟩
   refine ⟨rfl, _, rfl, ?_⟩
   exact SlR.cast hv8 (front_k hix (by omega))
  have p16 := of_decide_eq_false h16
  refine WC.skip (thn_n (WC.region (W.mv (W.mv (W.mv ?_)))))
  have q13 := (h_l.mono hG1).at (i := k) (by omega)
  refine match q13 with | ⟨_, he9, ⟨e_12, hm10⟩⟩ => ?_
  subst e_12
  refine W.ok (ok_indexAddr (i := k) sl40 ty150 (h_l.mono hG1) rfl rfl ⟨by omega, by omega⟩) (W.ok (ok_loadE (vs := [.int .i64 _, .int .i64 _, .string _, .string _, .bool _, .string _]) ty150 he9 rfl rfl rfl (by simp)) (W.lit (e := eMsg) (l := [(l[k]'(by omega))]) (css := [[.int .i64 _, .int .i64 _, .string _, .string _, .bool _, .string _]]) sl40 ty150 zr150 rfl rfl rfl rfl rfl rfl ⟨⟨rfl, hm10⟩, trivial⟩ (fun bl14 G14 hG14 hv14 => (W.app (e := eMsg) sl40 ty150 zr150 rfl by150 rfl rfl ((ho_3.mono hG14)) (hv14) pr9 (by show (List.length _ + 1) * 72 ≤ _; rw [List.length_take]; omega) (fun v15 Ms16 ho17 => (W.as (W.nil (blk_n (thn_n (WC.region (W.mv (W.ok (ok_add rfl rfl (by omega)) (W.as (W.nil (thn_n ?_)))))))))))))))
  exact ⟨hG14, (k + 1, v15, Ms16), ⟨eqv, eqv, eqv, trivial⟩, ⟨rfl, (by have h := ho17; rw [List.take_succ_eq_append_getElem (by omega)]; exact h), by omega, fun j h hji => by
      by_cases e2 : j = k
      · subst e2; exact h16
      · exact hj j h (by omega)⟩, by omega⟩
 have p8 := of_decide_eq_false h8
 refine WC.exit (thn_x (thn_x (blk_h (thn_n (WC.seq (WC.region (W.mv (W.as (W.nil (thn_n (WC.giveO ho_3 pr9 (fun G18 hG18 hv18 => (WC.ret ?_)))))))))))))
 refine ⟨.inr rfl, [_], ⟨rfl, trivial⟩, [], sn9, ?_⟩
 refine ⟨rfl, _, rfl, ?_⟩
 exact SlR.cast hv18 (front_no (fun j h => hj j h (by omega)) (by omega))

theorem rfor_fc {G : GH} {v_P : Value} {P : List Str} (h_P : SlR eStr G v_P P) {v_l : Value} {l : List Msg} (h_l : SlR eMsg G v_l l) (i : Int) (hks : ∀ m ∈ l, m.key.b.size < 140737488355328) (hi : i64 i) :
    Fc Tryz.prog 83 [v_P, v_l, .int .i64 i] G [] (fun v G' M' => M' = [] ∧ ∃ u0, v = u0 ∧ SlR eMsg G' u0 (forN P l i)) := by
 obtain ⟨sa_P, sc_P, rfl⟩ := h_P.form
 obtain ⟨sa_l, sc_l, rfl⟩ := h_l.form
 have hl := h_l.len47
 have hlb : l.length * 72 ≤ 140737488355328 := h_l.bytes
 have hfl := front_len l
 have hkf : ∀ m ∈ frontN l, m.key.b.size < 140737488355328 := fun m h => hks m (front_mem h)
 refine Fc.intro (rs := [.tmp 6]) cl83 Tryz.func83 rfl Tryz.ntmps83 rfl rfl (fun w0 => ?_)
 refine WC.seq (WC.region (W.as (W.nil (thn_n (WC.seq (WC.region (W.as (W.nil (thn_n (WC.seq (WC.seq (WC.region (W.mv (W.call (Mp := []) (rfront_fc h_l) rfl pr9 ?_))))))))))))))
 intro _ G19 _ hG19 q21
 refine match q21 with | ⟨e_22, _, e_23, hv20⟩ => ?_
 subst e_22
 subst e_23
 have q25 := hv20.form
 refine match q25 with | ⟨sa_hv20, sc_hv20, e_24⟩ => ?_
 subst e_24
 refine W.ok (ok_len sl40 hv20 rfl) (W.mv (W.nil (thn_n (WC.block ?_))))
 refine WC.loop (X := (Nat) × Value × MH) (fun k => [(15, .int .i64 ((k.1 : Nat) : Int)), (0, .slice sa_P P.length sc_P), (2, .int .i64 i), (13, .slice sa_hv20 (frontN (l)).length sc_hv20), (14, .int .i64 (((frontN (l)).length : Nat) : Int)), (7, k.2.1)]) (fun k G Ml => Ml = (k.2.2 ++ []) ∧ OwnR eMsg 150 G k.2.1 (((frontN l).take k.1).filterMap (forF P i)) k.2.2 ∧ k.1 ≤ (frontN l).length) (fun k => (frontN l).length - k.1) (0, .slice none 0 0, ([] : MH)) ⟨eqv, eqv, eqv, eqv, eqv, eqv, trivial⟩ ?_ ?_
 ·exact ⟨rfl, (by exact OwnR.nil), by omega⟩
 rintro ⟨k, v_7, M_7⟩ gG26 G26 _ hG26 ⟨rfl, ho_7, hk⟩
 try dsimp only at ho_7 hk
 have hfm := fm_lek (forF P i) (frontN l) k
 refine WC.fr (f := setL gG26 [(15, .int .i64 ((k : Nat) : Int)), (0, .slice sa_P P.length sc_P), (2, .int .i64 i), (13, .slice sa_hv20 (frontN (l)).length sc_hv20), (14, .int .i64 (((frontN (l)).length : Nat) : Int)), (7, v_7)]) rfl (WC.seq (WC.region (W.ok (ok_lss rfl rfl) (W.nil (thn_n (WC.seq ?_))))))
 refine WC.cond (b := _) rfl (fun h16 => ?_) (fun h16 => ?_)
 ·have p16 := of_decide_eq_true h16
  refine WC.skip (thn_n (WC.seq (WC.block (WC.seq (WC.region ?_)))))
  have q31 := (hv20.mono hG26).at (i := k) (by omega)
  refine match q31 with | ⟨_, he27, ⟨e_30, hm28⟩⟩ => ?_
  subst e_30
  refine W.ok (ok_indexAddr (i := k) sl40 ty150 (hv20.mono hG26) rfl rfl ⟨by omega, by omega⟩) (W.ok (ok_loadE (vs := [.int .i64 _, .int .i64 _, .string _, .string _, .bool _, .string _]) ty150 he27 rfl rfl rfl (by simp)) (W.alloc zr150 (fun b32 => (W.store (i := 0) (vs := [.int .i64 _, .int .i64 _, .string _, .string _, .bool _, .string _]) (L' := [.int .i64 _, .int .i64 _, .string _, .string _, .bool _, .string _]) ty150 rfl rfl rfl rfl rfl rfl rfl rfl (W.nil (thn_n (WC.seq (WC.drawW _ sr9.k9 mix (by rintro _ _ _ _ ⟨h | h, _⟩ <;> cases h) (WD.tk 0 rfl (ok_loadB (i := 0) (vs := [.int .i64 _, .int .i64 _, .string _, .string _, .bool _, .string _]) ty150 rfl rfl rfl rfl (by simp)) (WD.tk 1 rfl (ok_mv) (WD.tk 2 rfl (ok_mv) ?_)))))))))))
  refine WD.any [3, 8] (by kernel_rfl) rfl ⟨⟨_, rfl, rfl, ?_⟩, ⟨_, rfl, rfl, ?_⟩, trivial⟩
  ·refine W.qcall (rrange_fc (h_P.mono (hG19.trans hG26)) _ hi) rfl (W.nil (WD.n9 Le.rfl sr9.k9 ?_))
   refine WD.any [4, 8] (by kernel_rfl) rfl ⟨⟨_, rfl, rfl, ?_⟩, ⟨_, rfl, rfl, ?_⟩, trivial⟩
   ·refine W.qcall (rclip_fc _ _ _ _ _ _ _ _ _ (hkf _ (List.getElem_mem (by omega : k < (frontN l).length)))) rfl (W.nil (WD.n9 Le.rfl sr9.k9 (WD.tk 5 rfl (ok_mv) (WD.tk 6 rfl (ok_extract rfl rfl) (WD.tk 7 rfl (ok_extract rfl rfl) (WD.a1 8 rfl (W.alloc zr150 (fun b33 => (W.nil (WD.n9 Le.rfl (sr9.k9.cons _) (WD.a1 9 rfl (W.store (i := 0) (vs := [.int .i64 _, .int .i64 _, .string _, .string _, .bool _, .string _]) (L' := [.int .i64 _, .int .i64 _, .string _, .string _, .bool _, .string _]) ty150 rfl rfl rfl rfl rfl rfl rfl rfl (W.nil (WD.n9 Le.rfl (sr9.k9.cons _) (WD.tk 10 rfl (ok_as) (WD.done (by kernel_rfl) (thn_n (WC.seq ?_))))))))))))))))))
    refine WC.region (W.mv (W.mv ?_))
    refine W.sp 28 rfl (fun h24_1 => ?_) (fun h24_1 => ?_)
    ·refine W.yes (dj := 28) rfl rfl h24_1 (W.mv (W.yes (dj := 28) rfl rfl h24_1 (W.ok (ok_fieldB fd150_2 rfl) (W.yes (dj := 28) rfl rfl h24_1 (W.ok (ok_loadB (i := 1) (vs := [.string _]) ty9 rfl rfl rfl rfl (by simp)) (W.yes (dj := 28) rfl rfl h24_1 (W.qcall (rroute_fc (h_P.mono (hG19.trans hG26)) _) rfl (W.yes (dj := 28) rfl rfl h24_1 (W.mv (W.yes (dj := 28) rfl rfl h24_1 (W.ok (ok_eql rfl rfl) (W.ok (ok_pick_t rfl h24_1) (W.nil (thn_n ?_))))))))))))))
     refine WC.cond (b := _) rfl (fun h34 => ?_) (fun h34 => ?_)
     ·have p34 := of_decide_eq_true h34
      refine WC.region (W.mv (W.ok (ok_loadB (i := 0) (vs := [.int .i64 _, .int .i64 _, .string _, .string _, .bool _, .string _]) ty150 rfl rfl rfl rfl (by simp)) (W.lit (e := eMsg) (l := [(Msg.clip (frontN l)[k] (rangeN P i)).1]) (css := [[.int .i64 _, .int .i64 _, .string _, .string _, .bool _, .string _]]) sl40 ty150 zr150 rfl rfl rfl rfl rfl rfl ⟨⟨rfl, clip_ok (by assumption)⟩, trivial⟩ (fun bl34 G34 hG34 hv34 => (W.app (e := eMsg) sl40 ty150 zr150 rfl by150 rfl rfl ((ho_7.mono hG34)) (hv34) (pmC (pmC pr9)) (by show (List.length _ + 1) * 72 ≤ _; omega) (fun v35 Ms36 ho37 => (W.perm (pmC (pmC pr9)).symm (W.as (W.nil (blk_n (thn_n (WC.region (W.ok (ok_add rfl rfl (by omega)) (W.mv (W.sub ((sr9.cons _).cons _) (W.nil (thn_n ?_)))))))))))))))))
      exact ⟨hG34, (k + 1, v35, Ms36), ⟨eqv, eqv, eqv, eqv, eqv, eqv, trivial⟩, ⟨rfl, (by have h := ho37; rw [for_t (by omega) p34 h24_1]; exact h), by omega⟩, by omega⟩
     have p34 := of_decide_eq_false h34
     refine WC.skip (blk_n (thn_n (WC.region (W.ok (ok_add rfl rfl (by omega)) (W.mv (W.sub ((sr9.cons _).cons _) (W.nil (thn_n ?_))))))))
     exact ⟨Le.rfl, (k + 1, v_7, M_7), ⟨eqv, eqv, eqv, eqv, eqv, eqv, trivial⟩, ⟨rfl, (by have h := ho_7; rw [for_n (by omega) (fun hh => p34 hh.1)]; exact h), by omega⟩, by omega⟩
    refine W.no (dj := 28) rfl rfl h24_1 (W.no (dj := 28) rfl rfl h24_1 (W.no (dj := 28) rfl rfl h24_1 (W.no (dj := 28) rfl rfl h24_1 (W.no (dj := 28) rfl rfl h24_1 (W.no (dj := 28) rfl rfl h24_1 (W.ok (ok_pick_f rfl h24_1) (W.nil (thn_n (WC.cond_f rfl rfl (WC.skip (blk_n (thn_n (WC.region (W.ok (ok_add rfl rfl (by omega)) (W.mv (W.sub ((sr9.cons _).cons _) ?_))))))))))))))))
    refine W.nil (thn_n ?_)
    exact ⟨Le.rfl, (k + 1, v_7, M_7), ⟨eqv, eqv, eqv, eqv, eqv, eqv, trivial⟩, ⟨rfl, (by have h := ho_7; rw [for_n (by omega) (fun hh => absurd (h24_1.symm.trans hh.2) (by simp))]; exact h), by omega⟩, by omega⟩
   refine W.alloc zr150 (fun b38 => (W.nil (WD.n9 Le.rfl (sr9.k9.cons _) (WD.a1 4 rfl (W.qcall (rclip_fc _ _ _ _ _ _ _ _ _ (hkf _ (List.getElem_mem (by omega : k < (frontN l).length)))) rfl (W.nil (WD.n9 Le.rfl (sr9.k9.cons _) (WD.tk 5 rfl (ok_mv) (WD.tk 6 rfl (ok_extract rfl rfl) (WD.tk 7 rfl (ok_extract rfl rfl) (WD.a1 9 rfl (W.store (i := 0) (vs := [.int .i64 _, .int .i64 _, .string _, .string _, .bool _, .string _]) (L' := [.int .i64 _, .int .i64 _, .string _, .string _, .bool _, .string _]) ty150 rfl rfl rfl rfl rfl rfl rfl rfl (W.nil (WD.n9 Le.rfl (sr9.k9.cons _) (WD.tk 10 rfl (ok_as) (WD.done (by kernel_rfl) (thn_n (WC.seq ?_))))))))))))))))))
   refine WC.region (W.mv (W.mv ?_))
   refine W.sp 28 rfl (fun h24_1 => ?_) (fun h24_1 => ?_)
   ·refine W.yes (dj := 28) rfl rfl h24_1 (W.mv (W.yes (dj := 28) rfl rfl h24_1 (W.ok (ok_fieldB fd150_2 rfl) (W.yes (dj := 28) rfl rfl h24_1 (W.ok (ok_loadB (i := 1) (vs := [.string _]) ty9 rfl rfl rfl rfl (by simp)) (W.yes (dj := 28) rfl rfl h24_1 (W.qcall (rroute_fc (h_P.mono (hG19.trans hG26)) _) rfl (W.yes (dj := 28) rfl rfl h24_1 (W.mv (W.yes (dj := 28) rfl rfl h24_1 (W.ok (ok_eql rfl rfl) (W.ok (ok_pick_t rfl h24_1) (W.nil (thn_n ?_))))))))))))))
    refine WC.cond (b := _) rfl (fun h34 => ?_) (fun h34 => ?_)
    ·have p34 := of_decide_eq_true h34
     refine WC.region (W.mv (W.ok (ok_loadB (i := 0) (vs := [.int .i64 _, .int .i64 _, .string _, .string _, .bool _, .string _]) ty150 rfl rfl rfl rfl (by simp)) (W.lit (e := eMsg) (l := [(Msg.clip (frontN l)[k] (rangeN P i)).1]) (css := [[.int .i64 _, .int .i64 _, .string _, .string _, .bool _, .string _]]) sl40 ty150 zr150 rfl rfl rfl rfl rfl rfl ⟨⟨rfl, clip_ok (by assumption)⟩, trivial⟩ (fun bl39 G39 hG39 hv39 => (W.app (e := eMsg) sl40 ty150 zr150 rfl by150 rfl rfl ((ho_7.mono hG39)) (hv39) (pmC (pmC pr9)) (by show (List.length _ + 1) * 72 ≤ _; omega) (fun v40 Ms41 ho42 => (W.perm (pmC (pmC pr9)).symm (W.as (W.nil (blk_n (thn_n (WC.region (W.ok (ok_add rfl rfl (by omega)) (W.mv (W.sub ((sr9.cons _).cons _) (W.nil (thn_n ?_)))))))))))))))))
     exact ⟨hG39, (k + 1, v40, Ms41), ⟨eqv, eqv, eqv, eqv, eqv, eqv, trivial⟩, ⟨rfl, (by have h := ho42; rw [for_t (by omega) p34 h24_1]; exact h), by omega⟩, by omega⟩
    have p34 := of_decide_eq_false h34
    refine WC.skip (blk_n (thn_n (WC.region (W.ok (ok_add rfl rfl (by omega)) (W.mv (W.sub ((sr9.cons _).cons _) (W.nil (thn_n ?_))))))))
    exact ⟨Le.rfl, (k + 1, v_7, M_7), ⟨eqv, eqv, eqv, eqv, eqv, eqv, trivial⟩, ⟨rfl, (by have h := ho_7; rw [for_n (by omega) (fun hh => p34 hh.1)]; exact h), by omega⟩, by omega⟩
   refine W.no (dj := 28) rfl rfl h24_1 (W.no (dj := 28) rfl rfl h24_1 (W.no (dj := 28) rfl rfl h24_1 (W.no (dj := 28) rfl rfl h24_1 (W.no (dj := 28) rfl rfl h24_1 (W.no (dj := 28) rfl rfl h24_1 (W.ok (ok_pick_f rfl h24_1) (W.nil (thn_n (WC.cond_f rfl rfl (WC.skip (blk_n (thn_n (WC.region (W.ok (ok_add rfl rfl (by omega)) (W.mv (W.sub ((sr9.cons _).cons _) ?_))))))))))))))))
   refine W.nil (thn_n ?_)
   exact ⟨Le.rfl, (k + 1, v_7, M_7), ⟨eqv, eqv, eqv, eqv, eqv, eqv, trivial⟩, ⟨rfl, (by have h := ho_7; rw [for_n (by omega) (fun hh => absurd (h24_1.symm.trans hh.2) (by simp))]; exact h), by omega⟩, by omega⟩
  refine W.alloc zr150 (fun b43 => (W.nil (WD.n9 Le.rfl (sr9.k9.cons _) (WD.a1 3 rfl (W.qcall (rrange_fc (h_P.mono (hG19.trans hG26)) _ hi) rfl (W.nil (WD.n9 Le.rfl (sr9.k9.cons _) (WD.a1 4 rfl (W.qcall (rclip_fc _ _ _ _ _ _ _ _ _ (hkf _ (List.getElem_mem (by omega : k < (frontN l).length)))) rfl (W.nil (WD.n9 Le.rfl (sr9.k9.cons _) (WD.tk 5 rfl (ok_mv) (WD.tk 6 rfl (ok_extract rfl rfl) (WD.tk 7 rfl (ok_extract rfl rfl) (WD.a1 9 rfl (W.store (i := 0) (vs := [.int .i64 _, .int .i64 _, .string _, .string _, .bool _, .string _]) (L' := [.int .i64 _, .int .i64 _, .string _, .string _, .bool _, .string _]) ty150 rfl rfl rfl rfl rfl rfl rfl rfl (W.nil (WD.n9 Le.rfl (sr9.k9.cons _) ?_))))))))))))))))))
  refine WD.tk 10 rfl (ok_as) (WD.done (by kernel_rfl) (thn_n (WC.seq (WC.region (W.mv (W.mv ?_))))))
  refine W.sp 28 rfl (fun h24_1 => ?_) (fun h24_1 => ?_)
  ·refine W.yes (dj := 28) rfl rfl h24_1 (W.mv (W.yes (dj := 28) rfl rfl h24_1 (W.ok (ok_fieldB fd150_2 rfl) (W.yes (dj := 28) rfl rfl h24_1 (W.ok (ok_loadB (i := 1) (vs := [.string _]) ty9 rfl rfl rfl rfl (by simp)) (W.yes (dj := 28) rfl rfl h24_1 (W.qcall (rroute_fc (h_P.mono (hG19.trans hG26)) _) rfl (W.yes (dj := 28) rfl rfl h24_1 (W.mv (W.yes (dj := 28) rfl rfl h24_1 (W.ok (ok_eql rfl rfl) (W.ok (ok_pick_t rfl h24_1) (W.nil (thn_n ?_))))))))))))))
   refine WC.cond (b := _) rfl (fun h34 => ?_) (fun h34 => ?_)
   ·have p34 := of_decide_eq_true h34
    refine WC.region (W.mv (W.ok (ok_loadB (i := 0) (vs := [.int .i64 _, .int .i64 _, .string _, .string _, .bool _, .string _]) ty150 rfl rfl rfl rfl (by simp)) (W.lit (e := eMsg) (l := [(Msg.clip (frontN l)[k] (rangeN P i)).1]) (css := [[.int .i64 _, .int .i64 _, .string _, .string _, .bool _, .string _]]) sl40 ty150 zr150 rfl rfl rfl rfl rfl rfl ⟨⟨rfl, clip_ok (by assumption)⟩, trivial⟩ (fun bl44 G44 hG44 hv44 => (W.app (e := eMsg) sl40 ty150 zr150 rfl by150 rfl rfl ((ho_7.mono hG44)) (hv44) (pmC (pmC pr9)) (by show (List.length _ + 1) * 72 ≤ _; omega) (fun v45 Ms46 ho47 => (W.perm (pmC (pmC pr9)).symm (W.as (W.nil (blk_n (thn_n (WC.region (W.ok (ok_add rfl rfl (by omega)) (W.mv (W.sub ((sr9.cons _).cons _) (W.nil (thn_n ?_)))))))))))))))))
    exact ⟨hG44, (k + 1, v45, Ms46), ⟨eqv, eqv, eqv, eqv, eqv, eqv, trivial⟩, ⟨rfl, (by have h := ho47; rw [for_t (by omega) p34 h24_1]; exact h), by omega⟩, by omega⟩
   have p34 := of_decide_eq_false h34
   refine WC.skip (blk_n (thn_n (WC.region (W.ok (ok_add rfl rfl (by omega)) (W.mv (W.sub ((sr9.cons _).cons _) (W.nil (thn_n ?_))))))))
   exact ⟨Le.rfl, (k + 1, v_7, M_7), ⟨eqv, eqv, eqv, eqv, eqv, eqv, trivial⟩, ⟨rfl, (by have h := ho_7; rw [for_n (by omega) (fun hh => p34 hh.1)]; exact h), by omega⟩, by omega⟩
  refine W.no (dj := 28) rfl rfl h24_1 (W.no (dj := 28) rfl rfl h24_1 (W.no (dj := 28) rfl rfl h24_1 (W.no (dj := 28) rfl rfl h24_1 (W.no (dj := 28) rfl rfl h24_1 (W.no (dj := 28) rfl rfl h24_1 (W.ok (ok_pick_f rfl h24_1) (W.nil (thn_n (WC.cond_f rfl rfl (WC.skip (blk_n (thn_n (WC.region (W.ok (ok_add rfl rfl (by omega)) (W.mv (W.sub ((sr9.cons _).cons _) ?_))))))))))))))))
  refine W.nil (thn_n ?_)
  exact ⟨Le.rfl, (k + 1, v_7, M_7), ⟨eqv, eqv, eqv, eqv, eqv, eqv, trivial⟩, ⟨rfl, (by have h := ho_7; rw [for_n (by omega) (fun hh => absurd (h24_1.symm.trans hh.2) (by simp))]; exact h), by omega⟩, by omega⟩
 have p16 := of_decide_eq_false h16
 refine WC.exit (thn_x (thn_x (blk_h (thn_n (WC.seq (WC.region (W.mv (W.as (W.nil (thn_n (WC.giveO ho_7 pr9 (fun G48 hG48 hv48 => (WC.ret ?_)))))))))))))
 refine ⟨.inr rfl, [_], ⟨rfl, trivial⟩, [], sn9, ?_⟩
 refine ⟨rfl, _, rfl, ?_⟩
 · have h := hv48; rw [List.take_of_length_le (by omega)] at h; exact h

end Go.Proofs.YtmbafmifalppaaaGreat
namespace Go.Proofs.YtmbafmifalppaaaGreat
open Go Go.Fw Go.RowKit
theorem fvictim_fc {G : GH} {v_P : Value} {P : List Str} (h_P : SlR eStr G v_P P) {v_l : Value} {l : List Msg} (h_l : SlR eMsg G v_l l) (hs : ∀ m ∈ l, m.key.b.size ≤ 16 ∧ m.val.b.size ≤ 16) (hl9 : l.length ≤ 100000 ∧ P.length ≤ 100000) (hr : rising P = true) :
    Fc Tryz.prog 75 [v_P, v_l] G [] (fun v _ _ => v = .tuple #[.int .i64 ((victimN P l).1), .bool ((victimN P l).2)]) := by
 obtain ⟨sa_P, sc_P, rfl⟩ := h_P.form
 obtain ⟨sa_l, sc_l, rfl⟩ := h_l.form
 have hl := h_l.len47
 have hlP := h_P.len47
 have hfl := front_len l
 have hfs : ∀ m ∈ frontN l, m.key.b.size ≤ 16 ∧ m.val.b.size ≤ 16 := fun m h => hs m (front_mem h)
 refine Fc.intro (rs := [.tmp 4, .tmp 5]) cl75 Tryz.func75 rfl Tryz.ntmps75 rfl rfl (fun w0 => ?_)
 refine WC.seq (WC.region (W.as (W.as (W.nil (thn_n (WC.seq (WC.seq (WC.region (W.mv (W.ok (ok_len sl40 h_l rfl) (W.ok (ok_eql rfl rfl) (W.nil (thn_n ?_)))))))))))))
 refine WC.cond (b := _) rfl (fun h14 => ?_) (fun h14 => ?_)
 ·have p14 := of_decide_eq_true h14
  refine WC.seq (WC.region (W.as (W.as (W.nil (thn_n (WC.ret (thn_r ?_)))))))
  refine ⟨.inr rfl, [_, _], ⟨rfl, rfl, trivial⟩, [], sn9, ?_⟩
  show Value.tuple #[Value.int _ _, Value.bool _] = _
  rw [victim_n (by omega)]
 have p14 := of_decide_eq_false h14
 refine WC.skip (thn_n (WC.seq (WC.region (W.mv (W.ok (ok_len sl38 h_P rfl) (W.ok (Ok.int (n := ((P.length + 1 : Nat) : Int)) (ok_add rfl rfl (by omega)) (by omega)) (W.mkSl (e := eInt) (a0 := (0 : Int)) (n := P.length + 1) sl39 ty3 zr3 rfl by3 (⟨rfl, by decide, by decide⟩) rfl rfl (by first | (show _ * 8 ≤ 140737488355328; omega) | (show _ * 8 ≤ 16777216; omega) | (show _ * 1 ≤ 16777216; omega)) (by first | (show _ * 8 ≤ 140737488355328; omega) | (show _ * 8 ≤ 16777216; omega) | (show _ * 1 ≤ 16777216; omega)) (fun v1 Ms2 ho3 => ?_))))))))
 have q7 := ho3.form
 refine match q7 with | ⟨sa4, sc5, e_6⟩ => ?_
 subst e_6
 refine W.as (W.nil (thn_n (WC.seq (WC.seq (WC.region (W.mv (W.call (Mp := []) (front_fc h_l) rfl pr9 ?_)))))))
 intro _ G8 _ hG8 q10
 refine match q10 with | ⟨e_11, _, e_12, hv9⟩ => ?_
 subst e_11
 subst e_12
 have q14 := hv9.form
 refine match q14 with | ⟨sa_hv9, sc_hv9, e_13⟩ => ?_
 subst e_13
 refine W.ok (ok_len sl40 hv9 rfl) (W.mv (W.nil (thn_n (WC.block ?_))))
 refine WC.loop (X := (Nat) × Value × MH) (fun q => [(22, .int .i64 ((q.1 : Nat) : Int)), (0, .slice sa_P P.length sc_P), (20, .slice sa_hv9 ((frontN l)).length sc_hv9), (21, .int .i64 ((((frontN l)).length : Nat) : Int)), (6, q.2.1)]) (fun q G Ml => Ml = (q.2.2 ++ []) ∧ OwnR eInt 3 G q.2.1 (wts P ((frontN l).take q.1)) q.2.2 ∧ q.1 ≤ (frontN l).length) (fun q => (frontN l).length - q.1) (0, .slice sa4 ((List.replicate (P.length + 1) (0 : Int))).length sc5, Ms2) ⟨eqv, eqv, eqv, eqv, eqv, trivial⟩ ?_ ?_
 ·exact ⟨rfl, (by exact OwnR.cast (ho3.mono hG8) (wts_nil P)), by omega⟩
 rintro ⟨q, v_6, M_6⟩ gG15 G15 _ hG15 ⟨rfl, ho_6, hq⟩
 try dsimp only at ho_6 hq
 have hwl := wts_len P ((frontN l).take q)
 refine WC.fr (f := setL gG15 [(22, .int .i64 ((q : Nat) : Int)), (0, .slice sa_P P.length sc_P), (20, .slice sa_hv9 ((frontN l)).length sc_hv9), (21, .int .i64 ((((frontN l)).length : Nat) : Int)), (6, v_6)]) rfl (WC.seq (WC.region (W.ok (ok_lss rfl rfl) (W.nil (thn_n (WC.seq ?_))))))
 refine WC.cond (b := _) rfl (fun h23 => ?_) (fun h23 => ?_)
 ·have p23 := of_decide_eq_true h23
  have hrl : (routeN P ((frontN l)[q]'(by omega)).key) < (wts P ((frontN l).take q)).length := by rw [wts_len]; have : (routeN P ((frontN l)[q]'(by omega)).key) ≤ P.length := List.length_filter_le _ _; omega
  have hg9 := wts_get hrl
  have hb9 := wOf_le P ((frontN l).take q) (routeN P ((frontN l)[q]'(by omega)).key) (fun m h => hfs m (List.mem_of_mem_take h))
  have hb8 := wOf_pos P ((frontN l).take q) (routeN P ((frontN l)[q]'(by omega)).key)
  have ht9 : ((frontN l).take q).length ≤ 100000 := by rw [List.length_take]; omega
  have hz9 := size_36 (hfs _ (List.getElem_mem (by omega : q < (frontN l).length)))
  have hwi : i64 ((wts P ((frontN l).take q))[(routeN P ((frontN l)[q]'(by omega)).key)]'hrl + ((frontN l)[q]'(by omega)).size) := ⟨by omega, by omega⟩
  have he9 : Msg.size ⟨((frontN l)[q]'(by omega)).stamp, ((frontN l)[q]'(by omega)).kind, ((frontN l)[q]'(by omega)).key, ((frontN l)[q]'(by omega)).hi, ((frontN l)[q]'(by omega)).opn, ((frontN l)[q]'(by omega)).val⟩ = ((frontN l)[q]'(by omega)).size := rfl
  refine WC.skip (thn_n (WC.seq (WC.block (WC.seq (WC.region ?_)))))
  have q20 := (hv9.mono hG15).at (i := q) (by omega)
  refine match q20 with | ⟨_, he16, ⟨e_19, hm17⟩⟩ => ?_
  subst e_19
  refine W.ok (ok_indexAddr (i := q) sl40 ty150 (hv9.mono hG15) rfl rfl ⟨by omega, by omega⟩) (W.ok (ok_loadE (vs := [.int .i64 _, .int .i64 _, .string _, .string _, .bool _, .string _]) ty150 he16 rfl rfl rfl (by simp)) (W.alloc zr150 (fun b21 => (W.store (i := 0) (vs := [.int .i64 _, .int .i64 _, .string _, .string _, .bool _, .string _]) (L' := [.int .i64 _, .int .i64 _, .string _, .string _, .bool _, .string _]) ty150 rfl rfl rfl rfl rfl rfl rfl rfl (W.nil (thn_n (WC.drawW _ sn9.k9 mix (by rintro _ _ _ _ ⟨h | h, _⟩ <;> cases h) (WD.tk 0 rfl (ok_mv) (WD.tk 1 rfl (ok_mv) (WD.tk 2 rfl (ok_fieldB fd150_2 rfl) (WD.tk 3 rfl (ok_loadB (i := 0) (vs := [.string _]) ty9 rfl rfl rfl rfl (by simp)) (WD.tk 7 rfl (ok_loadB (i := 0) (vs := [.int .i64 _, .int .i64 _, .string _, .string _, .bool _, .string _]) ty150 rfl rfl rfl rfl (by simp)) (WD.a1 4 rfl (W.qcall (broute_fc (h_P.mono (hG8.trans hG15)) _ hr) rfl (W.nil (WD.n9 Le.rfl sn9.k9 ?_))))))))))))))))
  have q25 := ho_6.at (i := (routeN P ((frontN l)[q]'(by omega)).key)) (by omega)
  refine match q25 with | ⟨_, he22, ⟨e_24, hi23⟩⟩ => ?_
  subst e_24
  refine WD.tk 5 rfl (ok_indexAddrO (i := (routeN P ((frontN l)[q]'(by omega)).key)) sl39 ty3 ho_6 rfl rfl ⟨rfl, by omega⟩) ?_
  refine WD.any [6, 8] (by kernel_rfl) rfl ⟨⟨_, rfl, rfl, ?_⟩, ⟨_, rfl, rfl, ?_⟩, trivial⟩
  ·refine W.ok (ok_loadO (vs := [.int .i64 _]) ty3 he22 (pmC pr9) rfl rfl rfl (by simp)) (W.nil (WD.n9 Le.rfl sn9.k9 (WD.a1 8 rfl (W.qcall (mmsize_fc _ _ _ _ _ _) rfl (W.nil (WD.n9 Le.rfl sn9.k9 (WD.tk 9 rfl (ok_add rfl rfl (by omega)) ?_)))))))
   have q29 := ho_6.at (i := (routeN P ((frontN l)[q]'(by omega)).key)) (by omega)
   refine match q29 with | ⟨_, he26, ⟨e_28, hi27⟩⟩ => ?_
   subst e_28
   refine WD.tk 10 rfl (ok_indexAddrO (i := (routeN P ((frontN l)[q]'(by omega)).key)) sl39 ty3 ho_6 rfl rfl ⟨rfl, by omega⟩) (WD.a1 11 rfl (W.storeO (i := (routeN P ((frontN l)[q]'(by omega)).key)) (o := 0) (vs := [.int .i64 _]) (a' := ((wts P ((frontN l).take q))[(routeN P ((frontN l)[q]'(by omega)).key)]'hrl + ((frontN l)[q]'(by omega)).size)) ty3 rfl rfl rfl rfl rfl (ho_6) (pmC pr9) (by omega) (by decide) (fun cs h => by rw [h.1]; exact ⟨rfl, hwi⟩) (fun Ms30 ho31 => (W.perm (pmC pr9).symm (W.nil (WD.n9 Le.rfl sn9.k9 (WD.done (by kernel_rfl) (blk_n (thn_n (WC.region (W.ok (ok_add rfl rfl (by omega)) (W.mv (W.sub (sr9.cons _) (W.nil (thn_n ?_)))))))))))))))
   exact ⟨Le.rfl, (q + 1, v_6, Ms30), ⟨eqv, eqv, eqv, eqv, eqv, trivial⟩, ⟨rfl, (by have h := ho31; rw [wts_set (by omega) hrl] at h; exact h), by omega⟩, by omega⟩
  refine W.qcall (mmsize_fc _ _ _ _ _ _) rfl (W.nil (WD.n9 Le.rfl sn9.k9 (WD.a1 6 rfl (W.ok (ok_loadO (vs := [.int .i64 _]) ty3 he22 (pmC pr9) rfl rfl rfl (by simp)) (W.nil (WD.n9 Le.rfl sn9.k9 (WD.tk 9 rfl (ok_add rfl rfl (by omega)) ?_)))))))
  have q35 := ho_6.at (i := (routeN P ((frontN l)[q]'(by omega)).key)) (by omega)
  refine match q35 with | ⟨_, he32, ⟨e_34, hi33⟩⟩ => ?_
  subst e_34
  refine WD.tk 10 rfl (ok_indexAddrO (i := (routeN P ((frontN l)[q]'(by omega)).key)) sl39 ty3 ho_6 rfl rfl ⟨rfl, by omega⟩) (WD.a1 11 rfl (W.storeO (i := (routeN P ((frontN l)[q]'(by omega)).key)) (o := 0) (vs := [.int .i64 _]) (a' := ((wts P ((frontN l).take q))[(routeN P ((frontN l)[q]'(by omega)).key)]'hrl + ((frontN l)[q]'(by omega)).size)) ty3 rfl rfl rfl rfl rfl (ho_6) (pmC pr9) (by omega) (by decide) (fun cs h => by rw [h.1]; exact ⟨rfl, hwi⟩) (fun Ms36 ho37 => (W.perm (pmC pr9).symm (W.nil (WD.n9 Le.rfl sn9.k9 (WD.done (by kernel_rfl) (blk_n (thn_n (WC.region (W.ok (ok_add rfl rfl (by omega)) (W.mv (W.sub (sr9.cons _) (W.nil (thn_n ?_)))))))))))))))
  exact ⟨Le.rfl, (q + 1, v_6, Ms36), ⟨eqv, eqv, eqv, eqv, eqv, trivial⟩, ⟨rfl, (by have h := ho37; rw [wts_set (by omega) hrl] at h; exact h), by omega⟩, by omega⟩
 have p23 := of_decide_eq_false h23
 refine WC.exit (thn_x (thn_x (blk_h (thn_n (WC.seq ?_)))))
 have hw38 := ho_6
 rw [List.take_of_length_le (by omega : (frontN l).length ≤ q)] at hw38
 refine WC.region (W.as (W.nil (thn_n (WC.seq (WC.seq (WC.region (W.mv (W.ok (ok_lenO sl39 hw38 rfl) (W.mv (W.nil (thn_n (WC.block ?_))))))))))))
 refine WC.loop (X := Nat) (fun k => [(9, .int .i64 (((bestTo (wOf P (frontN l)) k) : Nat) : Int)), (40, .int .i64 ((k : Nat) : Int)), (6, v_6), (38, v_6), (39, .int .i64 ((((wts P (frontN l))).length : Nat) : Int))]) (fun k _ Ml => Ml = (M_6 ++ []) ∧ k ≤ P.length + 1) (fun k => P.length + 1 - k) 0 ⟨eqv, eqv, eqv, eqv, eqv, trivial⟩ ?_ ?_
 ·exact ⟨rfl, by omega⟩
 rintro k gG39 G39 _ hG39 ⟨rfl, hk⟩
 have hbl := bestTo_lt (wOf P (frontN l)) k
 have hwl9 := wts_len P (frontN l)
 refine WC.seq (WC.region (W.ok (ok_lss rfl rfl) (W.nil (thn_n (WC.seq ?_)))))
 refine WC.cond (b := _) rfl (fun h41 => ?_) (fun h41 => ?_)
 ·have p41 := of_decide_eq_true h41
  refine WC.skip (thn_n (WC.seq (WC.block (WC.seq (WC.region (W.mv ?_))))))
  have q43 := (hw38.mono hG39).at (i := k) (by omega)
  refine match q43 with | ⟨_, he40, ⟨e_42, hi41⟩⟩ => ?_
  subst e_42
  refine W.ok (ok_indexAddrO (i := k) sl39 ty3 (hw38.mono hG39) rfl rfl ⟨by omega, by omega⟩) (W.ok (ok_loadO (vs := [.int .i64 _]) ty3 he40 pr9 rfl rfl rfl (by simp)) (W.as (W.as (W.nil (thn_n (WC.seq (WC.region (W.mv (W.mv (W.mv ?_))))))))))
  have q47 := (hw38.mono hG39).at (i := (bestTo (wOf P (frontN l)) k)) (by omega)
  refine match q47 with | ⟨_, he44, ⟨e_46, hi45⟩⟩ => ?_
  subst e_46
  refine W.ok (ok_indexAddrO (i := (bestTo (wOf P (frontN l)) k)) sl39 ty3 (hw38.mono hG39) rfl rfl ⟨rfl, by omega⟩) (W.ok (ok_loadO (vs := [.int .i64 _]) ty3 he44 pr9 rfl rfl rfl (by simp)) (W.ok (ok_gtr rfl rfl) (W.nil (thn_n ?_))))
  refine WC.cond (b := _) rfl (fun h50 => ?_) (fun h50 => ?_)
  ·have p50 := of_decide_eq_true h50
   refine WC.region (W.mv (W.as (W.nil (blk_n (thn_n (WC.region (W.ok (ok_add rfl rfl (by omega)) (W.mv (W.nil (thn_n ?_))))))))))
   exact ⟨Le.rfl, k + 1, ⟨(iv (by rw [bestTo_t (by rw [wts_get, wts_get] at p50; omega)])), eqv, eqv, eqv, eqv, trivial⟩, ⟨rfl, by omega⟩, by omega⟩
  have p50 := of_decide_eq_false h50
  refine WC.skip (blk_n (thn_n (WC.region (W.ok (ok_add rfl rfl (by omega)) (W.mv (W.nil (thn_n ?_)))))))
  exact ⟨Le.rfl, k + 1, ⟨(iv (by rw [bestTo_f (by rw [wts_get, wts_get] at p50; omega)])), eqv, eqv, eqv, eqv, trivial⟩, ⟨rfl, by omega⟩, by omega⟩
 have p41 := of_decide_eq_false h41
 refine WC.exit (thn_x (thn_x (blk_h (thn_n (WC.seq (WC.region (W.mv (W.as (W.as (W.nil (thn_n (WC.ret ?_))))))))))))
 refine ⟨.inr rfl, [_, _], ⟨rfl, rfl, trivial⟩, [], sn9, ?_⟩
 show Value.tuple #[Value.int _ _, Value.bool _] = _
 rw [victim_p (by omega), show k = P.length + 1 by omega]

end Go.Proofs.YtmbafmifalppaaaGreat
namespace Go.Proofs.YtmbafmifalppaaaGreat
open Go Go.Fw Go.RowKit
theorem nfull_fc {G : GH} (cfan : Int) (cleaf : Int) (cbud : Int) (cslots : Int) (crest : Int) {cs_n : List Value} {n : Nd} (h_n : NodeC G cs_n n) :
    Fc Tryz.prog 74 [.agg #[.int .i64 cfan, .int .i64 cleaf, .int .i64 cbud, .int .i64 cslots, .int .i64 crest], .agg (List.toArray cs_n)] G [] (fun v _ _ => v = .bool (fullN (⟨cfan, cleaf, cbud, cslots, crest⟩ : Cfg) n)) := by
 obtain ⟨pa_n, pc_n, ka_n, kc_n, ma_n, mc_n, ra_n, rc_n, rfl, hp_n, hk_n, hm_n, hr_n, hok_n⟩ := h_n
 have h1 := hp_n.len47
 have h2 := hk_n.len47
 have h3 := hm_n.len47
 have h4 := hr_n.len47
 refine Fc.intro (rs := [.tmp 4]) cl74 Tryz.func74 rfl Tryz.ntmps74 rfl rfl (fun w0 => ?_)
 refine WC.seq (WC.region (W.box (L := [.int .i64 _, .int .i64 _, .int .i64 _, .int .i64 _, .int .i64 _]) rfl rfl (fun b40 => (W.box (L := (nd9 _ _ _ _ _ _ _ _ _ _ _ _ _ _ _ _ _ _)) rfl rfl (fun b41 => (W.as (W.nil (thn_n (WC.seq (WC.seq (WC.region (W.ok (ok_fieldB fd43_1 rfl) (W.ok (ok_loadB (i := 0) (vs := [.int .i64 _]) ty3 rfl rfl rfl rfl (by simp)) (W.ok (ok_eql rfl rfl) (W.nil (thn_n ?_))))))))))))))))
 refine WC.cond (b := _) rfl (fun h7 => ?_) (fun h7 => ?_)
 ·have p7 := of_decide_eq_true h7
  refine WC.seq (WC.region (W.ok (ok_fieldB fd43_9 rfl) (W.ok (ok_loadB (i := 0) (vs := [.slice _ _ _]) ty41 rfl rfl rfl rfl (by simp)) (W.ok (ok_len sl41 hr_n rfl) (W.ok (ok_fieldB fd23_1 rfl) (W.ok (ok_loadB (i := 1) (vs := [.int .i64 _]) ty3 rfl rfl rfl rfl (by simp)) (W.ok (ok_geq rfl rfl) (W.as (W.nil (thn_n (WC.ret (thn_r ?_))))))))))))
  refine ⟨.inr rfl, [_], ⟨rfl, trivial⟩, [], sn9, ?_⟩
  refine congrArg Value.bool ?_
  first | (rw [fullN, if_pos p7]; done) | (rw [fullN, if_pos p7]; first | (simp_all; done) | (simp_all; omega))
 have p7 := of_decide_eq_false h7
 refine WC.skip (thn_n (WC.seq (WC.region (W.ok (ok_fieldB fd43_3 rfl) (W.ok (ok_loadB (i := 0) (vs := [.slice _ _ _]) ty39 rfl rfl rfl rfl (by simp)) (W.ok (ok_len sl39 hk_n rfl) (W.ok (ok_fieldB fd23_0 rfl) (W.ok (ok_loadB (i := 1) (vs := [.int .i64 _]) ty3 rfl rfl rfl rfl (by simp)) (W.ok (ok_geq rfl rfl) (W.as (W.nil (thn_n (WC.ret ?_)))))))))))))
 refine ⟨.inr rfl, [_], ⟨rfl, trivial⟩, [], sn9, ?_⟩
 refine congrArg Value.bool ?_
 first | (rw [fullN, if_neg p7]; done) | (rw [fullN, if_neg p7]; first | (simp_all; done) | (simp_all; omega))

theorem rfull_fc {G : GH} (cfan : Int) (cleaf : Int) (cbud : Int) (cslots : Int) (crest : Int) {cs_n : List Value} {n : Nd} (h_n : NodeC G cs_n n) :
    Fc Tryz.prog 77 [.agg #[.int .i64 cfan, .int .i64 cleaf, .int .i64 cbud, .int .i64 cslots, .int .i64 crest], .agg (List.toArray cs_n)] G [] (fun v _ _ => v = .bool (fullN (⟨cfan, cleaf, cbud, cslots, crest⟩ : Cfg) n)) := by
 obtain ⟨pa_n, pc_n, ka_n, kc_n, ma_n, mc_n, ra_n, rc_n, rfl, hp_n, hk_n, hm_n, hr_n, hok_n⟩ := h_n
 have h1 := hp_n.len47
 have h2 := hk_n.len47
 have h3 := hm_n.len47
 have h4 := hr_n.len47
 refine Fc.intro (rs := [.tmp 4]) cl77 Tryz.func77 rfl Tryz.ntmps77 rfl rfl (fun w0 => ?_)
 refine WC.seq (WC.region (W.box (L := [.int .i64 _, .int .i64 _, .int .i64 _, .int .i64 _, .int .i64 _]) rfl rfl (fun b42 => (W.box (L := (nd9 _ _ _ _ _ _ _ _ _ _ _ _ _ _ _ _ _ _)) rfl rfl (fun b43 => (W.as (W.nil (thn_n (WC.seq (WC.region (W.ok (ok_fieldB fd43_1 rfl) (W.ok (ok_loadB (i := 0) (vs := [.int .i64 _]) ty3 rfl rfl rfl rfl (by simp)) (W.ok (ok_eql rfl rfl) (W.mv ?_))))))))))))))
 refine W.sp 8 rfl (fun h7 => ?_) (fun h7 => ?_)
 ·have p7 := of_decide_eq_true h7
  refine W.yes (dj := 8) rfl rfl h7 (W.ok (ok_fieldB fd43_9 rfl) (W.yes (dj := 8) rfl rfl h7 (W.ok (ok_loadB (i := 0) (vs := [.slice _ _ _]) ty41 rfl rfl rfl rfl (by simp)) (W.yes (dj := 8) rfl rfl h7 (W.ok (ok_len sl41 hr_n rfl) (W.yes (dj := 8) rfl rfl h7 (W.ok (ok_fieldB fd23_1 rfl) (W.yes (dj := 8) rfl rfl h7 (W.ok (ok_loadB (i := 1) (vs := [.int .i64 _]) ty3 rfl rfl rfl rfl (by simp)) (W.yes (dj := 8) rfl rfl h7 (W.ok (ok_geq rfl rfl) (W.ok (ok_pick_t rfl h7) (W.mv ?_)))))))))))))
  refine W.sp 16 rfl (fun h14 => ?_) (fun h14 => ?_)
  ·have p14 := of_decide_eq_true h14
   refine W.no (dj := 16) rfl rfl h14 (W.no (dj := 16) rfl rfl h14 (W.no (dj := 16) rfl rfl h14 (W.no (dj := 16) rfl rfl h14 (W.nou (dj := 20) rfl rfl (W.nou (dj := 20) rfl rfl (W.nou (dj := 20) rfl rfl (W.nou (dj := 20) rfl rfl (W.nou (dj := 20) rfl rfl (W.nou (dj := 20) rfl rfl (W.no (dj := 16) rfl rfl h14 (W.ok (ok_pick_t rfl h14) (W.as (W.nil (thn_n ?_))))))))))))))
   refine WC.ret ?_
   refine ⟨.inr rfl, [_], ⟨rfl, trivial⟩, [], sn9, ?_⟩
   refine congrArg Value.bool ?_
   first | (rw [fullN, if_pos p7]; done) | (rw [fullN, if_pos p7]; first | (simp_all; done) | (simp_all; omega))
  have p14 := of_decide_eq_false h14
  refine W.yes (dj := 16) rfl rfl h14 (W.ok (ok_fieldB fd43_1 rfl) (W.yes (dj := 16) rfl rfl h14 (W.ok (ok_loadB (i := 0) (vs := [.int .i64 _]) ty3 rfl rfl rfl rfl (by simp)) (W.yes (dj := 16) rfl rfl h14 (W.ok (ok_neq rfl rfl) (W.yes (dj := 16) rfl rfl h14 (W.mv ?_)))))))
  refine W.sp 20 rfl (fun h19 => ?_) (fun h19 => ?_)
  ·have p19 := nd_t h19
   refine W.yes (dj := 20) rfl rfl h19 (W.ok (ok_fieldB fd43_3 rfl) (W.yes (dj := 20) rfl rfl h19 (W.ok (ok_loadB (i := 0) (vs := [.slice _ _ _]) ty39 rfl rfl rfl rfl (by simp)) (W.yes (dj := 20) rfl rfl h19 (W.ok (ok_len sl39 hk_n rfl) (W.yes (dj := 20) rfl rfl h19 (W.ok (ok_fieldB fd23_0 rfl) (W.yes (dj := 20) rfl rfl h19 (W.ok (ok_loadB (i := 1) (vs := [.int .i64 _]) ty3 rfl rfl rfl rfl (by simp)) (W.yes (dj := 20) rfl rfl h19 (W.ok (ok_geq rfl rfl) (W.yes (dj := 16) rfl rfl h14 (W.ok (ok_pick_t rfl h19) ?_)))))))))))))
   refine W.ok (ok_pick_f rfl h14) (W.as (W.nil (thn_n (WC.ret ?_))))
   refine ⟨.inr rfl, [_], ⟨rfl, trivial⟩, [], sn9, ?_⟩
   refine congrArg Value.bool ?_
   first | (rw [fullN, if_pos p7]; done) | (rw [fullN, if_pos p7]; first | (simp_all; done) | (simp_all; omega))
  have p19 := nd_f h19
  refine W.no (dj := 20) rfl rfl h19 (W.no (dj := 20) rfl rfl h19 (W.no (dj := 20) rfl rfl h19 (W.no (dj := 20) rfl rfl h19 (W.no (dj := 20) rfl rfl h19 (W.no (dj := 20) rfl rfl h19 (W.yes (dj := 16) rfl rfl h14 (W.ok (ok_pick_f rfl h19) (W.ok (ok_pick_f rfl h14) (W.as (W.nil (thn_n (WC.ret ?_))))))))))))
  refine ⟨.inr rfl, [_], ⟨rfl, trivial⟩, [], sn9, ?_⟩
  refine congrArg Value.bool ?_
  first | (rw [fullN, if_pos p7]; done) | (rw [fullN, if_pos p7]; first | (simp_all; done) | (simp_all; omega))
 have p7 := of_decide_eq_false h7
 refine W.no (dj := 8) rfl rfl h7 (W.no (dj := 8) rfl rfl h7 (W.no (dj := 8) rfl rfl h7 (W.no (dj := 8) rfl rfl h7 (W.no (dj := 8) rfl rfl h7 (W.no (dj := 8) rfl rfl h7 (W.ok (ok_pick_f rfl h7) (W.mv (W.yes (dj := 16) rfl rfl rfl (W.ok (ok_fieldB fd43_1 rfl) (W.yes (dj := 16) rfl rfl rfl (W.ok (ok_loadB (i := 0) (vs := [.int .i64 _]) ty3 rfl rfl rfl rfl (by simp)) (W.yes (dj := 16) rfl rfl rfl (W.ok (ok_neq rfl rfl) ?_)))))))))))))
 refine W.yes (dj := 16) rfl rfl rfl (W.mv ?_)
 refine W.sp 20 rfl (fun h19 => ?_) (fun h19 => ?_)
 ·have p19 := nd_t h19
  refine W.yes (dj := 20) rfl rfl h19 (W.ok (ok_fieldB fd43_3 rfl) (W.yes (dj := 20) rfl rfl h19 (W.ok (ok_loadB (i := 0) (vs := [.slice _ _ _]) ty39 rfl rfl rfl rfl (by simp)) (W.yes (dj := 20) rfl rfl h19 (W.ok (ok_len sl39 hk_n rfl) (W.yes (dj := 20) rfl rfl h19 (W.ok (ok_fieldB fd23_0 rfl) (W.yes (dj := 20) rfl rfl h19 (W.ok (ok_loadB (i := 1) (vs := [.int .i64 _]) ty3 rfl rfl rfl rfl (by simp)) (W.yes (dj := 20) rfl rfl h19 (W.ok (ok_geq rfl rfl) (W.yes (dj := 16) rfl rfl rfl (W.ok (ok_pick_t rfl h19) ?_)))))))))))))
  refine W.ok (ok_pick_f rfl rfl) (W.as (W.nil (thn_n (WC.ret ?_))))
  refine ⟨.inr rfl, [_], ⟨rfl, trivial⟩, [], sn9, ?_⟩
  refine congrArg Value.bool ?_
  first | (rw [fullN, if_neg p7]; done) | (rw [fullN, if_neg p7]; first | (simp_all; done) | (simp_all; omega))
 have p19 := nd_f h19
 refine W.no (dj := 20) rfl rfl h19 (W.no (dj := 20) rfl rfl h19 (W.no (dj := 20) rfl rfl h19 (W.no (dj := 20) rfl rfl h19 (W.no (dj := 20) rfl rfl h19 (W.no (dj := 20) rfl rfl h19 (W.yes (dj := 16) rfl rfl rfl (W.ok (ok_pick_f rfl h19) (W.ok (ok_pick_f rfl rfl) (W.as (W.nil (thn_n (WC.ret ?_))))))))))))
 refine ⟨.inr rfl, [_], ⟨rfl, trivial⟩, [], sn9, ?_⟩
 refine congrArg Value.bool ?_
 first | (rw [fullN, if_neg p7]; done) | (rw [fullN, if_neg p7]; first | (simp_all; done) | (simp_all; omega))

end Go.Proofs.YtmbafmifalppaaaGreat
