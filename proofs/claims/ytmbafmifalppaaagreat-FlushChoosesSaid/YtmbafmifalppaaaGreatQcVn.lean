/- Walks of what a cycle does first at a node. -/
import Derived.Test.YtmbafmifalppaaaGreatQcVk
set_option maxRecDepth 100000
set_option maxHeartbeats 1600000
set_option linter.unusedVariables false
set_option linter.unusedSimpArgs false
set_option linter.unnecessarySimpa false
namespace Go.Proofs.YtmbafmifalppaaaGreat
open Go Go.Fw Go.RowKit
theorem rvictim_fc {G : GH} {v_P : Value} {P : List Str} (h_P : SlR eStr G v_P P) {v_l : Value} {l : List Msg} (h_l : SlR eMsg G v_l l) (hs : ∀ m ∈ l, m.key.b.size ≤ 16 ∧ m.val.b.size ≤ 16) (hl9 : l.length ≤ 100000 ∧ P.length ≤ 100000) :
    Fc Tryz.prog 78 [v_P, v_l] G [] (fun v _ _ => v = .tuple #[.int .i64 ((victimN P l).1), .bool ((victimN P l).2)]) := by
 obtain ⟨sa_P, sc_P, rfl⟩ := h_P.form
 obtain ⟨sa_l, sc_l, rfl⟩ := h_l.form
 have hl := h_l.len47
 have hlP := h_P.len47
 have hfl := front_len l
 have hfs : ∀ m ∈ frontN l, m.key.b.size ≤ 16 ∧ m.val.b.size ≤ 16 := fun m h => hs m (front_mem h)
 refine Fc.intro (rs := [.tmp 4, .tmp 5]) cl78 Tryz.func78 rfl Tryz.ntmps78 rfl rfl (fun w0 => ?_)
 refine WC.seq (WC.region (W.as (W.as (W.nil (thn_n (WC.seq (WC.region (W.as (W.as (W.nil (thn_n (WC.seq (WC.seq (WC.region (W.as ?_)))))))))))))))
 refine W.nil (thn_n (WC.block ?_))
 refine WC.loop (X := Nat) (fun i => [(6, .int .i64 (((bestTo (wOf P (frontN l)) i) : Nat) : Int)), (7, .int .i64 (if i = 0 then 0 else (wOf P (frontN l)) (bestTo (wOf P (frontN l)) i))), (8, .int .i64 ((i : Nat) : Int)), (0, .slice sa_P P.length sc_P), (1, .slice sa_l l.length sc_l)]) (fun i _ Ml => Ml = [] ∧ i ≤ P.length + 1) (fun i => P.length + 1 - i) 0 ⟨(by rfl), (by rfl), eqv, eqv, eqv, trivial⟩ ?_ ?_
 ·exact ⟨rfl, by omega⟩
 rintro i gG1 G1 _ hG1 ⟨rfl, hi⟩
 refine WC.seq (WC.seq (WC.region (W.mv (W.mv (W.ok (ok_len sl38 (h_P.mono hG1) rfl) (W.ok (ok_leq rfl rfl) (W.nil (thn_n ?_))))))))
 refine WC.cond (b := _) rfl (fun h15 => ?_) (fun h15 => ?_)
 ·have p15 := of_decide_eq_true h15
  try dsimp only at p15
  refine WC.skip (thn_n (WC.seq (WC.block (WC.seq (WC.region (W.as (W.nil (thn_n (WC.seq (WC.seq (WC.region (W.mv (W.call (Mp := []) (rfront_fc (h_l.mono hG1)) rfl pr9 ?_)))))))))))))
  intro _ G2 _ hG2 q4
  refine match q4 with | ⟨e_5, _, e_6, hv3⟩ => ?_
  subst e_5
  subst e_6
  have q8 := hv3.form
  refine match q8 with | ⟨sa_hv3, sc_hv3, e_7⟩ => ?_
  subst e_7
  refine W.ok (ok_len sl40 hv3 rfl) (W.mv (W.nil (thn_n (WC.block ?_))))
  refine WC.loop (X := Nat) (fun q => [(9, .int .i64 (wOf P ((frontN l).take q) i)), (21, .int .i64 ((q : Nat) : Int)), (0, .slice sa_P P.length sc_P), (1, .slice sa_l l.length sc_l), (6, .int .i64 (((bestTo (wOf P (frontN l)) i) : Nat) : Int)), (7, .int .i64 (if i = 0 then 0 else (wOf P (frontN l)) (bestTo (wOf P (frontN l)) i))), (8, .int .i64 ((i : Nat) : Int)), (19, .slice sa_hv3 ((frontN l)).length sc_hv3), (20, .int .i64 ((((frontN l)).length : Nat) : Int))]) (fun q _ Ml => Ml = [] ∧ q ≤ (frontN l).length) (fun q => (frontN l).length - q) 0 ⟨(by rfl), eqv, eqv, eqv, eqv, eqv, eqv, eqv, eqv, trivial⟩ ?_ ?_
  ·exact ⟨rfl, Nat.zero_le _⟩
  rintro q gG9 G9 _ hG9 ⟨rfl, hq⟩
  have hb9 := wOf_le P ((frontN l).take q) i (fun m h => hfs m (List.mem_of_mem_take h))
  have hb8 := wOf_pos P ((frontN l).take q) i
  have ht9 : ((frontN l).take q).length ≤ 100000 := by rw [List.length_take]; omega
  refine WC.seq (WC.region (W.ok (ok_lss rfl rfl) (W.nil (thn_n (WC.seq ?_)))))
  refine WC.cond (b := _) rfl (fun h22 => ?_) (fun h22 => ?_)
  ·have p22 := of_decide_eq_true h22
   try dsimp only at p22
   refine WC.skip (thn_n (WC.seq (WC.block (WC.seq (WC.region ?_)))))
   have q14 := (hv3.mono hG9).at (i := q) (by omega)
   refine match q14 with | ⟨_, he10, ⟨e_13, hm11⟩⟩ => ?_
   subst e_13
   refine W.ok (ok_indexAddr (i := q) sl40 ty150 (hv3.mono hG9) rfl rfl ⟨by omega, by omega⟩) (W.ok (ok_loadE (vs := [.int .i64 _, .int .i64 _, .string _, .string _, .bool _, .string _]) ty150 he10 rfl rfl rfl (by simp)) (W.alloc zr150 (fun b15 => (W.store (i := 0) (vs := [.int .i64 _, .int .i64 _, .string _, .string _, .bool _, .string _]) (L' := [.int .i64 _, .int .i64 _, .string _, .string _, .bool _, .string _]) ty150 rfl rfl rfl rfl rfl rfl rfl rfl (W.nil (thn_n (WC.seq (WC.region (W.mv (W.ok (ok_fieldB fd150_2 rfl) (W.ok (ok_loadB (i := 0) (vs := [.string _]) ty9 rfl rfl rfl rfl (by simp)) (W.qcall (rroute_fc (h_P.mono ((hG1.trans hG2).trans hG9)) _) rfl (W.mv (W.ok (ok_eql rfl rfl) (W.nil (thn_n ?_))))))))))))))))
   refine WC.cond (b := _) rfl (fun h30 => ?_) (fun h30 => ?_)
   ·have p30 := of_decide_eq_true h30
    try dsimp only at p30
    have p30n : (routeN P ((frontN l)[q]'(by omega)).key) = i := by omega
    have hz9 := size_36 (hfs _ (List.getElem_mem (by omega : q < (frontN l).length)))
    have he9 : Msg.size ⟨((frontN l)[q]'(by omega)).stamp, ((frontN l)[q]'(by omega)).kind, ((frontN l)[q]'(by omega)).key, ((frontN l)[q]'(by omega)).hi, ((frontN l)[q]'(by omega)).opn, ((frontN l)[q]'(by omega)).val⟩ = (((frontN l)[q]'(by omega))).size := rfl
    refine WC.region (W.mv (W.ok (ok_loadB (i := 0) (vs := [.int .i64 _, .int .i64 _, .string _, .string _, .bool _, .string _]) ty150 rfl rfl rfl rfl (by simp)) (W.qcall (msize_fc _ _ _ _ _ _) rfl (W.ok (ok_add rfl rfl (by omega)) (W.as (W.nil (blk_n (thn_n (WC.region (W.ok (ok_add rfl rfl (by omega)) (W.mv (W.sub (sr9.cons _) (W.nil (thn_n ?_))))))))))))))
    exact ⟨Le.rfl, q + 1, ⟨(iv (by rw [wOf_t (by omega) p30n])), eqv, eqv, eqv, eqv, eqv, eqv, eqv, eqv, trivial⟩, ⟨rfl, by omega⟩, by omega⟩
   have p30 := of_decide_eq_false h30
   try dsimp only at p30
   have p30n : ¬ (routeN P ((frontN l)[q]'(by omega)).key) = i := by omega
   refine WC.skip (blk_n (thn_n (WC.region (W.ok (ok_add rfl rfl (by omega)) (W.mv (W.sub (sr9.cons _) (W.nil (thn_n ?_))))))))
   exact ⟨Le.rfl, q + 1, ⟨(iv (by rw [wOf_f (by omega) p30n])), eqv, eqv, eqv, eqv, eqv, eqv, eqv, eqv, trivial⟩, ⟨rfl, by omega⟩, by omega⟩
  have p22 := of_decide_eq_false h22
  try dsimp only at p22
  refine WC.exit (thn_x (thn_x (blk_h (thn_n (WC.seq (WC.region (W.mv (W.mv (W.ok (ok_gtr rfl rfl) (W.nil (thn_n ?_)))))))))))
  refine WC.cond (b := _) rfl (fun h38 => ?_) (fun h38 => ?_)
  ·have p38 := of_decide_eq_true h38
   try dsimp only at p38
   have hmo : wOf P ((frontN l).take q) i = (wOf P (frontN l)) i := by rw [List.take_of_length_le (by omega)]
   rw [hmo] at p38
   refine WC.seq (WC.region (W.mv (W.as (W.nil (thn_n (WC.region (W.mv (W.as (W.nil (blk_n (thn_n (WC.region (W.mv (W.ok (ok_add rfl rfl (by omega)) (W.as (W.nil (thn_n ?_)))))))))))))))))
   exact ⟨(hG2.trans hG9), i + 1, ⟨(iv (by rw [bt_t p38])), (iv (by rw [if_neg (Nat.succ_ne_zero i), bt_t p38, hmo])), eqv, eqv, eqv, trivial⟩, ⟨rfl, by omega⟩, by omega⟩
  have p38 := of_decide_eq_false h38
  try dsimp only at p38
  have hmo : wOf P ((frontN l).take q) i = (wOf P (frontN l)) i := by rw [List.take_of_length_le (by omega)]
  rw [hmo] at p38
  refine WC.skip (blk_n (thn_n (WC.region (W.mv (W.ok (ok_add rfl rfl (by omega)) (W.as (W.nil (thn_n ?_))))))))
  exact ⟨(hG2.trans hG9), i + 1, ⟨(iv (by rw [bt_f p38])), (iv (by rw [if_neg (Nat.succ_ne_zero i), mt_f (wOf_pos P _) p38])), eqv, eqv, eqv, trivial⟩, ⟨rfl, by omega⟩, by omega⟩
 have p15 := of_decide_eq_false h15
 try dsimp only at p15
 refine WC.exit (thn_x (thn_x (blk_h (thn_n (WC.seq (WC.region (W.mv (W.mv (W.ok (ok_gtr rfl rfl) (W.as (W.as (W.nil (thn_n (WC.ret ?_))))))))))))))
 refine ⟨.inr rfl, [_, _], ⟨rfl, rfl, trivial⟩, [], sn9, ?_⟩
 show Value.tuple #[Value.int _ _, Value.bool _] = _
 rw [show i = P.length + 1 by omega, if_neg (by omega)]
 exact rvic_eq P l

theorem fchoose_fc {G : GH} (cf : Int) (cl : Int) (cb : Int) (cs : Int) (cr : Int) {cs_n : List Value} {n : Nd} (h_n : NodeC G cs_n n) (k : Str) (hq : ChoosePre n) :
    Fc Tryz.prog 32 [.agg #[.int .i64 cf, .int .i64 cl, .int .i64 cb, .int .i64 cs, .int .i64 cr], .agg (List.toArray cs_n), .string k.b] G [] (fun v _ _ => v = .tuple #[.int .i64 ((chooseN (⟨cf, cl, cb, cs, cr⟩ : Cfg) n k).1), .int .i64 ((chooseN (⟨cf, cl, cb, cs, cr⟩ : Cfg) n k).2)]) := by
 obtain ⟨pa_n, pc_n, ka_n, kc_n, ma_n, mc_n, ra_n, rc_n, rfl, hp_n, hk_n, hm_n, hr_n, hok_n⟩ := h_n
 refine Fc.intro (rs := [.tmp 6, .tmp 7]) cl32 Tryz.func32 rfl Tryz.ntmps32 rfl rfl (fun w0 => ?_)
 refine WC.seq (WC.region (W.box (L := [.int .i64 _, .int .i64 _, .int .i64 _, .int .i64 _, .int .i64 _]) rfl rfl (fun b16 => (W.box (L := (nd9 _ _ _ _ _ _ _ _ _ _ _ _ _ _ _ _ _ _)) rfl rfl (fun b17 => (W.as (W.as (W.nil (thn_n (WC.seq (WC.block (WC.seq (WC.region (W.ok (ok_fieldB fd43_1 rfl) (W.ok (ok_loadB (i := 0) (vs := [.int .i64 _]) ty3 rfl rfl rfl rfl (by simp)) (W.ok (ok_eql rfl rfl) ?_))))))))))))))))
 refine W.as (W.nil (thn_n ?_))
 refine WC.cond (b := _) rfl (fun h13 => ?_) (fun h13 => ?_)
 ·have p13 := of_decide_eq_true h13
  refine WC.seq (WC.region (W.as (W.as (W.nil (thn_n (WC.ret (blk_r (thn_r ?_))))))))
  refine ⟨.inr rfl, [_, _], ⟨rfl, rfl, trivial⟩, [], sn9, ?_⟩
  show Value.tuple #[Value.int _ _, Value.int _ _] = _
  rw [choose_0 p13]
 have p13 := of_decide_eq_false h13
 refine WC.seq (WC.region (W.ok (ok_fieldB fd43_0 rfl) (W.ok (ok_loadB (i := 0) (vs := [.int .i64 _]) ty3 rfl rfl rfl rfl (by simp)) (W.ok (ok_eql rfl rfl) (W.mv ?_)))))
 refine W.sp 18 rfl (fun h17 => ?_) (fun h17 => ?_)
 ·have p17 := of_decide_eq_true h17
  refine W.yes (dj := 18) rfl rfl h17 (W.ok (ok_loadB (i := 1) (vs := [.int .i64 _, .int .i64 _, .int .i64 _, .int .i64 _, .int .i64 _]) ty23 rfl rfl rfl rfl (by simp)) (W.yes (dj := 18) rfl rfl h17 (W.ok (ok_loadB (i := 0) (vs := (nd9 _ _ _ _ _ _ _ _ _ _ _ _ _ _ _ _ _ _)) ty43 rfl rfl rfl rfl (by simp)) (W.yes (dj := 18) rfl rfl h17 (W.qcall (nfull_fc cf cl cb cs cr (n := n) ⟨_, _, _, _, _, _, _, _, rfl, hp_n, hk_n, hm_n, hr_n, hok_n⟩) rfl (W.ok (ok_pick_t rfl h17) (W.as (W.nil (thn_n ?_)))))))))
  refine WC.cond (b := _) rfl (fun h21 => ?_) (fun h21 => ?_)
  ·refine WC.seq (WC.region (W.as (W.as (W.nil (thn_n (WC.ret (blk_r (thn_r ?_))))))))
   refine ⟨.inr rfl, [_, _], ⟨rfl, rfl, trivial⟩, [], sn9, ?_⟩
   show Value.tuple #[Value.int _ _, Value.int _ _] = _
   rw [choose_1 p13 p17 h21]
  refine WC.skip (blk_n (thn_n (WC.seq (WC.region (W.ok (ok_fieldB fd43_2 rfl) (W.ok (ok_loadB (i := 0) (vs := [.slice _ _ _]) ty38 rfl rfl rfl rfl (by simp)) (W.ok (ok_fieldB fd43_8 rfl) (W.ok (ok_loadB (i := 0) (vs := [.slice _ _ _]) ty40 rfl rfl rfl rfl (by simp)) (W.qcall (fvictim_fc hp_n hm_n (hq p13).2.1 (hq p13).2.2 (hq p13).1) rfl (W.mv (W.ok (ok_extract rfl rfl) (W.ok (ok_extract rfl rfl) (W.as (W.as (W.nil (thn_n ?_))))))))))))))))
  refine WC.seq (WC.seq (WC.region (W.mv (W.ok (ok_not rfl) (W.nil (thn_n ?_))))))
  refine WC.cond (b := _) rfl (fun h32 => ?_) (fun h32 => ?_)
  ·refine WC.region (W.ok (ok_fieldB fd43_2 rfl) (W.ok (ok_loadB (i := 0) (vs := [.slice _ _ _]) ty38 rfl rfl rfl rfl (by simp)) (W.mv (W.qcall (broute_fc hp_n _ (hq p13).1) rfl (W.as (W.nil (thn_n (WC.seq (WC.region (W.mv (W.as (W.as (W.nil (thn_n (WC.ret ?_)))))))))))))))
   refine ⟨.inr rfl, [_, _], ⟨rfl, rfl, trivial⟩, [], sn9, ?_⟩
   show Value.tuple #[Value.int _ _, Value.int _ _] = _
   rw [choose_r p13 (fun h => by rw [h21] at h; exact absurd h.2 (by simp)) (by simpa using h32)]
  refine WC.skip (thn_n (WC.seq (WC.region (W.mv (W.as (W.as (W.nil (thn_n (WC.ret ?_)))))))))
  refine ⟨.inr rfl, [_, _], ⟨rfl, rfl, trivial⟩, [], sn9, ?_⟩
  show Value.tuple #[Value.int _ _, Value.int _ _] = _
  rw [choose_v p13 (fun h => by rw [h21] at h; exact absurd h.2 (by simp)) (by simpa using h32)]
 have p17 := of_decide_eq_false h17
 refine W.no (dj := 18) rfl rfl h17 (W.no (dj := 18) rfl rfl h17 (W.no (dj := 18) rfl rfl h17 (W.ok (ok_pick_f rfl h17) (W.as (W.nil (thn_n (WC.cond_f rfl rfl (WC.skip (blk_n (thn_n (WC.seq (WC.region (W.ok (ok_fieldB fd43_2 rfl) (W.ok (ok_loadB (i := 0) (vs := [.slice _ _ _]) ty38 rfl rfl rfl rfl (by simp)) (W.ok (ok_fieldB fd43_8 rfl) (W.ok (ok_loadB (i := 0) (vs := [.slice _ _ _]) ty40 rfl rfl rfl rfl (by simp)) ?_))))))))))))))))
 refine W.qcall (fvictim_fc hp_n hm_n (hq p13).2.1 (hq p13).2.2 (hq p13).1) rfl (W.mv (W.ok (ok_extract rfl rfl) (W.ok (ok_extract rfl rfl) (W.as (W.as (W.nil (thn_n (WC.seq (WC.seq (WC.region (W.mv (W.ok (ok_not rfl) (W.nil (thn_n ?_))))))))))))))
 refine WC.cond (b := _) rfl (fun h32 => ?_) (fun h32 => ?_)
 ·refine WC.region (W.ok (ok_fieldB fd43_2 rfl) (W.ok (ok_loadB (i := 0) (vs := [.slice _ _ _]) ty38 rfl rfl rfl rfl (by simp)) (W.mv (W.qcall (broute_fc hp_n _ (hq p13).1) rfl (W.as (W.nil (thn_n (WC.seq (WC.region (W.mv (W.as (W.as (W.nil (thn_n (WC.ret ?_)))))))))))))))
  refine ⟨.inr rfl, [_, _], ⟨rfl, rfl, trivial⟩, [], sn9, ?_⟩
  show Value.tuple #[Value.int _ _, Value.int _ _] = _
  rw [choose_r p13 (fun h => p17 h.1) (by simpa using h32)]
 refine WC.skip (thn_n (WC.seq (WC.region (W.mv (W.as (W.as (W.nil (thn_n (WC.ret ?_)))))))))
 refine ⟨.inr rfl, [_, _], ⟨rfl, rfl, trivial⟩, [], sn9, ?_⟩
 show Value.tuple #[Value.int _ _, Value.int _ _] = _
 rw [choose_v p13 (fun h => p17 h.1) (by simpa using h32)]

theorem rchoose_fc {G : GH} (cf : Int) (cl : Int) (cb : Int) (cs : Int) (cr : Int) {cs_n : List Value} {n : Nd} (h_n : NodeC G cs_n n) (k : Str) (hq : ChoosePre n) :
    Fc Tryz.prog 33 [.agg #[.int .i64 cf, .int .i64 cl, .int .i64 cb, .int .i64 cs, .int .i64 cr], .agg (List.toArray cs_n), .string k.b] G [] (fun v _ _ => v = .tuple #[.int .i64 ((chooseN (⟨cf, cl, cb, cs, cr⟩ : Cfg) n k).1), .int .i64 ((chooseN (⟨cf, cl, cb, cs, cr⟩ : Cfg) n k).2)]) := by
 obtain ⟨pa_n, pc_n, ka_n, kc_n, ma_n, mc_n, ra_n, rc_n, rfl, hp_n, hk_n, hm_n, hr_n, hok_n⟩ := h_n
 refine Fc.intro (rs := [.tmp 6, .tmp 7]) cl33 Tryz.func33 rfl Tryz.ntmps33 rfl rfl (fun w0 => ?_)
 refine WC.seq (WC.region (W.box (L := [.int .i64 _, .int .i64 _, .int .i64 _, .int .i64 _, .int .i64 _]) rfl rfl (fun b18 => (W.box (L := (nd9 _ _ _ _ _ _ _ _ _ _ _ _ _ _ _ _ _ _)) rfl rfl (fun b19 => (W.as (W.as (W.nil (thn_n (WC.seq (WC.seq (WC.region (W.ok (ok_fieldB fd43_1 rfl) (W.ok (ok_loadB (i := 0) (vs := [.int .i64 _]) ty3 rfl rfl rfl rfl (by simp)) (W.ok (ok_eql rfl rfl) (W.nil (thn_n ?_)))))))))))))))))
 refine WC.cond (b := _) rfl (fun h12 => ?_) (fun h12 => ?_)
 ·have p12 := of_decide_eq_true h12
  refine WC.seq (WC.region (W.as (W.as (W.nil (thn_n (WC.ret (thn_r ?_)))))))
  refine ⟨.inr rfl, [_, _], ⟨rfl, rfl, trivial⟩, [], sn9, ?_⟩
  show Value.tuple #[Value.int _ _, Value.int _ _] = _
  rw [choose_0 p12]
 have p12 := of_decide_eq_false h12
 refine WC.skip (thn_n (WC.seq (WC.seq (WC.region (W.ok (ok_fieldB fd43_0 rfl) (W.ok (ok_loadB (i := 0) (vs := [.int .i64 _]) ty3 rfl rfl rfl rfl (by simp)) (W.ok (ok_eql rfl rfl) (W.mv ?_))))))))
 refine W.sp 16 rfl (fun h15 => ?_) (fun h15 => ?_)
 ·have p15 := of_decide_eq_true h15
  refine W.yes (dj := 16) rfl rfl h15 (W.ok (ok_loadB (i := 1) (vs := [.int .i64 _, .int .i64 _, .int .i64 _, .int .i64 _, .int .i64 _]) ty23 rfl rfl rfl rfl (by simp)) (W.yes (dj := 16) rfl rfl h15 (W.ok (ok_loadB (i := 0) (vs := (nd9 _ _ _ _ _ _ _ _ _ _ _ _ _ _ _ _ _ _)) ty43 rfl rfl rfl rfl (by simp)) (W.yes (dj := 16) rfl rfl h15 (W.qcall (rfull_fc cf cl cb cs cr (n := n) ⟨_, _, _, _, _, _, _, _, rfl, hp_n, hk_n, hm_n, hr_n, hok_n⟩) rfl (W.ok (ok_pick_t rfl h15) (W.nil (thn_n ?_))))))))
  refine WC.cond (b := _) rfl (fun h19 => ?_) (fun h19 => ?_)
  ·refine WC.seq (WC.region (W.as (W.as (W.nil (thn_n (WC.ret (thn_r ?_)))))))
   refine ⟨.inr rfl, [_, _], ⟨rfl, rfl, trivial⟩, [], sn9, ?_⟩
   show Value.tuple #[Value.int _ _, Value.int _ _] = _
   rw [choose_1 p12 p15 h19]
  refine WC.skip (thn_n (WC.seq (WC.region (W.ok (ok_fieldB fd43_2 rfl) (W.ok (ok_loadB (i := 0) (vs := [.slice _ _ _]) ty38 rfl rfl rfl rfl (by simp)) (W.ok (ok_fieldB fd43_8 rfl) (W.ok (ok_loadB (i := 0) (vs := [.slice _ _ _]) ty40 rfl rfl rfl rfl (by simp)) (W.qcall (rvictim_fc hp_n hm_n (hq p12).2.1 (hq p12).2.2) rfl (W.mv (W.ok (ok_extract rfl rfl) (W.ok (ok_extract rfl rfl) (W.as (W.as (W.nil (thn_n ?_)))))))))))))))
  refine WC.seq (WC.seq (WC.region (W.mv (W.ok (ok_not rfl) (W.nil (thn_n ?_))))))
  refine WC.cond (b := _) rfl (fun h30 => ?_) (fun h30 => ?_)
  ·refine WC.region (W.ok (ok_fieldB fd43_2 rfl) (W.ok (ok_loadB (i := 0) (vs := [.slice _ _ _]) ty38 rfl rfl rfl rfl (by simp)) (W.mv (W.qcall (rroute_fc hp_n _) rfl (W.as (W.nil (thn_n (WC.seq (WC.region (W.mv (W.as (W.as (W.nil (thn_n (WC.ret ?_)))))))))))))))
   refine ⟨.inr rfl, [_, _], ⟨rfl, rfl, trivial⟩, [], sn9, ?_⟩
   show Value.tuple #[Value.int _ _, Value.int _ _] = _
   rw [choose_r p12 (fun h => by rw [h19] at h; exact absurd h.2 (by simp)) (by simpa using h30)]
  refine WC.skip (thn_n (WC.seq (WC.region (W.mv (W.as (W.as (W.nil (thn_n (WC.ret ?_)))))))))
  refine ⟨.inr rfl, [_, _], ⟨rfl, rfl, trivial⟩, [], sn9, ?_⟩
  show Value.tuple #[Value.int _ _, Value.int _ _] = _
  rw [choose_v p12 (fun h => by rw [h19] at h; exact absurd h.2 (by simp)) (by simpa using h30)]
 have p15 := of_decide_eq_false h15
 refine W.no (dj := 16) rfl rfl h15 (W.no (dj := 16) rfl rfl h15 (W.no (dj := 16) rfl rfl h15 (W.ok (ok_pick_f rfl h15) (W.nil (thn_n (WC.cond_f rfl rfl (WC.skip (thn_n (WC.seq (WC.region (W.ok (ok_fieldB fd43_2 rfl) (W.ok (ok_loadB (i := 0) (vs := [.slice _ _ _]) ty38 rfl rfl rfl rfl (by simp)) (W.ok (ok_fieldB fd43_8 rfl) (W.ok (ok_loadB (i := 0) (vs := [.slice _ _ _]) ty40 rfl rfl rfl rfl (by simp)) (W.qcall (rvictim_fc hp_n hm_n (hq p12).2.1 (hq p12).2.2) rfl ?_)))))))))))))))
 refine W.mv (W.ok (ok_extract rfl rfl) (W.ok (ok_extract rfl rfl) (W.as (W.as (W.nil (thn_n (WC.seq (WC.seq (WC.region (W.mv (W.ok (ok_not rfl) (W.nil (thn_n ?_)))))))))))))
 refine WC.cond (b := _) rfl (fun h30 => ?_) (fun h30 => ?_)
 ·refine WC.region (W.ok (ok_fieldB fd43_2 rfl) (W.ok (ok_loadB (i := 0) (vs := [.slice _ _ _]) ty38 rfl rfl rfl rfl (by simp)) (W.mv (W.qcall (rroute_fc hp_n _) rfl (W.as (W.nil (thn_n (WC.seq (WC.region (W.mv (W.as (W.as (W.nil (thn_n (WC.ret ?_)))))))))))))))
  refine ⟨.inr rfl, [_, _], ⟨rfl, rfl, trivial⟩, [], sn9, ?_⟩
  show Value.tuple #[Value.int _ _, Value.int _ _] = _
  rw [choose_r p12 (fun h => p15 h.1) (by simpa using h30)]
 refine WC.skip (thn_n (WC.seq (WC.region (W.mv (W.as (W.as (W.nil (thn_n (WC.ret ?_)))))))))
 refine ⟨.inr rfl, [_, _], ⟨rfl, rfl, trivial⟩, [], sn9, ?_⟩
 show Value.tuple #[Value.int _ _, Value.int _ _] = _
 rw [choose_v p12 (fun h => p15 h.1) (by simpa using h30)]

end Go.Proofs.YtmbafmifalppaaaGreat
namespace Go.Proofs.YtmbafmifalppaaaGreat
open Go Go.Fw Go.RowKit
theorem rmoves_fc {G : GH} (cf : Int) (cl : Int) (cb : Int) (cs : Int) (cr : Int) {cs_k : List Value} {k : Nd} (h_k : NodeC G cs_k k) {v_l : Value} {l : List Msg} (h_l : SlR eMsg G v_l l) (hb : 0 ≤ cb ∧ cb ≤ 9223372036854775807) (hkm : ∀ m ∈ k.msgs, m.key.b.size ≤ 16 ∧ m.val.b.size ≤ 16) (hlR : ∀ m ∈ l, m.R) (hkr : PairsR k.rows) (hsz : k.msgs.length + l.length ≤ 100000 ∧ k.rows.length ≤ 100000) :
    Fc Tryz.prog 129 [.agg #[.int .i64 cf, .int .i64 cl, .int .i64 cb, .int .i64 cs, .int .i64 cr], .agg (List.toArray cs_k), v_l] G [] (fun v _ _ => v = .int .i64 (((movedN cl cb k l).2 : Nat) : Int)) := by
 obtain ⟨pa_k, pc_k, ka_k, kc_k, ma_k, mc_k, ra_k, rc_k, rfl, hp_k, hk_k, hm_k, hr_k, hok_k⟩ := h_k
 obtain ⟨sa_l, sc_l, rfl⟩ := h_l.form
 have hl := h_l.len47
 have hlm := hm_k.len47
 have hks := sizes_bound hkm
 have hdl := drain_le cl l k.rows
 refine Fc.intro (rs := [.tmp 6]) cl129 Tryz.func129 rfl Tryz.ntmps129 rfl rfl (fun w0 => ?_)
 refine WC.seq (WC.region (W.box (L := [.int .i64 _, .int .i64 _, .int .i64 _, .int .i64 _, .int .i64 _]) rfl rfl (fun b1 => (W.box (L := (nd9 _ _ _ _ _ _ _ _ _ _ _ _ _ _ _ _ _ _)) rfl rfl (fun b2 => (W.as (W.nil (thn_n (WC.seq (WC.seq (WC.region (W.ok (ok_fieldB fd43_1 rfl) (W.ok (ok_loadB (i := 0) (vs := [.int .i64 _]) ty3 rfl rfl rfl rfl (by simp)) (W.ok (ok_eql rfl rfl) (W.nil (thn_n ?_))))))))))))))))
 refine WC.cond (b := _) rfl (fun h14 => ?_) (fun h14 => ?_)
 ·have p14 := of_decide_eq_true h14
  refine WC.seq (WC.region (W.ok (ok_fieldB fd43_9 rfl) (W.ok (ok_loadB (i := 0) (vs := [.slice _ _ _]) ty41 rfl rfl rfl rfl (by simp)) (W.mv (W.ok (ok_fieldB fd23_1 rfl) (W.ok (ok_loadB (i := 1) (vs := [.int .i64 _]) ty3 rfl rfl rfl rfl (by simp)) (W.call (Mp := []) (rdrain_fc hr_k h_l cl hkr (by omega) hlR) rfl pr9 ?_)))))))
  intro _ G3 _ hG3 q5
  refine match q5 with | ⟨e_6, _, e_7, _, e_8, hv4⟩ => ?_
  subst e_6
  subst e_7
  subst e_8
  have q10 := hv4.form
  refine match q10 with | ⟨sa_hv4, sc_hv4, e_9⟩ => ?_
  subst e_9
  refine W.mv (W.ok (ok_extract rfl rfl) (W.ok (ok_extract rfl rfl) (W.as (W.as (W.nil (thn_n (WC.seq (WC.region (W.mv (W.as (W.nil (thn_n (WC.ret (thn_r ?_))))))))))))))
  refine ⟨.inr rfl, [_], ⟨rfl, trivial⟩, [], sn9, ?_⟩
  refine congrArg (Value.int .i64) (congrArg Nat.cast ?_)
  rw [moved_0 p14]
 have p14 := of_decide_eq_false h14
 refine WC.skip (thn_n (WC.seq (WC.region (W.ok (ok_fieldB fd43_8 rfl) (W.ok (ok_loadB (i := 0) (vs := [.slice _ _ _]) ty40 rfl rfl rfl rfl (by simp)) (W.qcall (msizes_fc hm_k hkm) rfl (W.as (W.nil (thn_n (WC.seq (WC.region (W.as (W.nil (thn_n (WC.seq (WC.seq ?_))))))))))))))))
 refine WC.region (W.ok (ok_fieldB fd43_8 rfl) (W.ok (ok_loadB (i := 0) (vs := [.slice _ _ _]) ty40 rfl rfl rfl rfl (by simp)) (W.ok (ok_len sl40 hm_k rfl) (W.ok (ok_gtr rfl rfl) (W.nil (thn_n ?_))))))
 refine WC.cond (b := _) rfl (fun h31 => ?_) (fun h31 => ?_)
 ·have p31 := of_decide_eq_true h31
  refine WC.region (W.ok (ok_fieldB fd43_8 rfl) (W.ok (ok_loadB (i := 0) (vs := [.slice _ _ _]) ty40 rfl rfl rfl rfl (by simp)) (W.ok (ok_fieldB fd43_8 rfl) (W.ok (ok_loadB (i := 0) (vs := [.slice _ _ _]) ty40 rfl rfl rfl rfl (by simp)) (W.ok (ok_len sl40 hm_k rfl) (W.ok (ok_sub rfl rfl (by omega)) ?_))))))
  have q15 := hm_k.at (i := k.msgs.length - 1) (by omega)
  refine match q15 with | ⟨_, he11, ⟨e_14, hm12⟩⟩ => ?_
  subst e_14
  refine W.ok (ok_indexAddr (i := k.msgs.length - 1) sl40 ty150 hm_k rfl rfl ⟨by omega, by omega⟩) (W.ok (ok_fieldE fd150_0 rfl he11.form) (W.ok (ok_loadE (vs := [.int .i64 _]) ty3 he11 rfl rfl rfl (by simp)) (W.as (W.nil (thn_n (WC.seq (WC.seq (WC.region (W.as (W.nil (thn_n (WC.block ?_))))))))))))
  refine WC.loop (X := Nat) (fun j => [(9, .int .i64 (sizesN (k.msgs ++ l.take j))), (10, .int .i64 (lastS (k.msgs ++ l.take j))), (11, .int .i64 ((j : Nat) : Int)), (3, .pointer (some ⟨b1, 0, none⟩)), (4, .pointer (some ⟨b2, 0, none⟩)), (2, .slice sa_l l.length sc_l)]) (fun j _ Ml => Ml = [(b2, .cells (List.toArray [.int .i64 k.slot, .int .i64 k.level, .slice pa_k k.pivots.length pc_k, .slice ka_k k.kids.length kc_k, .string k.high.b, .bool k.top, .int .i64 k.right, .int .i64 k.seen, .slice ma_k k.msgs.length mc_k, .slice ra_k k.rows.length rc_k]) 43 (0, 0)), (b1, .cells (List.toArray [.int .i64 cf, .int .i64 cl, .int .i64 cb, .int .i64 cs, .int .i64 cr]) 23 (0, 0))] ∧ j ≤ l.length ∧ AddsAt cb k.msgs l j) (fun j => l.length - j) 0 ⟨(iv (by rw [List.take_zero, List.append_nil])), (iv (by rw [List.take_zero, List.append_nil, lastS_get (by omega)])), eqv, eqv, eqv, eqv, trivial⟩ ?_ ?_
  ·exact ⟨rfl, by omega, AddsAt.zero _ _ _⟩
  rintro j gG16 G16 _ hG16 ⟨rfl, hj, hd⟩
  have hbd := sizes_bound (l := (k.msgs ++ l.take j)) (fun m h => by
      rcases List.mem_append.1 h with h | h
      · exact hkm m h
      · exact msgR_key (hlR m (List.mem_of_mem_take h)))
  have hln : (k.msgs ++ l.take j).length ≤ 100000 := by rw [List.length_append, List.length_take]; omega
  refine WC.seq (WC.seq (WC.region (W.mv (W.mv (W.ok (ok_len sl40 (h_l.mono hG16) rfl) (W.ok (ok_lss rfl rfl) (W.nil (thn_n ?_))))))))
  refine WC.cond (b := _) rfl (fun h44 => ?_) (fun h44 => ?_)
  ·have p44 := of_decide_eq_true h44
   have hz9 := size_36 (msgR_key (hlR _ (List.getElem_mem (by omega : j < l.length))))
   have he9 : Msg.size ⟨(l[j]'(by omega)).stamp, (l[j]'(by omega)).kind, (l[j]'(by omega)).key, (l[j]'(by omega)).hi, (l[j]'(by omega)).opn, (l[j]'(by omega)).val⟩ = (l[j]'(by omega)).size := rfl
   refine WC.skip (thn_n (WC.seq (WC.block (WC.seq (WC.region (W.mv (W.mv (W.mv ?_))))))))
   have q21 := (h_l.mono hG16).at (i := j) (by omega)
   refine match q21 with | ⟨_, he17, ⟨e_20, hm18⟩⟩ => ?_
   subst e_20
   refine W.ok (ok_indexAddr (i := j) sl40 ty150 (h_l.mono hG16) rfl rfl ⟨by omega, by omega⟩) (W.ok (ok_loadE (vs := [.int .i64 _, .int .i64 _, .string _, .string _, .bool _, .string _]) ty150 he17 rfl rfl rfl (by simp)) (W.qcall (msize_fc _ _ _ _ _ _) rfl (W.ok (ok_add rfl rfl (by omega)) (W.as (W.nil (thn_n (WC.seq (WC.seq (WC.region (W.mv (W.ok (ok_fieldB fd23_2 rfl) (W.ok (ok_loadB (i := 1) (vs := [.int .i64 _]) ty3 rfl rfl rfl rfl (by simp)) (W.ok (ok_gtr rfl rfl) (W.mv ?_))))))))))))))
   refine W.sp 58 rfl (fun h57 => ?_) (fun h57 => ?_)
   ·have p57 := of_decide_eq_true h57
    refine W.no (dj := 58) rfl rfl h57 (W.no (dj := 58) rfl rfl h57 (W.no (dj := 58) rfl rfl h57 (W.no (dj := 58) rfl rfl h57 (W.no (dj := 58) rfl rfl h57 (W.no (dj := 58) rfl rfl h57 (W.no (dj := 58) rfl rfl h57 (W.nou (dj := 65) rfl rfl (W.nou (dj := 65) rfl rfl (W.nou (dj := 65) rfl rfl (W.nou (dj := 65) rfl rfl (W.nou (dj := 65) rfl rfl (W.nou (dj := 65) rfl rfl (W.nou (dj := 65) rfl rfl ?_)))))))))))))
    refine W.no (dj := 58) rfl rfl h57 (W.ok (ok_pick_t rfl h57) (W.nil (thn_n (WC.cond_t rfl rfl (WC.seq (WC.region (W.mv (W.as (W.nil (thn_n (WC.ret (thn_r (blk_r (thn_r (thn_r (blk_r (thn_r ?_)))))))))))))))))
    refine ⟨.inr rfl, [_], ⟨rfl, trivial⟩, [], sn9, ?_⟩
    refine congrArg (Value.int .i64) (congrArg Nat.cast ?_)
    rw [moved_n p14 (hd.stop (by omega) (room_f1 (by omega)))]
   have p57 := of_decide_eq_false h57
   refine W.yes (dj := 58) rfl rfl h57 (W.ok (ok_fieldB fd43_8 rfl) (W.yes (dj := 58) rfl rfl h57 (W.ok (ok_loadB (i := 0) (vs := [.slice _ _ _]) ty40 rfl rfl rfl rfl (by simp)) (W.yes (dj := 58) rfl rfl h57 (W.ok (ok_len sl40 (hm_k.mono hG16) rfl) (W.yes (dj := 58) rfl rfl h57 (W.mv (W.yes (dj := 58) rfl rfl h57 (W.ok (ok_add rfl rfl (by omega)) (W.yes (dj := 58) rfl rfl h57 (W.ok (ok_gtr rfl rfl) (W.yes (dj := 58) rfl rfl h57 (W.mv ?_)))))))))))))
   refine W.sp 65 rfl (fun h64 => ?_) (fun h64 => ?_)
   ·have p64 := of_decide_eq_true h64
    refine W.yes (dj := 65) rfl rfl h64 (W.mv (W.yes (dj := 65) rfl rfl h64 (W.mv (W.yes (dj := 65) rfl rfl h64 ?_))))
    have q26 := (h_l.mono hG16).at (i := j) (by omega)
    refine match q26 with | ⟨_, he22, ⟨e_25, hm23⟩⟩ => ?_
    subst e_25
    refine W.ok (ok_indexAddr (i := j) sl40 ty150 (h_l.mono hG16) rfl rfl ⟨by omega, by omega⟩) (W.yes (dj := 65) rfl rfl h64 (W.ok (ok_fieldE fd150_0 rfl he22.form) (W.yes (dj := 65) rfl rfl h64 (W.ok (ok_loadE (vs := [.int .i64 _]) ty3 he22 rfl rfl rfl (by simp)) (W.yes (dj := 65) rfl rfl h64 (W.mv (W.yes (dj := 65) rfl rfl h64 (W.ok (ok_leq rfl rfl) (W.yes (dj := 58) rfl rfl h57 (W.ok (ok_pick_t rfl h64) (W.ok (ok_pick_f rfl h57) (W.nil (thn_n ?_)))))))))))))
    refine WC.cond (b := _) rfl (fun h72 => ?_) (fun h72 => ?_)
    ·have p72 := of_decide_eq_true h72
     refine WC.seq (WC.region (W.mv (W.as (W.nil (thn_n (WC.ret (thn_r (blk_r (thn_r (thn_r (blk_r (thn_r ?_))))))))))))
     refine ⟨.inr rfl, [_], ⟨rfl, trivial⟩, [], sn9, ?_⟩
     refine congrArg (Value.int .i64) (congrArg Nat.cast ?_)
     rw [moved_n p14 (hd.stop (by omega) (room_last (by rw [List.length_append, List.length_take]; omega) p72))]
    have p72 := of_decide_eq_false h72
    refine WC.skip (thn_n (WC.region (W.mv (W.mv ?_))))
    have q31 := (h_l.mono hG16).at (i := j) (by omega)
    refine match q31 with | ⟨_, he27, ⟨e_30, hm28⟩⟩ => ?_
    subst e_30
    refine W.ok (ok_indexAddr (i := j) sl40 ty150 (h_l.mono hG16) rfl rfl ⟨by omega, by omega⟩) (W.ok (ok_fieldE fd150_0 rfl he27.form) (W.ok (ok_loadE (vs := [.int .i64 _]) ty3 he27 rfl rfl rfl (by simp)) (W.as (W.nil (blk_n (thn_n (WC.region (W.mv (W.ok (ok_add rfl rfl (by omega)) (W.as (W.nil (thn_n ?_))))))))))))
    exact ⟨Le.rfl, j + 1, ⟨(iv (by rw [take_app (by omega), sizes_one])), (iv (by rw [take_app (by omega), lastS_snoc])), eqv, eqv, eqv, eqv, trivial⟩, ⟨rfl, by omega, hd.succ (by omega) (room_yes (by omega) (fun _ => by omega))⟩, by omega⟩
   have p64 := of_decide_eq_false h64
   refine W.no (dj := 65) rfl rfl h64 (W.no (dj := 65) rfl rfl h64 (W.no (dj := 65) rfl rfl h64 (W.no (dj := 65) rfl rfl h64 (W.no (dj := 65) rfl rfl h64 (W.no (dj := 65) rfl rfl h64 (W.no (dj := 65) rfl rfl h64 (W.yes (dj := 58) rfl rfl h57 (W.ok (ok_pick_f rfl h64) (W.ok (ok_pick_f rfl h57) (W.nil (thn_n (WC.cond_f rfl rfl (WC.skip (thn_n (WC.region ?_)))))))))))))))
   refine W.mv (W.mv ?_)
   have q36 := (h_l.mono hG16).at (i := j) (by omega)
   refine match q36 with | ⟨_, he32, ⟨e_35, hm33⟩⟩ => ?_
   subst e_35
   refine W.ok (ok_indexAddr (i := j) sl40 ty150 (h_l.mono hG16) rfl rfl ⟨by omega, by omega⟩) (W.ok (ok_fieldE fd150_0 rfl he32.form) (W.ok (ok_loadE (vs := [.int .i64 _]) ty3 he32 rfl rfl rfl (by simp)) (W.as (W.nil (blk_n (thn_n (WC.region (W.mv (W.ok (ok_add rfl rfl (by omega)) (W.as (W.nil (thn_n ?_))))))))))))
   exact ⟨Le.rfl, j + 1, ⟨(iv (by rw [take_app (by omega), sizes_one])), (iv (by rw [take_app (by omega), lastS_snoc])), eqv, eqv, eqv, eqv, trivial⟩, ⟨rfl, by omega, hd.succ (by omega) (room_yes (by omega) (fun h9 => by rw [List.length_append, List.length_take] at h9; omega))⟩, by omega⟩
  have p44 := of_decide_eq_false h44
  refine WC.exit (thn_x (thn_x (blk_h (thn_n (WC.seq (WC.region (W.mv (W.ok (ok_len sl40 (h_l.mono hG16) rfl) (W.as (W.nil (thn_n (WC.ret ?_))))))))))))
  refine ⟨.inr rfl, [_], ⟨rfl, trivial⟩, [], sn9, ?_⟩
  refine congrArg (Value.int .i64) (congrArg Nat.cast ?_)
  rw [moved_n p14 (hd.all (by omega))]
  omega
 have p31 := of_decide_eq_false h31
 refine WC.skip (thn_n (WC.seq (WC.seq (WC.region (W.as (W.nil (thn_n (WC.block ?_))))))))
 refine WC.loop (X := Nat) (fun j => [(9, .int .i64 (sizesN (k.msgs ++ l.take j))), (10, .int .i64 (lastS (k.msgs ++ l.take j))), (11, .int .i64 ((j : Nat) : Int)), (3, .pointer (some ⟨b1, 0, none⟩)), (4, .pointer (some ⟨b2, 0, none⟩)), (2, .slice sa_l l.length sc_l)]) (fun j _ Ml => Ml = [(b2, .cells (List.toArray [.int .i64 k.slot, .int .i64 k.level, .slice pa_k k.pivots.length pc_k, .slice ka_k k.kids.length kc_k, .string k.high.b, .bool k.top, .int .i64 k.right, .int .i64 k.seen, .slice ma_k k.msgs.length mc_k, .slice ra_k k.rows.length rc_k]) 43 (0, 0)), (b1, .cells (List.toArray [.int .i64 cf, .int .i64 cl, .int .i64 cb, .int .i64 cs, .int .i64 cr]) 23 (0, 0))] ∧ j ≤ l.length ∧ AddsAt cb k.msgs l j) (fun j => l.length - j) 0 ⟨(iv (by rw [List.take_zero, List.append_nil])), (iv (by rw [List.take_zero, List.append_nil, lastS_nil (by omega)])), eqv, eqv, eqv, eqv, trivial⟩ ?_ ?_
 ·exact ⟨rfl, by omega, AddsAt.zero _ _ _⟩
 rintro j gG37 G37 _ hG37 ⟨rfl, hj, hd⟩
 have hbd := sizes_bound (l := (k.msgs ++ l.take j)) (fun m h => by
      rcases List.mem_append.1 h with h | h
      · exact hkm m h
      · exact msgR_key (hlR m (List.mem_of_mem_take h)))
 have hln : (k.msgs ++ l.take j).length ≤ 100000 := by rw [List.length_append, List.length_take]; omega
 refine WC.seq (WC.seq (WC.region (W.mv (W.mv (W.ok (ok_len sl40 (h_l.mono hG37) rfl) (W.ok (ok_lss rfl rfl) (W.nil (thn_n ?_))))))))
 refine WC.cond (b := _) rfl (fun h44 => ?_) (fun h44 => ?_)
 ·have p44 := of_decide_eq_true h44
  have hz9 := size_36 (msgR_key (hlR _ (List.getElem_mem (by omega : j < l.length))))
  have he9 : Msg.size ⟨(l[j]'(by omega)).stamp, (l[j]'(by omega)).kind, (l[j]'(by omega)).key, (l[j]'(by omega)).hi, (l[j]'(by omega)).opn, (l[j]'(by omega)).val⟩ = (l[j]'(by omega)).size := rfl
  refine WC.skip (thn_n (WC.seq (WC.block (WC.seq (WC.region (W.mv (W.mv (W.mv ?_))))))))
  have q42 := (h_l.mono hG37).at (i := j) (by omega)
  refine match q42 with | ⟨_, he38, ⟨e_41, hm39⟩⟩ => ?_
  subst e_41
  refine W.ok (ok_indexAddr (i := j) sl40 ty150 (h_l.mono hG37) rfl rfl ⟨by omega, by omega⟩) (W.ok (ok_loadE (vs := [.int .i64 _, .int .i64 _, .string _, .string _, .bool _, .string _]) ty150 he38 rfl rfl rfl (by simp)) (W.qcall (msize_fc _ _ _ _ _ _) rfl (W.ok (ok_add rfl rfl (by omega)) (W.as (W.nil (thn_n (WC.seq (WC.seq (WC.region (W.mv (W.ok (ok_fieldB fd23_2 rfl) (W.ok (ok_loadB (i := 1) (vs := [.int .i64 _]) ty3 rfl rfl rfl rfl (by simp)) (W.ok (ok_gtr rfl rfl) (W.mv ?_))))))))))))))
  refine W.sp 58 rfl (fun h57 => ?_) (fun h57 => ?_)
  ·have p57 := of_decide_eq_true h57
   refine W.no (dj := 58) rfl rfl h57 (W.no (dj := 58) rfl rfl h57 (W.no (dj := 58) rfl rfl h57 (W.no (dj := 58) rfl rfl h57 (W.no (dj := 58) rfl rfl h57 (W.no (dj := 58) rfl rfl h57 (W.no (dj := 58) rfl rfl h57 (W.nou (dj := 65) rfl rfl (W.nou (dj := 65) rfl rfl (W.nou (dj := 65) rfl rfl (W.nou (dj := 65) rfl rfl (W.nou (dj := 65) rfl rfl (W.nou (dj := 65) rfl rfl (W.nou (dj := 65) rfl rfl ?_)))))))))))))
   refine W.no (dj := 58) rfl rfl h57 (W.ok (ok_pick_t rfl h57) (W.nil (thn_n (WC.cond_t rfl rfl (WC.seq (WC.region (W.mv (W.as (W.nil (thn_n (WC.ret (thn_r (blk_r (thn_r (thn_r (blk_r (thn_r ?_)))))))))))))))))
   refine ⟨.inr rfl, [_], ⟨rfl, trivial⟩, [], sn9, ?_⟩
   refine congrArg (Value.int .i64) (congrArg Nat.cast ?_)
   rw [moved_n p14 (hd.stop (by omega) (room_f1 (by omega)))]
  have p57 := of_decide_eq_false h57
  refine W.yes (dj := 58) rfl rfl h57 (W.ok (ok_fieldB fd43_8 rfl) (W.yes (dj := 58) rfl rfl h57 (W.ok (ok_loadB (i := 0) (vs := [.slice _ _ _]) ty40 rfl rfl rfl rfl (by simp)) (W.yes (dj := 58) rfl rfl h57 (W.ok (ok_len sl40 (hm_k.mono hG37) rfl) (W.yes (dj := 58) rfl rfl h57 (W.mv (W.yes (dj := 58) rfl rfl h57 (W.ok (ok_add rfl rfl (by omega)) (W.yes (dj := 58) rfl rfl h57 (W.ok (ok_gtr rfl rfl) (W.yes (dj := 58) rfl rfl h57 (W.mv ?_)))))))))))))
  refine W.sp 65 rfl (fun h64 => ?_) (fun h64 => ?_)
  ·have p64 := of_decide_eq_true h64
   refine W.yes (dj := 65) rfl rfl h64 (W.mv (W.yes (dj := 65) rfl rfl h64 (W.mv (W.yes (dj := 65) rfl rfl h64 ?_))))
   have q47 := (h_l.mono hG37).at (i := j) (by omega)
   refine match q47 with | ⟨_, he43, ⟨e_46, hm44⟩⟩ => ?_
   subst e_46
   refine W.ok (ok_indexAddr (i := j) sl40 ty150 (h_l.mono hG37) rfl rfl ⟨by omega, by omega⟩) (W.yes (dj := 65) rfl rfl h64 (W.ok (ok_fieldE fd150_0 rfl he43.form) (W.yes (dj := 65) rfl rfl h64 (W.ok (ok_loadE (vs := [.int .i64 _]) ty3 he43 rfl rfl rfl (by simp)) (W.yes (dj := 65) rfl rfl h64 (W.mv (W.yes (dj := 65) rfl rfl h64 (W.ok (ok_leq rfl rfl) (W.yes (dj := 58) rfl rfl h57 (W.ok (ok_pick_t rfl h64) (W.ok (ok_pick_f rfl h57) (W.nil (thn_n ?_)))))))))))))
   refine WC.cond (b := _) rfl (fun h72 => ?_) (fun h72 => ?_)
   ·have p72 := of_decide_eq_true h72
    refine WC.seq (WC.region (W.mv (W.as (W.nil (thn_n (WC.ret (thn_r (blk_r (thn_r (thn_r (blk_r (thn_r ?_))))))))))))
    refine ⟨.inr rfl, [_], ⟨rfl, trivial⟩, [], sn9, ?_⟩
    refine congrArg (Value.int .i64) (congrArg Nat.cast ?_)
    rw [moved_n p14 (hd.stop (by omega) (room_last (by rw [List.length_append, List.length_take]; omega) p72))]
   have p72 := of_decide_eq_false h72
   refine WC.skip (thn_n (WC.region (W.mv (W.mv ?_))))
   have q52 := (h_l.mono hG37).at (i := j) (by omega)
   refine match q52 with | ⟨_, he48, ⟨e_51, hm49⟩⟩ => ?_
   subst e_51
   refine W.ok (ok_indexAddr (i := j) sl40 ty150 (h_l.mono hG37) rfl rfl ⟨by omega, by omega⟩) (W.ok (ok_fieldE fd150_0 rfl he48.form) (W.ok (ok_loadE (vs := [.int .i64 _]) ty3 he48 rfl rfl rfl (by simp)) (W.as (W.nil (blk_n (thn_n (WC.region (W.mv (W.ok (ok_add rfl rfl (by omega)) (W.as (W.nil (thn_n ?_))))))))))))
   exact ⟨Le.rfl, j + 1, ⟨(iv (by rw [take_app (by omega), sizes_one])), (iv (by rw [take_app (by omega), lastS_snoc])), eqv, eqv, eqv, eqv, trivial⟩, ⟨rfl, by omega, hd.succ (by omega) (room_yes (by omega) (fun _ => by omega))⟩, by omega⟩
  have p64 := of_decide_eq_false h64
  refine W.no (dj := 65) rfl rfl h64 (W.no (dj := 65) rfl rfl h64 (W.no (dj := 65) rfl rfl h64 (W.no (dj := 65) rfl rfl h64 (W.no (dj := 65) rfl rfl h64 (W.no (dj := 65) rfl rfl h64 (W.no (dj := 65) rfl rfl h64 (W.yes (dj := 58) rfl rfl h57 (W.ok (ok_pick_f rfl h64) (W.ok (ok_pick_f rfl h57) (W.nil (thn_n (WC.cond_f rfl rfl (WC.skip (thn_n (WC.region ?_)))))))))))))))
  refine W.mv (W.mv ?_)
  have q57 := (h_l.mono hG37).at (i := j) (by omega)
  refine match q57 with | ⟨_, he53, ⟨e_56, hm54⟩⟩ => ?_
  subst e_56
  refine W.ok (ok_indexAddr (i := j) sl40 ty150 (h_l.mono hG37) rfl rfl ⟨by omega, by omega⟩) (W.ok (ok_fieldE fd150_0 rfl he53.form) (W.ok (ok_loadE (vs := [.int .i64 _]) ty3 he53 rfl rfl rfl (by simp)) (W.as (W.nil (blk_n (thn_n (WC.region (W.mv (W.ok (ok_add rfl rfl (by omega)) (W.as (W.nil (thn_n ?_))))))))))))
  exact ⟨Le.rfl, j + 1, ⟨(iv (by rw [take_app (by omega), sizes_one])), (iv (by rw [take_app (by omega), lastS_snoc])), eqv, eqv, eqv, eqv, trivial⟩, ⟨rfl, by omega, hd.succ (by omega) (room_yes (by omega) (fun h9 => by rw [List.length_append, List.length_take] at h9; omega))⟩, by omega⟩
 have p44 := of_decide_eq_false h44
 refine WC.exit (thn_x (thn_x (blk_h (thn_n (WC.seq (WC.region (W.mv (W.ok (ok_len sl40 (h_l.mono hG37) rfl) (W.as (W.nil (thn_n (WC.ret ?_))))))))))))
 refine ⟨.inr rfl, [_], ⟨rfl, trivial⟩, [], sn9, ?_⟩
 refine congrArg (Value.int .i64) (congrArg Nat.cast ?_)
 rw [moved_n p14 (hd.all (by omega))]
 omega

end Go.Proofs.YtmbafmifalppaaaGreat
