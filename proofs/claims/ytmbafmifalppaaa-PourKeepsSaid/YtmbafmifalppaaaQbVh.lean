/- Walks of what is asked of a node and its kid. -/
import Derived.Test.YtmbafmifalppaaaQbVg
set_option maxRecDepth 100000
set_option maxHeartbeats 1600000
set_option linter.unusedVariables false
set_option linter.unusedSimpArgs false
set_option linter.unnecessarySimpa false
namespace Go.Proofs.Ytmbafmifalppaaa
open Go Go.Fw Go.RowKit
theorem rspan21_fc {G : GH} {cs_n : List Value} {n : Nd} (h_n : NodeC G cs_n n) :
    Fc Try.prog 50 [.agg (List.toArray cs_n)] G [] (fun v _ _ => v = .agg (List.toArray ((Nd.spanN n).cells))) := by
 obtain ⟨pa_n, pc_n, ka_n, kc_n, ma_n, mc_n, ra_n, rc_n, rfl, hp_n, hk_n, hm_n, hr_n, hok_n⟩ := h_n
 have h1 := hp_n.len47
 have h2 := hk_n.len47
 have h3 := hm_n.len47
 have h4 := hr_n.len47
 refine Fc.intro (rs := [.cell 2 37]) cl50 Try.func50 rfl Try.ntmps50 rfl rfl (fun w0 => ?_)
 refine WC.seq (WC.region (W.box (L := (nd9 _ _ _ _ _ _ _ _ _ _ _ _ _ _ _ _ _ _)) rfl rfl (fun b1 => (W.alloc zr37 (fun b2 => (W.nil (thn_n (WC.seq (WC.seq (WC.region (W.ok (ok_fieldB fd35_5 rfl) (W.ok (ok_loadB (i := 1) (vs := [.bool _]) ty4 rfl rfl rfl rfl (by simp)) (W.nil (thn_n ?_))))))))))))))
 refine WC.cond (b := _) rfl (fun hb_top_n => ?_) (fun hb_top_n => ?_)
 ·refine WC.seq (WC.region (W.ok (ok_build (L := [.string _, .string _, .bool _]) pl37 zr37 rfl rfl rfl) (W.store (i := 0) (vs := [.string _, .string _, .bool _]) (L' := [.string _, .string _, .bool _]) ty37 rfl rfl rfl rfl rfl rfl rfl rfl (W.nil (thn_n (WC.ret (thn_r ?_)))))))
  refine ⟨.inr rfl, [_], ⟨⟨_, _, _, _, _, rfl, nthM_mem (i := 0) rfl, ty37, (by simp), rfl, rfl⟩, trivial⟩, [], sn9, ?_⟩
  refine congrArg (fun l => Value.agg (List.toArray l)) ?_
  rw [Nd.spanN, if_pos (by assumption)]; rfl
 refine WC.skip (thn_n (WC.seq (WC.region (W.ok (ok_fieldB fd35_4 rfl) (W.ok (ok_loadB (i := 1) (vs := [.string _]) ty9 rfl rfl rfl rfl (by simp)) (W.ok (ok_build (L := [.string _, .string _, .bool _]) pl37 zr37 rfl rfl rfl) (W.qcall (norm_fc Str.nil _ _) rfl (W.store (i := 0) (vs := [.string _, .string _, .bool _]) (L' := [.string _, .string _, .bool _]) ty37 rfl rfl rfl rfl rfl rfl rfl rfl (W.nil (thn_n (WC.ret ?_)))))))))))
 refine ⟨.inr rfl, [_], ⟨⟨_, _, _, _, _, rfl, nthM_mem (i := 0) rfl, ty37, (by simp), rfl, rfl⟩, trivial⟩, [], sn9, ?_⟩
 refine congrArg (fun l => Value.agg (List.toArray l)) ?_
 rw [Nd.spanN, if_neg (by simp_all)]; rfl

theorem rthen_fc {G : GH} (ak : Int) (av : Str) (bk : Int) (bv : Str) (ha : av.b.size ≤ 1048576) (hb : bv.b.size ≤ 1048576) (ha3 : ak = 3 → av = Str.nil) :
    Fc Try.prog 55 [.agg #[.int .i64 ak, .string av.b], .agg #[.int .i64 bk, .string bv.b]] G [] (fun v _ _ => v = .agg (List.toArray ((Eff.then (⟨ak, av⟩ : Eff) (⟨bk, bv⟩ : Eff)).cells))) := by
 refine Fc.intro (rs := [.cell 4 94]) cl55 Try.func55 rfl Try.ntmps55 rfl rfl (fun w0 => ?_)
 refine WC.seq (WC.region (W.box (L := [.int .i64 _, .string _]) rfl rfl (fun b3 => (W.box (L := [.int .i64 _, .string _]) rfl rfl (fun b4 => (W.alloc zr94 (fun b5 => (W.nil (thn_n (WC.seq (WC.seq (WC.region (W.ok (ok_fieldB fd94_0 rfl) (W.ok (ok_loadB (i := 1) (vs := [.int .i64 _]) ty3 rfl rfl rfl rfl (by simp)) (W.ok (ok_eql rfl rfl) (W.nil (thn_n ?_)))))))))))))))))
 refine WC.cond (b := _) rfl (fun h8 => ?_) (fun h8 => ?_)
 ·have p8 := of_decide_eq_true h8
  refine WC.seq (WC.region (W.ok (ok_loadB (i := 2) (vs := [.int .i64 _, .string _]) ty94 rfl rfl rfl rfl (by simp)) (W.store (i := 0) (vs := [.int .i64 _, .string _]) (L' := [.int .i64 _, .string _]) ty94 rfl rfl rfl rfl rfl rfl rfl rfl (W.nil (thn_n (WC.ret (thn_r ?_)))))))
  refine ⟨.inr rfl, [_], ⟨⟨_, _, _, _, _, rfl, nthM_mem (i := 0) rfl, ty94, (by simp), rfl, rfl⟩, trivial⟩, [], sn9, ?_⟩
  refine congrArg (fun l => Value.agg (List.toArray l)) ?_
  show [Value.int _ _, Value.string _] = _
  first | (simp_all [Eff.then, Eff.cells, Eff.apply, optS, Str.nil, Str.cat_tail]; done) | (rw [Str.cat_tail (by omega)]; simp_all [Eff.then, Eff.cells, Eff.apply, optS, Str.nil]; done) | (rw [Str.cat_tail (by omega)]; by_cases hk3 : ak = 3 <;> simp_all [Eff.then, Eff.cells, Eff.apply, optS, Str.nil])
 have p8 := of_decide_eq_false h8
 refine WC.skip (thn_n (WC.seq (WC.seq (WC.region (W.ok (ok_fieldB fd94_0 rfl) (W.ok (ok_loadB (i := 1) (vs := [.int .i64 _]) ty3 rfl rfl rfl rfl (by simp)) (W.ok (ok_neq rfl rfl) (W.mv ?_))))))))
 refine W.sp 13 rfl (fun h12 => ?_) (fun h12 => ?_)
 ·have p12 := nd_t h12
  refine W.no (dj := 13) rfl rfl h12 (W.no (dj := 13) rfl rfl h12 (W.no (dj := 13) rfl rfl h12 (W.ok (ok_pick_t rfl h12) (W.nil (thn_n (WC.cond_t rfl rfl (WC.seq (WC.region (W.ok (ok_loadB (i := 1) (vs := [.int .i64 _, .string _]) ty94 rfl rfl rfl rfl (by simp)) (W.store (i := 0) (vs := [.int .i64 _, .string _]) (L' := [.int .i64 _, .string _]) ty94 rfl rfl rfl rfl rfl rfl rfl rfl (W.nil (thn_n (WC.ret (thn_r ?_))))))))))))))
  refine ⟨.inr rfl, [_], ⟨⟨_, _, _, _, _, rfl, nthM_mem (i := 0) rfl, ty94, (by simp), rfl, rfl⟩, trivial⟩, [], sn9, ?_⟩
  refine congrArg (fun l => Value.agg (List.toArray l)) ?_
  show [Value.int _ _, Value.string _] = _
  first | (simp_all [Eff.then, Eff.cells, Eff.apply, optS, Str.nil, Str.cat_tail]; done) | (rw [Str.cat_tail (by omega)]; simp_all [Eff.then, Eff.cells, Eff.apply, optS, Str.nil]; done) | (rw [Str.cat_tail (by omega)]; by_cases hk3 : ak = 3 <;> simp_all [Eff.then, Eff.cells, Eff.apply, optS, Str.nil])
 have p12 := nd_f h12
 refine W.yes (dj := 13) rfl rfl h12 (W.ok (ok_fieldB fd94_0 rfl) (W.yes (dj := 13) rfl rfl h12 (W.ok (ok_loadB (i := 2) (vs := [.int .i64 _]) ty3 rfl rfl rfl rfl (by simp)) (W.yes (dj := 13) rfl rfl h12 (W.ok (ok_eql rfl rfl) (W.ok (ok_pick_f rfl h12) (W.nil (thn_n ?_))))))))
 refine WC.cond (b := _) rfl (fun h16 => ?_) (fun h16 => ?_)
 ·have p16 := of_decide_eq_true h16
  refine WC.seq (WC.region (W.ok (ok_loadB (i := 1) (vs := [.int .i64 _, .string _]) ty94 rfl rfl rfl rfl (by simp)) (W.store (i := 0) (vs := [.int .i64 _, .string _]) (L' := [.int .i64 _, .string _]) ty94 rfl rfl rfl rfl rfl rfl rfl rfl (W.nil (thn_n (WC.ret (thn_r ?_)))))))
  refine ⟨.inr rfl, [_], ⟨⟨_, _, _, _, _, rfl, nthM_mem (i := 0) rfl, ty94, (by simp), rfl, rfl⟩, trivial⟩, [], sn9, ?_⟩
  refine congrArg (fun l => Value.agg (List.toArray l)) ?_
  show [Value.int _ _, Value.string _] = _
  first | (simp_all [Eff.then, Eff.cells, Eff.apply, optS, Str.nil, Str.cat_tail]; done) | (rw [Str.cat_tail (by omega)]; simp_all [Eff.then, Eff.cells, Eff.apply, optS, Str.nil]; done) | (rw [Str.cat_tail (by omega)]; by_cases hk3 : ak = 3 <;> simp_all [Eff.then, Eff.cells, Eff.apply, optS, Str.nil])
 have p16 := of_decide_eq_false h16
 refine WC.skip (thn_n (WC.seq (WC.region (W.ok (ok_fieldB fd94_1 rfl) (W.ok (ok_loadB (i := 2) (vs := [.string _]) ty9 rfl rfl rfl rfl (by simp)) (W.ok (ok_fieldB fd94_1 rfl) (W.ok (ok_loadB (i := 1) (vs := [.string _]) ty9 rfl rfl rfl rfl (by simp)) (W.ok (Ok.str (b := (av.cat bv).b) (ok_addS rfl rfl (by omega)) ((Str.cat_b (by omega)).symm)) (W.qcall (rtail_fc _) rfl (W.ok (ok_build (L := [.int .i64 _, .string _]) pl94 zr94 rfl rfl rfl) (W.alloc zr94 (fun b6 => (W.store (i := 0) (vs := [.int .i64 _, .string _]) (L' := [.int .i64 _, .string _]) ty94 rfl rfl rfl rfl rfl rfl rfl rfl (W.nil (thn_n (WC.seq ?_))))))))))))))))
 refine WC.seq (WC.region (W.ok (ok_fieldB fd94_0 rfl) (W.ok (ok_loadB (i := 3) (vs := [.int .i64 _]) ty3 rfl rfl rfl rfl (by simp)) (W.ok (ok_eql rfl rfl) (W.nil (thn_n ?_))))))
 refine WC.cond (b := _) rfl (fun h28 => ?_) (fun h28 => ?_)
 ·have p28 := of_decide_eq_true h28
  refine WC.region (W.ok (ok_fieldB fd94_0 rfl) (W.store (i := 0) (vs := [.int .i64 _]) (L' := [.int .i64 _, .string _]) ty3 rfl rfl rfl rfl rfl rfl rfl rfl (W.nil (thn_n (WC.seq (WC.region (W.ok (ok_loadB (i := 0) (vs := [.int .i64 _, .string _]) ty94 rfl rfl rfl rfl (by simp)) (W.store (i := 1) (vs := [.int .i64 _, .string _]) (L' := [.int .i64 _, .string _]) ty94 rfl rfl rfl rfl rfl rfl rfl rfl (W.nil (thn_n (WC.ret ?_)))))))))))
  refine ⟨.inr rfl, [_], ⟨⟨_, _, _, _, _, rfl, nthM_mem (i := 1) rfl, ty94, (by simp), rfl, rfl⟩, trivial⟩, [], sn9, ?_⟩
  refine congrArg (fun l => Value.agg (List.toArray l)) ?_
  show [Value.int _ _, Value.string _] = _
  first | (simp_all [Eff.then, Eff.cells, Eff.apply, optS, Str.nil, Str.cat_tail]; done) | (rw [Str.cat_tail (by omega)]; simp_all [Eff.then, Eff.cells, Eff.apply, optS, Str.nil]; done) | (rw [Str.cat_tail (by omega)]; by_cases hk3 : ak = 3 <;> simp_all [Eff.then, Eff.cells, Eff.apply, optS, Str.nil])
 have p28 := of_decide_eq_false h28
 refine WC.skip (thn_n (WC.seq (WC.region (W.ok (ok_loadB (i := 0) (vs := [.int .i64 _, .string _]) ty94 rfl rfl rfl rfl (by simp)) (W.store (i := 1) (vs := [.int .i64 _, .string _]) (L' := [.int .i64 _, .string _]) ty94 rfl rfl rfl rfl rfl rfl rfl rfl (W.nil (thn_n (WC.ret ?_))))))))
 refine ⟨.inr rfl, [_], ⟨⟨_, _, _, _, _, rfl, nthM_mem (i := 1) rfl, ty94, (by simp), rfl, rfl⟩, trivial⟩, [], sn9, ?_⟩
 refine congrArg (fun l => Value.agg (List.toArray l)) ?_
 show [Value.int _ _, Value.string _] = _
 first | (simp_all [Eff.then, Eff.cells, Eff.apply, optS, Str.nil, Str.cat_tail]; done) | (rw [Str.cat_tail (by omega)]; simp_all [Eff.then, Eff.cells, Eff.apply, optS, Str.nil]; done) | (rw [Str.cat_tail (by omega)]; by_cases hk3 : ak = 3 <;> simp_all [Eff.then, Eff.cells, Eff.apply, optS, Str.nil])

theorem ron18_fc {G : GH} {v_l : Value} {l : List Msg} (h_l : SlR eMsg G v_l l) (key : Str) (hm : ∀ m ∈ l, m.key.b.size < 140737488355328 ∧ m.val.b.size ≤ 16) :
    Fc Try.prog 56 [v_l, .string key.b] G [] (fun v _ _ => v = .agg (List.toArray ((onsN l key).cells))) := by
 obtain ⟨sa_l, sc_l, rfl⟩ := h_l.form
 have hl := h_l.len47
 refine Fc.intro (rs := [.cell 4 94]) cl56 Try.func56 rfl Try.ntmps56 rfl rfl (fun w0 => ?_)
 refine WC.seq (WC.region (W.alloc zr94 (fun b7 => (W.nil (thn_n (WC.seq (WC.region (W.ok (ok_build (L := [.int .i64 _, .string _]) pl94 zr94 rfl rfl rfl) (W.alloc zr94 (fun b8 => (W.store (i := 0) (vs := [.int .i64 _, .string _]) (L' := [.int .i64 _, .string _]) ty94 rfl rfl rfl rfl rfl rfl rfl rfl (W.nil (thn_n (WC.seq (WC.seq (WC.region (W.as ?_)))))))))))))))))
 refine W.nil (thn_n (WC.block ?_))
 refine WC.loop (X := Nat) (fun k => [(6, .int .i64 ((k : Nat) : Int)), (4, .pointer (some ⟨b7, 0, none⟩)), (5, .pointer (some ⟨b8, 0, none⟩)), (0, .slice sa_l l.length sc_l), (1, .string key.b)]) (fun k _ Ml => Ml = [(b8, .cells (List.toArray [.int .i64 (onsN (l.take k) key).kind, .string (onsN (l.take k) key).val.b]) 94 (0, 0)), (b7, .cells (List.toArray [.int .i64 0, .string ⟨#[]⟩]) 94 (0, 0))] ∧ k ≤ l.length) (fun k => l.length - k) 0 ⟨eqv, eqv, eqv, eqv, eqv, trivial⟩ ?_ ?_
 ·exact ⟨rfl, by omega⟩
 rintro k gG9 G9 _ hG9 ⟨rfl, hk⟩
 have hon := onsN_val (l.take k) key (fun m hm2 => (hm m (List.mem_of_mem_take hm2)).2)
 refine WC.seq (WC.seq (WC.region (W.mv (W.mv (W.ok (ok_len sl33 (h_l.mono hG9) rfl) (W.ok (ok_lss rfl rfl) (W.nil (thn_n ?_))))))))
 refine WC.cond (b := _) rfl (fun h11 => ?_) (fun h11 => ?_)
 ·have p11 := of_decide_eq_true h11
  refine WC.skip (thn_n (WC.seq (WC.block (WC.drawW _ (sr9.k9.cons _) mix (by rintro _ _ _ _ ⟨h | h, _⟩ <;> cases h) (WD.tk 1 rfl (ok_mv) (WD.tk 2 rfl (ok_mv) ?_))))))
  have q14 := (h_l.mono hG9).at (i := k) (by omega)
  refine match q14 with | ⟨_, he10, ⟨e_13, hm11⟩⟩ => ?_
  subst e_13
  refine WD.tk 3 rfl (ok_indexAddr (i := k) sl33 ty141 (h_l.mono hG9) rfl rfl ⟨by omega, by omega⟩) (WD.tk 4 rfl (ok_loadE (vs := [.int .i64 _, .int .i64 _, .string _, .string _, .bool _, .string _]) ty141 he10 rfl rfl rfl (by simp)) (WD.tk 5 rfl (ok_mv) ?_))
  refine WD.any [0, 6] (by kernel_rfl) rfl ⟨⟨_, rfl, rfl, ?_⟩, ⟨_, rfl, rfl, ?_⟩, trivial⟩
  ·refine W.ok (ok_loadB (i := 0) (vs := [.int .i64 _, .string _]) ty94 rfl rfl rfl rfl (by simp)) (W.nil (WD.n9 Le.rfl (sr9.k9.cons _) (WD.a1 6 rfl (W.qcall (ron_fc _ _ _ _ _ _ _ (hm _ (List.getElem_mem _)).1) rfl (W.nil (WD.n9 Le.rfl (sr9.k9.cons _) (WD.a1 7 rfl (W.qcall (rthen_fc (onsN (l.take k) key).kind (onsN (l.take k) key).val (Msg.on l[k] key).kind (Msg.on l[k] key).val (by omega) (by have := on_val key (hm _ (List.getElem_mem (by omega : k < l.length))).2; omega) (ons_D _ _)) rfl (W.nil (WD.n9 Le.rfl (sr9.k9.cons _) (WD.a1 8 rfl (W.store (i := 0) (vs := [.int .i64 _, .string _]) (L' := [.int .i64 _, .string _]) ty94 rfl rfl rfl rfl rfl rfl rfl rfl (W.nil (WD.n9 Le.rfl (sr9.k9.cons _) (WD.done (by kernel_rfl) (blk_n (thn_n (WC.region (W.mv ?_)))))))))))))))))))
   refine W.ok (ok_add rfl rfl (by omega)) (W.as (W.nil (thn_n ?_)))
   exact ⟨Le.rfl, k + 1, ⟨eqv, eqv, eqv, eqv, eqv, trivial⟩, ⟨(by rw [onsN_succ _ (by omega)]; rfl), by omega⟩, by omega⟩
  refine W.qcall (ron_fc _ _ _ _ _ _ _ (hm _ (List.getElem_mem _)).1) rfl (W.nil (WD.n9 Le.rfl (sr9.k9.cons _) (WD.a1 0 rfl (W.ok (ok_loadB (i := 0) (vs := [.int .i64 _, .string _]) ty94 rfl rfl rfl rfl (by simp)) (W.nil (WD.n9 Le.rfl (sr9.k9.cons _) (WD.a1 7 rfl (W.qcall (rthen_fc (onsN (l.take k) key).kind (onsN (l.take k) key).val (Msg.on l[k] key).kind (Msg.on l[k] key).val (by omega) (by have := on_val key (hm _ (List.getElem_mem (by omega : k < l.length))).2; omega) (ons_D _ _)) rfl (W.nil (WD.n9 Le.rfl (sr9.k9.cons _) (WD.a1 8 rfl (W.store (i := 0) (vs := [.int .i64 _, .string _]) (L' := [.int .i64 _, .string _]) ty94 rfl rfl rfl rfl rfl rfl rfl rfl (W.nil (WD.n9 Le.rfl (sr9.k9.cons _) (WD.done (by kernel_rfl) (blk_n (thn_n (WC.region (W.mv ?_)))))))))))))))))))
  refine W.ok (ok_add rfl rfl (by omega)) (W.as (W.nil (thn_n ?_)))
  exact ⟨Le.rfl, k + 1, ⟨eqv, eqv, eqv, eqv, eqv, trivial⟩, ⟨(by rw [onsN_succ _ (by omega)]; rfl), by omega⟩, by omega⟩
 have p11 := of_decide_eq_false h11
 refine WC.exit (thn_x (thn_x (blk_h (thn_n (WC.seq (WC.region (W.ok (ok_loadB (i := 0) (vs := [.int .i64 _, .string _]) ty94 rfl rfl rfl rfl (by simp)) (W.store (i := 1) (vs := [.int .i64 _, .string _]) (L' := [.int .i64 _, .string _]) ty94 rfl rfl rfl rfl rfl rfl rfl rfl (W.nil (thn_n (WC.ret ?_)))))))))))
 refine ⟨.inr rfl, [_], ⟨⟨_, _, _, _, _, rfl, nthM_mem (i := 1) rfl, ty94, (by simp), rfl, rfl⟩, trivial⟩, [], sn9, ?_⟩
 refine congrArg (fun l => Value.agg (List.toArray l)) ?_
 show [Value.int _ _, Value.string _] = _
 rw [List.take_of_length_le (by omega)]; rfl

theorem some_fc {G : GH} {v_l : Value} {l : List Str} (h_l : SlR eStr G v_l l) (hs : ∀ a ∈ l, a.b.size ≤ 100) (hl9 : l.length ≤ 100000) :
    Fc Try.prog 52 [v_l] G [] (fun v G' M' => OwnR eStr 9 G' v (someN l) M') := by
 obtain ⟨sa_l, sc_l, rfl⟩ := h_l.form
 have hl := h_l.len47
 refine Fc.intro (rs := [.tmp 2]) cl52 Try.func52 rfl Try.ntmps52 rfl rfl (fun w0 => ?_)
 refine WC.seq (WC.region (W.as (W.nil (thn_n (WC.seq (WC.region (W.litO (e := eStr) (l := [S_]) (css := [[.string _]]) sl32 ty9 zr9 rfl rfl rfl rfl rfl rfl ⟨rfl, trivial⟩ (fun v15 Ms16 ho17 => ?_))))))))
 have q21 := ho17.form
 refine match q21 with | ⟨sa18, sc19, e_20⟩ => ?_
 subst e_20
 refine W.as (W.nil (thn_n (WC.seq (WC.seq (WC.region (W.as (W.nil (thn_n (WC.block ?_)))))))))
 refine WC.loop (X := (Nat) × Value × MH) (fun k => [(4, .int .i64 ((k.1 : Nat) : Int)), (0, .slice sa_l l.length sc_l), (3, k.2.1)]) (fun k G Ml => Ml = (k.2.2 ++ []) ∧ OwnR eStr 9 G k.2.1 (someN (l.take k.1)) k.2.2 ∧ k.1 ≤ l.length) (fun k => l.length - k.1) (0, .slice sa18 ([S_]).length sc19, Ms16) ⟨eqv, eqv, eqv, trivial⟩ ?_ ?_
 ·exact ⟨rfl, (by exact ho17), by omega⟩
 rintro ⟨k, v_3, M_3⟩ gG22 G22 _ hG22 ⟨rfl, ho_3, hk⟩
 try dsimp only at ho_3 hk
 have hsl := some_len (l.take k)
 have htl : (l.take k).length ≤ k := by simp; omega
 refine WC.fr (f := setL gG22 [(4, .int .i64 ((k : Nat) : Int)), (0, .slice sa_l l.length sc_l), (3, v_3)]) rfl (WC.seq (WC.seq (WC.region (W.mv (W.mv (W.ok (ok_len sl32 (h_l.mono hG22) rfl) (W.ok (ok_lss rfl rfl) (W.nil (thn_n ?_)))))))))
 refine WC.cond (b := _) rfl (fun h9 => ?_) (fun h9 => ?_)
 ·have p9 := of_decide_eq_true h9
  refine WC.skip (thn_n (WC.seq (WC.block (WC.drawW _ sn9 mix (by rintro _ _ _ _ ⟨h | h, _⟩ <;> cases h) (WD.tk 0 rfl (ok_mv) (WD.tk 1 rfl (ok_mv) (WD.tk 2 rfl (ok_mv) ?_)))))))
  have q25 := (h_l.mono hG22).at (i := k) (by omega)
  refine match q25 with | ⟨_, he23, e_24⟩ => ?_
  subst e_24
  refine WD.tk 3 rfl (ok_indexAddr (i := k) sl32 ty9 (h_l.mono hG22) rfl rfl ⟨by omega, by omega⟩) (WD.tk 4 rfl (ok_loadE (vs := [.string _]) ty9 he23 rfl rfl rfl (by simp)) (WD.tk 5 rfl (ok_mv) (WD.tk 6 rfl (ok_mv) ?_)))
  have q28 := (h_l.mono hG22).at (i := k) (by omega)
  refine match q28 with | ⟨_, he26, e_27⟩ => ?_
  subst e_27
  refine WD.tk 7 rfl (ok_indexAddr (i := k) sl32 ty9 (h_l.mono hG22) rfl rfl ⟨by omega, by omega⟩) (WD.tk 8 rfl (ok_loadE (vs := [.string _]) ty9 he26 rfl rfl rfl (by simp)) (WD.tk 9 rfl (Ok.str (b := (Str.next (l[k]'(by omega))).b) (ok_addS rfl rfl (by have := hs _ (List.getElem_mem (by omega : k < l.length)); show _ + 1 ≤ _; omega)) ((Str.next_b (by have := hs _ (List.getElem_mem (by omega : k < l.length)); omega)).symm)) (WD.a1 10 rfl (W.lit (e := eStr) (l := [(l[k]'(by omega)), (Str.next (l[k]'(by omega)))]) (css := [[.string _], [.string _]]) sl32 ty9 zr9 rfl rfl rfl rfl rfl rfl ⟨rfl, rfl, trivial⟩ (fun bl29 G29 hG29 hv29 => (W.nil (WD.n9 hG29 sn9 (WD.a1 11 rfl (W.app (e := eStr) sl32 ty9 zr9 rfl by9 rfl rfl ((ho_3.mono hG29)) (hv29) pr9 (by show (List.length _ + List.length _) * 16 ≤ _; first | omega | (simp; omega)) (fun v30 Ms31 ho32 => ?_))))))))))
  have q36 := ho32.form
  refine match q36 with | ⟨sa33, sc34, e_35⟩ => ?_
  subst e_35
  refine W.nil (WD.n9 Le.rfl sn9 (WD.tk 12 rfl (ok_as) (WD.done (by kernel_rfl) (blk_n (thn_n (WC.region (W.mv (W.ok (ok_add rfl rfl (by omega)) (W.as (W.nil (thn_n ?_)))))))))))
  exact ⟨hG29, (k + 1, .slice sa33 ((someN (l.take k) ++ [(l[k]'(by omega)), (Str.next (l[k]'(by omega)))])).length sc34, Ms31), ⟨eqv, eqv, eqv, trivial⟩, ⟨rfl, (by have h := ho32; rw [some_succ (by omega)]; simpa [List.append_assoc] using h), by omega⟩, by omega⟩
 have p9 := of_decide_eq_false h9
 refine WC.exit (thn_x (thn_x (blk_h (thn_n (WC.seq (WC.region (W.mv (W.as (W.nil (thn_n (WC.ret ?_)))))))))))
 refine ⟨.inr rfl, [_], ⟨rfl, trivial⟩, M_3, List.sublist_append_left _ _, ?_⟩
 have h := ho_3; rw [List.take_of_length_le (by omega)] at h; exact h

end Go.Proofs.Ytmbafmifalppaaa
