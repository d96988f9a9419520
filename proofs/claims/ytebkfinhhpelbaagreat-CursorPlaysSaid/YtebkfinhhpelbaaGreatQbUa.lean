/- Walks of nodes by their slots, and of seats. -/
import Derived.Test.YtebkfinhhpelbaaGreatQbV6
set_option maxRecDepth 100000
set_option maxHeartbeats 1600000
set_option linter.unusedVariables false
set_option linter.unusedSimpArgs false
set_option linter.unnecessarySimpa false
namespace Go.Proofs.YtebkfinhhpelbaaGreat
open Go Go.Fw Go.RowKit
theorem findnd_fc {G : GH} {v_l : Value} {l : List Nd} (h_l : SlR eNode G v_l l) (i : Int) :
    Fc Tryz.prog 125 [v_l, .int .i64 i] G [] (fun v G' M' => M' = [] ∧ ∃ u0, v = .tuple #[.agg (List.toArray u0), .bool ((findN l i).2)] ∧ NodeC G' u0 ((findN l i).1)) := by
 obtain ⟨sa_l, sc_l, rfl⟩ := h_l.form
 have hl := h_l.len47
 have hok : ∀ n ∈ l, n.Ok := h_l.nok
 refine Fc.intro (rs := [.cell 4 47, .tmp 5]) cl125 Tryz.func125 rfl Tryz.ntmps125 rfl rfl (fun w0 => ?_)
 refine WC.seq (WC.region (W.alloc zr47 (fun b1 => (W.as (W.nil (thn_n (WC.seq (WC.region (W.ok (ok_build (L := (nd9 _ _ _ _ _ _ _ _ _ _ _ _ _ _ _ _ _ _)) pl47 zr47 rfl rfl rfl) (W.alloc zr47 (fun b2 => (W.store (i := 0) (vs := (nd9 _ _ _ _ _ _ _ _ _ _ _ _ _ _ _ _ _ _)) (L' := (nd9 _ _ _ _ _ _ _ _ _ _ _ _ _ _ _ _ _ _)) ty47 rfl rfl rfl rfl rfl rfl rfl rfl (W.nil (thn_n (WC.seq (WC.region (W.as ?_)))))))))))))))))
 refine W.nil (thn_n (WC.seq (WC.seq (WC.region (W.as (W.nil (thn_n (WC.block ?_))))))))
 refine WC.loop (X := (Nat) × List Value) (fun k => [(7, .int .i64 (((atS (l.take k.1) i).length : Nat) : Int)), (8, .int .i64 ((k.1 : Nat) : Int)), (4, .pointer (some ⟨b1, 0, none⟩)), (6, .pointer (some ⟨b2, 0, none⟩)), (0, .slice sa_l l.length sc_l), (1, .int .i64 i)]) (fun k G Ml => Ml = [(b2, .cells (List.toArray k.2) 47 (0, 0)), (b1, .cells (List.toArray [.int .i64 0, .int .i64 0, .slice none 0 0, .slice none 0 0, .string ⟨#[]⟩, .bool false, .int .i64 0, .int .i64 0, .slice none 0 0, .slice none 0 0]) 47 (0, 0))] ∧ NodeC G k.2 ((atS (l.take k.1) i).getLast?.getD Nd.zero) ∧ k.1 ≤ l.length) (fun k => l.length - k.1) (0, ([.int .i64 0, .int .i64 0, .slice none 0 0, .slice none 0 0, .string ⟨#[]⟩, .bool false, .int .i64 0, .int .i64 0, .slice none 0 0, .slice none 0 0] : List Value)) ⟨eqv, eqv, eqv, eqv, eqv, eqv, trivial⟩ ?_ ?_
 ·exact ⟨rfl, (by exact ⟨_, _, _, _, _, _, _, _, rfl, SlR.nil, SlR.nil, SlR.nil, SlR.nil, Nd.zero_ok⟩), by omega⟩
 rintro ⟨k, C_6⟩ gG3 G3 _ hG3 ⟨rfl, ho_6, hk⟩
 try dsimp only at ho_6 hk
 have hal := atS_len l i k
 refine match ho_6 with | ⟨pa_nb4, pc_nb4, ka_nb4, kc_nb4, ma_nb4, mc_nb4, ra_nb4, rc_nb4, e_5, hp_nb4, hk_nb4, hm_nb4, hr_nb4, hok_nb4⟩ => ?_
 subst e_5
 refine WC.fr (f := setL gG3 [(7, .int .i64 (((atS (l.take k) i).length : Nat) : Int)), (8, .int .i64 ((k : Nat) : Int)), (4, .pointer (some ⟨b1, 0, none⟩)), (6, .pointer (some ⟨b2, 0, none⟩)), (0, .slice sa_l l.length sc_l), (1, .int .i64 i)]) rfl (WC.seq (WC.seq (WC.region (W.mv (W.mv (W.ok (ok_len sl24 (h_l.mono hG3) rfl) (W.ok (ok_lss rfl rfl) (W.nil (thn_n ?_)))))))))
 refine WC.cond (b := _) rfl (fun h13 => ?_) (fun h13 => ?_)
 ·have p13 := of_decide_eq_true h13
  refine WC.skip (thn_n (WC.seq (WC.block (WC.seq (WC.region (W.mv (W.mv ?_)))))))
  have q9 := (h_l.mono hG3).at (i := k) (by omega)
  refine match q9 with | ⟨_, he6, ⟨pa_n7, pc_n7, ka_n7, kc_n7, ma_n7, mc_n7, ra_n7, rc_n7, e_8, hp_n7, hk_n7, hm_n7, hr_n7, hok_n7⟩⟩ => ?_
  subst e_8
  refine W.ok (ok_indexAddr (i := k) sl24 ty47 (h_l.mono hG3) rfl rfl ⟨by omega, by omega⟩) (W.ok (ok_fieldE fd47_0 rfl he6.form) (W.ok (ok_loadE (vs := [.int .i64 _]) ty3 he6 rfl rfl rfl (by simp)) (W.mv (W.ok (ok_eql rfl rfl) (W.nil (thn_n ?_))))))
  refine WC.cond (b := _) rfl (fun h22 => ?_) (fun h22 => ?_)
  ·have p22 := of_decide_eq_true h22
   refine WC.seq (WC.region (W.mv (W.mv ?_)))
   have q13 := (h_l.mono hG3).at (i := k) (by omega)
   refine match q13 with | ⟨_, he10, ⟨pa_n11, pc_n11, ka_n11, kc_n11, ma_n11, mc_n11, ra_n11, rc_n11, e_12, hp_n11, hk_n11, hm_n11, hr_n11, hok_n11⟩⟩ => ?_
   subst e_12
   refine W.ok (ok_indexAddr (i := k) sl24 ty47 (h_l.mono hG3) rfl rfl ⟨by omega, by omega⟩) (W.ok (ok_loadE (vs := (nd9 _ _ _ _ _ _ _ _ _ _ _ _ _ _ _ _ _ _)) ty47 he10 rfl rfl rfl (by simp)) (W.store (i := 0) (vs := (nd9 _ _ _ _ _ _ _ _ _ _ _ _ _ _ _ _ _ _)) (L' := (nd9 _ _ _ _ _ _ _ _ _ _ _ _ _ _ _ _ _ _)) ty47 rfl rfl rfl rfl rfl rfl rfl rfl (W.nil (thn_n (WC.region (W.mv (W.ok (ok_add rfl rfl (by omega)) (W.as (W.nil (blk_n (thn_n (WC.region (W.mv (W.ok (ok_add rfl rfl (by omega)) (W.as (W.nil (thn_n ?_)))))))))))))))))
   exact ⟨Le.rfl, (k + 1, [.int .i64 ((l)[k]).slot, .int .i64 ((l)[k]).level, .slice pa_n11 (((l)[k]).pivots).length pc_n11, .slice ka_n11 (((l)[k]).kids).length kc_n11, .string ((l)[k]).high.b, .bool ((l)[k]).top, .int .i64 ((l)[k]).right, .int .i64 ((l)[k]).seen, .slice ma_n11 (((l)[k]).msgs).length mc_n11, .slice ra_n11 (((l)[k]).rows).length rc_n11]), ⟨(congrArg (fun n : Nat => Value.int .i64 (n : Int)) (by rw [atS_t (by omega) p22]; simp)), eqv, eqv, eqv, eqv, eqv, trivial⟩, ⟨rfl, (by have h0 : NodeC _ _ (l[k]'(by omega)) := ⟨_, _, _, _, _, _, _, _, rfl, hp_n11, hk_n11, hm_n11, hr_n11, hok_n11⟩; rw [atS_t (by omega) p22, last_snoc]; exact h0), by omega⟩, by omega⟩
  have p22 := of_decide_eq_false h22
  refine WC.skip (blk_n (thn_n (WC.region (W.mv (W.ok (ok_add rfl rfl (by omega)) (W.as (W.nil (thn_n ?_))))))))
  exact ⟨Le.rfl, (k + 1, [.int .i64 ((atS (l.take k) i).getLast?.getD Nd.zero).slot, .int .i64 ((atS (l.take k) i).getLast?.getD Nd.zero).level, .slice pa_nb4 (((atS (l.take k) i).getLast?.getD Nd.zero).pivots).length pc_nb4, .slice ka_nb4 (((atS (l.take k) i).getLast?.getD Nd.zero).kids).length kc_nb4, .string ((atS (l.take k) i).getLast?.getD Nd.zero).high.b, .bool ((atS (l.take k) i).getLast?.getD Nd.zero).top, .int .i64 ((atS (l.take k) i).getLast?.getD Nd.zero).right, .int .i64 ((atS (l.take k) i).getLast?.getD Nd.zero).seen, .slice ma_nb4 (((atS (l.take k) i).getLast?.getD Nd.zero).msgs).length mc_nb4, .slice ra_nb4 (((atS (l.take k) i).getLast?.getD Nd.zero).rows).length rc_nb4]), ⟨(congrArg (fun n : Nat => Value.int .i64 (n : Int)) (by rw [atS_f (by omega) p22])), eqv, eqv, eqv, eqv, eqv, trivial⟩, ⟨rfl, (by have h0 : NodeC _ _ ((atS (l.take k) i).getLast?.getD Nd.zero) := ⟨_, _, _, _, _, _, _, _, rfl, hp_nb4, hk_nb4, hm_nb4, hr_nb4, hok_nb4⟩; rw [atS_f (by omega) p22]; exact h0), by omega⟩, by omega⟩
 have p13 := of_decide_eq_false h13
 refine WC.exit (thn_x (thn_x (blk_h (thn_n (WC.seq (WC.region (W.ok (ok_loadB (i := 0) (vs := (nd9 _ _ _ _ _ _ _ _ _ _ _ _ _ _ _ _ _ _)) ty47 rfl rfl rfl rfl (by simp)) (W.mv (W.ok (ok_eql rfl rfl) (W.store (i := 1) (vs := (nd9 _ _ _ _ _ _ _ _ _ _ _ _ _ _ _ _ _ _)) (L' := (nd9 _ _ _ _ _ _ _ _ _ _ _ _ _ _ _ _ _ _)) ty47 rfl rfl rfl rfl rfl rfl rfl rfl (W.as (W.nil (thn_n (WC.ret ?_))))))))))))))
 refine ⟨.inr rfl, [_, _], ⟨⟨_, _, _, _, _, rfl, nthM_mem (i := 1) rfl, ty47, (by simp), rfl, rfl⟩, rfl, trivial⟩, [], sn9, ?_⟩
 exact ⟨rfl, _, congrArg (fun b : Bool => Value.tuple #[.agg (List.toArray _), .bool b]) (find_b (by omega)), NodeC.of ⟨_, _, _, _, _, _, _, _, rfl, hp_nb4, hk_nb4, hm_nb4, hr_nb4, hok_nb4⟩ (find_n (by omega))⟩

theorem seats_fc {G : GH} {v_l : Value} {l : List Nd} (h_l : SlR eNode G v_l l) (i : Int) (hS : Sml l) :
    Fc Tryz.prog 64 [v_l, .int .i64 i] G [] (fun v G' M' => M' = [] ∧ ((∃ u ss, seatsN l i = some ss ∧ v = .tuple #[u, .bool true] ∧ SlR eSeat G' u ss ∧ QS l ss) ∨ (∃ u ss, seatsN l i = none ∧ v = .tuple #[u, .bool false] ∧ SlR eSeat G' u ss))) := by
 obtain ⟨sa_l, sc_l, rfl⟩ := h_l.form
 have hl := h_l.len47
 have hl100 := hS.1
 refine Fc.intro (rs := [.tmp 4, .tmp 5]) cl64 Tryz.func64 rfl Tryz.ntmps64 rfl rfl (fun w0 => ?_)
 refine WC.seq (WC.region (W.as (W.as (W.nil (thn_n (WC.seq (WC.region (W.mv (W.mv (W.call (Mp := []) (findnd_fc h_l _) rfl pr9 ?_))))))))))
 intro _ G14 _ hG14 q16
 refine match q16 with | ⟨e_17, _, e_18, hv15⟩ => ?_
 subst e_17
 subst e_18
 refine match hv15 with | ⟨pa_hv15, pc_hv15, ka_hv15, kc_hv15, ma_hv15, mc_hv15, ra_hv15, rc_hv15, e_19, hp_hv15, hk_hv15, hm_hv15, hr_hv15, hok_hv15⟩ => ?_
 subst e_19
 refine W.mv (W.ok (ok_extract rfl rfl) (W.ok (ok_extract rfl rfl) (W.alloc zr47 (fun b20 => (W.store (i := 0) (vs := (nd9 _ _ _ _ _ _ _ _ _ _ _ _ _ _ _ _ _ _)) (L' := (nd9 _ _ _ _ _ _ _ _ _ _ _ _ _ _ _ _ _ _)) ty47 rfl rfl rfl rfl rfl rfl rfl rfl (W.as (W.nil (thn_n (WC.seq (WC.seq (WC.region (W.mv (W.ok (ok_not rfl) (W.nil (thn_n ?_)))))))))))))))
 refine WC.cond (b := _) rfl (fun h23 => ?_) (fun h23 => ?_)
 ·refine WC.seq (WC.region (W.as (W.as (W.nil (thn_n (WC.ret (thn_r ?_)))))))
  refine ⟨.inr rfl, [_, _], ⟨rfl, rfl, trivial⟩, [], sn9, ?_⟩
  exact ⟨rfl, .inr ⟨_, [], seats_none (by simpa using h23), rfl, SlR.nil⟩⟩
 have hq0 := QOk.init (l := l) (root := i) (by simpa using h23)
 refine WC.skip (thn_n (WC.seq (WC.region (W.ok (ok_loadB (i := 0) (vs := (nd9 _ _ _ _ _ _ _ _ _ _ _ _ _ _ _ _ _ _)) ty47 rfl rfl rfl rfl (by simp)) (W.ok (ok_build (L := [.string _, .string _, .bool _]) pl52 zr52 rfl rfl rfl) (W.ok (ok_build (L := [.int .i64 _, .int .i64 _, .slice _ _ _, .slice _ _ _, .string _, .bool _, .int .i64 _, .int .i64 _, .slice _ _ _, .slice _ _ _, .string _, .string _, .bool _, .slice _ _ _]) pl111 zr111 rfl rfl rfl) (W.litO (e := eSeat) (l := [(rootS l i)]) (css := [[.int .i64 _, .int .i64 _, .slice _ _ _, .slice _ _ _, .string _, .bool _, .int .i64 _, .int .i64 _, .slice _ _ _, .slice _ _ _, .string _, .string _, .bool _, .slice _ _ _]]) sl105 ty111 zr111 rfl rfl rfl rfl rfl rfl ⟨⟨_, _, _, _, _, _, _, _, _, _, rfl, hp_hv15, hk_hv15, hm_hv15, hr_hv15, SlR.nil, hok_hv15⟩, trivial⟩ (fun v21 Ms22 ho23 => (W.perm (pmC pr9).symm (W.as (W.nil (thn_n (WC.seq (WC.seq (WC.sub (sr9.cons _) (WC.region ?_))))))))))))))))
 refine W.as (W.nil (thn_n (WC.block ?_)))
 refine WC.loop (X := (Nat × List Seat) × Value × MH) (fun x => [(9, .int .i64 ((x.1.1 : Nat) : Int)), (0, .slice sa_l l.length sc_l), (8, x.2.1)]) (fun x G Ml => Ml = (x.2.2 ++ []) ∧ OwnR eSeat 111 G x.2.1 (x.1.2) x.2.2 ∧ QOk l i x.1.1 x.1.2 ∧ QS l x.1.2) (fun x => l.length + 1 - x.1.1) (((0, [rootS l i]) : Nat × List Seat), v21, Ms22) ⟨eqv, eqv, eqv, trivial⟩ ?_ ?_
 ·exact ⟨rfl, (by exact ho23), hq0, QS.init hS i⟩
 rintro ⟨⟨q, out⟩, v_8, M_8⟩ gG24 G24 _ hG24 ⟨rfl, ho_8, hq, hqs⟩
 try dsimp only at ho_8 hq hqs
 have hq1 := hq.le
 have hq2 := hq.len
 have hq3 := hq.pos
 refine WC.fr (f := setL gG24 [(9, .int .i64 ((q : Nat) : Int)), (0, .slice sa_l l.length sc_l), (8, v_8)]) rfl (WC.seq (WC.seq (WC.region (W.mv (W.mv (W.ok (ok_lenO sl105 ho_8 rfl) (W.ok (ok_lss rfl rfl) (W.nil (thn_n ?_)))))))))
 refine WC.cond (b := _) rfl (fun h31 => ?_) (fun h31 => ?_)
 ·have p31 := of_decide_eq_true h31
  refine WC.skip (thn_n (WC.seq (WC.block (WC.seq (WC.region (W.mv (W.mv ?_)))))))
  have q28 := ho_8.at (i := q) (by omega)
  refine match q28 with | ⟨_, he25, ⟨pa_t26, pc_t26, ka_t26, kc_t26, ma_t26, mc_t26, ra_t26, rc_t26, qa_t26, qc_t26, e_27, hp_t26, hk_t26, hm_t26, hr_t26, hq_t26, hok_t26⟩⟩ => ?_
  subst e_27
  obtain ⟨sx, hssx⟩ : ∃ y, y = ((out)[q]) := ⟨_, rfl⟩
  rw [← hssx] at he25 hp_t26 hk_t26 hm_t26 hr_t26 hq_t26 hok_t26
  refine W.ok (ok_indexAddrO (i := q) sl105 ty111 ho_8 rfl rfl ⟨by omega, by omega⟩) (W.ok (ok_loadO (vs := [.int .i64 _, .int .i64 _, .slice _ _ _, .slice _ _ _, .string _, .bool _, .int .i64 _, .int .i64 _, .slice _ _ _, .slice _ _ _, .string _, .string _, .bool _, .slice _ _ _]) ty111 he25 pr9 rfl rfl rfl (by simp)) (W.alloc zr111 (fun b29 => (W.store (i := 0) (vs := [.int .i64 _, .int .i64 _, .slice _ _ _, .slice _ _ _, .string _, .bool _, .int .i64 _, .int .i64 _, .slice _ _ _, .slice _ _ _, .string _, .string _, .bool _, .slice _ _ _]) (L' := [.int .i64 _, .int .i64 _, .slice _ _ _, .slice _ _ _, .string _, .bool _, .int .i64 _, .int .i64 _, .slice _ _ _, .slice _ _ _, .string _, .string _, .bool _, .slice _ _ _]) ty111 rfl rfl rfl rfl rfl rfl rfl rfl (W.nil (thn_n (WC.seq (WC.seq (WC.region (W.mv (W.ok (ok_lenO sl105 ho_8 rfl) (W.mv (W.ok (ok_len sl24 (h_l.mono (hG14.trans hG24)) rfl) (W.ok (ok_gtr rfl rfl) (W.nil (thn_n ?_))))))))))))))))
  refine WC.cond (b := _) rfl (fun h42 => ?_) (fun h42 => ?_)
  ·have p42 := of_decide_eq_true h42
   refine WC.seq (WC.region (W.mv (W.as (W.as (W.nil (thn_n (WC.giveO ho_8 (pmC pr9) (fun G30 hG30 hv30 => (WC.ret (thn_r (blk_r (thn_r (thn_r (blk_r (thn_r ?_)))))))))))))))
   refine ⟨.inr rfl, [_, _], ⟨rfl, rfl, trivial⟩, [], sn9, ?_⟩
   exact ⟨rfl, .inr ⟨_, _, hq.long (by omega) (by omega), rfl, hv30⟩⟩
  have p42 := of_decide_eq_false h42
  refine WC.skip (thn_n (WC.seq (WC.seq ?_)))
  obtain ⟨hlv1, hlv2⟩ := hok_t26.2.1
  have hsx := hqs q (by omega)
  rw [← hssx] at hsx
  have hnd := hS.at hsx.nd
  have hnk : sx.n.kids.length ≤ 4000 := hnd.1
  have hk1 : ∀ m ∈ sx.n.msgs, m.key.b.size < 140737488355328 := fun m hm => by have := hnd.2.2.2.2.2.1 m hm; omega
  have hk2 : ∀ m ∈ sx.ms, m.key.b.size < 140737488355328 := fun m hm => by have := hsx.key m hm; omega
  refine WC.region (W.ok (ok_fieldB fd111_0 rfl) (W.ok (ok_fieldB fd47_1 rfl) (W.ok (ok_loadB (i := 0) (vs := [.int .i64 _]) ty3 rfl rfl rfl rfl (by simp)) (W.ok (ok_eql rfl rfl) (W.nil (thn_n ?_))))))
  refine WC.cond (b := _) rfl (fun h47 => ?_) (fun h47 => ?_)
  ·have p47 := of_decide_eq_true h47
   refine WC.exit (thn_x (blk_h (thn_n (WC.region (W.mv (W.ok (ok_add rfl rfl (by omega)) (W.as (W.sub (sr9.cons _) (W.nil (thn_n ?_))))))))))
   exact ⟨Le.rfl, (((q + 1, out ++ []) : Nat × List Seat), v_8, M_8), ⟨eqv, eqv, eqv, trivial⟩, ⟨rfl, (by rw [List.append_nil]; exact ho_8), hq.next (by omega) (by omega) (by rw [← hssx]; exact kidsO_0 p47), by dsimp only; rw [List.append_nil]; exact hqs⟩, by dsimp only; omega⟩
  have p47 := of_decide_eq_false h47
  refine WC.skip (thn_n (WC.seq (WC.seq (WC.region (W.ok (ok_fieldB fd111_0 rfl) (W.ok (ok_fieldB fd47_1 rfl) (W.ok (ok_loadB (i := 0) (vs := [.int .i64 _]) ty3 rfl rfl rfl rfl (by simp)) (W.ok (ok_lss rfl rfl) (W.mv ?_)))))))))
  refine W.sp 52 rfl (fun h51 => ?_) (fun h51 => ?_)
  ·have p51 := of_decide_eq_true h51
   refine W.no (dj := 52) rfl rfl h51 (W.no (dj := 52) rfl rfl h51 (W.no (dj := 52) rfl rfl h51 (W.no (dj := 52) rfl rfl h51 (W.no (dj := 52) rfl rfl h51 (W.no (dj := 52) rfl rfl h51 (W.no (dj := 52) rfl rfl h51 (W.no (dj := 52) rfl rfl h51 (W.ok (ok_pick_t rfl h51) (W.nil (thn_n (WC.cond_t rfl rfl (WC.seq (WC.region (W.mv ?_))))))))))))))
   refine W.as (W.as (W.nil (thn_n (WC.giveO ho_8 (pmC pr9) (fun G31 hG31 hv31 => (WC.ret (thn_r (blk_r (thn_r (thn_r (blk_r (thn_r ?_))))))))))))
   refine ⟨.inr rfl, [_, _], ⟨rfl, rfl, trivial⟩, [], sn9, ?_⟩
   exact ⟨rfl, .inr ⟨_, _, hq.none (by omega) (by rw [← hssx]; exact kidsO_n p47 (.inl p51)), rfl, hv31⟩⟩
  have p51 := of_decide_eq_false h51
  refine W.yes (dj := 52) rfl rfl h51 (W.ok (ok_fieldB fd111_0 rfl) (W.yes (dj := 52) rfl rfl h51 (W.ok (ok_fieldB fd47_2 rfl) (W.yes (dj := 52) rfl rfl h51 (W.ok (ok_loadB (i := 0) (vs := [.slice _ _ _]) ty43 rfl rfl rfl rfl (by simp)) (W.yes (dj := 52) rfl rfl h51 (W.ok (ok_fieldB fd111_0 rfl) (W.yes (dj := 52) rfl rfl h51 (W.ok (ok_fieldB fd47_3 rfl) (W.yes (dj := 52) rfl rfl h51 (W.ok (ok_loadB (i := 0) (vs := [.slice _ _ _]) ty44 rfl rfl rfl rfl (by simp)) (W.yes (dj := 52) rfl rfl h51 (W.qcall (rright_fc hp_t26 hk_t26) rfl ?_)))))))))))))
  refine W.yes (dj := 52) rfl rfl h51 (W.ok (ok_not rfl) (W.ok (ok_pick_f rfl h51) (W.nil (thn_n ?_))))
  refine WC.cond (b := _) rfl (fun h60 => ?_) (fun h60 => ?_)
  ·refine WC.seq (WC.region (W.mv (W.as (W.as (W.nil (thn_n (WC.giveO ho_8 (pmC pr9) (fun G32 hG32 hv32 => (WC.ret (thn_r (blk_r (thn_r (thn_r (blk_r (thn_r ?_)))))))))))))))
   refine ⟨.inr rfl, [_, _], ⟨rfl, rfl, trivial⟩, [], sn9, ?_⟩
   exact ⟨rfl, .inr ⟨_, _, hq.none (by omega) (by rw [← hssx]; exact kidsO_n p47 (.inr (by simpa using h60))), rfl, hv32⟩⟩
  refine WC.skip (thn_n (WC.seq (WC.region (W.as (W.nil (thn_n (WC.block ?_)))))))
  refine WC.loop (X := (Nat) × Value × MH) (fun j => [(11, .int .i64 ((j.1 : Nat) : Int)), (10, .pointer (some ⟨b29, 0, none⟩)), (0, .slice sa_l l.length sc_l), (9, .int .i64 ((q : Nat) : Int)), (8, j.2.1)]) (fun j G Ml => Ml = ((b29, .cells (List.toArray [.int .i64 sx.n.slot, .int .i64 sx.n.level, .slice pa_t26 (sx.n.pivots).length pc_t26, .slice ka_t26 (sx.n.kids).length kc_t26, .string sx.n.high.b, .bool sx.n.top, .int .i64 sx.n.right, .int .i64 sx.n.seen, .slice ma_t26 (sx.n.msgs).length mc_t26, .slice ra_t26 (sx.n.rows).length rc_t26, .string (sx.s).lo.b, .string (sx.s).hi.b, .bool (sx.s).opn, .slice qa_t26 (sx.ms).length qc_t26]) 111 (0, 0)) :: (j.2.2 ++ [])) ∧ OwnR eSeat 111 G j.2.1 (out ++ kidsF l sx j.1) j.2.2 ∧ j.1 ≤ sx.n.kids.length ∧ (∀ j2, j2 < j.1 → kidOk l sx j2 = true) ∧ QS l (out ++ kidsF l sx j.1)) (fun j => sx.n.kids.length - j.1) (0, v_8, M_8) ⟨eqv, eqv, eqv, eqv, eqv, trivial⟩ ?_ ?_
  ·exact ⟨rfl, (by rw [show kidsF l sx 0 = [] from rfl, List.append_nil]; exact ho_8), by omega, (fun j2 h => by omega), by rw [show kidsF l sx 0 = [] from rfl, List.append_nil]; exact hqs⟩
  rintro ⟨j, v_8, M_8⟩ gG33 G33 _ hG33 ⟨rfl, ho_8, hj, hjk, hqj⟩
  try dsimp only at ho_8 hj hjk hqj
  have hkl := kidsF_len l sx j
  refine WC.fr (f := setL gG33 [(11, .int .i64 ((j : Nat) : Int)), (10, .pointer (some ⟨b29, 0, none⟩)), (0, .slice sa_l l.length sc_l), (9, .int .i64 ((q : Nat) : Int)), (8, v_8)]) rfl (WC.seq (WC.seq (WC.region (W.mv (W.ok (ok_fieldB fd111_0 rfl) (W.ok (ok_fieldB fd47_3 rfl) (W.ok (ok_loadB (i := 0) (vs := [.slice _ _ _]) ty44 rfl rfl rfl rfl (by simp)) (W.ok (ok_len sl44 (hk_t26.mono hG33) rfl) (W.ok (ok_lss rfl rfl) (W.nil (thn_n ?_)))))))))))
  refine WC.cond (b := _) rfl (fun h68 => ?_) (fun h68 => ?_)
  ·have p68 := of_decide_eq_true h68
   refine WC.skip (thn_n (WC.seq (WC.block (WC.seq (WC.region (W.mv (W.ok (ok_fieldB fd111_0 rfl) (W.ok (ok_fieldB fd47_3 rfl) (W.ok (ok_loadB (i := 0) (vs := [.slice _ _ _]) ty44 rfl rfl rfl rfl (by simp)) (W.mv ?_))))))))))
   have q37 := (hk_t26.mono hG33).at (i := j) (by omega)
   refine match q37 with | ⟨_, he34, ⟨e_36, hi35⟩⟩ => ?_
   subst e_36
   refine W.ok (ok_indexAddr (i := j) sl44 ty3 (hk_t26.mono hG33) rfl rfl ⟨by omega, by omega⟩) (W.ok (ok_loadE (vs := [.int .i64 _]) ty3 he34 rfl rfl rfl (by simp)) (W.call (Mp := []) (findnd_fc (h_l.mono ((hG14.trans hG24).trans hG33)) (sx.n.kids[j]'(by omega))) rfl pr9 ?_))
   intro _ G38 _ hG38 q40
   refine match q40 with | ⟨e_41, _, e_42, hv39⟩ => ?_
   subst e_41
   subst e_42
   refine match hv39 with | ⟨pa_hv39, pc_hv39, ka_hv39, kc_hv39, ma_hv39, mc_hv39, ra_hv39, rc_hv39, e_43, hp_hv39, hk_hv39, hm_hv39, hr_hv39, hok_hv39⟩ => ?_
   subst e_43
   refine W.mv (W.ok (ok_extract rfl rfl) (W.ok (ok_extract rfl rfl) (W.alloc zr47 (fun b44 => (W.store (i := 0) (vs := (nd9 _ _ _ _ _ _ _ _ _ _ _ _ _ _ _ _ _ _)) (L' := (nd9 _ _ _ _ _ _ _ _ _ _ _ _ _ _ _ _ _ _)) ty47 rfl rfl rfl rfl rfl rfl rfl rfl (W.as (W.nil (thn_n (WC.seq (WC.seq (WC.region (W.mv (W.ok (ok_not rfl) (W.mv ?_))))))))))))))
   refine W.sp 84 rfl (fun h83 => ?_) (fun h83 => ?_)
   ·refine W.no (dj := 84) rfl rfl h83 (W.no (dj := 84) rfl rfl h83 (W.no (dj := 84) rfl rfl h83 (W.no (dj := 84) rfl rfl h83 (W.no (dj := 84) rfl rfl h83 (W.no (dj := 84) rfl rfl h83 (W.no (dj := 84) rfl rfl h83 (W.ok (ok_pick_t rfl h83) (W.nil (thn_n (WC.cond_t rfl rfl (WC.seq (WC.region (W.mv (W.as ?_))))))))))))))
    refine W.as (W.nil (thn_n (WC.giveO (ho_8.mono hG38) (pmC (pmC pr9)) (fun G45 hG45 hv45 => (WC.ret (thn_r (blk_r (thn_r (thn_r (blk_r (blk_r (thn_r (thn_r (blk_r (thn_r ?_)))))))))))))))
    refine ⟨.inr rfl, [_, _], ⟨rfl, rfl, trivial⟩, [], sn9, ?_⟩
    exact ⟨rfl, .inr ⟨_, _, hq.none (by omega) (by rw [← hssx]; exact kidsO_f (j := j) p47 (by omega) (kidOk_a (by omega) (by simpa using h83))), rfl, hv45⟩⟩
   refine W.yes (dj := 84) rfl rfl h83 (W.ok (ok_fieldB fd47_1 rfl) (W.yes (dj := 84) rfl rfl h83 (W.ok (ok_loadB (i := 0) (vs := [.int .i64 _]) ty3 rfl rfl rfl rfl (by simp)) (W.yes (dj := 84) rfl rfl h83 (W.ok (ok_fieldB fd111_0 rfl) (W.yes (dj := 84) rfl rfl h83 (W.ok (ok_fieldB fd47_1 rfl) (W.yes (dj := 84) rfl rfl h83 (W.ok (ok_loadB (i := 1) (vs := [.int .i64 _]) ty3 rfl rfl rfl rfl (by simp)) (W.yes (dj := 84) rfl rfl h83 (W.ok (ok_sub rfl rfl (by omega)) (W.yes (dj := 84) rfl rfl h83 (W.ok (ok_neq rfl rfl) ?_)))))))))))))
   refine W.ok (ok_pick_f rfl h83) (W.nil (thn_n ?_))
   refine WC.cond (b := _) rfl (fun h91 => ?_) (fun h91 => ?_)
   ·have p91 := nd_t h91
    refine WC.seq (WC.region (W.mv (W.as (W.as (W.nil (thn_n (WC.giveO (ho_8.mono hG38) (pmC (pmC pr9)) (fun G46 hG46 hv46 => (WC.ret (thn_r (blk_r (thn_r (thn_r (blk_r (blk_r (thn_r (thn_r (blk_r (thn_r ?_)))))))))))))))))))
    refine ⟨.inr rfl, [_, _], ⟨rfl, rfl, trivial⟩, [], sn9, ?_⟩
    exact ⟨rfl, .inr ⟨_, _, hq.none (by omega) (by rw [← hssx]; exact kidsO_f (j := j) p47 (by omega) (kidOk_b (by omega) p91)), rfl, hv46⟩⟩
   have p91 := nd_f h91
   refine WC.skip (thn_n ?_)
   refine WC.join (X := (Unit) × Nat) (fun u21 => [(8, v_8), (10, .pointer (some ⟨b29, 0, none⟩)), (12, .pointer (some ⟨b44, 0, none⟩)), (0, .slice sa_l l.length sc_l), (9, .int .i64 ((q : Nat) : Int)), (11, .int .i64 ((j : Nat) : Int)), (14, .pointer (some ⟨u21.2, 0, none⟩))]) (fun u21 G Ml => Ml = ((u21.2, .cells (List.toArray [.string ((sx.s.meet (rangeN sx.n.pivots (j : Int)))).lo.b, .string ((sx.s.meet (rangeN sx.n.pivots (j : Int)))).hi.b, .bool ((sx.s.meet (rangeN sx.n.pivots (j : Int)))).opn]) 52 (0, 0)) :: ((b44, .cells (List.toArray [.int .i64 ((findN l (sx.n.kids[j])).1).slot, .int .i64 ((findN l (sx.n.kids[j])).1).level, .slice pa_hv39 (((findN l (sx.n.kids[j])).1).pivots).length pc_hv39, .slice ka_hv39 (((findN l (sx.n.kids[j])).1).kids).length kc_hv39, .string ((findN l (sx.n.kids[j])).1).high.b, .bool ((findN l (sx.n.kids[j])).1).top, .int .i64 ((findN l (sx.n.kids[j])).1).right, .int .i64 ((findN l (sx.n.kids[j])).1).seen, .slice ma_hv39 (((findN l (sx.n.kids[j])).1).msgs).length mc_hv39, .slice ra_hv39 (((findN l (sx.n.kids[j])).1).rows).length rc_hv39]) 47 (0, 0)) :: ((b29, .cells (List.toArray [.int .i64 sx.n.slot, .int .i64 sx.n.level, .slice pa_t26 (sx.n.pivots).length pc_t26, .slice ka_t26 (sx.n.kids).length kc_t26, .string sx.n.high.b, .bool sx.n.top, .int .i64 sx.n.right, .int .i64 sx.n.seen, .slice ma_t26 (sx.n.msgs).length mc_t26, .slice ra_t26 (sx.n.rows).length rc_t26, .string (sx.s).lo.b, .string (sx.s).hi.b, .bool (sx.s).opn, .slice qa_t26 (sx.ms).length qc_t26]) 111 (0, 0)) :: (M_8 ++ []))))) ?_ ?_
   ·refine WC.drawW _ (sr9.k9.k9) mix (by rintro _ _ _ _ ⟨h | h, _⟩ <;> cases h) (WD.tk 0 rfl (ok_fieldB fd111_1 rfl) (WD.tk 1 rfl (ok_loadB (i := 1) (vs := [.string _, .string _, .bool _]) ty52 rfl rfl rfl rfl (by simp)) (WD.tk 2 rfl (ok_fieldB fd111_0 rfl) (WD.tk 3 rfl (ok_fieldB fd47_2 rfl) (WD.tk 4 rfl (ok_loadB (i := 1) (vs := [.slice _ _ _]) ty43 rfl rfl rfl rfl (by simp)) (WD.tk 5 rfl (ok_mv) ?_))))))
    refine WD.any [6, 8] (by kernel_rfl) rfl ⟨⟨_, rfl, rfl, ?_⟩, ⟨_, rfl, rfl, ?_⟩, trivial⟩
    ·refine W.qcall (rrange_fc (hp_t26.mono (hG33.trans hG38)) _ ⟨by omega, by omega⟩) rfl (W.nil (WD.n9 Le.rfl (sr9.k9.k9) ?_))
     refine WD.any [7, 8] (by kernel_rfl) rfl ⟨⟨_, rfl, rfl, ?_⟩, ⟨_, rfl, rfl, ?_⟩, trivial⟩
     ·refine W.qcall (rmeet_fc _ _ _ _ _ _) rfl (W.nil (WD.n9 Le.rfl (sr9.k9.k9) (WD.a1 8 rfl (W.alloc zr52 (fun b47 => (W.nil (WD.n9 Le.rfl ((sr9.k9.k9).cons _) (WD.a1 9 rfl (W.store (i := 0) (vs := [.string _, .string _, .bool _]) (L' := [.string _, .string _, .bool _]) ty52 rfl rfl rfl rfl rfl rfl rfl rfl (W.nil (WD.n9 Le.rfl ((sr9.k9.k9).cons _) (WD.done (by kernel_rfl) (thn_n ?_)))))))))))))
      exact ⟨Le.rfl, ((), b47), ⟨eqv, eqv, eqv, eqv, eqv, eqv, eqv, trivial⟩, rfl⟩
     refine W.alloc zr52 (fun b48 => (W.nil (WD.n9 Le.rfl ((sr9.k9.k9).cons _) (WD.a1 7 rfl (W.qcall (rmeet_fc _ _ _ _ _ _) rfl (W.nil (WD.n9 Le.rfl ((sr9.k9.k9).cons _) (WD.a1 9 rfl (W.store (i := 0) (vs := [.string _, .string _, .bool _]) (L' := [.string _, .string _, .bool _]) ty52 rfl rfl rfl rfl rfl rfl rfl rfl (W.nil (WD.n9 Le.rfl ((sr9.k9.k9).cons _) (WD.done (by kernel_rfl) (thn_n ?_)))))))))))))
     exact ⟨Le.rfl, ((), b48), ⟨eqv, eqv, eqv, eqv, eqv, eqv, eqv, trivial⟩, rfl⟩
    refine W.alloc zr52 (fun b49 => (W.nil (WD.n9 Le.rfl ((sr9.k9.k9).cons _) (WD.a1 6 rfl (W.qcall (rrange_fc (hp_t26.mono (hG33.trans hG38)) _ ⟨by omega, by omega⟩) rfl (W.nil (WD.n9 Le.rfl ((sr9.k9.k9).cons _) (WD.a1 7 rfl (W.qcall (rmeet_fc _ _ _ _ _ _) rfl (W.nil (WD.n9 Le.rfl ((sr9.k9.k9).cons _) (WD.a1 9 rfl (W.store (i := 0) (vs := [.string _, .string _, .bool _]) (L' := [.string _, .string _, .bool _]) ty52 rfl rfl rfl rfl rfl rfl rfl rfl (W.nil (WD.n9 Le.rfl ((sr9.k9.k9).cons _) (WD.done (by kernel_rfl) (thn_n ?_)))))))))))))))))
    exact ⟨Le.rfl, ((), b49), ⟨eqv, eqv, eqv, eqv, eqv, eqv, eqv, trivial⟩, rfl⟩
   rintro ⟨u21, B_14⟩ gG50 G50 _ hG50 rfl
   refine WC.seq (WC.drawW _ ((sn9.k9.k9).k9) mix (by rintro _ _ _ _ ⟨h | h, _⟩ <;> cases h) (WD.tk 0 rfl (ok_fieldB fd111_0 rfl) (WD.tk 1 rfl (ok_fieldB fd47_8 rfl) (WD.tk 2 rfl (ok_loadB (i := 2) (vs := [.slice _ _ _]) ty45 rfl rfl rfl rfl (by simp)) (WD.tk 3 rfl (ok_loadB (i := 0) (vs := [.string _, .string _, .bool _]) ty52 rfl rfl rfl rfl (by simp)) (WD.tk 5 rfl (ok_fieldB fd111_2 rfl) (WD.tk 6 rfl (ok_loadB (i := 2) (vs := [.slice _ _ _]) ty45 rfl rfl rfl rfl (by simp)) (WD.tk 7 rfl (ok_loadB (i := 0) (vs := [.string _, .string _, .bool _]) ty52 rfl rfl rfl rfl (by simp)) (WD.a1 4 rfl (W.call (Mp := []) (rclips_fc (hm_t26.mono ((hG33.trans hG38).trans hG50)) _ _ _ hk1) rfl pr9 ?_))))))))))
   intro _ G51 _ hG51 q53
   refine match q53 with | ⟨e_54, _, e_55, hv52⟩ => ?_
   subst e_54
   subst e_55
   have q57 := hv52.form
   refine match q57 with | ⟨sa_hv52, sc_hv52, e_56⟩ => ?_
   subst e_56
   refine W.nil (WD.n9 hG51 ((sn9.k9.k9).k9) (WD.a1 8 rfl (W.call (Mp := []) (rclips_fc (hq_t26.mono (((hG33.trans hG38).trans hG50).trans hG51)) _ _ _ hk2) rfl pr9 ?_)))
   intro _ G58 _ hG58 q60
   refine match q60 with | ⟨e_61, _, e_62, hv59⟩ => ?_
   subst e_61
   subst e_62
   have q64 := hv59.form
   refine match q64 with | ⟨sa_hv59, sc_hv59, e_63⟩ => ?_
   subst e_63
   refine W.nil (WD.n9 hG58 ((sn9.k9.k9).k9) (WD.a1 9 rfl (W.lit (e := (eSl eMsg)) (l := [(clips (sx.s.meet (rangeN sx.n.pivots (j : Int))) sx.n.msgs), (clips (sx.s.meet (rangeN sx.n.pivots (j : Int))) sx.ms)]) (css := [[.slice _ _ _], [.slice _ _ _]]) sl187 ty45 zr45 rfl rfl rfl rfl rfl rfl ⟨⟨_, rfl, (hv52.mono hG58)⟩, ⟨_, rfl, hv59⟩, trivial⟩ (fun bl65 G65 hG65 hv65 => (W.nil (WD.n9 hG65 ((sn9.k9.k9).k9) (WD.a1 10 rfl (W.call (Mp := []) (rlists_fc hv65 (by first | omega | exact Nat.le_trans (kid_tot hS hsx _) (by omega)) (by show 2 ≤ 100000; omega)) rfl pr9 ?_))))))))
   intro _ G66 _ hG66 q68
   refine match q68 with | ⟨e_69, _, e_70, hv67⟩ => ?_
   subst e_69
   subst e_70
   have q72 := hv67.form
   refine match q72 with | ⟨sa_hv67, sc_hv67, e_71⟩ => ?_
   subst e_71
   refine W.nil (WD.n9 hG66 ((sn9.k9.k9).k9) (WD.tk 11 rfl (ok_as) (WD.done (by kernel_rfl) (thn_n (WC.region (W.mv (W.ok (ok_loadB (i := 1) (vs := (nd9 _ _ _ _ _ _ _ _ _ _ _ _ _ _ _ _ _ _)) ty47 rfl rfl rfl rfl (by simp)) (W.ok (ok_loadB (i := 0) (vs := [.string _, .string _, .bool _]) ty52 rfl rfl rfl rfl (by simp)) (W.mv (W.ok (ok_build (L := [.int .i64 _, .int .i64 _, .slice _ _ _, .slice _ _ _, .string _, .bool _, .int .i64 _, .int .i64 _, .slice _ _ _, .slice _ _ _, .string _, .string _, .bool _, .slice _ _ _]) pl111 zr111 rfl rfl rfl) (W.lit (e := eSeat) (l := [(kidSt l sx j)]) (css := [[.int .i64 _, .int .i64 _, .slice _ _ _, .slice _ _ _, .string _, .bool _, .int .i64 _, .int .i64 _, .slice _ _ _, .slice _ _ _, .string _, .string _, .bool _, .slice _ _ _]]) sl105 ty111 zr111 rfl rfl rfl rfl rfl rfl ⟨kid_rel (by omega) ⟨_, _, _, _, _, _, _, _, _, _, rfl, (hp_hv39.mono ((((hG50.trans hG51).trans hG58).trans hG65).trans hG66)), (hk_hv39.mono ((((hG50.trans hG51).trans hG58).trans hG65).trans hG66)), (hm_hv39.mono ((((hG50.trans hG51).trans hG58).trans hG65).trans hG66)), (hr_hv39.mono ((((hG50.trans hG51).trans hG58).trans hG65).trans hG66)), hv67, hok_hv39⟩, trivial⟩ (fun bl73 G73 hG73 hv73 => (W.app (e := eSeat) sl105 ty111 zr111 rfl by111 rfl rfl ((ho_8.mono ((((((hG38.trans hG50).trans hG51).trans hG58).trans hG65).trans hG66).trans hG73))) (hv73) (pmC (pmC (pmC pr9))) (by show (List.length _ + 1) * 216 ≤ _; rw [List.length_append]; omega) (fun v74 Ms75 ho76 => (W.perm (pmC (pmC (pmC pr9))).symm (W.as (W.nil (blk_n (thn_n ?_)))))))))))))))))))
   refine WC.region (W.mv (W.ok (ok_add rfl rfl (by omega)) (W.as (W.sub ((sr9.cons _).cons _) (W.nil (thn_n ?_))))))
   exact ⟨((((((hG38.trans hG50).trans hG51).trans hG58).trans hG65).trans hG66).trans hG73), (j + 1, v74, Ms75), ⟨eqv, eqv, eqv, eqv, eqv, trivial⟩, ⟨rfl, (by have h0 := ho76; rw [kidsF_succ, ← List.append_assoc]; exact h0), by omega, kidOk_all (by omega) hjk (by simpa using h83) p91, (by rw [kidsF_succ, ← List.append_assoc]; exact hqj.snoc hS hsx (by rw [List.length_append]; omega) j)⟩, by omega⟩
  have p68 := of_decide_eq_false h68
  refine WC.exit (thn_x (thn_x (blk_h (blk_n (thn_n (WC.region (W.mv (W.ok (ok_add rfl rfl (by omega)) (W.as (W.sub (sr9.cons _) (W.nil (thn_n ?_))))))))))))
  exact ⟨hG33, (((q + 1, out ++ kidsF l sx sx.n.kids.length) : Nat × List Seat), v_8, M_8), ⟨eqv, eqv, eqv, trivial⟩, ⟨rfl, (by have h0 := ho_8; rw [show j = sx.n.kids.length by omega] at h0; exact h0), hq.next (by omega) (by omega) (by rw [← hssx]; exact kidsO_t p47 p51 (by simpa using h60) (fun j2 h2 => hjk j2 (by omega))), by dsimp only; rw [show sx.n.kids.length = j by omega]; exact hqj⟩, by dsimp only; omega⟩
 have p31 := of_decide_eq_false h31
 refine WC.exit (thn_x (thn_x (blk_h (thn_n (WC.seq (WC.region (W.mv (W.as (W.as (W.nil (thn_n (WC.giveO ho_8 pr9 (fun G77 hG77 hv77 => (WC.ret ?_))))))))))))))
 refine ⟨.inr rfl, [_, _], ⟨rfl, rfl, trivial⟩, [], sn9, ?_⟩
 exact ⟨rfl, .inl ⟨_, _, hq.done (by omega), rfl, hv77, hqs⟩⟩

end Go.Proofs.YtebkfinhhpelbaaGreat
