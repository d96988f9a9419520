/- Walks of messages that a kid takes. -/
import Derived.Test.YtmbafmifalppaaaQbVh
import Derived.Test.YtmbafmifalppaaaQbUb
set_option maxRecDepth 100000
set_option maxHeartbeats 1600000
set_option linter.unusedVariables false
set_option linter.unusedSimpArgs false
set_option linter.unnecessarySimpa false
namespace Go.Proofs.Ytmbafmifalppaaa
open Go Go.Fw Go.RowKit
theorem may_fc {G : GH} (cf : Int) (cl : Int) (cb : Int) (cs : Int) (cr : Int) {cs_p : List Value} {p : Nd} (h_p : NodeC G cs_p p) {cs_k : List Value} {k : Nd} (h_k : NodeC G cs_k k) (i : Int) (hks : ∀ m ∈ p.msgs, m.key.b.size < 140737488355328) (hi : i64 i) :
    Fc Try.prog 45 [.agg #[.int .i64 cf, .int .i64 cl, .int .i64 cb, .int .i64 cs, .int .i64 cr], .agg (List.toArray cs_p), .agg (List.toArray cs_k), .int .i64 i] G [] (fun v _ _ => v = .bool (decide (MayP (⟨cf, cl, cb, cs, cr⟩ : Cfg) p k i))) := by
 obtain ⟨pa_p, pc_p, ka_p, kc_p, ma_p, mc_p, ra_p, rc_p, rfl, hp_p, hk_p, hm_p, hr_p, hok_p⟩ := h_p
 obtain ⟨pa_k, pc_k, ka_k, kc_k, ma_k, mc_k, ra_k, rc_k, rfl, hp_k, hk_k, hm_k, hr_k, hok_k⟩ := h_k
 obtain ⟨hi1, hi2⟩ := hi
 have hlk := hk_p.len47
 have hlm := hm_p.len47
 obtain ⟨hlv1, hlv2⟩ := hok_p.2.1
 refine Fc.intro (rs := [.tmp 8]) cl45 Try.func45 rfl Try.ntmps45 rfl rfl (fun w0 => ?_)
 refine WC.seq (WC.region (W.box (L := [.int .i64 _, .int .i64 _, .int .i64 _, .int .i64 _, .int .i64 _]) rfl rfl (fun b1 => (W.box (L := (nd9 _ _ _ _ _ _ _ _ _ _ _ _ _ _ _ _ _ _)) rfl rfl (fun b2 => (W.box (L := (nd9 _ _ _ _ _ _ _ _ _ _ _ _ _ _ _ _ _ _)) rfl rfl (fun b3 => (W.as (W.nil (thn_n (WC.seq (WC.seq (WC.region (W.ok (ok_loadB (i := 2) (vs := [.int .i64 _, .int .i64 _, .int .i64 _, .int .i64 _, .int .i64 _]) ty23 rfl rfl rfl rfl (by simp)) (W.ok (ok_loadB (i := 1) (vs := (nd9 _ _ _ _ _ _ _ _ _ _ _ _ _ _ _ _ _ _)) ty35 rfl rfl rfl rfl (by simp)) (W.qcall (nright_fc cf cl cb cs cr (n := p) ⟨_, _, _, _, _, _, _, _, rfl, hp_p, hk_p, hm_p, hr_p, hok_p⟩) rfl (W.ok (ok_not rfl) ?_)))))))))))))))))
 refine W.mv ?_
 refine W.sp 16 rfl (fun h15 => ?_) (fun h15 => ?_)
 ·refine W.no (dj := 16) rfl rfl h15 (W.no (dj := 16) rfl rfl h15 (W.no (dj := 16) rfl rfl h15 (W.no (dj := 16) rfl rfl h15 (W.ok (ok_pick_t rfl h15) (W.mv (W.no (dj := 22) rfl rfl rfl (W.no (dj := 22) rfl rfl rfl (W.no (dj := 22) rfl rfl rfl (W.ok (ok_pick_t rfl rfl) (W.mv (W.no (dj := 27) rfl rfl rfl (W.no (dj := 27) rfl rfl rfl (W.no (dj := 27) rfl rfl rfl ?_)))))))))))))
  refine W.no (dj := 27) rfl rfl rfl (W.no (dj := 27) rfl rfl rfl (W.no (dj := 27) rfl rfl rfl (W.ok (ok_pick_t rfl rfl) (W.mv (W.no (dj := 35) rfl rfl rfl (W.no (dj := 35) rfl rfl rfl (W.ok (ok_pick_t rfl rfl) (W.mv (W.no (dj := 39) rfl rfl rfl (W.no (dj := 39) rfl rfl rfl (W.no (dj := 39) rfl rfl rfl (W.no (dj := 39) rfl rfl rfl (W.no (dj := 39) rfl rfl rfl ?_)))))))))))))
  refine W.ok (ok_pick_t rfl rfl) (W.nil (thn_n (WC.cond_t rfl rfl (WC.seq (WC.region (W.as (W.nil (thn_n (WC.ret (thn_r ?_))))))))))
  refine ⟨.inr rfl, [_], ⟨rfl, trivial⟩, [], sn9, ?_⟩
  refine congrArg Value.bool ?_
  exact (decide_eq_false fun h => by obtain ⟨⟨g1, g2, g3⟩, ⟨g4, g5⟩, g6⟩ := h; unfold KidOf at g3; simp [g1] at h15).symm
 have g14 : p.R cf cl cb := by simpa using h15
 refine W.yes (dj := 16) rfl rfl h15 (W.ok (ok_loadB (i := 2) (vs := [.int .i64 _, .int .i64 _, .int .i64 _, .int .i64 _, .int .i64 _]) ty23 rfl rfl rfl rfl (by simp)) (W.yes (dj := 16) rfl rfl h15 (W.ok (ok_loadB (i := 0) (vs := (nd9 _ _ _ _ _ _ _ _ _ _ _ _ _ _ _ _ _ _)) ty35 rfl rfl rfl rfl (by simp)) (W.yes (dj := 16) rfl rfl h15 (W.qcall (nright_fc cf cl cb cs cr (n := k) ⟨_, _, _, _, _, _, _, _, rfl, hp_k, hk_k, hm_k, hr_k, hok_k⟩) rfl (W.yes (dj := 16) rfl rfl h15 (W.ok (ok_not rfl) (W.ok (ok_pick_f rfl h15) (W.mv ?_)))))))))
 refine W.sp 22 rfl (fun h20 => ?_) (fun h20 => ?_)
 ·refine W.no (dj := 22) rfl rfl h20 (W.no (dj := 22) rfl rfl h20 (W.no (dj := 22) rfl rfl h20 (W.ok (ok_pick_t rfl h20) (W.mv (W.no (dj := 27) rfl rfl rfl (W.no (dj := 27) rfl rfl rfl (W.no (dj := 27) rfl rfl rfl (W.no (dj := 27) rfl rfl rfl (W.no (dj := 27) rfl rfl rfl (W.no (dj := 27) rfl rfl rfl (W.ok (ok_pick_t rfl rfl) (W.mv (W.no (dj := 35) rfl rfl rfl ?_)))))))))))))
  refine W.no (dj := 35) rfl rfl rfl (W.ok (ok_pick_t rfl rfl) (W.mv (W.no (dj := 39) rfl rfl rfl (W.no (dj := 39) rfl rfl rfl (W.no (dj := 39) rfl rfl rfl (W.no (dj := 39) rfl rfl rfl (W.no (dj := 39) rfl rfl rfl (W.ok (ok_pick_t rfl rfl) (W.nil (thn_n (WC.cond_t rfl rfl (WC.seq (WC.region (W.as ?_))))))))))))))
  refine W.nil (thn_n (WC.ret (thn_r ?_)))
  refine ⟨.inr rfl, [_], ⟨rfl, trivial⟩, [], sn9, ?_⟩
  refine congrArg Value.bool ?_
  exact (decide_eq_false fun h => by obtain ⟨⟨g1, g2, g3⟩, ⟨g4, g5⟩, g6⟩ := h; unfold KidOf at g3; simp [g2] at h20).symm
 have g19 : k.R cf cl cb := by simpa using h20
 refine W.yes (dj := 22) rfl rfl h20 (W.ok (ok_fieldB fd35_1 rfl) (W.yes (dj := 22) rfl rfl h20 (W.ok (ok_loadB (i := 1) (vs := [.int .i64 _]) ty3 rfl rfl rfl rfl (by simp)) (W.yes (dj := 22) rfl rfl h20 (W.ok (ok_lss rfl rfl) (W.ok (ok_pick_f rfl h20) (W.mv ?_)))))))
 refine W.sp 27 rfl (fun h25 => ?_) (fun h25 => ?_)
 ·have p25 := of_decide_eq_true h25
  refine W.no (dj := 27) rfl rfl h25 (W.no (dj := 27) rfl rfl h25 (W.no (dj := 27) rfl rfl h25 (W.no (dj := 27) rfl rfl h25 (W.no (dj := 27) rfl rfl h25 (W.no (dj := 27) rfl rfl h25 (W.ok (ok_pick_t rfl h25) (W.mv (W.no (dj := 35) rfl rfl rfl (W.no (dj := 35) rfl rfl rfl (W.ok (ok_pick_t rfl rfl) (W.mv (W.no (dj := 39) rfl rfl rfl (W.no (dj := 39) rfl rfl rfl ?_)))))))))))))
  refine W.no (dj := 39) rfl rfl rfl (W.no (dj := 39) rfl rfl rfl (W.no (dj := 39) rfl rfl rfl (W.ok (ok_pick_t rfl rfl) (W.nil (thn_n (WC.cond_t rfl rfl (WC.seq (WC.region (W.as (W.nil (thn_n (WC.ret (thn_r ?_)))))))))))))
  refine ⟨.inr rfl, [_], ⟨rfl, trivial⟩, [], sn9, ?_⟩
  refine congrArg Value.bool ?_
  exact (decide_eq_false fun h => by obtain ⟨⟨g1, g2, g3⟩, ⟨g4, g5⟩, g6⟩ := h; unfold KidOf at g3; omega).symm
 have p25 := of_decide_eq_false h25
 refine W.yes (dj := 27) rfl rfl h25 (W.ok (ok_fieldB fd35_1 rfl) (W.yes (dj := 27) rfl rfl h25 (W.ok (ok_loadB (i := 0) (vs := [.int .i64 _]) ty3 rfl rfl rfl rfl (by simp)) (W.yes (dj := 27) rfl rfl h25 (W.ok (ok_fieldB fd35_1 rfl) (W.yes (dj := 27) rfl rfl h25 (W.ok (ok_loadB (i := 1) (vs := [.int .i64 _]) ty3 rfl rfl rfl rfl (by simp)) (W.yes (dj := 27) rfl rfl h25 (W.ok (ok_sub rfl rfl (by omega)) (W.yes (dj := 27) rfl rfl h25 (W.ok (ok_neq rfl rfl) (W.ok (ok_pick_f rfl h25) (W.mv ?_)))))))))))))
 refine W.sp 35 rfl (fun h33 => ?_) (fun h33 => ?_)
 ·have p33 := nd_t h33
  refine W.no (dj := 35) rfl rfl h33 (W.no (dj := 35) rfl rfl h33 (W.ok (ok_pick_t rfl h33) (W.mv (W.no (dj := 39) rfl rfl rfl (W.no (dj := 39) rfl rfl rfl (W.no (dj := 39) rfl rfl rfl (W.no (dj := 39) rfl rfl rfl (W.no (dj := 39) rfl rfl rfl (W.ok (ok_pick_t rfl rfl) (W.nil (thn_n (WC.cond_t rfl rfl (WC.seq (WC.region ?_))))))))))))))
  refine W.as (W.nil (thn_n (WC.ret (thn_r ?_))))
  refine ⟨.inr rfl, [_], ⟨rfl, trivial⟩, [], sn9, ?_⟩
  refine congrArg Value.bool ?_
  exact (decide_eq_false fun h => by obtain ⟨⟨g1, g2, g3⟩, ⟨g4, g5⟩, g6⟩ := h; unfold KidOf at g3; omega).symm
 have p33 := nd_f h33
 refine W.yes (dj := 35) rfl rfl h33 (W.mv (W.yes (dj := 35) rfl rfl h33 (W.ok (ok_lss rfl rfl) (W.ok (ok_pick_f rfl h33) (W.mv ?_)))))
 refine W.sp 39 rfl (fun h37 => ?_) (fun h37 => ?_)
 ·have p37 := of_decide_eq_true h37
  refine W.no (dj := 39) rfl rfl h37 (W.no (dj := 39) rfl rfl h37 (W.no (dj := 39) rfl rfl h37 (W.no (dj := 39) rfl rfl h37 (W.no (dj := 39) rfl rfl h37 (W.ok (ok_pick_t rfl h37) (W.nil (thn_n (WC.cond_t rfl rfl (WC.seq (WC.region (W.as (W.nil (thn_n (WC.ret (thn_r ?_)))))))))))))))
  refine ⟨.inr rfl, [_], ⟨rfl, trivial⟩, [], sn9, ?_⟩
  refine congrArg Value.bool ?_
  exact (decide_eq_false fun h => by obtain ⟨⟨g1, g2, g3⟩, ⟨g4, g5⟩, g6⟩ := h; unfold KidOf at g3; omega).symm
 have p37 := of_decide_eq_false h37
 refine W.yes (dj := 39) rfl rfl h37 (W.mv (W.yes (dj := 39) rfl rfl h37 (W.ok (ok_fieldB fd35_3 rfl) (W.yes (dj := 39) rfl rfl h37 (W.ok (ok_loadB (i := 1) (vs := [.slice _ _ _]) ty30 rfl rfl rfl rfl (by simp)) (W.yes (dj := 39) rfl rfl h37 (W.ok (ok_len sl30 hk_p rfl) (W.yes (dj := 39) rfl rfl h37 (W.ok (ok_geq rfl rfl) (W.ok (ok_pick_f rfl h37) (W.nil (thn_n ?_))))))))))))
 refine WC.cond (b := _) rfl (fun h44 => ?_) (fun h44 => ?_)
 ·have p44 := of_decide_eq_true h44
  refine WC.seq (WC.region (W.as (W.nil (thn_n (WC.ret (thn_r ?_))))))
  refine ⟨.inr rfl, [_], ⟨rfl, trivial⟩, [], sn9, ?_⟩
  refine congrArg Value.bool ?_
  exact (decide_eq_false fun h => by obtain ⟨⟨g1, g2, g3⟩, ⟨g4, g5⟩, g6⟩ := h; unfold KidOf at g3; omega).symm
 have p44 := of_decide_eq_false h44
 refine WC.skip (thn_n (WC.seq (WC.drawW _ ((sr9.k9.k9).k9) mix (by rintro _ _ _ _ ⟨h | h, _⟩ <;> cases h) (WD.tk 0 rfl (ok_loadB (i := 1) (vs := (nd9 _ _ _ _ _ _ _ _ _ _ _ _ _ _ _ _ _ _)) ty35 rfl rfl rfl rfl (by simp)) (WD.tk 2 rfl (ok_fieldB fd35_2 rfl) (WD.tk 3 rfl (ok_loadB (i := 1) (vs := [.slice _ _ _]) ty32 rfl rfl rfl rfl (by simp)) (WD.tk 4 rfl (ok_mv) ?_)))))))
 refine WD.any [1, 7] (by kernel_rfl) rfl ⟨⟨_, rfl, rfl, ?_⟩, ⟨_, rfl, rfl, ?_⟩, trivial⟩
 ·refine W.qcall (rspan21_fc (n := p) ⟨_, _, _, _, _, _, _, _, rfl, hp_p, hk_p, hm_p, hr_p, hok_p⟩) rfl (W.nil (WD.n9 Le.rfl ((sr9.k9.k9).k9) ?_))
  refine WD.any [5, 7] (by kernel_rfl) rfl ⟨⟨_, rfl, rfl, ?_⟩, ⟨_, rfl, rfl, ?_⟩, trivial⟩
  ·refine W.qcall (rrange_fc hp_p _ ⟨by omega, by omega⟩) rfl (W.nil (WD.n9 Le.rfl ((sr9.k9.k9).k9) ?_))
   refine WD.any [6, 7] (by kernel_rfl) rfl ⟨⟨_, rfl, rfl, ?_⟩, ⟨_, rfl, rfl, ?_⟩, trivial⟩
   ·refine W.qcall (rmeet_fc _ _ _ _ _ _) rfl (W.nil (WD.n9 Le.rfl ((sr9.k9.k9).k9) (WD.a1 7 rfl (W.alloc zr37 (fun b4 => (W.nil (WD.n9 Le.rfl (((sr9.k9.k9).k9).cons _) (WD.a1 8 rfl (W.store (i := 0) (vs := [.string _, .string _, .bool _]) (L' := [.string _, .string _, .bool _]) ty37 rfl rfl rfl rfl rfl rfl rfl rfl (W.nil (WD.n9 Le.rfl (((sr9.k9.k9).k9).cons _) (WD.done (by kernel_rfl) (thn_n (WC.seq (WC.seq (WC.region (W.ok (ok_fieldB fd35_5 rfl) (W.ok (ok_loadB (i := 1) (vs := [.bool _]) ty4 rfl rfl rfl rfl (by simp)) ?_))))))))))))))))))
    refine W.ok (ok_fieldB fd37_2 rfl) (W.ok (ok_loadB (i := 0) (vs := [.bool _]) ty4 rfl rfl rfl rfl (by simp)) (W.ok (ok_neqB bo4 rfl rfl) (W.mv ?_)))
    refine W.sp 58 rfl (fun h57 => ?_) (fun h57 => ?_)
    ·have e57 : (!(k.top == (kidS p i).opn)) = true := h57
     refine W.no (dj := 58) rfl rfl h57 (W.no (dj := 58) rfl rfl h57 (W.no (dj := 58) rfl rfl h57 (W.no (dj := 58) rfl rfl h57 (W.no (dj := 58) rfl rfl h57 (W.ok (ok_pick_t rfl h57) (W.nil (thn_n (WC.cond_t rfl rfl (WC.seq (WC.region (W.as (W.nil (thn_n (WC.ret (thn_r ?_)))))))))))))))
     refine ⟨.inr rfl, [_], ⟨rfl, trivial⟩, [], sn9, ?_⟩
     refine congrArg Value.bool ?_
     exact (decide_eq_false fun h => by obtain ⟨⟨g1, g2, g3⟩, ⟨g4, g5⟩, g6⟩ := h; unfold KidOf at g3; simp [g4] at e57).symm
    have e57 : (!(k.top == (kidS p i).opn)) = false := h57
    refine W.yes (dj := 58) rfl rfl h57 (W.ok (ok_fieldB fd35_4 rfl) (W.yes (dj := 58) rfl rfl h57 (W.ok (ok_loadB (i := 1) (vs := [.string _]) ty9 rfl rfl rfl rfl (by simp)) (W.yes (dj := 58) rfl rfl h57 (W.ok (ok_fieldB fd37_1 rfl) (W.yes (dj := 58) rfl rfl h57 (W.ok (ok_loadB (i := 0) (vs := [.string _]) ty9 rfl rfl rfl rfl (by simp)) (W.yes (dj := 58) rfl rfl h57 (W.ok (ok_neqS rfl rfl) (W.ok (ok_pick_f rfl h57) (W.nil (thn_n ?_))))))))))))
    refine WC.cond (b := _) rfl (fun h63 => ?_) (fun h63 => ?_)
    ·have p63 := nd_t h63
     refine WC.seq (WC.region (W.as (W.nil (thn_n (WC.ret (thn_r ?_))))))
     refine ⟨.inr rfl, [_], ⟨rfl, trivial⟩, [], sn9, ?_⟩
     refine congrArg Value.bool ?_
     exact (decide_eq_false fun h => by obtain ⟨⟨g1, g2, g3⟩, ⟨g4, g5⟩, g6⟩ := h; unfold KidOf at g3; exact p63 (congrArg Str.b g5)).symm
    have p63 := nd_f h63
    refine WC.skip (thn_n (WC.seq (WC.seq (WC.region (W.ok (ok_fieldB fd35_8 rfl) (W.ok (ok_loadB (i := 2) (vs := [.slice _ _ _]) ty33 rfl rfl rfl rfl (by simp)) (W.ok (ok_len sl33 hm_p rfl) (W.mv (W.nil (thn_n (WC.block ?_)))))))))))
    refine WC.loop (X := Nat) (fun q => [(68, .int .i64 ((q : Nat) : Int)), (6, .pointer (some ⟨b3, 0, none⟩)), (9, .pointer (some ⟨b4, 0, none⟩)), (66, .slice ma_p p.msgs.length mc_p), (67, .int .i64 (((p.msgs).length : Nat) : Int))]) (fun q _ Ml => Ml = [(b4, .cells (List.toArray [.string ((kidS p i)).lo.b, .string ((kidS p i)).hi.b, .bool ((kidS p i)).opn]) 37 (0, 0)), (b3, .cells (List.toArray [.int .i64 k.slot, .int .i64 k.level, .slice pa_k k.pivots.length pc_k, .slice ka_k k.kids.length kc_k, .string k.high.b, .bool k.top, .int .i64 k.right, .int .i64 k.seen, .slice ma_k k.msgs.length mc_k, .slice ra_k k.rows.length rc_k]) 35 (0, 0)), (b2, .cells (List.toArray [.int .i64 p.slot, .int .i64 p.level, .slice pa_p p.pivots.length pc_p, .slice ka_p p.kids.length kc_p, .string p.high.b, .bool p.top, .int .i64 p.right, .int .i64 p.seen, .slice ma_p p.msgs.length mc_p, .slice ra_p p.rows.length rc_p]) 35 (0, 0)), (b1, .cells (List.toArray [.int .i64 cf, .int .i64 cl, .int .i64 cb, .int .i64 cs, .int .i64 cr]) 23 (0, 0))] ∧ q ≤ p.msgs.length ∧ ∀ j (h : j < p.msgs.length), j < q → (p.msgs[j].span.meet (kidS p i)).empty = false → k.seen < p.msgs[j].stamp) (fun q => p.msgs.length - q) 0 ⟨eqv, eqv, eqv, eqv, eqv, trivial⟩ ?_ ?_
    ·exact ⟨rfl, by omega, fun j _ h => by omega⟩
    rintro q gG5 G5 _ hG5 ⟨rfl, hqm, hq⟩
    refine WC.seq (WC.region (W.ok (ok_lss rfl rfl) (W.nil (thn_n (WC.seq ?_)))))
    refine WC.cond (b := _) rfl (fun h69 => ?_) (fun h69 => ?_)
    ·have p69 := of_decide_eq_true h69
     refine WC.skip (thn_n (WC.seq (WC.block (WC.seq (WC.region ?_)))))
     have q10 := (hm_p.mono hG5).at (i := q) (by omega)
     refine match q10 with | ⟨_, he6, ⟨e_9, hm7⟩⟩ => ?_
     subst e_9
     refine W.ok (ok_indexAddr (i := q) sl33 ty141 (hm_p.mono hG5) rfl rfl ⟨by omega, by omega⟩) (W.ok (ok_loadE (vs := [.int .i64 _, .int .i64 _, .string _, .string _, .bool _, .string _]) ty141 he6 rfl rfl rfl (by simp)) (W.alloc zr141 (fun b11 => (W.store (i := 0) (vs := [.int .i64 _, .int .i64 _, .string _, .string _, .bool _, .string _]) (L' := [.int .i64 _, .int .i64 _, .string _, .string _, .bool _, .string _]) ty141 rfl rfl rfl rfl rfl rfl rfl rfl (W.nil (thn_n (WC.seq (WC.draw mix (by kernel_rfl) (W.ok (ok_loadB (i := 0) (vs := [.int .i64 _, .int .i64 _, .string _, .string _, .bool _, .string _]) ty141 rfl rfl rfl rfl (by simp)) (W.qcall (rspan_fc _ _ _ _ _ _ (hks _ (List.getElem_mem (by omega : q < p.msgs.length)))) rfl (W.ok (ok_loadB (i := 1) (vs := [.string _, .string _, .bool _]) ty37 rfl rfl rfl rfl (by simp)) (W.qcall (rmeet_fc _ _ _ _ _ _) rfl (W.qcall (empty_fc _ _ _) rfl (W.ok (ok_not rfl) (W.mv ?_)))))))))))))))
     refine W.sp 78 rfl (fun h77 => ?_) (fun h77 => ?_)
     ·have hem : ((p.msgs[q]'(by omega)).span.meet (kidS p i)).empty = false := by simpa using h77
      refine W.yes (dj := 78) rfl rfl h77 (W.ok (ok_fieldB fd141_0 rfl) (W.yes (dj := 78) rfl rfl h77 (W.ok (ok_loadB (i := 0) (vs := [.int .i64 _]) ty3 rfl rfl rfl rfl (by simp)) (W.yes (dj := 78) rfl rfl h77 (W.ok (ok_fieldB fd35_7 rfl) (W.yes (dj := 78) rfl rfl h77 (W.ok (ok_loadB (i := 2) (vs := [.int .i64 _]) ty3 rfl rfl rfl rfl (by simp)) (W.yes (dj := 78) rfl rfl h77 (W.ok (ok_leq rfl rfl) (W.ok (ok_pick_t rfl h77) (W.nil (thn_n ?_))))))))))))
      refine WC.cond (b := _) rfl (fun h83 => ?_) (fun h83 => ?_)
      ·have p83 := of_decide_eq_true h83
       refine WC.seq (WC.region (W.as (W.nil (thn_n (WC.ret (blk_r (thn_r (thn_r (blk_r (thn_r ?_))))))))))
       refine ⟨.inr rfl, [_], ⟨rfl, trivial⟩, [], sn9, ?_⟩
       refine congrArg Value.bool ?_
       exact (decide_eq_false fun h => by obtain ⟨⟨g1, g2, g3⟩, ⟨g4, g5⟩, g6⟩ := h; unfold KidOf at g3; have h9 := g6 q (by omega) hem; omega).symm
      have p83 := of_decide_eq_false h83
      refine WC.skip (blk_n (thn_n (WC.region (W.ok (ok_add rfl rfl (by omega)) (W.mv (W.sub (sr9.cons _) (W.nil (thn_n ?_))))))))
      exact ⟨Le.rfl, q + 1, ⟨eqv, eqv, eqv, eqv, eqv, trivial⟩, ⟨rfl, by omega, fun j h hj he => by
      by_cases e : j = q
      · subst e; omega
      · exact hq j h (by omega) he⟩, by omega⟩
     have hem : ((p.msgs[q]'(by omega)).span.meet (kidS p i)).empty = true := by simpa using h77
     refine W.no (dj := 78) rfl rfl h77 (W.no (dj := 78) rfl rfl h77 (W.no (dj := 78) rfl rfl h77 (W.no (dj := 78) rfl rfl h77 (W.no (dj := 78) rfl rfl h77 (W.ok (ok_pick_f rfl h77) (W.nil (thn_n (WC.cond_f rfl rfl (WC.skip (blk_n (thn_n (WC.region (W.ok (ok_add rfl rfl (by omega)) (W.mv (W.sub (sr9.cons _) (W.nil (thn_n ?_)))))))))))))))))
     exact ⟨Le.rfl, q + 1, ⟨eqv, eqv, eqv, eqv, eqv, trivial⟩, ⟨rfl, by omega, fun j h hj he => by
      by_cases e : j = q
      · subst e; rw [hem] at he; cases he
      · exact hq j h (by omega) he⟩, by omega⟩
    have p69 := of_decide_eq_false h69
    refine WC.exit (thn_x (thn_x (blk_h (thn_n (WC.seq (WC.region (W.as (W.nil (thn_n (WC.ret ?_))))))))))
    refine ⟨.inr rfl, [_], ⟨rfl, trivial⟩, [], sn9, ?_⟩
    refine congrArg Value.bool ?_
    exact (decide_eq_true ⟨⟨g14, g19, by omega, p33, by omega, by omega⟩, ⟨by simpa using e57, Str.ext' p63⟩, fun j h he => hq j h (by omega) he⟩).symm
   refine W.alloc zr37 (fun b12 => (W.nil (WD.n9 Le.rfl (((sr9.k9.k9).k9).cons _) (WD.a1 6 rfl (W.qcall (rmeet_fc _ _ _ _ _ _) rfl (W.nil (WD.n9 Le.rfl (((sr9.k9.k9).k9).cons _) (WD.a1 8 rfl (W.store (i := 0) (vs := [.string _, .string _, .bool _]) (L' := [.string _, .string _, .bool _]) ty37 rfl rfl rfl rfl rfl rfl rfl rfl (W.nil (WD.n9 Le.rfl (((sr9.k9.k9).k9).cons _) (WD.done (by kernel_rfl) (thn_n (WC.seq (WC.seq (WC.region (W.ok (ok_fieldB fd35_5 rfl) (W.ok (ok_loadB (i := 1) (vs := [.bool _]) ty4 rfl rfl rfl rfl (by simp)) ?_))))))))))))))))))
   refine W.ok (ok_fieldB fd37_2 rfl) (W.ok (ok_loadB (i := 0) (vs := [.bool _]) ty4 rfl rfl rfl rfl (by simp)) (W.ok (ok_neqB bo4 rfl rfl) (W.mv ?_)))
   refine W.sp 58 rfl (fun h57 => ?_) (fun h57 => ?_)
   ·have e57 : (!(k.top == (kidS p i).opn)) = true := h57
    refine W.no (dj := 58) rfl rfl h57 (W.no (dj := 58) rfl rfl h57 (W.no (dj := 58) rfl rfl h57 (W.no (dj := 58) rfl rfl h57 (W.no (dj := 58) rfl rfl h57 (W.ok (ok_pick_t rfl h57) (W.nil (thn_n (WC.cond_t rfl rfl (WC.seq (WC.region (W.as (W.nil (thn_n (WC.ret (thn_r ?_)))))))))))))))
    refine ⟨.inr rfl, [_], ⟨rfl, trivial⟩, [], sn9, ?_⟩
    refine congrArg Value.bool ?_
    exact (decide_eq_false fun h => by obtain ⟨⟨g1, g2, g3⟩, ⟨g4, g5⟩, g6⟩ := h; unfold KidOf at g3; simp [g4] at e57).symm
   have e57 : (!(k.top == (kidS p i).opn)) = false := h57
   refine W.yes (dj := 58) rfl rfl h57 (W.ok (ok_fieldB fd35_4 rfl) (W.yes (dj := 58) rfl rfl h57 (W.ok (ok_loadB (i := 1) (vs := [.string _]) ty9 rfl rfl rfl rfl (by simp)) (W.yes (dj := 58) rfl rfl h57 (W.ok (ok_fieldB fd37_1 rfl) (W.yes (dj := 58) rfl rfl h57 (W.ok (ok_loadB (i := 0) (vs := [.string _]) ty9 rfl rfl rfl rfl (by simp)) (W.yes (dj := 58) rfl rfl h57 (W.ok (ok_neqS rfl rfl) (W.ok (ok_pick_f rfl h57) (W.nil (thn_n ?_))))))))))))
   refine WC.cond (b := _) rfl (fun h63 => ?_) (fun h63 => ?_)
   ·have p63 := nd_t h63
    refine WC.seq (WC.region (W.as (W.nil (thn_n (WC.ret (thn_r ?_))))))
    refine ⟨.inr rfl, [_], ⟨rfl, trivial⟩, [], sn9, ?_⟩
    refine congrArg Value.bool ?_
    exact (decide_eq_false fun h => by obtain ⟨⟨g1, g2, g3⟩, ⟨g4, g5⟩, g6⟩ := h; unfold KidOf at g3; exact p63 (congrArg Str.b g5)).symm
   have p63 := nd_f h63
   refine WC.skip (thn_n (WC.seq (WC.seq (WC.region (W.ok (ok_fieldB fd35_8 rfl) (W.ok (ok_loadB (i := 2) (vs := [.slice _ _ _]) ty33 rfl rfl rfl rfl (by simp)) (W.ok (ok_len sl33 hm_p rfl) (W.mv (W.nil (thn_n (WC.block ?_)))))))))))
   refine WC.loop (X := Nat) (fun q => [(68, .int .i64 ((q : Nat) : Int)), (6, .pointer (some ⟨b3, 0, none⟩)), (9, .pointer (some ⟨b12, 0, none⟩)), (66, .slice ma_p p.msgs.length mc_p), (67, .int .i64 (((p.msgs).length : Nat) : Int))]) (fun q _ Ml => Ml = [(b12, .cells (List.toArray [.string ((kidS p i)).lo.b, .string ((kidS p i)).hi.b, .bool ((kidS p i)).opn]) 37 (0, 0)), (b3, .cells (List.toArray [.int .i64 k.slot, .int .i64 k.level, .slice pa_k k.pivots.length pc_k, .slice ka_k k.kids.length kc_k, .string k.high.b, .bool k.top, .int .i64 k.right, .int .i64 k.seen, .slice ma_k k.msgs.length mc_k, .slice ra_k k.rows.length rc_k]) 35 (0, 0)), (b2, .cells (List.toArray [.int .i64 p.slot, .int .i64 p.level, .slice pa_p p.pivots.length pc_p, .slice ka_p p.kids.length kc_p, .string p.high.b, .bool p.top, .int .i64 p.right, .int .i64 p.seen, .slice ma_p p.msgs.length mc_p, .slice ra_p p.rows.length rc_p]) 35 (0, 0)), (b1, .cells (List.toArray [.int .i64 cf, .int .i64 cl, .int .i64 cb, .int .i64 cs, .int .i64 cr]) 23 (0, 0))] ∧ q ≤ p.msgs.length ∧ ∀ j (h : j < p.msgs.length), j < q → (p.msgs[j].span.meet (kidS p i)).empty = false → k.seen < p.msgs[j].stamp) (fun q => p.msgs.length - q) 0 ⟨eqv, eqv, eqv, eqv, eqv, trivial⟩ ?_ ?_
   ·exact ⟨rfl, by omega, fun j _ h => by omega⟩
   rintro q gG13 G13 _ hG13 ⟨rfl, hqm, hq⟩
   refine WC.seq (WC.region (W.ok (ok_lss rfl rfl) (W.nil (thn_n (WC.seq ?_)))))
   refine WC.cond (b := _) rfl (fun h69 => ?_) (fun h69 => ?_)
   ·have p69 := of_decide_eq_true h69
    refine WC.skip (thn_n (WC.seq (WC.block (WC.seq (WC.region ?_)))))
    have q18 := (hm_p.mono hG13).at (i := q) (by omega)
    refine match q18 with | ⟨_, he14, ⟨e_17, hm15⟩⟩ => ?_
    subst e_17
    refine W.ok (ok_indexAddr (i := q) sl33 ty141 (hm_p.mono hG13) rfl rfl ⟨by omega, by omega⟩) (W.ok (ok_loadE (vs := [.int .i64 _, .int .i64 _, .string _, .string _, .bool _, .string _]) ty141 he14 rfl rfl rfl (by simp)) (W.alloc zr141 (fun b19 => (W.store (i := 0) (vs := [.int .i64 _, .int .i64 _, .string _, .string _, .bool _, .string _]) (L' := [.int .i64 _, .int .i64 _, .string _, .string _, .bool _, .string _]) ty141 rfl rfl rfl rfl rfl rfl rfl rfl (W.nil (thn_n (WC.seq (WC.draw mix (by kernel_rfl) (W.ok (ok_loadB (i := 0) (vs := [.int .i64 _, .int .i64 _, .string _, .string _, .bool _, .string _]) ty141 rfl rfl rfl rfl (by simp)) (W.qcall (rspan_fc _ _ _ _ _ _ (hks _ (List.getElem_mem (by omega : q < p.msgs.length)))) rfl (W.ok (ok_loadB (i := 1) (vs := [.string _, .string _, .bool _]) ty37 rfl rfl rfl rfl (by simp)) (W.qcall (rmeet_fc _ _ _ _ _ _) rfl (W.qcall (empty_fc _ _ _) rfl (W.ok (ok_not rfl) (W.mv ?_)))))))))))))))
    refine W.sp 78 rfl (fun h77 => ?_) (fun h77 => ?_)
    ·have hem : ((p.msgs[q]'(by omega)).span.meet (kidS p i)).empty = false := by simpa using h77
     refine W.yes (dj := 78) rfl rfl h77 (W.ok (ok_fieldB fd141_0 rfl) (W.yes (dj := 78) rfl rfl h77 (W.ok (ok_loadB (i := 0) (vs := [.int .i64 _]) ty3 rfl rfl rfl rfl (by simp)) (W.yes (dj := 78) rfl rfl h77 (W.ok (ok_fieldB fd35_7 rfl) (W.yes (dj := 78) rfl rfl h77 (W.ok (ok_loadB (i := 2) (vs := [.int .i64 _]) ty3 rfl rfl rfl rfl (by simp)) (W.yes (dj := 78) rfl rfl h77 (W.ok (ok_leq rfl rfl) (W.ok (ok_pick_t rfl h77) (W.nil (thn_n ?_))))))))))))
     refine WC.cond (b := _) rfl (fun h83 => ?_) (fun h83 => ?_)
     ·have p83 := of_decide_eq_true h83
      refine WC.seq (WC.region (W.as (W.nil (thn_n (WC.ret (blk_r (thn_r (thn_r (blk_r (thn_r ?_))))))))))
      refine ⟨.inr rfl, [_], ⟨rfl, trivial⟩, [], sn9, ?_⟩
      refine congrArg Value.bool ?_
      exact (decide_eq_false fun h => by obtain ⟨⟨g1, g2, g3⟩, ⟨g4, g5⟩, g6⟩ := h; unfold KidOf at g3; have h9 := g6 q (by omega) hem; omega).symm
     have p83 := of_decide_eq_false h83
     refine WC.skip (blk_n (thn_n (WC.region (W.ok (ok_add rfl rfl (by omega)) (W.mv (W.sub (sr9.cons _) (W.nil (thn_n ?_))))))))
     exact ⟨Le.rfl, q + 1, ⟨eqv, eqv, eqv, eqv, eqv, trivial⟩, ⟨rfl, by omega, fun j h hj he => by
      by_cases e : j = q
      · subst e; omega
      · exact hq j h (by omega) he⟩, by omega⟩
    have hem : ((p.msgs[q]'(by omega)).span.meet (kidS p i)).empty = true := by simpa using h77
    refine W.no (dj := 78) rfl rfl h77 (W.no (dj := 78) rfl rfl h77 (W.no (dj := 78) rfl rfl h77 (W.no (dj := 78) rfl rfl h77 (W.no (dj := 78) rfl rfl h77 (W.ok (ok_pick_f rfl h77) (W.nil (thn_n (WC.cond_f rfl rfl (WC.skip (blk_n (thn_n (WC.region (W.ok (ok_add rfl rfl (by omega)) (W.mv (W.sub (sr9.cons _) (W.nil (thn_n ?_)))))))))))))))))
    exact ⟨Le.rfl, q + 1, ⟨eqv, eqv, eqv, eqv, eqv, trivial⟩, ⟨rfl, by omega, fun j h hj he => by
      by_cases e : j = q
      · subst e; rw [hem] at he; cases he
      · exact hq j h (by omega) he⟩, by omega⟩
   have p69 := of_decide_eq_false h69
   refine WC.exit (thn_x (thn_x (blk_h (thn_n (WC.seq (WC.region (W.as (W.nil (thn_n (WC.ret ?_))))))))))
   refine ⟨.inr rfl, [_], ⟨rfl, trivial⟩, [], sn9, ?_⟩
   refine congrArg Value.bool ?_
   exact (decide_eq_true ⟨⟨g14, g19, by omega, p33, by omega, by omega⟩, ⟨by simpa using e57, Str.ext' p63⟩, fun j h he => hq j h (by omega) he⟩).symm
  refine W.alloc zr37 (fun b20 => (W.nil (WD.n9 Le.rfl (((sr9.k9.k9).k9).cons _) (WD.a1 5 rfl (W.qcall (rrange_fc hp_p _ ⟨by omega, by omega⟩) rfl (W.nil (WD.n9 Le.rfl (((sr9.k9.k9).k9).cons _) (WD.a1 6 rfl (W.qcall (rmeet_fc _ _ _ _ _ _) rfl (W.nil (WD.n9 Le.rfl (((sr9.k9.k9).k9).cons _) (WD.a1 8 rfl (W.store (i := 0) (vs := [.string _, .string _, .bool _]) (L' := [.string _, .string _, .bool _]) ty37 rfl rfl rfl rfl rfl rfl rfl rfl (W.nil (WD.n9 Le.rfl (((sr9.k9.k9).k9).cons _) (WD.done (by kernel_rfl) (thn_n (WC.seq (WC.seq ?_)))))))))))))))))))
  refine WC.region (W.ok (ok_fieldB fd35_5 rfl) (W.ok (ok_loadB (i := 1) (vs := [.bool _]) ty4 rfl rfl rfl rfl (by simp)) (W.ok (ok_fieldB fd37_2 rfl) (W.ok (ok_loadB (i := 0) (vs := [.bool _]) ty4 rfl rfl rfl rfl (by simp)) (W.ok (ok_neqB bo4 rfl rfl) (W.mv ?_))))))
  refine W.sp 58 rfl (fun h57 => ?_) (fun h57 => ?_)
  ·have e57 : (!(k.top == (kidS p i).opn)) = true := h57
   refine W.no (dj := 58) rfl rfl h57 (W.no (dj := 58) rfl rfl h57 (W.no (dj := 58) rfl rfl h57 (W.no (dj := 58) rfl rfl h57 (W.no (dj := 58) rfl rfl h57 (W.ok (ok_pick_t rfl h57) (W.nil (thn_n (WC.cond_t rfl rfl (WC.seq (WC.region (W.as (W.nil (thn_n (WC.ret (thn_r ?_)))))))))))))))
   refine ⟨.inr rfl, [_], ⟨rfl, trivial⟩, [], sn9, ?_⟩
   refine congrArg Value.bool ?_
   exact (decide_eq_false fun h => by obtain ⟨⟨g1, g2, g3⟩, ⟨g4, g5⟩, g6⟩ := h; unfold KidOf at g3; simp [g4] at e57).symm
  have e57 : (!(k.top == (kidS p i).opn)) = false := h57
  refine W.yes (dj := 58) rfl rfl h57 (W.ok (ok_fieldB fd35_4 rfl) (W.yes (dj := 58) rfl rfl h57 (W.ok (ok_loadB (i := 1) (vs := [.string _]) ty9 rfl rfl rfl rfl (by simp)) (W.yes (dj := 58) rfl rfl h57 (W.ok (ok_fieldB fd37_1 rfl) (W.yes (dj := 58) rfl rfl h57 (W.ok (ok_loadB (i := 0) (vs := [.string _]) ty9 rfl rfl rfl rfl (by simp)) (W.yes (dj := 58) rfl rfl h57 (W.ok (ok_neqS rfl rfl) (W.ok (ok_pick_f rfl h57) (W.nil (thn_n ?_))))))))))))
  refine WC.cond (b := _) rfl (fun h63 => ?_) (fun h63 => ?_)
  ·have p63 := nd_t h63
   refine WC.seq (WC.region (W.as (W.nil (thn_n (WC.ret (thn_r ?_))))))
   refine ⟨.inr rfl, [_], ⟨rfl, trivial⟩, [], sn9, ?_⟩
   refine congrArg Value.bool ?_
   exact (decide_eq_false fun h => by obtain ⟨⟨g1, g2, g3⟩, ⟨g4, g5⟩, g6⟩ := h; unfold KidOf at g3; exact p63 (congrArg Str.b g5)).symm
  have p63 := nd_f h63
  refine WC.skip (thn_n (WC.seq (WC.seq (WC.region (W.ok (ok_fieldB fd35_8 rfl) (W.ok (ok_loadB (i := 2) (vs := [.slice _ _ _]) ty33 rfl rfl rfl rfl (by simp)) (W.ok (ok_len sl33 hm_p rfl) (W.mv (W.nil (thn_n (WC.block ?_)))))))))))
  refine WC.loop (X := Nat) (fun q => [(68, .int .i64 ((q : Nat) : Int)), (6, .pointer (some ⟨b3, 0, none⟩)), (9, .pointer (some ⟨b20, 0, none⟩)), (66, .slice ma_p p.msgs.length mc_p), (67, .int .i64 (((p.msgs).length : Nat) : Int))]) (fun q _ Ml => Ml = [(b20, .cells (List.toArray [.string ((kidS p i)).lo.b, .string ((kidS p i)).hi.b, .bool ((kidS p i)).opn]) 37 (0, 0)), (b3, .cells (List.toArray [.int .i64 k.slot, .int .i64 k.level, .slice pa_k k.pivots.length pc_k, .slice ka_k k.kids.length kc_k, .string k.high.b, .bool k.top, .int .i64 k.right, .int .i64 k.seen, .slice ma_k k.msgs.length mc_k, .slice ra_k k.rows.length rc_k]) 35 (0, 0)), (b2, .cells (List.toArray [.int .i64 p.slot, .int .i64 p.level, .slice pa_p p.pivots.length pc_p, .slice ka_p p.kids.length kc_p, .string p.high.b, .bool p.top, .int .i64 p.right, .int .i64 p.seen, .slice ma_p p.msgs.length mc_p, .slice ra_p p.rows.length rc_p]) 35 (0, 0)), (b1, .cells (List.toArray [.int .i64 cf, .int .i64 cl, .int .i64 cb, .int .i64 cs, .int .i64 cr]) 23 (0, 0))] ∧ q ≤ p.msgs.length ∧ ∀ j (h : j < p.msgs.length), j < q → (p.msgs[j].span.meet (kidS p i)).empty = false → k.seen < p.msgs[j].stamp) (fun q => p.msgs.length - q) 0 ⟨eqv, eqv, eqv, eqv, eqv, trivial⟩ ?_ ?_
  ·exact ⟨rfl, by omega, fun j _ h => by omega⟩
  rintro q gG21 G21 _ hG21 ⟨rfl, hqm, hq⟩
  refine WC.seq (WC.region (W.ok (ok_lss rfl rfl) (W.nil (thn_n (WC.seq ?_)))))
  refine WC.cond (b := _) rfl (fun h69 => ?_) (fun h69 => ?_)
  ·have p69 := of_decide_eq_true h69
   refine WC.skip (thn_n (WC.seq (WC.block (WC.seq (WC.region ?_)))))
   have q26 := (hm_p.mono hG21).at (i := q) (by omega)
   refine match q26 with | ⟨_, he22, ⟨e_25, hm23⟩⟩ => ?_
   subst e_25
   refine W.ok (ok_indexAddr (i := q) sl33 ty141 (hm_p.mono hG21) rfl rfl ⟨by omega, by omega⟩) (W.ok (ok_loadE (vs := [.int .i64 _, .int .i64 _, .string _, .string _, .bool _, .string _]) ty141 he22 rfl rfl rfl (by simp)) (W.alloc zr141 (fun b27 => (W.store (i := 0) (vs := [.int .i64 _, .int .i64 _, .string _, .string _, .bool _, .string _]) (L' := [.int .i64 _, .int .i64 _, .string _, .string _, .bool _, .string _]) ty141 rfl rfl rfl rfl rfl rfl rfl rfl (W.nil (thn_n (WC.seq (WC.draw mix (by kernel_rfl) (W.ok (ok_loadB (i := 0) (vs := [.int .i64 _, .int .i64 _, .string _, .string _, .bool _, .string _]) ty141 rfl rfl rfl rfl (by simp)) (W.qcall (rspan_fc _ _ _ _ _ _ (hks _ (List.getElem_mem (by omega : q < p.msgs.length)))) rfl (W.ok (ok_loadB (i := 1) (vs := [.string _, .string _, .bool _]) ty37 rfl rfl rfl rfl (by simp)) (W.qcall (rmeet_fc _ _ _ _ _ _) rfl (W.qcall (empty_fc _ _ _) rfl (W.ok (ok_not rfl) (W.mv ?_)))))))))))))))
   refine W.sp 78 rfl (fun h77 => ?_) (fun h77 => ?_)
   ·have hem : ((p.msgs[q]'(by omega)).span.meet (kidS p i)).empty = false := by simpa using h77
    refine W.yes (dj := 78) rfl rfl h77 (W.ok (ok_fieldB fd141_0 rfl) (W.yes (dj := 78) rfl rfl h77 (W.ok (ok_loadB (i := 0) (vs := [.int .i64 _]) ty3 rfl rfl rfl rfl (by simp)) (W.yes (dj := 78) rfl rfl h77 (W.ok (ok_fieldB fd35_7 rfl) (W.yes (dj := 78) rfl rfl h77 (W.ok (ok_loadB (i := 2) (vs := [.int .i64 _]) ty3 rfl rfl rfl rfl (by simp)) (W.yes (dj := 78) rfl rfl h77 (W.ok (ok_leq rfl rfl) (W.ok (ok_pick_t rfl h77) (W.nil (thn_n ?_))))))))))))
    refine WC.cond (b := _) rfl (fun h83 => ?_) (fun h83 => ?_)
    ·have p83 := of_decide_eq_true h83
     refine WC.seq (WC.region (W.as (W.nil (thn_n (WC.ret (blk_r (thn_r (thn_r (blk_r (thn_r ?_))))))))))
     refine ⟨.inr rfl, [_], ⟨rfl, trivial⟩, [], sn9, ?_⟩
     refine congrArg Value.bool ?_
     exact (decide_eq_false fun h => by obtain ⟨⟨g1, g2, g3⟩, ⟨g4, g5⟩, g6⟩ := h; unfold KidOf at g3; have h9 := g6 q (by omega) hem; omega).symm
    have p83 := of_decide_eq_false h83
    refine WC.skip (blk_n (thn_n (WC.region (W.ok (ok_add rfl rfl (by omega)) (W.mv (W.sub (sr9.cons _) (W.nil (thn_n ?_))))))))
    exact ⟨Le.rfl, q + 1, ⟨eqv, eqv, eqv, eqv, eqv, trivial⟩, ⟨rfl, by omega, fun j h hj he => by
      by_cases e : j = q
      · subst e; omega
      · exact hq j h (by omega) he⟩, by omega⟩
   have hem : ((p.msgs[q]'(by omega)).span.meet (kidS p i)).empty = true := by simpa using h77
   refine W.no (dj := 78) rfl rfl h77 (W.no (dj := 78) rfl rfl h77 (W.no (dj := 78) rfl rfl h77 (W.no (dj := 78) rfl rfl h77 (W.no (dj := 78) rfl rfl h77 (W.ok (ok_pick_f rfl h77) (W.nil (thn_n (WC.cond_f rfl rfl (WC.skip (blk_n (thn_n (WC.region (W.ok (ok_add rfl rfl (by omega)) (W.mv (W.sub (sr9.cons _) (W.nil (thn_n ?_)))))))))))))))))
   exact ⟨Le.rfl, q + 1, ⟨eqv, eqv, eqv, eqv, eqv, trivial⟩, ⟨rfl, by omega, fun j h hj he => by
      by_cases e : j = q
      · subst e; rw [hem] at he; cases he
      · exact hq j h (by omega) he⟩, by omega⟩
  have p69 := of_decide_eq_false h69
  refine WC.exit (thn_x (thn_x (blk_h (thn_n (WC.seq (WC.region (W.as (W.nil (thn_n (WC.ret ?_))))))))))
  refine ⟨.inr rfl, [_], ⟨rfl, trivial⟩, [], sn9, ?_⟩
  refine congrArg Value.bool ?_
  exact (decide_eq_true ⟨⟨g14, g19, by omega, p33, by omega, by omega⟩, ⟨by simpa using e57, Str.ext' p63⟩, fun j h he => hq j h (by omega) he⟩).symm
 refine W.alloc zr37 (fun b28 => (W.nil (WD.n9 Le.rfl (((sr9.k9.k9).k9).cons _) (WD.a1 1 rfl (W.qcall (rspan21_fc (n := p) ⟨_, _, _, _, _, _, _, _, rfl, hp_p, hk_p, hm_p, hr_p, hok_p⟩) rfl (W.nil (WD.n9 Le.rfl (((sr9.k9.k9).k9).cons _) (WD.a1 5 rfl (W.qcall (rrange_fc hp_p _ ⟨by omega, by omega⟩) rfl (W.nil (WD.n9 Le.rfl (((sr9.k9.k9).k9).cons _) (WD.a1 6 rfl (W.qcall (rmeet_fc _ _ _ _ _ _) rfl (W.nil (WD.n9 Le.rfl (((sr9.k9.k9).k9).cons _) (WD.a1 8 rfl (W.store (i := 0) (vs := [.string _, .string _, .bool _]) (L' := [.string _, .string _, .bool _]) ty37 rfl rfl rfl rfl rfl rfl rfl rfl (W.nil (WD.n9 Le.rfl (((sr9.k9.k9).k9).cons _) ?_)))))))))))))))))))
 refine WD.done (by kernel_rfl) (thn_n (WC.seq (WC.seq (WC.region (W.ok (ok_fieldB fd35_5 rfl) (W.ok (ok_loadB (i := 1) (vs := [.bool _]) ty4 rfl rfl rfl rfl (by simp)) (W.ok (ok_fieldB fd37_2 rfl) (W.ok (ok_loadB (i := 0) (vs := [.bool _]) ty4 rfl rfl rfl rfl (by simp)) (W.ok (ok_neqB bo4 rfl rfl) (W.mv ?_))))))))))
 refine W.sp 58 rfl (fun h57 => ?_) (fun h57 => ?_)
 ·have e57 : (!(k.top == (kidS p i).opn)) = true := h57
  refine W.no (dj := 58) rfl rfl h57 (W.no (dj := 58) rfl rfl h57 (W.no (dj := 58) rfl rfl h57 (W.no (dj := 58) rfl rfl h57 (W.no (dj := 58) rfl rfl h57 (W.ok (ok_pick_t rfl h57) (W.nil (thn_n (WC.cond_t rfl rfl (WC.seq (WC.region (W.as (W.nil (thn_n (WC.ret (thn_r ?_)))))))))))))))
  refine ⟨.inr rfl, [_], ⟨rfl, trivial⟩, [], sn9, ?_⟩
  refine congrArg Value.bool ?_
  exact (decide_eq_false fun h => by obtain ⟨⟨g1, g2, g3⟩, ⟨g4, g5⟩, g6⟩ := h; unfold KidOf at g3; simp [g4] at e57).symm
 have e57 : (!(k.top == (kidS p i).opn)) = false := h57
 refine W.yes (dj := 58) rfl rfl h57 (W.ok (ok_fieldB fd35_4 rfl) (W.yes (dj := 58) rfl rfl h57 (W.ok (ok_loadB (i := 1) (vs := [.string _]) ty9 rfl rfl rfl rfl (by simp)) (W.yes (dj := 58) rfl rfl h57 (W.ok (ok_fieldB fd37_1 rfl) (W.yes (dj := 58) rfl rfl h57 (W.ok (ok_loadB (i := 0) (vs := [.string _]) ty9 rfl rfl rfl rfl (by simp)) (W.yes (dj := 58) rfl rfl h57 (W.ok (ok_neqS rfl rfl) (W.ok (ok_pick_f rfl h57) (W.nil (thn_n ?_))))))))))))
 refine WC.cond (b := _) rfl (fun h63 => ?_) (fun h63 => ?_)
 ·have p63 := nd_t h63
  refine WC.seq (WC.region (W.as (W.nil (thn_n (WC.ret (thn_r ?_))))))
  refine ⟨.inr rfl, [_], ⟨rfl, trivial⟩, [], sn9, ?_⟩
  refine congrArg Value.bool ?_
  exact (decide_eq_false fun h => by obtain ⟨⟨g1, g2, g3⟩, ⟨g4, g5⟩, g6⟩ := h; unfold KidOf at g3; exact p63 (congrArg Str.b g5)).symm
 have p63 := nd_f h63
 refine WC.skip (thn_n (WC.seq (WC.seq (WC.region (W.ok (ok_fieldB fd35_8 rfl) (W.ok (ok_loadB (i := 2) (vs := [.slice _ _ _]) ty33 rfl rfl rfl rfl (by simp)) (W.ok (ok_len sl33 hm_p rfl) (W.mv (W.nil (thn_n (WC.block ?_)))))))))))
 refine WC.loop (X := Nat) (fun q => [(68, .int .i64 ((q : Nat) : Int)), (6, .pointer (some ⟨b3, 0, none⟩)), (9, .pointer (some ⟨b28, 0, none⟩)), (66, .slice ma_p p.msgs.length mc_p), (67, .int .i64 (((p.msgs).length : Nat) : Int))]) (fun q _ Ml => Ml = [(b28, .cells (List.toArray [.string ((kidS p i)).lo.b, .string ((kidS p i)).hi.b, .bool ((kidS p i)).opn]) 37 (0, 0)), (b3, .cells (List.toArray [.int .i64 k.slot, .int .i64 k.level, .slice pa_k k.pivots.length pc_k, .slice ka_k k.kids.length kc_k, .string k.high.b, .bool k.top, .int .i64 k.right, .int .i64 k.seen, .slice ma_k k.msgs.length mc_k, .slice ra_k k.rows.length rc_k]) 35 (0, 0)), (b2, .cells (List.toArray [.int .i64 p.slot, .int .i64 p.level, .slice pa_p p.pivots.length pc_p, .slice ka_p p.kids.length kc_p, .string p.high.b, .bool p.top, .int .i64 p.right, .int .i64 p.seen, .slice ma_p p.msgs.length mc_p, .slice ra_p p.rows.length rc_p]) 35 (0, 0)), (b1, .cells (List.toArray [.int .i64 cf, .int .i64 cl, .int .i64 cb, .int .i64 cs, .int .i64 cr]) 23 (0, 0))] ∧ q ≤ p.msgs.length ∧ ∀ j (h : j < p.msgs.length), j < q → (p.msgs[j].span.meet (kidS p i)).empty = false → k.seen < p.msgs[j].stamp) (fun q => p.msgs.length - q) 0 ⟨eqv, eqv, eqv, eqv, eqv, trivial⟩ ?_ ?_
 ·exact ⟨rfl, by omega, fun j _ h => by omega⟩
 rintro q gG29 G29 _ hG29 ⟨rfl, hqm, hq⟩
 refine WC.seq (WC.region (W.ok (ok_lss rfl rfl) (W.nil (thn_n (WC.seq ?_)))))
 refine WC.cond (b := _) rfl (fun h69 => ?_) (fun h69 => ?_)
 ·have p69 := of_decide_eq_true h69
  refine WC.skip (thn_n (WC.seq (WC.block (WC.seq (WC.region ?_)))))
  have q34 := (hm_p.mono hG29).at (i := q) (by omega)
  refine match q34 with | ⟨_, he30, ⟨e_33, hm31⟩⟩ => ?_
  subst e_33
  refine W.ok (ok_indexAddr (i := q) sl33 ty141 (hm_p.mono hG29) rfl rfl ⟨by omega, by omega⟩) (W.ok (ok_loadE (vs := [.int .i64 _, .int .i64 _, .string _, .string _, .bool _, .string _]) ty141 he30 rfl rfl rfl (by simp)) (W.alloc zr141 (fun b35 => (W.store (i := 0) (vs := [.int .i64 _, .int .i64 _, .string _, .string _, .bool _, .string _]) (L' := [.int .i64 _, .int .i64 _, .string _, .string _, .bool _, .string _]) ty141 rfl rfl rfl rfl rfl rfl rfl rfl (W.nil (thn_n (WC.seq (WC.draw mix (by kernel_rfl) (W.ok (ok_loadB (i := 0) (vs := [.int .i64 _, .int .i64 _, .string _, .string _, .bool _, .string _]) ty141 rfl rfl rfl rfl (by simp)) (W.qcall (rspan_fc _ _ _ _ _ _ (hks _ (List.getElem_mem (by omega : q < p.msgs.length)))) rfl (W.ok (ok_loadB (i := 1) (vs := [.string _, .string _, .bool _]) ty37 rfl rfl rfl rfl (by simp)) (W.qcall (rmeet_fc _ _ _ _ _ _) rfl (W.qcall (empty_fc _ _ _) rfl (W.ok (ok_not rfl) (W.mv ?_)))))))))))))))
  refine W.sp 78 rfl (fun h77 => ?_) (fun h77 => ?_)
  ·have hem : ((p.msgs[q]'(by omega)).span.meet (kidS p i)).empty = false := by simpa using h77
   refine W.yes (dj := 78) rfl rfl h77 (W.ok (ok_fieldB fd141_0 rfl) (W.yes (dj := 78) rfl rfl h77 (W.ok (ok_loadB (i := 0) (vs := [.int .i64 _]) ty3 rfl rfl rfl rfl (by simp)) (W.yes (dj := 78) rfl rfl h77 (W.ok (ok_fieldB fd35_7 rfl) (W.yes (dj := 78) rfl rfl h77 (W.ok (ok_loadB (i := 2) (vs := [.int .i64 _]) ty3 rfl rfl rfl rfl (by simp)) (W.yes (dj := 78) rfl rfl h77 (W.ok (ok_leq rfl rfl) (W.ok (ok_pick_t rfl h77) (W.nil (thn_n ?_))))))))))))
   refine WC.cond (b := _) rfl (fun h83 => ?_) (fun h83 => ?_)
   ·have p83 := of_decide_eq_true h83
    refine WC.seq (WC.region (W.as (W.nil (thn_n (WC.ret (blk_r (thn_r (thn_r (blk_r (thn_r ?_))))))))))
    refine ⟨.inr rfl, [_], ⟨rfl, trivial⟩, [], sn9, ?_⟩
    refine congrArg Value.bool ?_
    exact (decide_eq_false fun h => by obtain ⟨⟨g1, g2, g3⟩, ⟨g4, g5⟩, g6⟩ := h; unfold KidOf at g3; have h9 := g6 q (by omega) hem; omega).symm
   have p83 := of_decide_eq_false h83
   refine WC.skip (blk_n (thn_n (WC.region (W.ok (ok_add rfl rfl (by omega)) (W.mv (W.sub (sr9.cons _) (W.nil (thn_n ?_))))))))
   exact ⟨Le.rfl, q + 1, ⟨eqv, eqv, eqv, eqv, eqv, trivial⟩, ⟨rfl, by omega, fun j h hj he => by
      by_cases e : j = q
      · subst e; omega
      · exact hq j h (by omega) he⟩, by omega⟩
  have hem : ((p.msgs[q]'(by omega)).span.meet (kidS p i)).empty = true := by simpa using h77
  refine W.no (dj := 78) rfl rfl h77 (W.no (dj := 78) rfl rfl h77 (W.no (dj := 78) rfl rfl h77 (W.no (dj := 78) rfl rfl h77 (W.no (dj := 78) rfl rfl h77 (W.ok (ok_pick_f rfl h77) (W.nil (thn_n (WC.cond_f rfl rfl (WC.skip (blk_n (thn_n (WC.region (W.ok (ok_add rfl rfl (by omega)) (W.mv (W.sub (sr9.cons _) (W.nil (thn_n ?_)))))))))))))))))
  exact ⟨Le.rfl, q + 1, ⟨eqv, eqv, eqv, eqv, eqv, trivial⟩, ⟨rfl, by omega, fun j h hj he => by
      by_cases e : j = q
      · subst e; rw [hem] at he; cases he
      · exact hq j h (by omega) he⟩, by omega⟩
 have p69 := of_decide_eq_false h69
 refine WC.exit (thn_x (thn_x (blk_h (thn_n (WC.seq (WC.region (W.as (W.nil (thn_n (WC.ret ?_))))))))))
 refine ⟨.inr rfl, [_], ⟨rfl, trivial⟩, [], sn9, ?_⟩
 refine congrArg Value.bool ?_
 exact (decide_eq_true ⟨⟨g14, g19, by omega, p33, by omega, by omega⟩, ⟨by simpa using e57, Str.ext' p63⟩, fun j h he => hq j h (by omega) he⟩).symm

theorem pright_fc {G : GH} {cs_p : List Value} {p : Nd} (h_p : NodeC G cs_p p) {cs_k : List Value} {k : Nd} (h_k : NodeC G cs_k k) (i : Int) :
    Fc Try.prog 96 [.agg (List.toArray cs_p), .agg (List.toArray cs_k), .int .i64 i] G [] (fun v _ _ => v = .bool (decide (KidOf p k i))) := by
 obtain ⟨pa_p, pc_p, ka_p, kc_p, ma_p, mc_p, ra_p, rc_p, rfl, hp_p, hk_p, hm_p, hr_p, hok_p⟩ := h_p
 obtain ⟨pa_k, pc_k, ka_k, kc_k, ma_k, mc_k, ra_k, rc_k, rfl, hp_k, hk_k, hm_k, hr_k, hok_k⟩ := h_k
 have hlk := hk_p.len47
 obtain ⟨hlv1, hlv2⟩ := hok_p.2.1
 refine Fc.intro (rs := [.tmp 6]) cl96 Try.func96 rfl Try.ntmps96 rfl rfl (fun w0 => ?_)
 refine WC.seq (WC.region (W.box (L := (nd9 _ _ _ _ _ _ _ _ _ _ _ _ _ _ _ _ _ _)) rfl rfl (fun b36 => (W.box (L := (nd9 _ _ _ _ _ _ _ _ _ _ _ _ _ _ _ _ _ _)) rfl rfl (fun b37 => (W.as (W.nil (thn_n (WC.seq (WC.region (W.ok (ok_fieldB fd35_1 rfl) (W.ok (ok_loadB (i := 1) (vs := [.int .i64 _]) ty3 rfl rfl rfl rfl (by simp)) (W.ok (ok_geq rfl rfl) (W.mv ?_))))))))))))))
 refine W.sp 10 rfl (fun h9 => ?_) (fun h9 => ?_)
 ·have p9 := of_decide_eq_true h9
  refine W.yes (dj := 10) rfl rfl h9 (W.ok (ok_fieldB fd35_1 rfl) (W.yes (dj := 10) rfl rfl h9 (W.ok (ok_loadB (i := 0) (vs := [.int .i64 _]) ty3 rfl rfl rfl rfl (by simp)) (W.yes (dj := 10) rfl rfl h9 (W.ok (ok_fieldB fd35_1 rfl) (W.yes (dj := 10) rfl rfl h9 (W.ok (ok_loadB (i := 1) (vs := [.int .i64 _]) ty3 rfl rfl rfl rfl (by simp)) (W.yes (dj := 10) rfl rfl h9 (W.ok (ok_sub rfl rfl (by omega)) (W.yes (dj := 10) rfl rfl h9 (W.ok (ok_eql rfl rfl) (W.ok (ok_pick_t rfl h9) (W.mv ?_)))))))))))))
  refine W.sp 18 rfl (fun h16 => ?_) (fun h16 => ?_)
  ·have p16 := of_decide_eq_true h16
   refine W.yes (dj := 18) rfl rfl h16 (W.mv (W.yes (dj := 18) rfl rfl h16 (W.ok (ok_geq rfl rfl) (W.ok (ok_pick_t rfl h16) (W.mv ?_)))))
   refine W.sp 22 rfl (fun h20 => ?_) (fun h20 => ?_)
   ·have p20 := of_decide_eq_true h20
    refine W.yes (dj := 22) rfl rfl h20 (W.mv (W.yes (dj := 22) rfl rfl h20 (W.ok (ok_fieldB fd35_3 rfl) (W.yes (dj := 22) rfl rfl h20 (W.ok (ok_loadB (i := 1) (vs := [.slice _ _ _]) ty30 rfl rfl rfl rfl (by simp)) (W.yes (dj := 22) rfl rfl h20 (W.ok (ok_len sl30 hk_p rfl) (W.yes (dj := 22) rfl rfl h20 (W.ok (ok_lss rfl rfl) (W.ok (ok_pick_t rfl h20) (W.as (W.nil (thn_n (WC.ret ?_))))))))))))))
    refine ⟨.inr rfl, [_], ⟨rfl, trivial⟩, [], sn9, ?_⟩
    refine congrArg Value.bool ?_
    exact decide_eq_decide.2 ⟨fun h => ⟨by omega, p16, by omega, h⟩, fun h => h.2.2.2⟩
   have p20 := of_decide_eq_false h20
   refine W.no (dj := 22) rfl rfl h20 (W.no (dj := 22) rfl rfl h20 (W.no (dj := 22) rfl rfl h20 (W.no (dj := 22) rfl rfl h20 (W.no (dj := 22) rfl rfl h20 (W.ok (ok_pick_f rfl h20) (W.as (W.nil (thn_n (WC.ret ?_)))))))))
   refine ⟨.inr rfl, [_], ⟨rfl, trivial⟩, [], sn9, ?_⟩
   refine congrArg Value.bool ?_
   exact (decide_eq_false fun h => by unfold KidOf at h; omega).symm
  have p16 := of_decide_eq_false h16
  refine W.no (dj := 18) rfl rfl h16 (W.no (dj := 18) rfl rfl h16 (W.ok (ok_pick_f rfl h16) (W.mv (W.no (dj := 22) rfl rfl rfl (W.no (dj := 22) rfl rfl rfl (W.no (dj := 22) rfl rfl rfl (W.no (dj := 22) rfl rfl rfl (W.no (dj := 22) rfl rfl rfl (W.ok (ok_pick_f rfl rfl) (W.as (W.nil (thn_n (WC.ret ?_)))))))))))))
  refine ⟨.inr rfl, [_], ⟨rfl, trivial⟩, [], sn9, ?_⟩
  refine congrArg Value.bool ?_
  exact (decide_eq_false fun h => by unfold KidOf at h; omega).symm
 have p9 := of_decide_eq_false h9
 refine W.no (dj := 10) rfl rfl h9 (W.no (dj := 10) rfl rfl h9 (W.no (dj := 10) rfl rfl h9 (W.no (dj := 10) rfl rfl h9 (W.no (dj := 10) rfl rfl h9 (W.no (dj := 10) rfl rfl h9 (W.ok (ok_pick_f rfl h9) (W.mv (W.no (dj := 18) rfl rfl rfl (W.no (dj := 18) rfl rfl rfl (W.ok (ok_pick_f rfl rfl) (W.mv (W.no (dj := 22) rfl rfl rfl (W.no (dj := 22) rfl rfl rfl ?_)))))))))))))
 refine W.no (dj := 22) rfl rfl rfl (W.no (dj := 22) rfl rfl rfl (W.no (dj := 22) rfl rfl rfl (W.ok (ok_pick_f rfl rfl) (W.as (W.nil (thn_n (WC.ret ?_)))))))
 refine ⟨.inr rfl, [_], ⟨rfl, trivial⟩, [], sn9, ?_⟩
 refine congrArg Value.bool ?_
 exact (decide_eq_false fun h => by unfold KidOf at h; omega).symm

theorem moved_fc {G : GH} (cf : Int) (cl : Int) (cb : Int) (cs : Int) (cr : Int) {cs_p : List Value} {p : Nd} (h_p : NodeC G cs_p p) {cs_k : List Value} {k : Nd} (h_k : NodeC G cs_k k) (i : Int) (hb : 0 ≤ cb ∧ cb ≤ 9223372036854775807) (hr : rising p.pivots = true) (hpv : ∀ q ∈ p.pivots, q.b.size ≤ 16) (hpm : ∀ m ∈ p.msgs, m.R) (hkm : ∀ m ∈ k.msgs, m.key.b.size ≤ 16 ∧ m.val.b.size ≤ 16) (hkr : PairsR k.rows) (hi : i64 i) (hsz : k.msgs.length + p.msgs.length ≤ 100000 ∧ k.rows.length ≤ 100000) :
    Fc Try.prog 97 [.agg #[.int .i64 cf, .int .i64 cl, .int .i64 cb, .int .i64 cs, .int .i64 cr], .agg (List.toArray cs_p), .agg (List.toArray cs_k), .int .i64 i] G [] (fun v G' M' => M' = [] ∧ ∃ r : Nd × Nat, r = movedN cl cb k (forN p.pivots p.msgs i) ∧ ∃ u0 u1, v = .tuple #[.agg (List.toArray u0), u1] ∧ NodeC G' u0 (r.1) ∧ SlR eMsg G' u1 ((forN p.pivots p.msgs i).take r.2)) := by
 obtain ⟨pa_p, pc_p, ka_p, kc_p, ma_p, mc_p, ra_p, rc_p, rfl, hp_p, hk_p, hm_p, hr_p, hok_p⟩ := h_p
 obtain ⟨pa_k, pc_k, ka_k, kc_k, ma_k, mc_k, ra_k, rc_k, rfl, hp_k, hk_k, hm_k, hr_k, hok_k⟩ := h_k
 have hfR : ∀ m ∈ (forN p.pivots p.msgs i), m.R := for_R hpv hpm
 have hfl := for_len p.pivots p.msgs i
 have hpk : ∀ m ∈ p.msgs, m.key.b.size < 140737488355328 := fun m h => by have := (msgR_key (hpm m h)).1; omega
 have hdl := drain_le cl (forN p.pivots p.msgs i) k.rows
 refine Fc.intro (rs := [.cell 8 35, .tmp 9]) cl97 Try.func97 rfl Try.ntmps97 rfl rfl (fun w0 => ?_)
 refine WC.seq (WC.region (W.box (L := [.int .i64 _, .int .i64 _, .int .i64 _, .int .i64 _, .int .i64 _]) rfl rfl (fun b38 => (W.box (L := (nd9 _ _ _ _ _ _ _ _ _ _ _ _ _ _ _ _ _ _)) rfl rfl (fun b39 => (W.box (L := (nd9 _ _ _ _ _ _ _ _ _ _ _ _ _ _ _ _ _ _)) rfl rfl (fun b40 => (W.alloc zr35 (fun b41 => (W.as (W.nil (thn_n (WC.seq (WC.region (W.ok (ok_fieldB fd35_2 rfl) (W.ok (ok_loadB (i := 2) (vs := [.slice _ _ _]) ty32 rfl rfl rfl rfl (by simp)) (W.ok (ok_fieldB fd35_8 rfl) (W.ok (ok_loadB (i := 2) (vs := [.slice _ _ _]) ty33 rfl rfl rfl rfl (by simp)) ?_))))))))))))))))))
 refine W.mv (W.call (Mp := []) (for_fc hp_p hm_p i hpk hr hi) rfl pr9 ?_)
 intro _ G42 _ hG42 q44
 refine match q44 with | ⟨e_45, _, e_46, hv43⟩ => ?_
 subst e_45
 subst e_46
 have q48 := hv43.form
 refine match q48 with | ⟨sa_hv43, sc_hv43, e_47⟩ => ?_
 subst e_47
 refine W.as (W.nil (thn_n (WC.seq (WC.region (W.ok (ok_loadB (i := 1) (vs := (nd9 _ _ _ _ _ _ _ _ _ _ _ _ _ _ _ _ _ _)) ty35 rfl rfl rfl rfl (by simp)) (W.call (Mp := []) (ncopy3_fc (a := k) ⟨_, _, _, _, _, _, _, _, rfl, (hp_k.mono hG42), (hk_k.mono hG42), (hm_k.mono hG42), (hr_k.mono hG42), hok_k⟩) rfl pr9 ?_))))))
 intro _ G49 _ hG49 q51
 refine match q51 with | ⟨e_52, _, e_53, hv50⟩ => ?_
 subst e_52
 subst e_53
 refine match hv50 with | ⟨pa_hv50, pc_hv50, ka_hv50, kc_hv50, ma_hv50, mc_hv50, ra_hv50, rc_hv50, e_54, hp_hv50, hk_hv50, hm_hv50, hr_hv50, hok_hv50⟩ => ?_
 subst e_54
 refine W.store (i := 1) (vs := (nd9 _ _ _ _ _ _ _ _ _ _ _ _ _ _ _ _ _ _)) (L' := (nd9 _ _ _ _ _ _ _ _ _ _ _ _ _ _ _ _ _ _)) ty35 rfl rfl rfl rfl rfl rfl rfl rfl (W.nil (thn_n (WC.seq (WC.seq (WC.region (W.ok (ok_fieldB fd35_1 rfl) (W.ok (ok_loadB (i := 1) (vs := [.int .i64 _]) ty3 rfl rfl rfl rfl (by simp)) (W.ok (ok_eql rfl rfl) (W.nil (thn_n ?_))))))))))
 refine WC.cond (b := _) rfl (fun h26 => ?_) (fun h26 => ?_)
 ·have p26 := of_decide_eq_true h26
  refine WC.seq (WC.region (W.as (W.nil (thn_n (WC.seq (WC.region (W.ok (ok_fieldB fd35_9 rfl) (W.ok (ok_loadB (i := 1) (vs := [.slice _ _ _]) ty31 rfl rfl rfl rfl (by simp)) (W.mv (W.ok (ok_fieldB fd23_1 rfl) (W.ok (ok_loadB (i := 3) (vs := [.int .i64 _]) ty3 rfl rfl rfl rfl (by simp)) (W.call (Mp := []) (ldrain_fc hr_hv50 (hv43.mono hG49) cl hkr (by omega) hfR) rfl pr9 ?_))))))))))))
  intro _ G55 _ hG55 q57
  refine match q57 with | ⟨e_58, _, e_59, _, e_60, hv56⟩ => ?_
  subst e_58
  subst e_59
  subst e_60
  have q62 := hv56.form
  refine match q62 with | ⟨sa_hv56, sc_hv56, e_61⟩ => ?_
  subst e_61
  refine W.mv (W.ok (ok_extract rfl rfl) (W.ok (ok_extract rfl rfl) (W.ok (ok_fieldB fd35_9 rfl) (W.store (i := 1) (vs := [.slice _ _ _]) (L' := (nd9 _ _ _ _ _ _ _ _ _ _ _ _ _ _ _ _ _ _)) ty31 rfl rfl rfl rfl rfl rfl rfl rfl (W.as (W.nil (thn_n (WC.seq (WC.drawW _ (((sr9.k9.k9).k9).cons _) mix (by rintro _ _ _ _ ⟨h | h, _⟩ <;> cases h) (WD.tk 0 rfl (ok_loadB (i := 0) (vs := (nd9 _ _ _ _ _ _ _ _ _ _ _ _ _ _ _ _ _ _)) ty35 rfl rfl rfl rfl (by simp)) (WD.tk 1 rfl (ok_mv) (WD.tk 2 rfl (ok_mv) ?_))))))))))))
  have hs63 := SlR.slice (hv43.mono (hG49.trans hG55)) (lo := 0) (hi := (drainN cl k.rows (forN p.pivots p.msgs i)).2) (by omega) (by omega)
  refine WD.tk 3 rfl (ok_slice (0) ((drainN cl k.rows (forN p.pivots p.msgs i)).2) sl33 ty141 (hv43.mono (hG49.trans hG55)) rfl rfl ⟨_, _, rfl, by omega⟩ ⟨by omega, by omega⟩) (WD.a1 4 rfl (W.store (i := 0) (vs := (nd9 _ _ _ _ _ _ _ _ _ _ _ _ _ _ _ _ _ _)) (L' := (nd9 _ _ _ _ _ _ _ _ _ _ _ _ _ _ _ _ _ _)) ty35 rfl rfl rfl rfl rfl rfl rfl rfl (W.nil (WD.n9 Le.rfl (((sr9.k9.k9).k9).cons _) (WD.tk 5 rfl (ok_as) (WD.done (by kernel_rfl) (thn_n (WC.ret (thn_r ?_)))))))))
  refine ⟨.inr rfl, [_, _], ⟨⟨_, _, _, _, _, rfl, nthM_mem (i := 0) rfl, ty35, (by simp), rfl, rfl⟩, rfl, trivial⟩, [], sn9, ?_⟩
  refine ⟨rfl, _, (moved_0 p26).symm, _, _, rfl, ?_, ?_⟩
  · exact ⟨_, _, _, _, _, _, _, _, rfl, (hp_hv50.mono hG55), (hk_hv50.mono hG55), (hm_hv50.mono hG55), hv56, hok_k⟩
  exact SlR.cast hs63 (by rw [List.drop_zero])
 have p26 := of_decide_eq_false h26
 refine WC.skip (thn_n (WC.seq (WC.seq (WC.region (W.mv (W.ok (ok_len sl33 (hv43.mono hG49) rfl) (W.mv (W.nil (thn_n (WC.block ?_))))))))))
 refine WC.loop (X := (Nat) × List Value) (fun j => [(43, .int .i64 ((j.1 : Nat) : Int)), (4, .pointer (some ⟨b38, 0, none⟩)), (6, .pointer (some ⟨b40, 0, none⟩)), (8, .pointer (some ⟨b41, 0, none⟩)), (10, .slice sa_hv43 ((forN p.pivots p.msgs i)).length sc_hv43), (41, .slice sa_hv43 ((forN p.pivots p.msgs i)).length sc_hv43), (42, .int .i64 ((((forN p.pivots p.msgs i)).length : Nat) : Int))]) (fun j G Ml => Ml = [(b41, .cells (List.toArray [.int .i64 0, .int .i64 0, .slice none 0 0, .slice none 0 0, .string ⟨#[]⟩, .bool false, .int .i64 0, .int .i64 0, .slice none 0 0, .slice none 0 0]) 35 (0, 0)), (b40, .cells (List.toArray j.2) 35 (0, 0)), (b39, .cells (List.toArray [.int .i64 p.slot, .int .i64 p.level, .slice pa_p p.pivots.length pc_p, .slice ka_p p.kids.length kc_p, .string p.high.b, .bool p.top, .int .i64 p.right, .int .i64 p.seen, .slice ma_p p.msgs.length mc_p, .slice ra_p p.rows.length rc_p]) 35 (0, 0)), (b38, .cells (List.toArray [.int .i64 cf, .int .i64 cl, .int .i64 cb, .int .i64 cs, .int .i64 cr]) 23 (0, 0))] ∧ NodeC G j.2 ({ k with msgs := (k.msgs ++ (forN p.pivots p.msgs i).take j.1) }) ∧ j.1 ≤ (forN p.pivots p.msgs i).length ∧ AddsAt cb k.msgs (forN p.pivots p.msgs i) j.1) (fun j => (forN p.pivots p.msgs i).length - j.1) (0, ([.int .i64 (k).slot, .int .i64 (k).level, .slice pa_hv50 ((k).pivots).length pc_hv50, .slice ka_hv50 ((k).kids).length kc_hv50, .string (k).high.b, .bool (k).top, .int .i64 (k).right, .int .i64 (k).seen, .slice ma_hv50 ((k).msgs).length mc_hv50, .slice ra_hv50 ((k).rows).length rc_hv50] : List Value)) ⟨eqv, eqv, eqv, eqv, eqv, eqv, eqv, trivial⟩ ?_ ?_
 ·exact ⟨rfl, (by dsimp only; rw [List.take_zero, List.append_nil]; exact ⟨_, _, _, _, _, _, _, _, rfl, hp_hv50, hk_hv50, hm_hv50, hr_hv50, hok_hv50⟩), by omega, AddsAt.zero _ _ _⟩
 rintro ⟨j, C_6⟩ gG64 G64 _ hG64 ⟨rfl, ho_6, hj, hd⟩
 try dsimp only at ho_6 hj hd
 have hsj : ∀ m ∈ (k.msgs ++ (forN p.pivots p.msgs i).take j), m.key.b.size ≤ 16 ∧ m.val.b.size ≤ 16 := fun m h => by
   rcases List.mem_append.1 h with h | h
   · exact hkm m h
   exact msgR_key (hfR m (List.mem_of_mem_take h))
 have hlj : (k.msgs ++ (forN p.pivots p.msgs i).take j).length ≤ 100000 := by rw [List.length_append, List.length_take]; omega
 refine match ho_6 with | ⟨pa_nb65, pc_nb65, ka_nb65, kc_nb65, ma_nb65, mc_nb65, ra_nb65, rc_nb65, e_66, hp_nb65, hk_nb65, hm_nb65, hr_nb65, hok_nb65⟩ => ?_
 subst e_66
 refine WC.fr (f := setL gG64 [(43, .int .i64 ((j : Nat) : Int)), (4, .pointer (some ⟨b38, 0, none⟩)), (6, .pointer (some ⟨b40, 0, none⟩)), (8, .pointer (some ⟨b41, 0, none⟩)), (10, .slice sa_hv43 ((forN p.pivots p.msgs i)).length sc_hv43), (41, .slice sa_hv43 ((forN p.pivots p.msgs i)).length sc_hv43), (42, .int .i64 ((((forN p.pivots p.msgs i)).length : Nat) : Int))]) rfl (WC.seq (WC.region (W.ok (ok_lss rfl rfl) (W.nil (thn_n (WC.seq ?_))))))
 refine WC.cond (b := _) rfl (fun h44 => ?_) (fun h44 => ?_)
 ·have p44 := of_decide_eq_true h44
  refine WC.skip (thn_n (WC.seq (WC.block (WC.seq (WC.region (W.mv ?_))))))
  have q71 := (hv43.mono (hG49.trans hG64)).at (i := j) (by omega)
  refine match q71 with | ⟨_, he67, ⟨e_70, hm68⟩⟩ => ?_
  subst e_70
  refine W.ok (ok_indexAddr (i := j) sl33 ty141 (hv43.mono (hG49.trans hG64)) rfl rfl ⟨by omega, by omega⟩) (W.ok (ok_loadE (vs := [.int .i64 _, .int .i64 _, .string _, .string _, .bool _, .string _]) ty141 he67 rfl rfl rfl (by simp)) (W.alloc zr141 (fun b72 => (W.as (W.store (i := 0) (vs := [.int .i64 _, .int .i64 _, .string _, .string _, .bool _, .string _]) (L' := [.int .i64 _, .int .i64 _, .string _, .string _, .bool _, .string _]) ty141 rfl rfl rfl rfl rfl rfl rfl rfl (W.nil (thn_n (WC.seq (WC.region (W.ok (ok_fieldB fd35_8 rfl) (W.ok (ok_loadB (i := 2) (vs := [.slice _ _ _]) ty33 rfl rfl rfl rfl (by simp)) (W.ok (ok_loadB (i := 0) (vs := [.int .i64 _, .int .i64 _, .string _, .string _, .bool _, .string _]) ty141 rfl rfl rfl rfl (by simp)) (W.ok (ok_fieldB fd23_2 rfl) (W.ok (ok_loadB (i := 4) (vs := [.int .i64 _]) ty3 rfl rfl rfl rfl (by simp)) (W.call (Mp := []) (badd_fc hm_nb65 ((forN p.pivots p.msgs i)[j]'(by omega)).stamp ((forN p.pivots p.msgs i)[j]'(by omega)).kind ((forN p.pivots p.msgs i)[j]'(by omega)).key ((forN p.pivots p.msgs i)[j]'(by omega)).hi ((forN p.pivots p.msgs i)[j]'(by omega)).opn ((forN p.pivots p.msgs i)[j]'(by omega)).val cb hsj hb (by assumption) (by show List.length (k.msgs ++ (forN p.pivots p.msgs i).take j) ≤ _; omega)) rfl pr9 ?_)))))))))))))))
  intro _ G73 _ hG73 q75
  refine match q75 with | ⟨e_76, _, e_77, _, e_78, hv74⟩ => ?_
  subst e_76
  subst e_77
  subst e_78
  have q80 := hv74.form
  refine match q80 with | ⟨sa_hv74, sc_hv74, e_79⟩ => ?_
  subst e_79
  refine W.mv (W.ok (ok_extract rfl rfl) (W.ok (ok_extract rfl rfl) (W.as (W.as (W.nil (thn_n (WC.seq (WC.seq (WC.region (W.mv (W.ok (ok_not rfl) (W.nil (thn_n ?_)))))))))))))
  refine WC.cond (b := _) rfl (fun h58 => ?_) (fun h58 => ?_)
  ·have hro : roomB cb (k.msgs ++ (forN p.pivots p.msgs i).take j) ((forN p.pivots p.msgs i)[j]'(by omega)) = false := by rw [← add_snd]; simpa using h58
   have hst := hd.stop (by omega) hro
   refine WC.seq (WC.drawW _ ((((sr9.k9.k9).k9).cons _).k9) mix (by rintro _ _ _ _ ⟨h | h, _⟩ <;> cases h) (WD.tk 0 rfl (ok_loadB (i := 1) (vs := (nd9 _ _ _ _ _ _ _ _ _ _ _ _ _ _ _ _ _ _)) ty35 rfl rfl rfl rfl (by simp)) (WD.tk 1 rfl (ok_mv) (WD.tk 2 rfl (ok_mv) ?_))))
   have hs81 := SlR.slice (hv43.mono ((hG49.trans hG64).trans hG73)) (lo := 0) (hi := j) (by omega) (by omega)
   refine WD.tk 3 rfl (ok_slice (0) (j) sl33 ty141 (hv43.mono ((hG49.trans hG64).trans hG73)) rfl rfl ⟨_, _, rfl, by omega⟩ ⟨by omega, by omega⟩) (WD.a1 4 rfl (W.store (i := 1) (vs := (nd9 _ _ _ _ _ _ _ _ _ _ _ _ _ _ _ _ _ _)) (L' := (nd9 _ _ _ _ _ _ _ _ _ _ _ _ _ _ _ _ _ _)) ty35 rfl rfl rfl rfl rfl rfl rfl rfl (W.nil (WD.n9 Le.rfl ((((sr9.k9.k9).k9).cons _).k9) (WD.tk 5 rfl (ok_as) (WD.done (by kernel_rfl) (thn_n (WC.ret (thn_r (blk_r (thn_r (thn_r (blk_r (thn_r ?_))))))))))))))
   refine ⟨.inr rfl, [_, _], ⟨⟨_, _, _, _, _, rfl, nthM_mem (i := 1) rfl, ty35, (by simp), rfl, rfl⟩, rfl, trivial⟩, [], sn9, ?_⟩
   refine ⟨rfl, _, (moved_n p26 hst).symm, _, _, rfl, ?_, ?_⟩
   · exact ⟨_, _, _, _, _, _, _, _, rfl, (hp_nb65.mono hG73), (hk_nb65.mono hG73), (hm_nb65.mono hG73), (hr_nb65.mono hG73), hok_k⟩
   exact SlR.cast hs81 (by rw [List.drop_zero])
  have hro : roomB cb (k.msgs ++ (forN p.pivots p.msgs i).take j) ((forN p.pivots p.msgs i)[j]'(by omega)) = true := by rw [← add_snd]; simpa using h58
  have hnx : k.msgs ++ (forN p.pivots p.msgs i).take (j + 1) = (addN cb (k.msgs ++ (forN p.pivots p.msgs i).take j) ((forN p.pivots p.msgs i)[j]'(by omega))).1 := by rw [addN_t hro, List.take_succ_eq_append_getElem (by omega), List.append_assoc]
  refine WC.skip (thn_n (WC.region (W.mv (W.ok (ok_fieldB fd35_8 rfl) (W.store (i := 2) (vs := [.slice _ _ _]) (L' := (nd9 _ _ _ _ _ _ _ _ _ _ _ _ _ _ _ _ _ _)) ty33 rfl rfl rfl rfl rfl rfl rfl rfl (W.nil (blk_n (thn_n (WC.region (W.ok (ok_add rfl rfl (by omega)) (W.mv (W.sub (sr9.cons _) (W.nil (thn_n ?_))))))))))))))
  exact ⟨hG73, (j + 1, [.int .i64 ({ k with msgs := (k.msgs ++ (forN p.pivots p.msgs i).take j) }).slot, .int .i64 ({ k with msgs := (k.msgs ++ (forN p.pivots p.msgs i).take j) }).level, .slice pa_nb65 (({ k with msgs := (k.msgs ++ (forN p.pivots p.msgs i).take j) }).pivots).length pc_nb65, .slice ka_nb65 (({ k with msgs := (k.msgs ++ (forN p.pivots p.msgs i).take j) }).kids).length kc_nb65, .string ({ k with msgs := (k.msgs ++ (forN p.pivots p.msgs i).take j) }).high.b, .bool ({ k with msgs := (k.msgs ++ (forN p.pivots p.msgs i).take j) }).top, .int .i64 ({ k with msgs := (k.msgs ++ (forN p.pivots p.msgs i).take j) }).right, .int .i64 ({ k with msgs := (k.msgs ++ (forN p.pivots p.msgs i).take j) }).seen, .slice sa_hv74 ((addN cb (k.msgs ++ (forN p.pivots p.msgs i).take j) ((forN p.pivots p.msgs i)[j]'(by omega))).1).length sc_hv74, .slice ra_nb65 (({ k with msgs := (k.msgs ++ (forN p.pivots p.msgs i).take j) }).rows).length rc_nb65]), ⟨eqv, eqv, eqv, eqv, eqv, eqv, eqv, trivial⟩, ⟨rfl, (by dsimp only; rw [hnx]; exact ⟨_, _, _, _, _, _, _, _, rfl, (hp_nb65.mono hG73), (hk_nb65.mono hG73), hv74, (hr_nb65.mono hG73), hok_nb65⟩), by omega, hd.succ (by omega) hro⟩, by omega⟩
 have p44 := of_decide_eq_false h44
 refine WC.exit (thn_x (thn_x (blk_h (thn_n (WC.seq (WC.region (W.ok (ok_loadB (i := 1) (vs := (nd9 _ _ _ _ _ _ _ _ _ _ _ _ _ _ _ _ _ _)) ty35 rfl rfl rfl rfl (by simp)) (W.mv (W.store (i := 0) (vs := (nd9 _ _ _ _ _ _ _ _ _ _ _ _ _ _ _ _ _ _)) (L' := (nd9 _ _ _ _ _ _ _ _ _ _ _ _ _ _ _ _ _ _)) ty35 rfl rfl rfl rfl rfl rfl rfl rfl (W.as (W.nil (thn_n (WC.ret ?_)))))))))))))
 refine ⟨.inr rfl, [_, _], ⟨⟨_, _, _, _, _, rfl, nthM_mem (i := 0) rfl, ty35, (by simp), rfl, rfl⟩, rfl, trivial⟩, [], sn9, ?_⟩
 refine ⟨rfl, _, (moved_n p26 (hd.all (by omega))).symm, _, _, rfl, ?_, ?_⟩
 · exact ⟨_, _, _, _, _, _, _, _, rfl, hp_nb65, hk_nb65, hm_nb65, hr_nb65, hok_k⟩
 exact SlR.cast (hv43.mono (hG49.trans hG64)) (List.take_of_length_le (by omega)).symm

theorem without_fc {G : GH} (ms : Int) (mk : Int) (mkey : Str) (mhi : Str) (mo : Bool) (mv : Str) (slo : Str) (shi : Str) (so : Bool) (hk : mkey.b.size < 140737488355328) :
    Fc Try.prog 98 [.agg #[.int .i64 ms, .int .i64 mk, .string mkey.b, .string mhi.b, .bool mo, .string mv.b], .agg #[.string slo.b, .string shi.b, .bool so]] G [] (fun v _ _ => v = .tuple #[.agg (List.toArray ((withoutN (⟨ms, mk, mkey, mhi, mo, mv⟩ : Msg) ⟨slo, shi, so⟩).1.cells)), .bool ((withoutN (⟨ms, mk, mkey, mhi, mo, mv⟩ : Msg) ⟨slo, shi, so⟩).2)]) := by
 refine Fc.intro (rs := [.cell 4 141, .tmp 5]) cl98 Try.func98 rfl Try.ntmps98 rfl rfl (fun w0 => ?_)
 refine WC.seq (WC.region (W.box (L := [.int .i64 _, .int .i64 _, .string _, .string _, .bool _, .string _]) rfl rfl (fun b96 => (W.box (L := [.string _, .string _, .bool _]) rfl rfl (fun b97 => (W.alloc zr141 (fun b98 => (W.as (W.nil (thn_n (WC.seq (WC.seq (WC.region (W.ok (ok_fieldB fd37_2 rfl) (W.ok (ok_loadB (i := 1) (vs := [.bool _]) ty4 rfl rfl rfl rfl (by simp)) (W.nil (thn_n ?_)))))))))))))))))
 refine WC.cond (b := _) rfl (fun ha_so => ?_) (fun ha_so => ?_)
 ·refine WC.seq (WC.region (W.ok (ok_build (L := [.int .i64 _, .int .i64 _, .string _, .string _, .bool _, .string _]) pl141 zr141 rfl rfl rfl) (W.store (i := 0) (vs := [.int .i64 _, .int .i64 _, .string _, .string _, .bool _, .string _]) (L' := [.int .i64 _, .int .i64 _, .string _, .string _, .bool _, .string _]) ty141 rfl rfl rfl rfl rfl rfl rfl rfl (W.as (W.nil (thn_n (WC.ret (thn_r ?_))))))))
  refine ⟨.inr rfl, [_, _], ⟨⟨_, _, _, _, _, rfl, nthM_mem (i := 0) rfl, ty141, (by simp), rfl, rfl⟩, rfl, trivial⟩, [], sn9, ?_⟩
  show Value.tuple #[Value.agg (List.toArray [_, _, _, _, _, _]), Value.bool _] = _
  rw [withoutN, if_pos (by assumption)]; rfl
 refine WC.skip (thn_n (WC.seq (WC.region (W.ok (ok_loadB (i := 2) (vs := [.int .i64 _, .int .i64 _, .string _, .string _, .bool _, .string _]) ty141 rfl rfl rfl rfl (by simp)) (W.ok (ok_fieldB fd37_1 rfl) (W.ok (ok_loadB (i := 1) (vs := [.string _]) ty9 rfl rfl rfl rfl (by simp)) (W.ok (ok_build (L := [.string _, .string _, .bool _]) pl37 zr37 rfl rfl rfl) (W.qcall (mclip_fc _ _ _ _ _ _ _ Str.nil _ (by first | assumption | omega | (dsimp only; omega))) rfl (W.ok (ok_extract rfl rfl) (W.ok (ok_extract rfl rfl) (W.store (i := 0) (vs := [.int .i64 _, .int .i64 _, .string _, .string _, .bool _, .string _]) (L' := [.int .i64 _, .int .i64 _, .string _, .string _, .bool _, .string _]) ty141 rfl rfl rfl rfl rfl rfl rfl rfl (W.as (W.nil (thn_n (WC.ret ?_)))))))))))))))
 refine ⟨.inr rfl, [_, _], ⟨⟨_, _, _, _, _, rfl, nthM_mem (i := 0) rfl, ty141, (by simp), rfl, rfl⟩, rfl, trivial⟩, [], sn9, ?_⟩
 show Value.tuple #[Value.agg (List.toArray [_, _, _, _, _, _]), Value.bool _] = _
 rw [withoutN, if_neg (by simp_all)]; rfl

end Go.Proofs.Ytmbafmifalppaaa
