/- Walks of gathering the leaves. -/
import Derived.Test.YtebkfinhhpelbaaGreatQbUz
set_option maxRecDepth 100000
set_option maxHeartbeats 1600000
set_option linter.unusedVariables false
set_option linter.unusedSimpArgs false
set_option linter.unnecessarySimpa false
namespace Go.Proofs.YtebkfinhhpelbaaGreat
open Go Go.Fw Go.RowKit
def GatW (l : List Nd) (ss : List Seat) (n : Nat) : Prop := ∀ {G : GH} {bc bm : Nat} {m : List (Int × Nd)} {xs0 : List Seat} {Ms_k : MH} (h_k : GaR 124 130 127 bc bm G (m, xs0) Ms_k) {x : Seat} (hx : x ∈ ss) (hn : x.n.level.toNat = n) (hv : Hav l n x m) (hol : xs0.length + (dfsF l n x).length ≤ 1000) {b_x : Nat} {sa_ms : Option Addr} {sc_ms : Nat} (h_ms : SlR eMsg G (.slice sa_ms x.ms.length sc_ms) x.ms), Fc Tryz.prog 76 [.pointer (some ⟨bc, 0, none⟩), .map (some bm), .int .i64 x.n.slot, .pointer (some ⟨b_x, 0, none⟩)] G ((b_x, .cells (List.toArray [.int .i64 0, .int .i64 0, .slice none 0 0, .slice none 0 0, .string Str.nil.b, .bool false, .int .i64 0, .int .i64 0, .slice none 0 0, .slice none 0 0, .string x.s.lo.b, .string x.s.hi.b, .bool x.s.opn, .slice sa_ms x.ms.length sc_ms, .slice none 0 0, .bool false]) 130 (0, 0)) :: Ms_k) (fun v G' M' => v = .tuple #[] ∧ ∃ m', SamD l n x m m' ∧ GaR 124 130 127 bc bm G' (m', xs0 ++ dfsF l n x) M')
theorem gat_step {G : GH} {bc bm : Nat} {m : List (Int × Nd)} {xs0 : List Seat} {Ms_k : MH} (h_k : GaR 124 130 127 bc bm G (m, xs0) Ms_k) {c2 : Cfg} {l : List Nd} {ss : List Seat} (t : Tree c2 l ss) {x : Seat} {n : Nat} (hx : x ∈ ss) (hn : x.n.level.toNat = n) (hv : Hav l n x m) (hol : xs0.length + (dfsF l n x).length ≤ 1000) (ih : ∀ q, q + 1 = n → GatW l ss q)   {b_x : Nat} {sa_ms : Option Addr} {sc_ms : Nat} (h_ms : SlR eMsg G (.slice sa_ms x.ms.length sc_ms) x.ms) :
    Fc Tryz.prog 76 [.pointer (some ⟨bc, 0, none⟩), .map (some bm), .int .i64 x.n.slot, .pointer (some ⟨b_x, 0, none⟩)] G ((b_x, .cells (List.toArray [.int .i64 0, .int .i64 0, .slice none 0 0, .slice none 0 0, .string Str.nil.b, .bool false, .int .i64 0, .int .i64 0, .slice none 0 0, .slice none 0 0, .string x.s.lo.b, .string x.s.hi.b, .bool x.s.opn, .slice sa_ms x.ms.length sc_ms, .slice none 0 0, .bool false]) 130 (0, 0)) :: (Ms_k)) (fun v G' M' => v = .tuple #[] ∧ ∃ m', SamD l n x m m' ∧ GaR 124 130 127 bc bm G' (m', xs0 ++ dfsF l n x) M') := by
 have hidl := (show xs0.length ≤ 1000 by omega)
 refine Fc.intro (rs := []) cl76 Tryz.func76 rfl Tryz.ntmps76 rfl rfl (fun w0 => ?_)
 refine WC.perm (M' := ((b_x, .cells (List.toArray [.int .i64 0, .int .i64 0, .slice none 0 0, .slice none 0 0, .string Str.nil.b, .bool false, .int .i64 0, .int .i64 0, .slice none 0 0, .slice none 0 0, .string x.s.lo.b, .string x.s.hi.b, .bool x.s.opn, .slice sa_ms x.ms.length sc_ms, .slice none 0 0, .bool false]) 130 (0, 0)) :: (Ms_k ++ []))) (by simp) (WC.seq ?_)
 obtain ⟨v9, ids, css, Mm, Mo, Ml, eM, hmt, ho, hil, hLE, hpm⟩ := h_k
 subst eM
 obtain ⟨sa_o, sc_o, rfl⟩ := ho.form
 dsimp only at hmt ho hLE
 have hcl := hLE.len
 refine WC.perm (M' := ((bc, .cells (List.toArray [.slice sa_o ids.length sc_o, .int .i64 (-1), .int .i64 0]) 124 (0, 0)) :: ((b_x, .cells (List.toArray [.int .i64 0, .int .i64 0, .slice none 0 0, .slice none 0 0, .string Str.nil.b, .bool false, .int .i64 0, .int .i64 0, .slice none 0 0, .slice none 0 0, .string x.s.lo.b, .string x.s.hi.b, .bool x.s.opn, .slice sa_ms x.ms.length sc_ms, .slice none 0 0, .bool false]) 130 (0, 0)) :: (Mm ++ (Mo ++ (Ml ++ [])))))) ((List.Perm.swap _ _ _).trans (by simp)) (WC.region (W.mv (W.mv (W.lookH (V := vNode) hv.self mk125 mz47 ⟨_, rfl, ⟨_, _, _, _, _, _, _, _, rfl, SlR.nil, SlR.nil, SlR.nil, SlR.nil, Nd.zero_ok⟩⟩ hmt rfl rfl (pmC (pmC pr9)) (fun v1 hv2 => ?_)))))
 refine match hv2 with | ⟨_, e_4, ⟨pa_mn3, pc_mn3, ka_mn3, kc_mn3, ma_mn3, mc_mn3, ra_mn3, rc_mn3, e_5, hp_mn3, hk_mn3, hm_mn3, hr_mn3, hok_mn3⟩⟩ => ?_
 subst e_4
 subst e_5
 refine W.mv (W.ok (ok_extract rfl rfl) (W.ok (ok_extract rfl rfl) (W.alloc zr47 (fun b6 => (W.store (i := 0) (vs := (nd9 _ _ _ _ _ _ _ _ _ _ _ _ _ _ _ _ _ _)) (L' := (nd9 _ _ _ _ _ _ _ _ _ _ _ _ _ _ _ _ _ _)) ty47 rfl rfl rfl rfl rfl rfl rfl rfl (W.as (W.nil (thn_n (WC.seq (WC.seq (WC.region (W.mv (W.ok (ok_not rfl) (W.nil (thn_n (WC.cond_f rfl rfl ?_))))))))))))))))
 refine WC.skip (thn_n (WC.seq (WC.region (W.mv (W.mv (W.del mk125 rfl rfl hmt (pmC (pmC (pmC pr9))) (fun Ms7 hmt8 => (W.perm (pmC (pmC (pmC pr9))).symm (W.nil (thn_n (WC.seq (WC.seq (WC.region (W.ok (ok_fieldB fd47_1 rfl) (W.ok (ok_loadB (i := 0) (vs := [.int .i64 _]) ty3 rfl rfl rfl rfl (by simp)) (W.ok (ok_eql rfl rfl) ?_))))))))))))))))
 refine W.nil (thn_n ?_)
 refine WC.cond (b := _) rfl (fun h25 => ?_) (fun h25 => ?_)
 ·have p25 := of_decide_eq_true h25
  try dsimp only at p25
  have hn0 : n = 0 := by omega
  subst hn0
  refine WC.seq (WC.region (W.mv (W.ok (ok_loadB (i := 0) (vs := (nd9 _ _ _ _ _ _ _ _ _ _ _ _ _ _ _ _ _ _)) ty47 rfl rfl rfl rfl (by simp)) (W.call (Mp := []) (ncopy_fc ⟨_, _, _, _, _, _, _, _, rfl, hp_mn3, hk_mn3, hm_mn3, hr_mn3, hok_mn3⟩) rfl pr9 ?_))))
  intro _ G9 _ hG9 q11
  refine match q11 with | ⟨e_12, _, e_13, hv10⟩ => ?_
  subst e_12
  subst e_13
  refine match hv10 with | ⟨pa_hv10, pc_hv10, ka_hv10, kc_hv10, ma_hv10, mc_hv10, ra_hv10, rc_hv10, e_14, hp_hv10, hk_hv10, hm_hv10, hr_hv10, hok_hv10⟩ => ?_
  subst e_14
  refine W.ok (ok_nilP rfl) (W.ok (ok_fieldB fd130_0 rfl) (W.store (i := 2) (vs := (nd9 _ _ _ _ _ _ _ _ _ _ _ _ _ _ _ _ _ _)) (L' := [.int .i64 _, .int .i64 _, _, _, .string _, .bool _, .int .i64 _, .int .i64 _, _, _, .string _, .string _, .bool _, _, _, .bool _]) ty47 rfl rfl rfl rfl rfl rfl rfl rfl (W.nil (thn_n (WC.seq (WC.region (W.mv (W.mv (W.ok (ok_nilP rfl) (W.ok (ok_fieldB fd124_0 rfl) (W.ok (ok_loadB (i := 1) (vs := [.slice _ _ _]) ty122 rfl rfl rfl rfl (by simp)) (W.mv (W.lit (e := ePtr) (l := [b_x]) (css := [[.pointer _]]) sl122 ty127 zr127 rfl rfl rfl rfl rfl rfl ⟨rfl, trivial⟩ (fun bl15 G15 hG15 hv15 => (W.app (e := ePtr) sl122 ty127 zr127 rfl by127 rfl rfl ((ho.mono (hG9.trans hG15))) (hv15) (pmC (pmC (pmC (pmA pr9)))) (by show (_ + 1) * 8 ≤ _; omega) (fun v16 Ms17 ho18 => ?_))))))))))))))))
  refine W.perm (pmC (pmC (pmC pr9))).symm ?_
  have q22 := ho18.form
  refine match q22 with | ⟨sa19, sc20, e_21⟩ => ?_
  subst e_21
  refine W.ok (ok_nilP rfl) (W.ok (ok_fieldB fd124_0 rfl) (W.store (i := 1) (vs := [.slice _ _ _]) (L' := [.slice _ _ _, .int .i64 _, .int .i64 _]) ty122 rfl rfl rfl rfl rfl rfl rfl rfl (W.nil (thn_n (WC.perm (M' := ((bc, .cells (List.toArray [.slice sa19 ((ids ++ [b_x])).length sc20, .int .i64 (-1), .int .i64 0]) 124 (0, 0)) :: (Ms7 ++ (Ms17 ++ ((b_x, .cells (List.toArray [.int .i64 (x.n).slot, .int .i64 (x.n).level, .slice pa_hv10 ((x.n).pivots).length pc_hv10, .slice ka_hv10 ((x.n).kids).length kc_hv10, .string (x.n).high.b, .bool (x.n).top, .int .i64 (x.n).right, .int .i64 (x.n).seen, .slice ma_hv10 ((x.n).msgs).length mc_hv10, .slice ra_hv10 ((x.n).rows).length rc_hv10, .string x.s.lo.b, .string x.s.hi.b, .bool x.s.opn, .slice sa_ms x.ms.length sc_ms, .slice none 0 0, .bool false]) 130 (0, 0)) :: Ml)))) ++ ((b6, .cells (List.toArray [.int .i64 x.n.slot, .int .i64 x.n.level, .slice pa_mn3 (x.n.pivots).length pc_mn3, .slice ka_mn3 (x.n.kids).length kc_mn3, .string x.n.high.b, .bool x.n.top, .int .i64 x.n.right, .int .i64 x.n.seen, .slice ma_mn3 (x.n.msgs).length mc_mn3, .slice ra_mn3 (x.n.rows).length rc_mn3]) 47 (0, 0)) :: [])) (((ga_mv.symm.cons _).append_right _).trans (((((pmC ((pmF ((pmF pr9).trans pr9)).trans (pmA pr9))).cons _).trans ((List.Perm.swap _ _ _).trans (pr9.cons _))).cons _).trans ((List.Perm.swap _ _ _).trans (pr9.cons _)))) (WC.ret (thn_r ?_)))))))
  refine ⟨.inr rfl, [], trivial, ((bc, .cells (List.toArray [.slice sa19 ((ids ++ [b_x])).length sc20, .int .i64 (-1), .int .i64 0]) 124 (0, 0)) :: (Ms7 ++ (Ms17 ++ ((b_x, .cells (List.toArray [.int .i64 (x.n).slot, .int .i64 (x.n).level, .slice pa_hv10 ((x.n).pivots).length pc_hv10, .slice ka_hv10 ((x.n).kids).length kc_hv10, .string (x.n).high.b, .bool (x.n).top, .int .i64 (x.n).right, .int .i64 (x.n).seen, .slice ma_hv10 ((x.n).msgs).length mc_hv10, .slice ra_hv10 ((x.n).rows).length rc_hv10, .string x.s.lo.b, .string x.s.hi.b, .bool x.s.opn, .slice sa_ms x.ms.length sc_ms, .slice none 0 0, .bool false]) 130 (0, 0)) :: Ml)))), List.sublist_append_left _ _, ?_⟩
  have hlf9 : LfC G15 [.int .i64 (x.n).slot, .int .i64 (x.n).level, .slice pa_hv10 ((x.n).pivots).length pc_hv10, .slice ka_hv10 ((x.n).kids).length kc_hv10, .string (x.n).high.b, .bool (x.n).top, .int .i64 (x.n).right, .int .i64 (x.n).seen, .slice ma_hv10 ((x.n).msgs).length mc_hv10, .slice ra_hv10 ((x.n).rows).length rc_hv10, .string x.s.lo.b, .string x.s.hi.b, .bool x.s.opn, .slice sa_ms x.ms.length sc_ms, .slice none 0 0, .bool false] x := ⟨[.int .i64 (x.n).slot, .int .i64 (x.n).level, .slice pa_hv10 ((x.n).pivots).length pc_hv10, .slice ka_hv10 ((x.n).kids).length kc_hv10, .string (x.n).high.b, .bool (x.n).top, .int .i64 (x.n).right, .int .i64 (x.n).seen, .slice ma_hv10 ((x.n).msgs).length mc_hv10, .slice ra_hv10 ((x.n).rows).length rc_hv10], .slice sa_ms x.ms.length sc_ms, .slice none 0 0, false, rfl, ⟨_, _, _, _, _, _, _, _, rfl, (hp_hv10.mono hG15), (hk_hv10.mono hG15), (hm_hv10.mono hG15), (hr_hv10.mono hG15), hok_hv10⟩, (h_ms.mono (hG9.trans hG15)), SlR.nil⟩
  exact ⟨rfl, _, samD_leaf, _, ids ++ [b_x], css ++ [[.int .i64 (x.n).slot, .int .i64 (x.n).level, .slice pa_hv10 ((x.n).pivots).length pc_hv10, .slice ka_hv10 ((x.n).kids).length kc_hv10, .string (x.n).high.b, .bool (x.n).top, .int .i64 (x.n).right, .int .i64 (x.n).seen, .slice ma_hv10 ((x.n).msgs).length mc_hv10, .slice ra_hv10 ((x.n).rows).length rc_hv10, .string x.s.lo.b, .string x.s.hi.b, .bool x.s.opn, .slice sa_ms x.ms.length sc_ms, .slice none 0 0, .bool false]], _, _, _, rfl, (MpR.mono (hG9.trans hG15) hmt8), ho18, by rw [List.length_append, List.length_append, hil]; rfl, LvE.snoc hlf9 (hLE.mono ((hG9.trans hG15))), lvM_add hil hpm⟩
 have p25 := of_decide_eq_false h25
 try dsimp only at p25
 have hl9 := t.lvl hx
 obtain ⟨q, rfl⟩ : ∃ q, n = q + 1 := ⟨n - 1, by omega⟩
 have hkd := t.kidsD_at hx p25
 have hnk : x.n.kids.length ≤ 4000 := (t.sml.at (.inr (t.nd hx).2.2)).1
 have hk1 : ∀ m ∈ x.n.msgs, m.key.b.size < 140737488355328 := fun m hm => by have := (msgR_key ((t.msgs hx).2.1 m hm)).1; omega
 have hk2 : ∀ m ∈ x.ms, m.key.b.size < 140737488355328 := fun m hm => by have := (msgR_key ((t.fits x hx).2 m hm)).1; omega
 have hms1 := t.msgs_len hx
 have hms2 := (t.ms_len x hx).1
 refine WC.skip (thn_n (WC.seq ?_))
 have hR23 : GaR 124 130 127 bc bm G (delM m x.n.slot, xs0) ((bc, .cells (List.toArray [.slice sa_o ids.length sc_o, .int .i64 (-1), .int .i64 0]) 124 (0, 0)) :: (Ms7 ++ (Mo ++ Ml))) := ⟨_, ids, css, _, _, _, rfl, hmt8, ho, hil, hLE.mono (Le.rfl), hpm⟩
 refine WC.perm (M' := ((b6, .cells (List.toArray [.int .i64 x.n.slot, .int .i64 x.n.level, .slice pa_mn3 (x.n.pivots).length pc_mn3, .slice ka_mn3 (x.n.kids).length kc_mn3, .string x.n.high.b, .bool x.n.top, .int .i64 x.n.right, .int .i64 x.n.seen, .slice ma_mn3 (x.n.msgs).length mc_mn3, .slice ra_mn3 (x.n.rows).length rc_mn3]) 47 (0, 0)) :: ((b_x, .cells (List.toArray [.int .i64 0, .int .i64 0, .slice none 0 0, .slice none 0 0, .string Str.nil.b, .bool false, .int .i64 0, .int .i64 0, .slice none 0 0, .slice none 0 0, .string x.s.lo.b, .string x.s.hi.b, .bool x.s.opn, .slice sa_ms x.ms.length sc_ms, .slice none 0 0, .bool false]) 130 (0, 0)) :: (((bc, .cells (List.toArray [.slice sa_o ids.length sc_o, .int .i64 (-1), .int .i64 0]) 124 (0, 0)) :: (Ms7 ++ (Mo ++ Ml))) ++ [])))) ((pmC (pmC pr9)).symm.trans (((pmC (pmC ((pmF ((pmF pr9).trans pr9)).trans pr9))).cons _).trans ((List.Perm.swap _ _ _).trans (pr9.cons _)))) (WC.region (W.ok (ok_fieldB fd47_3 rfl) (W.ok (ok_loadB (i := 0) (vs := [.slice _ _ _]) ty44 rfl rfl rfl rfl (by simp)) (W.ok (ok_len sl44 hk_mn3 rfl) (W.mv (W.nil (thn_n (WC.block ?_))))))))
 refine WC.loop (X := (Nat × List (Int × Nd)) × MH) (fun y => [(44, .int .i64 ((y.1.1 : Nat) : Int)), (3, .pointer (some ⟨b_x, 0, none⟩)), (8, .pointer (some ⟨b6, 0, none⟩)), (1, .map (some bm)), (42, .slice ka_mn3 (x.n.kids).length kc_mn3), (43, .int .i64 (((x.n.kids).length : Nat) : Int)), (0, .pointer (some ⟨bc, 0, none⟩))]) (fun y G Ml => Ml = ((b6, .cells (List.toArray [.int .i64 x.n.slot, .int .i64 x.n.level, .slice pa_mn3 (x.n.pivots).length pc_mn3, .slice ka_mn3 (x.n.kids).length kc_mn3, .string x.n.high.b, .bool x.n.top, .int .i64 x.n.right, .int .i64 x.n.seen, .slice ma_mn3 (x.n.msgs).length mc_mn3, .slice ra_mn3 (x.n.rows).length rc_mn3]) 47 (0, 0)) :: ((b_x, .cells (List.toArray [.int .i64 0, .int .i64 0, .slice none 0 0, .slice none 0 0, .string Str.nil.b, .bool false, .int .i64 0, .int .i64 0, .slice none 0 0, .slice none 0 0, .string x.s.lo.b, .string x.s.hi.b, .bool x.s.opn, .slice sa_ms x.ms.length sc_ms, .slice none 0 0, .bool false]) 130 (0, 0)) :: (y.2 ++ []))) ∧ GaR 124 130 127 bc bm G ((y.1.2, xs0 ++ dfsK l q x y.1.1)) y.2 ∧ y.1.1 ≤ x.n.kids.length ∧ SamK l q x y.1.1 m y.1.2 ∧ HavK l q x y.1.1 y.1.2) (fun y => x.n.kids.length - y.1.1) (((0, delM m x.n.slot) : Nat × List (Int × Nd)), ((bc, .cells (List.toArray [.slice sa_o ids.length sc_o, .int .i64 (-1), .int .i64 0]) 124 (0, 0)) :: (Ms7 ++ (Mo ++ Ml)))) ⟨eqv, eqv, eqv, eqv, eqv, eqv, eqv, trivial⟩ ?_ ?_
 ·exact ⟨rfl, (by exact GaR.cast hR23 (by simp [dfsK])), Nat.zero_le _, SamK.zero, hv.kids⟩
 rintro ⟨⟨j, mt2⟩, M_0⟩ gG24 G24 _ hG24 ⟨rfl, ho_0, hj, hsk, hfk⟩
 try dsimp only at ho_0 hj hsk hfk
 refine WC.fr (f := setL gG24 [(44, .int .i64 ((j : Nat) : Int)), (3, .pointer (some ⟨b_x, 0, none⟩)), (8, .pointer (some ⟨b6, 0, none⟩)), (1, .map (some bm)), (42, .slice ka_mn3 (x.n.kids).length kc_mn3), (43, .int .i64 (((x.n.kids).length : Nat) : Int)), (0, .pointer (some ⟨bc, 0, none⟩))]) rfl (WC.seq (WC.region (W.ok (ok_lss rfl rfl) (W.nil (thn_n (WC.seq ?_))))))
 refine WC.cond (b := _) rfl (fun h45 => ?_) (fun h45 => ?_)
 ·have p45 := of_decide_eq_true h45
  try dsimp only at p45
  refine WC.skip (thn_n (WC.seq (WC.block (WC.seq (WC.region (W.mv ?_))))))
  have q28 := (hk_mn3.mono hG24).at (i := j) (by omega)
  refine match q28 with | ⟨_, he25, ⟨e_27, hi26⟩⟩ => ?_
  subst e_27
  refine W.ok (ok_indexAddr (i := j) sl44 ty3 (hk_mn3.mono hG24) rfl rfl ⟨by omega, by omega⟩) (W.ok (ok_loadE (vs := [.int .i64 _]) ty3 he25 rfl rfl rfl (by simp)) (W.as (W.as (W.nil (thn_n ?_)))))
  refine WC.join (X := (Unit) × Nat) (fun u10 => [(0, .pointer (some ⟨bc, 0, none⟩)), (11, .int .i64 (x.n.kids[j]'(by omega))), (3, .pointer (some ⟨b_x, 0, none⟩)), (8, .pointer (some ⟨b6, 0, none⟩)), (1, .map (some bm)), (42, .slice ka_mn3 (x.n.kids).length kc_mn3), (43, .int .i64 (((x.n.kids).length : Nat) : Int)), (44, .int .i64 ((j : Nat) : Int)), (12, .pointer (some ⟨u10.2, 0, none⟩))]) (fun u10 G Ml => Ml = ((u10.2, .cells (List.toArray [.string ((x.s.meet (rangeN x.n.pivots (j : Int)))).lo.b, .string ((x.s.meet (rangeN x.n.pivots (j : Int)))).hi.b, .bool ((x.s.meet (rangeN x.n.pivots (j : Int)))).opn]) 52 (0, 0)) :: ((b6, .cells (List.toArray [.int .i64 x.n.slot, .int .i64 x.n.level, .slice pa_mn3 (x.n.pivots).length pc_mn3, .slice ka_mn3 (x.n.kids).length kc_mn3, .string x.n.high.b, .bool x.n.top, .int .i64 x.n.right, .int .i64 x.n.seen, .slice ma_mn3 (x.n.msgs).length mc_mn3, .slice ra_mn3 (x.n.rows).length rc_mn3]) 47 (0, 0)) :: ((b_x, .cells (List.toArray [.int .i64 0, .int .i64 0, .slice none 0 0, .slice none 0 0, .string Str.nil.b, .bool false, .int .i64 0, .int .i64 0, .slice none 0 0, .slice none 0 0, .string x.s.lo.b, .string x.s.hi.b, .bool x.s.opn, .slice sa_ms x.ms.length sc_ms, .slice none 0 0, .bool false]) 130 (0, 0)) :: (M_0 ++ []))))) ?_ ?_
  ·refine WC.drawW _ (sr9.k9.k9) mix (by rintro _ _ _ _ ⟨h | h, _⟩ <;> cases h) (WD.tk 0 rfl (ok_mv) (WD.tk 1 rfl (ok_nilP rfl) (WD.tk 2 rfl (ok_fieldB fd130_1 rfl) (WD.tk 3 rfl (ok_loadB (i := 1) (vs := [.string _, .string _, .bool _]) ty52 rfl rfl rfl rfl (by simp)) (WD.tk 4 rfl (ok_fieldB fd47_2 rfl) (WD.tk 5 rfl (ok_loadB (i := 0) (vs := [.slice _ _ _]) ty43 rfl rfl rfl rfl (by simp)) (WD.tk 6 rfl (ok_mv) ?_)))))))
   refine WD.any [7, 9] (by kernel_rfl) rfl ⟨⟨_, rfl, rfl, ?_⟩, ⟨_, rfl, rfl, ?_⟩, trivial⟩
   ·refine W.qcall (brange_fc (hp_mn3.mono hG24) _ ⟨by omega, by omega⟩) rfl (W.nil (WD.n9 Le.rfl (sr9.k9.k9) ?_))
    refine WD.any [8, 9] (by kernel_rfl) rfl ⟨⟨_, rfl, rfl, ?_⟩, ⟨_, rfl, rfl, ?_⟩, trivial⟩
    ·refine W.qcall (smeet_fc _ _ _ _ _ _) rfl (W.nil (WD.n9 Le.rfl (sr9.k9.k9) (WD.a1 9 rfl (W.alloc zr52 (fun b29 => (W.nil (WD.n9 Le.rfl ((sr9.k9.k9).cons _) (WD.a1 10 rfl (W.store (i := 0) (vs := [.string _, .string _, .bool _]) (L' := [.string _, .string _, .bool _]) ty52 rfl rfl rfl rfl rfl rfl rfl rfl (W.nil (WD.n9 Le.rfl ((sr9.k9.k9).cons _) (WD.done (by kernel_rfl) (thn_n ?_)))))))))))))
     exact ⟨Le.rfl, ((), b29), ⟨eqv, eqv, eqv, eqv, eqv, eqv, eqv, eqv, eqv, trivial⟩, rfl⟩
    refine W.alloc zr52 (fun b30 => (W.nil (WD.n9 Le.rfl ((sr9.k9.k9).cons _) (WD.a1 8 rfl (W.qcall (smeet_fc _ _ _ _ _ _) rfl (W.nil (WD.n9 Le.rfl ((sr9.k9.k9).cons _) (WD.a1 10 rfl (W.store (i := 0) (vs := [.string _, .string _, .bool _]) (L' := [.string _, .string _, .bool _]) ty52 rfl rfl rfl rfl rfl rfl rfl rfl (W.nil (WD.n9 Le.rfl ((sr9.k9.k9).cons _) (WD.done (by kernel_rfl) (thn_n ?_)))))))))))))
    exact ⟨Le.rfl, ((), b30), ⟨eqv, eqv, eqv, eqv, eqv, eqv, eqv, eqv, eqv, trivial⟩, rfl⟩
   refine W.alloc zr52 (fun b31 => (W.nil (WD.n9 Le.rfl ((sr9.k9.k9).cons _) (WD.a1 7 rfl (W.qcall (brange_fc (hp_mn3.mono hG24) _ ⟨by omega, by omega⟩) rfl (W.nil (WD.n9 Le.rfl ((sr9.k9.k9).cons _) (WD.a1 8 rfl (W.qcall (smeet_fc _ _ _ _ _ _) rfl (W.nil (WD.n9 Le.rfl ((sr9.k9.k9).cons _) (WD.a1 10 rfl (W.store (i := 0) (vs := [.string _, .string _, .bool _]) (L' := [.string _, .string _, .bool _]) ty52 rfl rfl rfl rfl rfl rfl rfl rfl (W.nil (WD.n9 Le.rfl ((sr9.k9.k9).cons _) (WD.done (by kernel_rfl) (thn_n ?_)))))))))))))))))
   exact ⟨Le.rfl, ((), b31), ⟨eqv, eqv, eqv, eqv, eqv, eqv, eqv, eqv, eqv, trivial⟩, rfl⟩
  rintro ⟨u10, B_12⟩ gG32 G32 _ hG32 rfl
  refine WC.fr (f := setL gG32 [(0, .pointer (some ⟨bc, 0, none⟩)), (11, .int .i64 (x.n.kids[j]'(by omega))), (3, .pointer (some ⟨b_x, 0, none⟩)), (8, .pointer (some ⟨b6, 0, none⟩)), (1, .map (some bm)), (42, .slice ka_mn3 (x.n.kids).length kc_mn3), (43, .int .i64 (((x.n.kids).length : Nat) : Int)), (44, .int .i64 ((j : Nat) : Int)), (12, .pointer (some ⟨B_12, 0, none⟩))]) rfl (WC.drawW _ ((sn9.k9.k9).k9) mix (by rintro _ _ _ _ ⟨h | h, _⟩ <;> cases h) (WD.tk 0 rfl (ok_mv) (WD.tk 1 rfl (ok_mv) (WD.tk 2 rfl (ok_mv) (WD.tk 3 rfl (ok_loadB (i := 0) (vs := [.string _, .string _, .bool _]) ty52 rfl rfl rfl rfl (by simp)) (WD.tk 4 rfl (ok_fieldB fd47_8 rfl) (WD.tk 5 rfl (ok_loadB (i := 1) (vs := [.slice _ _ _]) ty45 rfl rfl rfl rfl (by simp)) (WD.tk 6 rfl (ok_loadB (i := 0) (vs := [.string _, .string _, .bool _]) ty52 rfl rfl rfl rfl (by simp)) (WD.tk 8 rfl (ok_mv) (WD.tk 9 rfl (ok_nilP rfl) (WD.tk 10 rfl (ok_fieldB fd130_2 rfl) (WD.tk 11 rfl (ok_loadB (i := 2) (vs := [.slice _ _ _]) ty45 rfl rfl rfl rfl (by simp)) (WD.tk 12 rfl (ok_loadB (i := 0) (vs := [.string _, .string _, .bool _]) ty52 rfl rfl rfl rfl (by simp)) ?_)))))))))))))
  refine WD.a1 7 rfl (W.call (Mp := []) (bclips_fc (hm_mn3.mono (hG24.trans hG32)) _ _ _ hk1) rfl pr9 ?_)
  intro _ G33 _ hG33 q35
  refine match q35 with | ⟨e_36, _, e_37, hv34⟩ => ?_
  subst e_36
  subst e_37
  have q39 := hv34.form
  refine match q39 with | ⟨sa_hv34, sc_hv34, e_38⟩ => ?_
  subst e_38
  refine W.nil (WD.n9 hG33 ((sn9.k9.k9).k9) (WD.a1 13 rfl (W.call (Mp := []) (bclips_fc (h_ms.mono ((hG24.trans hG32).trans hG33)) _ _ _ hk2) rfl pr9 ?_)))
  intro _ G40 _ hG40 q42
  refine match q42 with | ⟨e_43, _, e_44, hv41⟩ => ?_
  subst e_43
  subst e_44
  have q46 := hv41.form
  refine match q46 with | ⟨sa_hv41, sc_hv41, e_45⟩ => ?_
  subst e_45
  refine W.nil (WD.n9 hG40 ((sn9.k9.k9).k9) (WD.a1 14 rfl (W.lit (e := (eSl eMsg)) (l := [(clips (x.s.meet (rangeN x.n.pivots (j : Int))) x.n.msgs), (clips (x.s.meet (rangeN x.n.pivots (j : Int))) x.ms)]) (css := [[.slice _ _ _], [.slice _ _ _]]) sl187 ty45 zr45 rfl rfl rfl rfl rfl rfl ⟨⟨_, rfl, (hv34.mono hG40)⟩, ⟨_, rfl, hv41⟩, trivial⟩ (fun bl47 G47 hG47 hv47 => (W.nil (WD.n9 hG47 ((sn9.k9.k9).k9) (WD.a1 15 rfl (W.call (Mp := []) (mlists_fc hv47 (by have := clips_le (s := (x.s.meet (rangeN x.n.pivots (j : Int)))) (l := x.n.msgs); have := clips_le (s := (x.s.meet (rangeN x.n.pivots (j : Int)))) (l := x.ms); have h9 : totN [] = 0 := rfl; rw [totN_cons, totN_cons, h9]; omega) (by show 2 ≤ 100000; omega)) rfl pr9 ?_))))))))
  intro _ G48 _ hG48 q50
  refine match q50 with | ⟨e_51, _, e_52, hv49⟩ => ?_
  subst e_51
  subst e_52
  have q54 := hv49.form
  refine match q54 with | ⟨sa_hv49, sc_hv49, e_53⟩ => ?_
  subst e_53
  refine W.nil (WD.n9 hG48 ((sn9.k9.k9).k9) (WD.tk 16 rfl (ok_build (L := [.int .i64 _, .int .i64 _, .slice _ _ _, .slice _ _ _, .string _, .bool _, .int .i64 _, .int .i64 _, .slice _ _ _, .slice _ _ _, .string _, .string _, .bool _, .slice _ _ _, .slice _ _ _, .bool _]) pl130 zr130 rfl rfl rfl) (WD.a1 17 rfl (W.box (L := [.int .i64 _, .int .i64 _, .slice _ _ _, .slice _ _ _, .string _, .bool _, .int .i64 _, .int .i64 _, .slice _ _ _, .slice _ _ _, .string _, .string _, .bool _, .slice _ _ _, .slice _ _ _, .bool _]) rfl rfl (fun b55 => (W.nil (WD.n9 Le.rfl (((sn9.k9.k9).k9).cons _) (WD.a1 18 rfl ?_))))))))
  have hkl9 : j < (kidsD l x).length := by omega
  have hke := hkd.2 j hkl9
  have hkv := dfsK_le (n := q) hkl9
  rw [hke] at hkv
  have hat9 := t.at hx p25 (j := j) (by omega)
  have hsl9 : (x.n.kids[j]'(by omega)) = (kidSt l x j).n.slot := by rw [hat9.2.2.1]; exact (getL_slot t.slot hat9.2.1).1.symm
  have hfh := hfk.head hkl9
  rw [hke] at hfh
  refine W.call (Mp := ((b55, .cells (List.toArray [.int .i64 0, .int .i64 0, .slice none 0 0, .slice none 0 0, .string ⟨#[]⟩, .bool false, .int .i64 0, .int .i64 0, .slice none 0 0, .slice none 0 0, .string ((x.s.meet (rangeN x.n.pivots (j : Int)))).lo.b, .string ((x.s.meet (rangeN x.n.pivots (j : Int)))).hi.b, .bool ((x.s.meet (rangeN x.n.pivots (j : Int)))).opn, .slice sa_hv49 ((kidSt l x j).ms).length sc_hv49, .slice none 0 0, .bool false]) 130 (0, 0)) :: M_0)) (Mr := ((B_12, .cells (List.toArray [.string ((x.s.meet (rangeN x.n.pivots (j : Int)))).lo.b, .string ((x.s.meet (rangeN x.n.pivots (j : Int)))).hi.b, .bool ((x.s.meet (rangeN x.n.pivots (j : Int)))).opn]) 52 (0, 0)) :: ((b6, .cells (List.toArray [.int .i64 x.n.slot, .int .i64 x.n.level, .slice pa_mn3 (x.n.pivots).length pc_mn3, .slice ka_mn3 (x.n.kids).length kc_mn3, .string x.n.high.b, .bool x.n.top, .int .i64 x.n.right, .int .i64 x.n.seen, .slice ma_mn3 (x.n.msgs).length mc_mn3, .slice ra_mn3 (x.n.rows).length rc_mn3]) 47 (0, 0)) :: ((b_x, .cells (List.toArray [.int .i64 0, .int .i64 0, .slice none 0 0, .slice none 0 0, .string Str.nil.b, .bool false, .int .i64 0, .int .i64 0, .slice none 0 0, .slice none 0 0, .string x.s.lo.b, .string x.s.hi.b, .bool x.s.opn, .slice sa_ms x.ms.length sc_ms, .slice none 0 0, .bool false]) 130 (0, 0)) :: [])))) ((ih q rfl) (GaR.mono ((((hG32.trans hG33).trans hG40).trans hG47).trans hG48) ho_0) (x := (kidSt l x j)) hat9.1 (by have := hat9.2.2.2; omega) hfh (by rw [List.length_append]; omega) hv49) (congrArg (fun k : Int => [_, _, Value.int .i64 k, _]) hsl9) (((pmC (pmC (pmC pr9))).cons _).trans pr9) ?_
  intro v59 G56 Ms58 hG56 q57
  refine match q57 with | ⟨e_61, m3, hs3, hR60⟩ => ?_
  subst e_61
  refine W.perm (M' := ((B_12, .cells (List.toArray [.string ((x.s.meet (rangeN x.n.pivots (j : Int)))).lo.b, .string ((x.s.meet (rangeN x.n.pivots (j : Int)))).hi.b, .bool ((x.s.meet (rangeN x.n.pivots (j : Int)))).opn]) 52 (0, 0)) :: ((b6, .cells (List.toArray [.int .i64 x.n.slot, .int .i64 x.n.level, .slice pa_mn3 (x.n.pivots).length pc_mn3, .slice ka_mn3 (x.n.kids).length kc_mn3, .string x.n.high.b, .bool x.n.top, .int .i64 x.n.right, .int .i64 x.n.seen, .slice ma_mn3 (x.n.msgs).length mc_mn3, .slice ra_mn3 (x.n.rows).length rc_mn3]) 47 (0, 0)) :: ((b_x, .cells (List.toArray [.int .i64 0, .int .i64 0, .slice none 0 0, .slice none 0 0, .string Str.nil.b, .bool false, .int .i64 0, .int .i64 0, .slice none 0 0, .slice none 0 0, .string x.s.lo.b, .string x.s.hi.b, .bool x.s.opn, .slice sa_ms x.ms.length sc_ms, .slice none 0 0, .bool false]) 130 (0, 0)) :: (Ms58 ++ []))))) (pmC (pmC (pmC pr9))).symm (W.nil (WD.n9 hG56 ((sn9.k9.k9).k9) (WD.done (by kernel_rfl) (blk_n (thn_n (WC.region (W.ok (ok_add rfl rfl (by omega)) (W.mv (W.sub (sr9.cons _) (W.nil (thn_n ?_)))))))))))
  exact ⟨(((((hG32.trans hG33).trans hG40).trans hG47).trans hG48).trans hG56), (((j + 1, m3) : Nat × List (Int × Nd)), Ms58), ⟨eqv, eqv, eqv, eqv, eqv, eqv, eqv, trivial⟩, ⟨rfl, (by exact GaR.cast hR60 (by rw [dfsK_succ hkl9, hke, List.append_assoc])), by dsimp only; omega, hsk.succ hkl9 (by rw [hke]; exact hs3), hfk.tail hkl9 (by rw [hke]; exact hs3)⟩, by dsimp only; omega⟩
 have p45 := of_decide_eq_false h45
 try dsimp only at p45
 refine WC.exit (thn_x (thn_x (blk_h ?_)))
 refine ⟨.inl rfl, [], trivial, M_0, ((List.sublist_append_left _ _).cons _).cons _, ?_⟩
 exact ⟨rfl, _, hsk.all (by omega), GaR.cast ho_0 (by rw [dfsK_all (by omega)])⟩

theorem gat_all {c2 : Cfg} {l : List Nd} {ss : List Seat} (t : Tree c2 l ss) : ∀ n, GatW l ss n := by
  intro n
  induction n with
  | zero => intro G bc bm m xs0 Ms_k h_k x hx hn hv hol b_x sa_ms sc_ms h_ms; exact gat_step h_k t hx hn hv hol (fun q hq => by omega) h_ms
  | succ n ih => intro G bc bm m xs0 Ms_k h_k x hx hn hv hol b_x sa_ms sc_ms h_ms; exact gat_step h_k t hx hn hv hol (fun q hq => by have e : q = n := (by omega); subst e; exact @ih) h_ms
end Go.Proofs.YtebkfinhhpelbaaGreat
