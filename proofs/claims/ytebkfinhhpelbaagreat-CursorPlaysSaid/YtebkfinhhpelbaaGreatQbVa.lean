/- The walk of a new cursor. -/
import Derived.Test.YtebkfinhhpelbaaGreatQbV9
set_option maxRecDepth 100000
set_option maxHeartbeats 1600000
set_option linter.unusedVariables false
set_option linter.unusedSimpArgs false
set_option linter.unnecessarySimpa false
namespace Go.Proofs.YtebkfinhhpelbaaGreat
open Go Go.Fw Go.RowKit
theorem cnew_fc {G : GH} {v_l : Value} {l : List Nd} (h_l : SlR eNode G v_l l) (c2 : Cfg) (ss : List Seat) (t : Tree c2 l ss) :
    Fc Tryz.prog 29 [v_l] G [] (fun v G' M' => ∃ b, v = .pointer (some ⟨b, 0, none⟩) ∧ CuR 124 130 b (leavesS ss) G' none M') := by
 obtain ⟨sa_l, sc_l, rfl⟩ := h_l.form
 have hl := h_l.len47
 refine Fc.intro (rs := [.tmp 2]) cl29 Tryz.func29 rfl Tryz.ntmps29 rfl rfl (fun w0 => ?_)
 refine WC.seq (WC.region (W.as (W.nil (thn_n (WC.seq (WC.region (W.ok (ok_build (L := [.slice _ _ _, .int .i64 _, .int .i64 _]) pl124 zr124 rfl rfl rfl) (W.box (L := [.slice _ _ _, .int .i64 _, .int .i64 _]) rfl rfl (fun b1 => (W.as (W.nil (thn_n (WC.seq (WC.region (W.makeMap (V := vNode) (fun bm2 hm3 => (W.perm (pmC (Ms := [(bm2, Obj.map #[] 0)]) pr9).symm ?_)))))))))))))))))
 refine W.as (W.nil (thn_n (WC.seq (WC.seq (WC.region (W.mv (W.ok (ok_len sl24 h_l rfl) (W.mv (W.nil (thn_n (WC.block ?_)))))))))))
 refine WC.loop (X := (Nat) × MH) (fun i => [(12, .int .i64 ((i.1 : Nat) : Int)), (3, .pointer (some ⟨b1, 0, none⟩)), (10, .slice sa_l l.length sc_l), (11, .int .i64 (((l).length : Nat) : Int)), (4, .map (some bm2))]) (fun i G Ml => Ml = ((b1, .cells (List.toArray [.slice none 0 0, .int .i64 (-1), .int .i64 0]) 124 (0, 0)) :: (i.2 ++ [])) ∧ MpR vNode bm2 G (bySl (l.take i.1)) i.2 ∧ i.1 ≤ l.length) (fun i => l.length - i.1) (0, [(bm2, Obj.map #[] 0)]) ⟨eqv, eqv, eqv, eqv, eqv, trivial⟩ ?_ ?_
 ·exact ⟨rfl, (by exact hm3), by omega⟩
 rintro ⟨i, M_4⟩ gG4 G4 _ hG4 ⟨rfl, ho_4, hi⟩
 try dsimp only at ho_4 hi
 refine WC.fr (f := setL gG4 [(12, .int .i64 ((i : Nat) : Int)), (3, .pointer (some ⟨b1, 0, none⟩)), (10, .slice sa_l l.length sc_l), (11, .int .i64 (((l).length : Nat) : Int)), (4, .map (some bm2))]) rfl (WC.seq (WC.region (W.ok (ok_lss rfl rfl) (W.nil (thn_n (WC.seq ?_))))))
 refine WC.cond (b := _) rfl (fun h13 => ?_) (fun h13 => ?_)
 ·have p13 := of_decide_eq_true h13
  try dsimp only at p13
  refine WC.skip (thn_n (WC.seq (WC.block (WC.seq (WC.region ?_)))))
  have q8 := (h_l.mono hG4).at (i := i) (by omega)
  refine match q8 with | ⟨_, he5, ⟨pa_n6, pc_n6, ka_n6, kc_n6, ma_n6, mc_n6, ra_n6, rc_n6, e_7, hp_n6, hk_n6, hm_n6, hr_n6, hok_n6⟩⟩ => ?_
  subst e_7
  refine W.ok (ok_indexAddr (i := i) sl24 ty47 (h_l.mono hG4) rfl rfl ⟨by omega, by omega⟩) (W.ok (ok_loadE (vs := (nd9 _ _ _ _ _ _ _ _ _ _ _ _ _ _ _ _ _ _)) ty47 he5 rfl rfl rfl (by simp)) (W.alloc zr47 (fun b9 => (W.store (i := 0) (vs := (nd9 _ _ _ _ _ _ _ _ _ _ _ _ _ _ _ _ _ _)) (L' := (nd9 _ _ _ _ _ _ _ _ _ _ _ _ _ _ _ _ _ _)) ty47 rfl rfl rfl rfl rfl rfl rfl rfl (W.nil (thn_n (WC.region (W.mv (W.ok (ok_fieldB fd47_0 rfl) (W.ok (ok_loadB (i := 0) (vs := [.int .i64 _]) ty3 rfl rfl rfl rfl (by simp)) (W.ok (ok_loadB (i := 0) (vs := (nd9 _ _ _ _ _ _ _ _ _ _ _ _ _ _ _ _ _ _)) ty47 rfl rfl rfl rfl (by simp)) (W.mapUp (V := vNode) (k := ((l)[i]).slot) mk125 rfl rfl rfl ho_4 (pmC (pmC pr9)) ⟨_, rfl, ⟨_, _, _, _, _, _, _, _, rfl, hp_n6, hk_n6, hm_n6, hr_n6, hok_n6⟩⟩ (fun Ms10 hm11 => (W.perm (pmC (pmC pr9)).symm (W.nil (blk_n (thn_n (WC.region ?_))))))))))))))))))
  refine W.ok (ok_add rfl rfl (by omega)) (W.mv (W.sub (sr9.cons _) (W.nil (thn_n ?_))))
  exact ⟨Le.rfl, (i + 1, Ms10), ⟨eqv, eqv, eqv, eqv, eqv, trivial⟩, ⟨rfl, (by have h := hm11; rw [← bySl_succ (by omega)] at h; exact h), by omega⟩, by omega⟩
 have p13 := of_decide_eq_false h13
 try dsimp only at p13
 refine WC.exit (thn_x (thn_x (blk_h (thn_n (WC.seq ?_)))))
 have hob := ho_4
 rw [List.take_of_length_le (by omega)] at hob
 refine WC.region (W.mv (W.mv (W.qcall (spanall_fc ) rfl (W.ok (ok_build (L := [.int .i64 _, .int .i64 _, .slice _ _ _, .slice _ _ _, .string _, .bool _, .int .i64 _, .int .i64 _, .slice _ _ _, .slice _ _ _, .string _, .string _, .bool _, .slice _ _ _, .slice _ _ _, .bool _]) pl130 zr130 rfl rfl rfl) (W.box (L := [.int .i64 _, .int .i64 _, .slice _ _ _, .slice _ _ _, .string _, .bool _, .int .i64 _, .int .i64 _, .slice _ _ _, .slice _ _ _, .string _, .string _, .bool _, .slice _ _ _, .slice _ _ _, .bool _]) rfl rfl (fun b12 => ?_))))))
 have hR13 : GaR 124 130 127 b1 bm2 G4 (bySl l, []) ((b1, .cells (List.toArray [.slice none 0 0, .int .i64 (-1), .int .i64 0]) 124 (0, 0)) :: M_4) := ⟨_, [], [], M_4, [], [], by simp, hob, OwnR.nil, rfl, trivial, pr9⟩
 have hdl9 : (dfsF l (rootS l 0).n.level.toNat (rootS l 0)).length ≤ 100 := by rw [← t.leaves]; exact t.lvF.len
 refine W.call (Mp := ((b12, .cells (List.toArray [.int .i64 0, .int .i64 0, .slice none 0 0, .slice none 0 0, .string ⟨#[]⟩, .bool false, .int .i64 0, .int .i64 0, .slice none 0 0, .slice none 0 0, .string (Span.all).lo.b, .string (Span.all).hi.b, .bool (Span.all).opn, .slice none 0 0, .slice none 0 0, .bool false]) 130 (0, 0)) :: ((b1, .cells (List.toArray [.slice none 0 0, .int .i64 (-1), .int .i64 0]) 124 (0, 0)) :: M_4))) (Mr := []) (gat_all t _ hR13 t.root rfl (hav_root t) (by rw [List.length_nil]; omega) SlR.nil) (congrArg (fun k : Int => [_, _, Value.int .i64 k, _]) t.root0.symm) ((((pr9.cons _).trans pr9).cons _).trans pr9) ?_
 intro v17 G14 Ms16 hG14 q15
 refine match q15 with | ⟨e_18, m9, hs9, v9, ids, css, Mm9, Mo9, Ml9, eM9, hmt9, ho9, hil, hLE, hpm⟩ => ?_
 subst e_18
 subst eM9
 dsimp only at ho9 hLE
 have q20 := ho9.form
 refine match q20 with | ⟨sa9, sc9, e_19⟩ => ?_
 subst e_19
 refine W.perm (M' := ((b1, .cells (List.toArray [.slice sa9 ids.length sc9, .int .i64 (-1), .int .i64 0]) 124 (0, 0)) :: (Mm9 ++ (Mo9 ++ (Ml9 ++ []))))) ((((pmF ((pmF pr9).trans pr9)).trans pr9).cons _).trans pr9).symm (W.giveO ho9 (pmC (pmA pr9)) (fun G21 hG21 hv21 => (W.nil (thn_n (WC.seq (WC.region (W.mv (W.as (W.nil (thn_n (WC.ret ?_)))))))))))
 refine ⟨.inr rfl, [_], ⟨rfl, trivial⟩, ((b1, .cells (List.toArray [.slice sa9 ids.length sc9, .int .i64 (-1), .int .i64 0]) 124 (0, 0)) :: Ml9), ((List.sublist_append_left _ _).trans (List.sublist_append_right _ _)).k9, ?_⟩
 exact ⟨_, rfl, -1, 0, ⟨rfl, rfl⟩, _, Ml9, rfl, ids, css, hv21, by rw [hil, hLE.len, List.nil_append, t.leaves], by rw [t.leaves]; exact hLE.mono (hG21), hpm⟩

theorem cseekq_fc {G : GH} {b_c : Nat} {xs : List Seat} {Ms_c : MH} {q : Option Nat} (h_c : CuR 124 130 b_c xs G q Ms_c) (hL : LvF xs) (k : Str) : Fc Tryz.prog 31 [.pointer (some ⟨b_c, 0, none⟩), .string k.b] G Ms_c (fun v G' M' => v = .bool (fwdN (totP xs) (fndN (xs.flatMap viewS) k)).isSome ∧ CuR 124 130 b_c xs G' (fwdN (totP xs) (fndN (xs.flatMap viewS) k)) M') := by
  obtain ⟨a, i, _, h⟩ := h_c
  exact cseek_fc h hL k
theorem cbeforeq_fc {G : GH} {b_c : Nat} {xs : List Seat} {Ms_c : MH} {q : Option Nat} (h_c : CuR 124 130 b_c xs G q Ms_c) (hL : LvF xs) (k : Str) : Fc Tryz.prog 32 [.pointer (some ⟨b_c, 0, none⟩), .string k.b] G Ms_c (fun v G' M' => v = .bool (bwdN (fndN (xs.flatMap viewS) k)).isSome ∧ CuR 124 130 b_c xs G' (bwdN (fndN (xs.flatMap viewS) k)) M') := by
  obtain ⟨a, i, _, h⟩ := h_c
  exact cbefore_fc h hL k
end Go.Proofs.YtebkfinhhpelbaaGreat

namespace Go.Fw
open Go Go.RowKit
theorem fwd_some {t k : Nat} : (fwdN t k).isSome = decide (k < t) := by
 unfold fwdN
 by_cases h : k < t
 ·rw [if_pos h]; exact (decide_eq_true h).symm
 ·rw [if_neg h]; exact (decide_eq_false h).symm
theorem pair_fwd {xs : List Seat} {k : Nat} (h : k < (xs.flatMap viewS).length) : pairQ xs (fwdN (totP xs) k) = (xs.flatMap viewS)[k] := by
 unfold fwdN totP
 rw [if_pos h]
 show (xs.flatMap viewS).getD _ _ = _
 rw [List.getD_eq_getElem?_getD, List.getElem?_eq_getElem h]; rfl
end Go.Fw
namespace Go.Proofs.YtebkfinhhpelbaaGreat
open Go Go.Fw Go.RowKit
def S_97 : Str := ⟨⟨#[97]⟩, by decide⟩
def S_98 : Str := ⟨⟨#[98]⟩, by decide⟩
def S_99 : Str := ⟨⟨#[99]⟩, by decide⟩
def S_101 : Str := ⟨⟨#[101]⟩, by decide⟩
theorem lt_o54 {a b : UInt8} (h : (a < b) = true) : Str.lt ⟨⟨#[a]⟩, by show 1 ≤ 140737488355328; omega⟩ ⟨⟨#[b]⟩, by show 1 ≤ 140737488355328; omega⟩ = true := by
  show blt _ _ = true
  unfold blt
  rw [ByteArray.toList_eq, ByteArray.toList_eq]
  show Op.bytesLess [a] [b] = true
  simp [Op.bytesLess]
  simpa using h
theorem m97_98 : S_97.lt S_98 = true := lt_o54 (by decide)
theorem m98_99 : S_98.lt S_99 = true := lt_o54 (by decide)
theorem m99_101 : S_99.lt S_101 = true := lt_o54 (by decide)
theorem m97_99 : S_97.lt S_99 = true := Str.lt_trans m97_98 m98_99
theorem m98_101 : S_98.lt S_101 = true := Str.lt_trans m98_99 m99_101
theorem m97_101 : S_97.lt S_101 = true := Str.lt_trans m97_98 m98_101
def aw54 : Nd := ⟨0, 0, [], [], Str.nil, true, -1, 0, [], [⟨S_97, Str.nil⟩, ⟨S_99, Str.nil⟩, ⟨S_101, Str.nil⟩]⟩
theorem aw54_ok : aw54.Ok := ⟨⟨by decide, by decide⟩, ⟨by decide, by decide⟩, ⟨by decide, by decide⟩, ⟨by decide, by decide⟩⟩
theorem aw54_P : PairsR aw54.rows := by
  refine pairsR_iff.2 ⟨fun p hp => ?_, ?_⟩
  · have hp : p ∈ [(⟨S_97, Str.nil⟩ : Pair), ⟨S_99, Str.nil⟩, ⟨S_101, Str.nil⟩] := hp
    simp at hp
    rcases hp with rfl | rfl | rfl <;> exact ⟨by decide, by decide⟩
  show Srt [(⟨S_97, Str.nil⟩ : Pair), ⟨S_99, Str.nil⟩, ⟨S_101, Str.nil⟩]
  simp [Srt, m97_99, m99_101, m97_101]
theorem aw54_t : Tree (⟨4, 3, 36, 3, 0⟩ : Cfg) [aw54] [oneS aw54] := tree_one (by decide) rfl rfl (by decide) ⟨⟨by decide, by decide, by decide⟩, fun _ => ⟨rfl, rfl⟩, (fun h => by cases h), (by rw [if_pos (show aw54.level = 0 from rfl)]; exact ⟨rfl, by decide, aw54_P, fun i h => rfl⟩)⟩ rfl (by
  refine ⟨by decide, by decide, by decide, by decide, by decide, (fun m hm => by cases hm), (fun m hm => by cases hm), fun p hp => ?_⟩
  have := (pairsR_iff.1 aw54_P).1 p hp
  exact ⟨by have := this.1; omega, by have := this.2; omega⟩)
theorem aw54_m : ((leavesS [oneS aw54]).flatMap viewS) = [⟨S_97, Str.nil⟩, ⟨S_99, Str.nil⟩, ⟨S_101, Str.nil⟩] := by
  have h := mapN_t aw54_t.sts
  rw [map_one rfl rfl (by decide)] at h
  exact h.symm
theorem aw54_n : totP (leavesS [oneS aw54]) = 3 := by unfold totP; rw [aw54_m]; rfl
theorem aw54_a : fwdN (totP (leavesS [oneS aw54])) (fndN ((leavesS [oneS aw54]).flatMap viewS) S_98) = some 1 := by
  rw [aw54_n, aw54_m]; simp [fndN, fwdN, m97_98, Str.lt_asymm m98_99, Str.lt_asymm m98_101]
theorem aw54_b : bwdN (fndN ((leavesS [oneS aw54]).flatMap viewS) S_101) = some 1 := by
  rw [aw54_m]; simp [fndN, bwdN, m97_101, m99_101, Str.lt_irrefl]
theorem aw54_p : pairQ (leavesS [oneS aw54]) (some 1) = ⟨S_99, Str.nil⟩ := by
  show ((leavesS [oneS aw54]).flatMap viewS).getD 1 _ = _
  rw [aw54_m]; rfl
theorem aw54_k : tkN (leavesS [oneS aw54]) (some 1) (min (5 : Int).toNat (totP (leavesS [oneS aw54]) - (some 1).getD (totP (leavesS [oneS aw54])))) = [⟨S_99, Str.nil⟩, ⟨S_101, Str.nil⟩] := by
  rw [aw54_n]; unfold tkN; rw [aw54_m]; rfl
theorem awk54_fc {G : GH}  :
    Fc Tryz.prog 28 [] G [] (fun v _ _ => v = .bool (true)) := by
 refine Fc.intro (rs := [.tmp 0]) cl28 Tryz.func28 rfl Tryz.ntmps28 rfl rfl (fun w0 => ?_)
 refine WC.seq (WC.region (W.as (W.nil (thn_n (WC.seq ?_)))))
 have t := aw54_t
 have hL := aw54_t.lvF
 refine WC.region (W.ok (ok_build (L := [.string _, .string _]) pl69 zr69 rfl rfl rfl) (W.ok (ok_build (L := [.string _, .string _]) pl69 zr69 rfl rfl rfl) (W.ok (ok_build (L := [.string _, .string _]) pl69 zr69 rfl rfl rfl) (W.lit (e := ePair) (l := [⟨S_97, Str.nil⟩, ⟨S_99, Str.nil⟩, ⟨S_101, Str.nil⟩]) (css := [[.string _, .string _], [.string _, .string _], [.string _, .string _]]) sl41 ty69 zr69 rfl rfl rfl rfl rfl rfl ⟨rfl, rfl, rfl, trivial⟩ (fun bl1 G1 hG1 hv1 => (W.ok (ok_build (L := (nd9 _ _ _ _ _ _ _ _ _ _ _ _ _ _ _ _ _ _)) pl47 zr47 rfl rfl rfl) (W.lit (e := eNode) (l := [aw54]) (css := [(nd9 _ _ _ _ _ _ _ _ _ _ _ _ _ _ _ _ _ _)]) sl24 ty47 zr47 rfl rfl rfl rfl rfl rfl ⟨⟨_, _, _, _, _, _, _, _, rfl, SlR.nil, SlR.nil, SlR.nil, hv1, aw54_ok⟩, trivial⟩ (fun bl2 G2 hG2 hv2 => (W.call (Mp := []) (cnew_fc hv2 _ _ t) rfl pr9 ?_)))))))))
 intro v6 G3 Ms5 hG3 q4
 refine match q4 with | ⟨bc8, e_9, hC7⟩ => ?_
 subst e_9
 refine W.as (W.nil (thn_n (WC.seq (WC.region (W.mv (W.call (Mp := Ms5) (cseekq_fc hC7 hL S_98) rfl pr9 ?_))))))
 intro v13 G10 Ms12 hG10 q11
 rw [aw54_a] at q11
 refine match q11 with | ⟨e_15, hC14⟩ => ?_
 subst e_15
 refine W.as (W.nil (thn_n (WC.seq (WC.region (W.mv (W.call (Mp := Ms12) (cpair_fc hC14 hL) rfl pr9 ?_))))))
 intro v19 G16 Ms18 hG16 q17
 rw [aw54_p] at q17
 refine match q17 with | ⟨e_21, hC20⟩ => ?_
 subst e_21
 refine W.mv (W.ok (ok_extract rfl rfl) (W.ok (ok_extract rfl rfl) (W.alloc zr69 (fun b22 => (W.store (i := 0) (vs := [.string _, .string _]) (L' := [.string _, .string _]) ty69 rfl rfl rfl rfl rfl rfl rfl rfl (W.as (W.nil (thn_n (WC.seq (WC.region (W.mv (W.call (Mp := Ms18) (cprev_fc hC20 hL) rfl (pmC pr9) ?_))))))))))))
 intro v26 G23 Ms25 hG23 q24
 rw [show prvN (some 1) = some 0 from rfl] at q24
 refine match q24 with | ⟨e_28, hC27⟩ => ?_
 subst e_28
 refine W.perm (pmC pr9).symm (W.mv (W.call (Mp := Ms25) (cprev_fc hC27 hL) rfl (pmC pr9) ?_))
 intro v32 G29 Ms31 hG29 q30
 rw [show prvN (some 0) = none from rfl] at q30
 refine match q30 with | ⟨e_34, hC33⟩ => ?_
 subst e_34
 refine W.perm (pmC pr9).symm (W.as (W.as (W.nil (thn_n (WC.seq (WC.region (W.mv (W.mv (W.yes (dj := 26) rfl rfl rfl (W.ok (ok_fieldB fd69_0 rfl) (W.yes (dj := 26) rfl rfl rfl (W.ok (ok_loadB (i := 0) (vs := [.string _]) ty9 rfl rfl rfl rfl (by simp)) (W.yes (dj := 26) rfl rfl rfl (W.ok (ok_eqlS rfl rfl) ?_))))))))))))))
 refine W.ok (ok_pick_t rfl rfl) (W.mv ?_)
 refine W.sp 31 rfl (fun h29 => ?_) (fun h29 => ?_)
 ·have p29 := of_decide_eq_true h29
  try dsimp only at p29
  refine W.yes (dj := 31) rfl rfl h29 (W.mv (W.ok (ok_pick_t rfl h29) (W.mv (W.yes (dj := 34) rfl rfl rfl (W.mv (W.yes (dj := 34) rfl rfl rfl (W.ok (ok_not rfl) (W.ok (ok_pick_t rfl rfl) (W.mv (W.yes (dj := 38) rfl rfl rfl (W.mv (W.yes (dj := 38) rfl rfl rfl (W.call (Mp := Ms31) (cbeforeq_fc hC33 hL S_101) rfl (pmC pr9) ?_)))))))))))))
  intro v38 G35 Ms37 hG35 q36
  rw [aw54_b] at q36
  refine match q36 with | ⟨e_40, hC39⟩ => ?_
  subst e_40
  refine W.perm (pmC pr9).symm (W.ok (ok_pick_t rfl rfl) (W.mv (W.yes (dj := 42) rfl rfl rfl (W.mv (W.yes (dj := 42) rfl rfl rfl (W.call (Mp := Ms37) (ctake_fc hC39 hL 5) rfl (pmC pr9) ?_))))))
  intro v44 G41 Ms43 hG41 q42
  rw [aw54_k] at q42
  refine match q42 with | ⟨hv46, hC45⟩ => ?_
  refine W.perm (pmC pr9).symm ?_
  have q48 := hv46.form
  refine match q48 with | ⟨sa_hv46, sc_hv46, e_47⟩ => ?_
  subst e_47
  refine W.yes (dj := 42) rfl rfl rfl (W.ok (ok_len sl41 hv46 rfl) (W.yes (dj := 42) rfl rfl rfl (W.ok (ok_eql rfl rfl) (W.ok (ok_pick_t rfl rfl) (W.as (W.nil (thn_n (WC.ret ?_))))))))
  refine ⟨.inr rfl, [_], ⟨rfl, trivial⟩, [], sn9, ?_⟩
  rfl
 have p29 := of_decide_eq_false h29
 try dsimp only at p29
 exact absurd rfl p29

end Go.Proofs.YtebkfinhhpelbaaGreat

namespace Go.Fw
open Go Go.RowKit
structure Act3 where
 kind : Int
 slot : Int
 x : Int
instance : Inhabited Act3 := ⟨⟨0, 0, 0⟩⟩
def eAct3 : Enc Act3 where
 k := 3
 w := 24
 R := fun _ cs o => cs = [.int .i64 o.kind, .int .i64 o.slot, .int .i64 o.x] ∧ i64 o.kind ∧ i64 o.slot ∧ i64 o.x
 mono := fun _ h => h
 len := fun h => by rw [h.1]; rfl
 one := fun h u hu => by rw [h.1] at hu; simp at hu; rcases hu with rfl | rfl | rfl <;> rfl
def ReR (ti tB Tb : TypeId) (b : Nat) (G : GH) (st : List Int × List Bool) (M : MH) : Prop :=
 ∃ vx vu Mx Mu, M = (b, .cells (List.toArray [vx, vu]) Tb (0, 0)) :: (Mx ++ Mu) ∧ OwnR eInt ti G vx st.1 Mx ∧ OwnR eBool tB G vu st.2 Mu
theorem ReR.mono {ti tB Tb : TypeId} {b : Nat} {G G' : GH} {st : List Int × List Bool} {M : MH} (hl : Le G G') (h : ReR ti tB Tb b G st M) : ReR ti tB Tb b G' st M := by
 obtain ⟨vx, vu, Mx, Mu, h1, h2, h3⟩ := h
 exact ⟨vx, vu, Mx, Mu, h1, h2.mono hl, h3.mono hl⟩
theorem ReR.cast {ti tB Tb : TypeId} {b : Nat} {G : GH} {st st' : List Int × List Bool} {M M' : MH} (h : ReR ti tB Tb b G st M) (e1 : st = st') (e2 : M = M') : ReR ti tB Tb b G st' M' := by subst e1 e2; exact h
def nextR (st : List Int × List Bool) (x : Int) : Int × (List Int × List Bool) := if firstN st.2 < st.2.length then (firstN st.2, (st.1.set (firstN st.2) x, st.2.set (firstN st.2) true)) else (-1, st)
def Agree (c : List Int) (u : List Bool) (X : List Int) : Prop := c.length = u.length ∧ X.length = u.length ∧ ∀ i (h : i < u.length) (h2 : i < c.length) (h3 : i < X.length), u[i] = true → c[i] = X[i]
theorem Agree.init (n : Nat) : Agree (List.replicate n 0) (List.replicate n false) (List.replicate n 0) := ⟨by simp, by simp, fun i h h2 h3 hu => by simp⟩
theorem Agree.set {c : List Int} {u : List Bool} {X : List Int} (h : Agree c u X) (i : Nat) (x : Int) (b : Bool) : Agree (c.set i x) (u.set i b) (X.set i x) := by
 obtain ⟨h1, h2, h3⟩ := h
 refine ⟨by simp [h1], by simp [h2], fun j hj hj2 hj3 hu => ?_⟩
 rw [List.length_set] at hj hj2 hj3
 rw [List.getElem_set] at hu
 rw [List.getElem_set, List.getElem_set]
 split
 ·rfl
 ·rename_i e
  rw [if_neg e] at hu
  exact h3 j hj hj2 hj3 hu
theorem Agree.free {c : List Int} {u : List Bool} {X : List Int} (h : Agree c u X) (i : Nat) (x : Int) : Agree (c.set i x) (u.set i false) X := by
 obtain ⟨h1, h2, h3⟩ := h
 refine ⟨by simp [h1], by simp [h2], fun j hj hj2 hj3 hu => ?_⟩
 rw [List.length_set] at hj hj2
 rw [List.getElem_set] at hu
 split at hu
 ·cases hu
 ·rename_i e
  rw [List.getElem_set_ne e]
  exact h3 j hj hj2 hj3 hu
theorem Agree.get {c : List Int} {u : List Bool} {X : List Int} (h : Agree c u X) {i : Int} (hi : hasN u i = true) (h3 : i.toNat < X.length) : getA (c, u) i 0 = X[i.toNat] := by
 obtain ⟨k, hk, rfl, hu⟩ := hasN_iff.1 hi
 obtain ⟨h1, h2, h4⟩ := h
 rw [getA_t (st := (c, u)) hi (by show (k : Int).toNat < c.length; rw [Int.toNat_natCast]; omega)]
 exact h4 k hk (by omega) (by omega) hu
end Go.Fw

namespace Go.Fw
open Go Go.RowKit
structure Act54 where
 kind : Int
 key : Str
 n : Int
instance : Inhabited Act54 := ⟨⟨0, Str.nil, 0⟩⟩
def eAct54 : Enc Act54 where
 k := 3
 w := 32
 R := fun _ cs a => cs = [.int .i64 a.kind, .string a.key.b, .int .i64 a.n] ∧ i64 a.kind ∧ i64 a.n
 mono := fun _ h => h
 len := fun h => by rw [h.1]; rfl
 one := fun h u hu => by rw [h.1] at hu; simp at hu; rcases hu with rfl | rfl | rfl <;> rfl
theorem dec_act54 {P : Program} {t i s : TypeId} (ht : structK P t = some [(i, 0, 1), (s, 1, 1), (i, 2, 1)]) (hi : P.underlying i = some (.int .i64)) (hs : P.underlying s = some .string) (hc : P.cellsOf t = 3) : Dec P t eAct54 := by
 intro H enc w fuel cs x h hw
 obtain ⟨hl, hf⟩ := trod_fld ht h hw
 obtain ⟨y0, n0, t0, w0⟩ := hf 0 _ _ _ rfl
 obtain ⟨y1, n1, t1, w1⟩ := hf 1 _ _ _ rfl
 obtain ⟨y2, n2, t2, w2⟩ := hf 2 _ _ _ rfl
 obtain ⟨a0, e0, q0⟩ := fld_int hi t0 w0
 obtain ⟨a1, e1⟩ := fld_str hs t1 w1
 obtain ⟨a2, e2, q2⟩ := fld_int hi t2 w2
 rw [hc] at hl
 match cs, hl with
 | [_, _, _], _ =>
  simp at e0 e1 e2
  subst e0 e1 e2
  exact ⟨⟨a0, a1, a2⟩, rfl, q0, q2⟩
def qI : Option Nat → Int
 | none => -1
 | some f => f
def WantP (T : Nat) (q : Option Nat) (w : Int) : Prop := (if (T : Int) ≤ w then -1 else w) = qI q ∧ ∀ f, q = some f → f < T
theorem want_fwd {T f : Nat} : WantP T (fwdN T f) (f : Int) := by
 unfold WantP fwdN
 by_cases h : f < T
 ·rw [if_pos h, if_neg (by omega)]
  exact ⟨rfl, fun g hg => by cases hg; exact h⟩
 ·rw [if_neg h, if_pos (by omega)]
  exact ⟨rfl, fun g hg => by cases hg⟩
theorem want_bwd {T f : Nat} (h : f ≤ T) : WantP T (bwdN f) ((f : Int) - 1) := by
 unfold WantP bwdN
 rw [if_neg (by omega)]
 by_cases h0 : f = 0
 ·rw [if_pos h0, h0]
  exact ⟨rfl, fun g hg => by cases hg⟩
 ·rw [if_neg h0]
  exact ⟨by show _ = ((f - 1 : Nat) : Int); omega, fun g hg => by cases hg; omega⟩
theorem want_none {T : Nat} : WantP T none (-1) := ⟨by rw [if_neg (by omega)]; rfl, fun g hg => by cases hg⟩
theorem want_prv {T : Nat} {q : Option Nat} (h : ∀ f, q = some f → f < T) : WantP T (prvN q) (max (-1) (qI q - 1)) := by
 cases q with
 | none => exact want_none
 | some f =>
  have := want_bwd (T := T) (f := f) (by have := h f rfl; omega)
  have e : max (-1) (qI (some f) - 1) = ((f : Int) - 1) := by show max (-1) ((f : Int) - 1) = _; omega
  rw [e]; exact this
theorem tk_none {xs : List Seat} {k : Nat} : tkN xs none k = [] := by
 unfold tkN
 rw [List.drop_eq_nil_of_le (by show (xs.flatMap viewS).length ≤ (xs.flatMap viewS).length; omega), List.take_nil]
theorem adv_none {xs : List Seat} {k : Nat} : advN xs none k = none := by
 unfold advN fwdN
 rw [if_neg (by show ¬ totP xs + k < totP xs; omega)]
theorem adv_some {xs : List Seat} {f k : Nat} : advN xs (some f) k = fwdN (totP xs) (f + k) := rfl
theorem tk_sl {xs : List Seat} {f k : Nat} : ((xs.flatMap viewS).take (f + k)).drop f = tkN xs (some f) k := by
 unfold tkN
 rw [List.drop_take]
 show _ = ((xs.flatMap viewS).drop f).take k
 rw [show f + k - f = k by omega]
theorem or_q {T : Nat} {q : Option Nat} (h : ∀ f, q = some f → f < T) : q = none ∨ ∃ f, q = some f ∧ f < T := by
 cases q with
 | none => exact .inl rfl
 | some f => exact .inr ⟨f, rfl, h f rfl⟩
theorem qI_rng {T : Nat} {q : Option Nat} (h : ∀ f, q = some f → f < T) : -1 ≤ qI q ∧ (qI q : Int) < T := by
 cases q with
 | none => exact ⟨by decide, by show (-1 : Int) < T; omega⟩
 | some f => have := h f rfl; exact ⟨by show (-1 : Int) ≤ f; omega, by show (f : Int) < T; omega⟩
theorem qI_neg {T : Nat} {q : Option Nat} (h : ∀ f, q = some f → f < T) (h0 : ¬ 0 ≤ qI q) : q = none := by
 cases q with
 | none => rfl
 | some f => exact absurd (show (0 : Int) ≤ (f : Int) by omega) h0
theorem qI_pos {T : Nat} {q : Option Nat} (h : ∀ f, q = some f → f < T) (h0 : 0 ≤ qI q) : ∃ f, q = some f ∧ f < T := by
 cases q with
 | none => exact absurd h0 (by decide)
 | some f => exact ⟨f, rfl, h f rfl⟩
end Go.Fw
