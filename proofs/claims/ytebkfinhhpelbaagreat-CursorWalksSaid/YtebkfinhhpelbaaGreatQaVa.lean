/- The walk of a new cursor. -/
import Derived.Test.YtebkfinhhpelbaaGreatQaV9
set_option maxRecDepth 100000
set_option maxHeartbeats 1600000
set_option linter.unusedVariables false
set_option linter.unusedSimpArgs false
set_option linter.unnecessarySimpa false
namespace Go.Proofs.YtebkfinhhpelbaaGreat
open Go Go.Fw Go.RowKit
theorem cnew_fc {G : GH} {v_l : Value} {l : List Nd} (h_l : SlR eNode G v_l l) (c2 : Cfg) (ss : List Seat) (t : Tree c2 l ss) :
    Fc Tryz.prog 29 [v_l] G [] (fun v G' M' => ∃ b, v = .pointer (some ⟨b, 0, none⟩) ∧ CuR 124 130 b (leavesS ss) G' none M') := by
 obtain ⟨sa_l, sc_l, rfl⟩ := h_l.form
 have hl := h_l.len47
 refine Fc.intro (rs := [.tmp 2]) cl29 Tryz.func29 rfl Tryz.ntmps29 rfl rfl (fun w0 => ?_)
 refine WC.seq (WC.region (W.as (W.nil (thn_n (WC.seq (WC.region (W.ok (ok_build (L := [.slice _ _ _, .int .i64 _, .int .i64 _]) pl124 zr124 rfl rfl rfl) (W.box (L := [.slice _ _ _, .int .i64 _, .int .i64 _]) rfl rfl (fun b1 => (W.as (W.nil (thn_n (WC.seq (WC.region (W.makeMap (V := vNode) (fun bm2 hm3 => (W.perm (pmC (Ms := [(bm2, Obj.map #[] 0)]) pr9).symm ?_)))))))))))))))))
 refine W.as (W.nil (thn_n (WC.seq (WC.seq (WC.region (W.mv (W.ok (ok_len sl24 h_l rfl) (W.mv (W.nil (thn_n (WC.block ?_)))))))))))
 refine WC.loop (X := (Nat) × MH) (fun i => [(12, .int .i64 ((i.1 : Nat) : Int)), (3, .pointer (some ⟨b1, 0, none⟩)), (10, .slice sa_l l.length sc_l), (11, .int .i64 (((l).length : Nat) : Int)), (4, .map (some bm2))]) (fun i G Ml => Ml = ((b1, .cells (List.toArray [.slice none 0 0, .int .i64 (-1), .int .i64 0]) 124 (0, 0)) :: (i.2 ++ [])) ∧ MpR vNode bm2 G (bySl (l.take i.1)) i.2 ∧ i.1 ≤ l.length) (fun i => l.length - i.1) (0, [(bm2, Obj.map #[] 0)]) ⟨eqv, eqv, eqv, eqv, eqv, trivial⟩ ?_ ?_
 ·exact ⟨rfl, (by exact hm3), by omega⟩
 rintro ⟨i, M_4⟩ gG4 G4 _ hG4 ⟨rfl, ho_4, hi⟩
 try dsimp only at ho_4 hi
 refine WC.fr (f := setL gG4 [(12, .int .i64 ((i : Nat) : Int)), (3, .pointer (some ⟨b1, 0, none⟩)), (10, .slice sa_l l.length sc_l), (11, .int .i64 (((l).length : Nat) : Int)), (4, .map (some bm2))]) rfl (WC.seq (WC.region (W.ok (ok_lss rfl rfl) (W.nil (thn_n (WC.seq ?_))))))
 refine WC.cond (b := _) rfl (fun h13 => ?_) (fun h13 => ?_)
 ·have p13 := of_decide_eq_true h13
  try dsimp only at p13
  refine WC.skip (thn_n (WC.seq (WC.block (WC.seq (WC.region ?_)))))
  have q8 := (h_l.mono hG4).at (i := i) (by omega)
  refine match q8 with | ⟨_, he5, ⟨pa_n6, pc_n6, ka_n6, kc_n6, ma_n6, mc_n6, ra_n6, rc_n6, e_7, hp_n6, hk_n6, hm_n6, hr_n6, hok_n6⟩⟩ => ?_
  subst e_7
  refine W.ok (ok_indexAddr (i := i) sl24 ty47 (h_l.mono hG4) rfl rfl ⟨by omega, by omega⟩) (W.ok (ok_loadE (vs := (nd9 _ _ _ _ _ _ _ _ _ _ _ _ _ _ _ _ _ _)) ty47 he5 rfl rfl rfl (by simp)) (W.alloc zr47 (fun b9 => (W.store (i := 0) (vs := (nd9 _ _ _ _ _ _ _ _ _ _ _ _ _ _ _ _ _ _)) (L' := (nd9 _ _ _ _ _ _ _ _ _ _ _ _ _ _ _ _ _ _)) ty47 rfl rfl rfl rfl rfl rfl rfl rfl (W.nil (thn_n (WC.region (W.mv (W.ok (ok_fieldB fd47_0 rfl) (W.ok (ok_loadB (i := 0) (vs := [.int .i64 _]) ty3 rfl rfl rfl rfl (by simp)) (W.ok (ok_loadB (i := 0) (vs := (nd9 _ _ _ _ _ _ _ _ _ _ _ _ _ _ _ _ _ _)) ty47 rfl rfl rfl rfl (by simp)) (W.mapUp (V := vNode) (k := ((l)[i]).slot) mk125 rfl rfl rfl ho_4 (pmC (pmC pr9)) ⟨_, rfl, ⟨_, _, _, _, _, _, _, _, rfl, hp_n6, hk_n6, hm_n6, hr_n6, hok_n6⟩⟩ (fun Ms10 hm11 => (W.perm (pmC (pmC pr9)).symm (W.nil (blk_n (thn_n (WC.region ?_))))))))))))))))))
  refine W.ok (ok_add rfl rfl (by omega)) (W.mv (W.sub (sr9.cons _) (W.nil (thn_n ?_))))
  exact ⟨Le.rfl, (i + 1, Ms10), ⟨eqv, eqv, eqv, eqv, eqv, trivial⟩, ⟨rfl, (by have h := hm11; rw [← bySl_succ (by omega)] at h; exact h), by omega⟩, by omega⟩
 have p13 := of_decide_eq_false h13
 try dsimp only at p13
 refine WC.exit (thn_x (thn_x (blk_h (thn_n (WC.seq ?_)))))
 have hob := ho_4
 rw [List.take_of_length_le (by omega)] at hob
 refine WC.region (W.mv (W.mv (W.qcall (spanall_fc ) rfl (W.ok (ok_build (L := [.int .i64 _, .int .i64 _, .slice _ _ _, .slice _ _ _, .string _, .bool _, .int .i64 _, .int .i64 _, .slice _ _ _, .slice _ _ _, .string _, .string _, .bool _, .slice _ _ _, .slice _ _ _, .bool _]) pl130 zr130 rfl rfl rfl) (W.box (L := [.int .i64 _, .int .i64 _, .slice _ _ _, .slice _ _ _, .string _, .bool _, .int .i64 _, .int .i64 _, .slice _ _ _, .slice _ _ _, .string _, .string _, .bool _, .slice _ _ _, .slice _ _ _, .bool _]) rfl rfl (fun b12 => ?_))))))
 have hR13 : GaR 124 130 127 b1 bm2 G4 (bySl l, []) ((b1, .cells (List.toArray [.slice none 0 0, .int .i64 (-1), .int .i64 0]) 124 (0, 0)) :: M_4) := ⟨_, [], [], M_4, [], [], by simp, hob, OwnR.nil, rfl, trivial, pr9⟩
 have hdl9 : (dfsF l (rootS l 0).n.level.toNat (rootS l 0)).length ≤ 100 := by rw [← t.leaves]; exact t.lvF.len
 refine W.call (Mp := ((b12, .cells (List.toArray [.int .i64 0, .int .i64 0, .slice none 0 0, .slice none 0 0, .string ⟨#[]⟩, .bool false, .int .i64 0, .int .i64 0, .slice none 0 0, .slice none 0 0, .string (Span.all).lo.b, .string (Span.all).hi.b, .bool (Span.all).opn, .slice none 0 0, .slice none 0 0, .bool false]) 130 (0, 0)) :: ((b1, .cells (List.toArray [.slice none 0 0, .int .i64 (-1), .int .i64 0]) 124 (0, 0)) :: M_4))) (Mr := []) (gat_all t _ hR13 t.root rfl (hav_root t) (by rw [List.length_nil]; omega) SlR.nil) (congrArg (fun k : Int => [_, _, Value.int .i64 k, _]) t.root0.symm) ((((pr9.cons _).trans pr9).cons _).trans pr9) ?_
 intro v17 G14 Ms16 hG14 q15
 refine match q15 with | ⟨e_18, m9, hs9, v9, ids, css, Mm9, Mo9, Ml9, eM9, hmt9, ho9, hil, hLE, hpm⟩ => ?_
 subst e_18
 subst eM9
 dsimp only at ho9 hLE
 have q20 := ho9.form
 refine match q20 with | ⟨sa9, sc9, e_19⟩ => ?_
 subst e_19
 refine W.perm (M' := ((b1, .cells (List.toArray [.slice sa9 ids.length sc9, .int .i64 (-1), .int .i64 0]) 124 (0, 0)) :: (Mm9 ++ (Mo9 ++ (Ml9 ++ []))))) ((((pmF ((pmF pr9).trans pr9)).trans pr9).cons _).trans pr9).symm (W.giveO ho9 (pmC (pmA pr9)) (fun G21 hG21 hv21 => (W.nil (thn_n (WC.seq (WC.region (W.mv (W.as (W.nil (thn_n (WC.ret ?_)))))))))))
 refine ⟨.inr rfl, [_], ⟨rfl, trivial⟩, ((b1, .cells (List.toArray [.slice sa9 ids.length sc9, .int .i64 (-1), .int .i64 0]) 124 (0, 0)) :: Ml9), ((List.sublist_append_left _ _).trans (List.sublist_append_right _ _)).k9, ?_⟩
 exact ⟨_, rfl, -1, 0, ⟨rfl, rfl⟩, _, Ml9, rfl, ids, css, hv21, by rw [hil, hLE.len, List.nil_append, t.leaves], by rw [t.leaves]; exact hLE.mono (hG21), hpm⟩

theorem cseekq_fc {G : GH} {b_c : Nat} {xs : List Seat} {Ms_c : MH} {q : Option Nat} (h_c : CuR 124 130 b_c xs G q Ms_c) (hL : LvF xs) (k : Str) : Fc Tryz.prog 31 [.pointer (some ⟨b_c, 0, none⟩), .string k.b] G Ms_c (fun v G' M' => v = .bool (fwdN (totP xs) (fndN (xs.flatMap viewS) k)).isSome ∧ CuR 124 130 b_c xs G' (fwdN (totP xs) (fndN (xs.flatMap viewS) k)) M') := by
  obtain ⟨a, i, _, h⟩ := h_c
  exact cseek_fc h hL k
theorem cbeforeq_fc {G : GH} {b_c : Nat} {xs : List Seat} {Ms_c : MH} {q : Option Nat} (h_c : CuR 124 130 b_c xs G q Ms_c) (hL : LvF xs) (k : Str) : Fc Tryz.prog 32 [.pointer (some ⟨b_c, 0, none⟩), .string k.b] G Ms_c (fun v G' M' => v = .bool (bwdN (fndN (xs.flatMap viewS) k)).isSome ∧ CuR 124 130 b_c xs G' (bwdN (fndN (xs.flatMap viewS) k)) M') := by
  obtain ⟨a, i, _, h⟩ := h_c
  exact cbefore_fc h hL k
end Go.Proofs.YtebkfinhhpelbaaGreat

namespace Go.Fw
open Go Go.RowKit
theorem lt_nil9 (k : Str) : k.lt Str.nil = false := by
 show blt _ _ = false
 unfold blt
 rw [show Str.nil.b.toList = [] by rw [ByteArray.toList_eq]; rfl]
 cases k.b.toList with
 | nil => rfl
 | cons a l => rfl
theorem less_ff : ∀ (n : Nat) (l : List UInt8), l.length < n → Op.bytesLess l (List.replicate n 255) = true
 | 0, l, h => by omega
 | n + 1, [], _ => by simp [List.replicate_succ, Op.bytesLess]
 | n + 1, a :: l, h => by
  have ih := less_ff n l (by simpa using h)
  rw [List.replicate_succ, Op.bytesLess]
  by_cases h1 : a < 255
  ·simp [h1]
  ·have h2 : a = 255 := by
    have := UInt8.toNat_lt a
    have h3 : ¬ a.toNat < 255 := fun h => h1 (UInt8.lt_iff_toNat_lt.2 h)
    exact UInt8.toNat_inj.1 (show a.toNat = 255 by omega)
   subst h2
   simp [ih]
theorem lt_ff {k K : Str} (hK : K.b.toList = List.replicate 17 255) (h : k.b.size ≤ 16) : k.lt K = true := by
 show blt _ _ = true
 unfold blt
 rw [hK]
 refine less_ff 17 _ ?_
 rw [ByteArray.toList_eq]
 show k.b.data.toList.length < 17
 have : k.b.data.toList.length = k.b.size := by rw [Array.length_toList]; rfl
 omega
theorem fnd_nil9 (A : List Pair) : fndN A Str.nil = 0 := fndN_none fun p _ => lt_nil9 p.key
theorem fnd_ff {A : List Pair} {K : Str} (hK : K.b.toList = List.replicate 17 255) (h : PairsR A) : fndN A K = A.length := fndN_all fun p hp => lt_ff hK ((pairsR_iff.1 h).1 p hp).1
theorem fwd_some {t k : Nat} : (fwdN t k).isSome = decide (k < t) := by
 unfold fwdN
 by_cases h : k < t
 ·rw [if_pos h]; exact (decide_eq_true h).symm
 ·rw [if_neg h]; exact (decide_eq_false h).symm
theorem nxt_fwd {t k : Nat} (h : k < t) : nxtN t (fwdN t k) = fwdN t (k + 1) := by unfold fwdN; rw [if_pos h]; rfl
theorem prv_bwd {k : Nat} (h : 0 < k) : prvN (bwdN k) = bwdN (k - 1) := by unfold bwdN; rw [if_neg (by omega)]; rfl
theorem bwd_some {k : Nat} : (bwdN k).isSome = decide (0 < k) := by
 unfold bwdN
 by_cases h : k = 0
 ·rw [if_pos h, h]; rfl
 ·rw [if_neg h]; exact (decide_eq_true (by omega)).symm
theorem pair_fwd {xs : List Seat} {k : Nat} (h : k < (xs.flatMap viewS).length) : pairQ xs (fwdN (totP xs) k) = (xs.flatMap viewS)[k] := by
 unfold fwdN totP
 rw [if_pos h]
 show (xs.flatMap viewS).getD _ _ = _
 rw [List.getD_eq_getElem?_getD, List.getElem?_eq_getElem h]; rfl
theorem pair_bwd {xs : List Seat} {k : Nat} (h0 : 0 < k) (h : k - 1 < (xs.flatMap viewS).length) : pairQ xs (bwdN k) = (xs.flatMap viewS)[k - 1] := by
 unfold bwdN
 rw [if_neg (by omega)]
 show (xs.flatMap viewS).getD _ _ = _
 rw [List.getD_eq_getElem?_getD, List.getElem?_eq_getElem h]; rfl
end Go.Fw
namespace Go.Proofs.YtebkfinhhpelbaaGreat
open Go Go.Fw Go.RowKit
def S_97 : Str := ⟨⟨#[97]⟩, by decide⟩
def S_98 : Str := ⟨⟨#[98]⟩, by decide⟩
def S_99 : Str := ⟨⟨#[99]⟩, by decide⟩
def S_101 : Str := ⟨⟨#[101]⟩, by decide⟩
theorem lt_o54 {a b : UInt8} (h : (a < b) = true) : Str.lt ⟨⟨#[a]⟩, by show 1 ≤ 140737488355328; omega⟩ ⟨⟨#[b]⟩, by show 1 ≤ 140737488355328; omega⟩ = true := by
  show blt _ _ = true
  unfold blt
  rw [ByteArray.toList_eq, ByteArray.toList_eq]
  show Op.bytesLess [a] [b] = true
  simp [Op.bytesLess]
  simpa using h
theorem m97_98 : S_97.lt S_98 = true := lt_o54 (by decide)
theorem m98_99 : S_98.lt S_99 = true := lt_o54 (by decide)
theorem m99_101 : S_99.lt S_101 = true := lt_o54 (by decide)
theorem m97_99 : S_97.lt S_99 = true := Str.lt_trans m97_98 m98_99
theorem m98_101 : S_98.lt S_101 = true := Str.lt_trans m98_99 m99_101
theorem m97_101 : S_97.lt S_101 = true := Str.lt_trans m97_98 m98_101
def aw54 : Nd := ⟨0, 0, [], [], Str.nil, true, -1, 0, [], [⟨S_97, Str.nil⟩, ⟨S_99, Str.nil⟩, ⟨S_101, Str.nil⟩]⟩
theorem aw54_ok : aw54.Ok := ⟨⟨by decide, by decide⟩, ⟨by decide, by decide⟩, ⟨by decide, by decide⟩, ⟨by decide, by decide⟩⟩
theorem aw54_P : PairsR aw54.rows := by
  refine pairsR_iff.2 ⟨fun p hp => ?_, ?_⟩
  · have hp : p ∈ [(⟨S_97, Str.nil⟩ : Pair), ⟨S_99, Str.nil⟩, ⟨S_101, Str.nil⟩] := hp
    simp at hp
    rcases hp with rfl | rfl | rfl <;> exact ⟨by decide, by decide⟩
  show Srt [(⟨S_97, Str.nil⟩ : Pair), ⟨S_99, Str.nil⟩, ⟨S_101, Str.nil⟩]
  simp [Srt, m97_99, m99_101, m97_101]
theorem aw54_t : Tree (⟨4, 3, 36, 3, 0⟩ : Cfg) [aw54] [oneS aw54] := tree_one (by decide) rfl rfl (by decide) ⟨⟨by decide, by decide, by decide⟩, fun _ => ⟨rfl, rfl⟩, (fun h => by cases h), (by rw [if_pos (show aw54.level = 0 from rfl)]; exact ⟨rfl, by decide, aw54_P, fun i h => rfl⟩)⟩ rfl (by
  refine ⟨by decide, by decide, by decide, by decide, by decide, (fun m hm => by cases hm), (fun m hm => by cases hm), fun p hp => ?_⟩
  have := (pairsR_iff.1 aw54_P).1 p hp
  exact ⟨by have := this.1; omega, by have := this.2; omega⟩)
theorem aw54_m : ((leavesS [oneS aw54]).flatMap viewS) = [⟨S_97, Str.nil⟩, ⟨S_99, Str.nil⟩, ⟨S_101, Str.nil⟩] := by
  have h := mapN_t aw54_t.sts
  rw [map_one rfl rfl (by decide)] at h
  exact h.symm
theorem aw54_n : totP (leavesS [oneS aw54]) = 3 := by unfold totP; rw [aw54_m]; rfl
theorem aw54_a : fwdN (totP (leavesS [oneS aw54])) (fndN ((leavesS [oneS aw54]).flatMap viewS) S_98) = some 1 := by
  rw [aw54_n, aw54_m]; simp [fndN, fwdN, m97_98, Str.lt_asymm m98_99, Str.lt_asymm m98_101]
theorem aw54_b : bwdN (fndN ((leavesS [oneS aw54]).flatMap viewS) S_101) = some 1 := by
  rw [aw54_m]; simp [fndN, bwdN, m97_101, m99_101, Str.lt_irrefl]
theorem aw54_p : pairQ (leavesS [oneS aw54]) (some 1) = ⟨S_99, Str.nil⟩ := by
  show ((leavesS [oneS aw54]).flatMap viewS).getD 1 _ = _
  rw [aw54_m]; rfl
theorem aw54_k : tkN (leavesS [oneS aw54]) (some 1) (min (5 : Int).toNat (totP (leavesS [oneS aw54]) - (some 1).getD (totP (leavesS [oneS aw54])))) = [⟨S_99, Str.nil⟩, ⟨S_101, Str.nil⟩] := by
  rw [aw54_n]; unfold tkN; rw [aw54_m]; rfl
theorem awk54_fc {G : GH}  :
    Fc Tryz.prog 28 [] G [] (fun v _ _ => v = .bool (true)) := by
 refine Fc.intro (rs := [.tmp 0]) cl28 Tryz.func28 rfl Tryz.ntmps28 rfl rfl (fun w0 => ?_)
 refine WC.seq (WC.region (W.as (W.nil (thn_n (WC.seq ?_)))))
 have t := aw54_t
 have hL := aw54_t.lvF
 refine WC.region (W.ok (ok_build (L := [.string _, .string _]) pl69 zr69 rfl rfl rfl) (W.ok (ok_build (L := [.string _, .string _]) pl69 zr69 rfl rfl rfl) (W.ok (ok_build (L := [.string _, .string _]) pl69 zr69 rfl rfl rfl) (W.lit (e := ePair) (l := [⟨S_97, Str.nil⟩, ⟨S_99, Str.nil⟩, ⟨S_101, Str.nil⟩]) (css := [[.string _, .string _], [.string _, .string _], [.string _, .string _]]) sl41 ty69 zr69 rfl rfl rfl rfl rfl rfl ⟨rfl, rfl, rfl, trivial⟩ (fun bl1 G1 hG1 hv1 => (W.ok (ok_build (L := (nd9 _ _ _ _ _ _ _ _ _ _ _ _ _ _ _ _ _ _)) pl47 zr47 rfl rfl rfl) (W.lit (e := eNode) (l := [aw54]) (css := [(nd9 _ _ _ _ _ _ _ _ _ _ _ _ _ _ _ _ _ _)]) sl24 ty47 zr47 rfl rfl rfl rfl rfl rfl ⟨⟨_, _, _, _, _, _, _, _, rfl, SlR.nil, SlR.nil, SlR.nil, hv1, aw54_ok⟩, trivial⟩ (fun bl2 G2 hG2 hv2 => (W.call (Mp := []) (cnew_fc hv2 _ _ t) rfl pr9 ?_)))))))))
 intro v6 G3 Ms5 hG3 q4
 refine match q4 with | ⟨bc8, e_9, hC7⟩ => ?_
 subst e_9
 refine W.as (W.nil (thn_n (WC.seq (WC.region (W.mv (W.call (Mp := Ms5) (cseekq_fc hC7 hL S_98) rfl pr9 ?_))))))
 intro v13 G10 Ms12 hG10 q11
 rw [aw54_a] at q11
 refine match q11 with | ⟨e_15, hC14⟩ => ?_
 subst e_15
 refine W.as (W.nil (thn_n (WC.seq (WC.region (W.mv (W.call (Mp := Ms12) (cpair_fc hC14 hL) rfl pr9 ?_))))))
 intro v19 G16 Ms18 hG16 q17
 rw [aw54_p] at q17
 refine match q17 with | ⟨e_21, hC20⟩ => ?_
 subst e_21
 refine W.mv (W.ok (ok_extract rfl rfl) (W.ok (ok_extract rfl rfl) (W.alloc zr69 (fun b22 => (W.store (i := 0) (vs := [.string _, .string _]) (L' := [.string _, .string _]) ty69 rfl rfl rfl rfl rfl rfl rfl rfl (W.as (W.nil (thn_n (WC.seq (WC.region (W.mv (W.call (Mp := Ms18) (cprev_fc hC20 hL) rfl (pmC pr9) ?_))))))))))))
 intro v26 G23 Ms25 hG23 q24
 rw [show prvN (some 1) = some 0 from rfl] at q24
 refine match q24 with | ⟨e_28, hC27⟩ => ?_
 subst e_28
 refine W.perm (pmC pr9).symm (W.mv (W.call (Mp := Ms25) (cprev_fc hC27 hL) rfl (pmC pr9) ?_))
 intro v32 G29 Ms31 hG29 q30
 rw [show prvN (some 0) = none from rfl] at q30
 refine match q30 with | ⟨e_34, hC33⟩ => ?_
 subst e_34
 refine W.perm (pmC pr9).symm (W.as (W.as (W.nil (thn_n (WC.seq (WC.region (W.mv (W.mv (W.yes (dj := 26) rfl rfl rfl (W.ok (ok_fieldB fd69_0 rfl) (W.yes (dj := 26) rfl rfl rfl (W.ok (ok_loadB (i := 0) (vs := [.string _]) ty9 rfl rfl rfl rfl (by simp)) (W.yes (dj := 26) rfl rfl rfl (W.ok (ok_eqlS rfl rfl) ?_))))))))))))))
 refine W.ok (ok_pick_t rfl rfl) (W.mv ?_)
 refine W.sp 31 rfl (fun h29 => ?_) (fun h29 => ?_)
 ·have p29 := of_decide_eq_true h29
  try dsimp only at p29
  refine W.yes (dj := 31) rfl rfl h29 (W.mv (W.ok (ok_pick_t rfl h29) (W.mv (W.yes (dj := 34) rfl rfl rfl (W.mv (W.yes (dj := 34) rfl rfl rfl (W.ok (ok_not rfl) (W.ok (ok_pick_t rfl rfl) (W.mv (W.yes (dj := 38) rfl rfl rfl (W.mv (W.yes (dj := 38) rfl rfl rfl (W.call (Mp := Ms31) (cbeforeq_fc hC33 hL S_101) rfl (pmC pr9) ?_)))))))))))))
  intro v38 G35 Ms37 hG35 q36
  rw [aw54_b] at q36
  refine match q36 with | ⟨e_40, hC39⟩ => ?_
  subst e_40
  refine W.perm (pmC pr9).symm (W.ok (ok_pick_t rfl rfl) (W.mv (W.yes (dj := 42) rfl rfl rfl (W.mv (W.yes (dj := 42) rfl rfl rfl (W.call (Mp := Ms37) (ctake_fc hC39 hL 5) rfl (pmC pr9) ?_))))))
  intro v44 G41 Ms43 hG41 q42
  rw [aw54_k] at q42
  refine match q42 with | ⟨hv46, hC45⟩ => ?_
  refine W.perm (pmC pr9).symm ?_
  have q48 := hv46.form
  refine match q48 with | ⟨sa_hv46, sc_hv46, e_47⟩ => ?_
  subst e_47
  refine W.yes (dj := 42) rfl rfl rfl (W.ok (ok_len sl41 hv46 rfl) (W.yes (dj := 42) rfl rfl rfl (W.ok (ok_eql rfl rfl) (W.ok (ok_pick_t rfl rfl) (W.as (W.nil (thn_n (WC.ret ?_))))))))
  refine ⟨.inr rfl, [_], ⟨rfl, trivial⟩, [], sn9, ?_⟩
  rfl
 have p29 := of_decide_eq_false h29
 try dsimp only at p29
 exact absurd rfl p29

end Go.Proofs.YtebkfinhhpelbaaGreat
namespace Go.Proofs.YtebkfinhhpelbaaGreat
open Go Go.Fw Go.RowKit
def S_255_255_255_255_255_255_255_255_255_255_255_255_255_255_255_255_255 : Str := ⟨⟨#[255, 255, 255, 255, 255, 255, 255, 255, 255, 255, 255, 255, 255, 255, 255, 255, 255]⟩, by decide⟩
theorem cursorWalks_fc {G : GH} (cfan : Int) (cleaf : Int) (cbud : Int) (cslots : Int) (crest : Int) {v_l : Value} {l : List Nd} (h_l : SlR eNode G v_l l) :
    Fc Tryz.prog 6 [.agg #[.int .i64 cfan, .int .i64 cleaf, .int .i64 cbud, .int .i64 cslots, .int .i64 crest], v_l] G [] (fun v _ _ => v = .bool (true)) := by
 obtain ⟨sa_l, sc_l, rfl⟩ := h_l.form
 have hl := h_l.len47
 refine Fc.intro (rs := [.tmp 4]) cl6 Tryz.func6 rfl Tryz.ntmps6 rfl rfl (fun w0 => ?_)
 refine WC.seq ?_
 refine WC.region ?_
 refine W.box (L := [.int .i64 _, .int .i64 _, .int .i64 _, .int .i64 _, .int .i64 _]) rfl rfl (fun b1 => ?_)
 refine W.as ?_
 refine W.nil (thn_n ?_)
 refine WC.seq ?_
 refine WC.seq ?_
 refine WC.region ?_
 refine W.ok (ok_loadB (i := 0) (vs := [.int .i64 _, .int .i64 _, .int .i64 _, .int .i64 _, .int .i64 _]) ty23 rfl rfl rfl rfl (by simp)) ?_
 refine W.mv ?_
 refine W.qcall (tree_fc _ _ _ _ _ h_l _ (by omega)) rfl ?_
 refine W.ok (ok_not rfl) ?_
 refine W.nil (thn_n ?_)
 refine WC.cond (b := _) rfl (fun h17 => ?_) (fun h17 => ?_)
 ·refine WC.seq ?_
  refine WC.region ?_
  refine W.qcall (awk54_fc) rfl ?_
  refine W.as ?_
  refine W.nil (thn_n ?_)
  refine WC.ret (thn_r ?_)
  refine ⟨.inr rfl, [_], ⟨rfl, trivial⟩, [], List.nil_sublist _, ?_⟩
  rfl
 ·obtain ⟨ss, t⟩ := tree_of (c := (⟨cfan, cleaf, cbud, cslots, crest⟩ : Cfg)) (by simpa using h17) (by omega : (60 : Int) ≤ 100)
  have hS := t.sml
  have hl100 := hS.1
  have hL := t.lvF
  have hmp : mapN l = ((leavesS ss).flatMap viewS) := mapN_t t.sts
  have htp : (totP (leavesS ss)) = (mapN l).length := by unfold totP; rw [hmp]
  have hml := t.map_small
  have hPm := t.mapFits
  refine WC.skip (thn_n ?_)
  refine WC.seq ?_
  refine WC.region ?_
  refine W.mv ?_
  refine W.call (Mp := []) (map27_fc h_l _ _ t) rfl (List.Perm.refl _) ?_
  intro _ G2 _ hG2 q4
  refine match q4 with | ⟨e_5, _, e_6, hv3⟩ => ?_
  subst e_5
  subst e_6
  have q8 := hv3.form
  refine match q8 with | ⟨sa_hv3, sc_hv3, e_7⟩ => ?_
  subst e_7
  refine W.as ?_
  refine W.nil (thn_n ?_)
  refine WC.seq ?_
  refine WC.region ?_
  refine W.mv ?_
  refine W.call (Mp := []) (cnew_fc (h_l.mono hG2) _ _ t) rfl (List.Perm.refl _) ?_
  intro v12 G9 Ms11 hG9 q10
  refine match q10 with | ⟨bc14, e_15, hC13⟩ => ?_
  subst e_15
  refine W.perm (pmC (List.Perm.refl _)).symm ?_
  refine W.as ?_
  refine W.nil (thn_n ?_)
  refine WC.seq ?_
  refine WC.region ?_
  refine W.as ?_
  refine W.nil (thn_n ?_)
  refine WC.seq ?_
  refine WC.seq ?_
  refine WC.region ?_
  refine W.mv ?_
  refine W.call (Mp := Ms11) (cseekq_fc hC13 hL S_) rfl (pmC (List.Perm.refl _)) ?_
  intro v19 G16 Ms18 hG16 q17
  rw [show fndN ((leavesS ss).flatMap viewS) S_ = 0 from fnd_nil9 _] at q17
  refine match q17 with | ⟨e_21, hC20⟩ => ?_
  subst e_21
  refine W.perm (pmC (List.Perm.refl _)).symm ?_
  refine W.as ?_
  refine W.nil (thn_n ?_)
  refine WC.block ?_
  refine WC.loop (X := (Nat) × MH) (fun k => [(7, .int .i64 ((k.1 : Nat) : Int)), (8, .bool (fwdN (totP (leavesS ss)) k.1).isSome), (5, .slice sa_hv3 (mapN l).length sc_hv3), (6, .pointer (some ⟨bc14, 0, none⟩))]) (fun k G Ml => Ml = ((b1, .cells (List.toArray [.int .i64 cfan, .int .i64 cleaf, .int .i64 cbud, .int .i64 cslots, .int .i64 crest]) 23 (0, 0)) :: (k.2 ++ [])) ∧ CuR 124 130 bc14 (leavesS ss) G ((fwdN (totP (leavesS ss)) k.1)) k.2 ∧ k.1 ≤ (mapN l).length) (fun k => (mapN l).length - k.1) (0, Ms18) ⟨eqv, eqv, eqv, eqv, trivial⟩ ?_ ?_
  ·exact ⟨rfl, (by exact hC20), Nat.zero_le _⟩
  ·rintro ⟨k, M_6⟩ gG22 G22 _ hG22 ⟨rfl, ho_6, hk⟩
   try dsimp only at ho_6 hk
   refine WC.fr (f := setL gG22 [(7, .int .i64 ((k : Nat) : Int)), (8, .bool (fwdN (totP (leavesS ss)) k).isSome), (5, .slice sa_hv3 (mapN l).length sc_hv3), (6, .pointer (some ⟨bc14, 0, none⟩))]) rfl ?_
   refine WC.seq ?_
   refine WC.seq ?_
   refine WC.region ?_
   refine W.mv ?_
   refine W.nil (thn_n ?_)
   refine WC.cond (b := _) rfl (fun h25 => ?_) (fun h25 => ?_)
   ·have hkt : k < (mapN l).length := by rw [fwd_some, htp] at h25; exact of_decide_eq_true h25
    refine WC.skip (thn_n ?_)
    refine WC.seq ?_
    refine WC.block ?_
    refine WC.seq ?_
    refine WC.region ?_
    refine W.mv ?_
    refine W.call (Mp := M_6) (cpair_fc ho_6 hL) rfl (pmC (List.Perm.refl _)) ?_
    intro v26 G23 Ms25 hG23 q24
    rw [show pairQ (leavesS ss) (fwdN (totP (leavesS ss)) k) = (mapN l)[k]'hkt from by rw [pair_fwd (by rw [← hmp]; exact hkt)]; simp only [hmp]] at q24
    refine match q24 with | ⟨e_28, hC27⟩ => ?_
    subst e_28
    refine W.perm (pmC (List.Perm.refl _)).symm ?_
    refine W.mv ?_
    refine W.ok (ok_extract rfl rfl) ?_
    refine W.ok (ok_extract rfl rfl) ?_
    refine W.alloc zr69 (fun b29 => ?_)
    refine W.store (i := 0) (vs := [.string _, .string _]) (L' := [.string _, .string _]) ty69 rfl rfl rfl rfl rfl rfl rfl rfl ?_
    refine W.as ?_
    refine W.nil (thn_n ?_)
    refine WC.seq ?_
    refine WC.seq ?_
    refine WC.draw mix (by kernel_rfl) ?_
    refine W.mv ?_
    refine W.mv ?_
    refine W.ok (ok_len sl41 (hv3.mono (((hG9.trans hG16).trans hG22).trans hG23)) rfl) ?_
    refine W.ok (ok_geq rfl rfl) ?_
    refine W.mv ?_
    refine W.sp 37 rfl (fun h36 => ?_) (fun h36 => ?_)
    ·have p36 := of_decide_eq_true h36
     try dsimp only at p36
     exfalso; omega
    ·have p36 := of_decide_eq_false h36
     try dsimp only at p36
     refine W.yes (dj := 37) rfl rfl h36 ?_
     refine W.ok (ok_loadB (i := 0) (vs := [.string _, .string _]) ty69 rfl rfl rfl rfl (by simp)) ?_
     refine W.yes (dj := 37) rfl rfl h36 ?_
     refine W.mv ?_
     refine W.yes (dj := 37) rfl rfl h36 ?_
     refine W.mv ?_
     refine W.yes (dj := 37) rfl rfl h36 ?_
     have q32 := (hv3.mono (((hG9.trans hG16).trans hG22).trans hG23)).at (i := k) (by omega)
     refine match q32 with | ⟨_, he30, e_31⟩ => ?_
     subst e_31
     refine W.ok (ok_indexAddr (i := k) sl41 ty69 (hv3.mono (((hG9.trans hG16).trans hG22).trans hG23)) rfl rfl ⟨by omega, by omega⟩) ?_
     refine W.yes (dj := 37) rfl rfl h36 ?_
     refine W.ok (ok_loadE (vs := [.string _, .string _]) ty69 he30 rfl rfl rfl (by simp)) ?_
     refine W.yes (dj := 37) rfl rfl h36 ?_
     refine W.ok (ok_neqA (L1 := [.string _, .string _]) (L2 := [.string _, .string _]) eq69 rfl rfl rfl rfl) ?_
     refine W.ok (ok_pick_f rfl h36) ?_
     refine W.nil (thn_n ?_)
     refine WC.cond (b := _) rfl (fun h43 => ?_) (fun h43 => ?_)
     ·simp [eqCells] at h43
     ·refine WC.skip (thn_n ?_)
      refine WC.region ?_
      refine W.mv ?_
      refine W.ok (ok_add rfl rfl (by omega)) ?_
      refine W.as ?_
      refine W.nil (blk_n (thn_n ?_))
      refine WC.region ?_
      refine W.mv ?_
      refine W.call (Mp := Ms25) (cnext_fc hC27 hL) rfl (pmC (pmC (List.Perm.refl _))) ?_
      intro v36 G33 Ms35 hG33 q34
      rw [nxt_fwd (by rw [htp]; exact hkt)] at q34
      refine match q34 with | ⟨e_38, hC37⟩ => ?_
      subst e_38
      refine W.perm (pmC (pmC (List.Perm.refl _))).symm ?_
      refine W.as ?_
      refine W.sub ((List.Sublist.refl _).cons _) ?_
      refine W.nil (thn_n ?_)
      exact ⟨(hG23.trans hG33), (k + 1, Ms35), ⟨eqv, eqv, eqv, eqv, trivial⟩, ⟨rfl, (by exact hC37), by omega⟩, by omega⟩
   ·have hkf : ¬ k < (mapN l).length := by rw [fwd_some, htp] at h25; exact of_decide_eq_false h25
    refine WC.exit (thn_x (thn_x (blk_h (thn_n ?_))))
    refine WC.seq ?_
    refine WC.seq ?_
    refine WC.region ?_
    refine W.mv ?_
    refine W.mv ?_
    refine W.ok (ok_len sl41 (hv3.mono ((hG9.trans hG16).trans hG22)) rfl) ?_
    refine W.ok (ok_neq rfl rfl) ?_
    refine W.nil (thn_n ?_)
    refine WC.cond (b := _) rfl (fun h50 => ?_) (fun h50 => ?_)
    ·have p50 := nd_t h50
     try dsimp only at p50
     exfalso; omega
    ·have p50 := nd_f h50
     try dsimp only at p50
     refine WC.skip (thn_n ?_)
     refine WC.seq ?_
     refine WC.seq ?_
     refine WC.region ?_
     refine W.mv ?_
     refine W.call (Mp := M_6) (cbeforeq_fc ho_6 hL S_255_255_255_255_255_255_255_255_255_255_255_255_255_255_255_255_255) rfl (pmC (List.Perm.refl _)) ?_
     intro v42 G39 Ms41 hG39 q40
     rw [show fndN ((leavesS ss).flatMap viewS) S_255_255_255_255_255_255_255_255_255_255_255_255_255_255_255_255_255 = (mapN l).length from by rw [← hmp]; exact fnd_ff (by rw [ByteArray.toList_eq]; rfl) hPm] at q40
     refine match q40 with | ⟨e_44, hC43⟩ => ?_
     subst e_44
     refine W.perm (pmC (List.Perm.refl _)).symm ?_
     refine W.as ?_
     refine W.nil (thn_n ?_)
     refine WC.block ?_
     refine WC.loop (X := (Nat) × MH) (fun k => [(7, .int .i64 ((k.1 : Nat) : Int)), (11, .bool (bwdN k.1).isSome), (5, .slice sa_hv3 (mapN l).length sc_hv3), (6, .pointer (some ⟨bc14, 0, none⟩))]) (fun k G Ml => Ml = ((b1, .cells (List.toArray [.int .i64 cfan, .int .i64 cleaf, .int .i64 cbud, .int .i64 cslots, .int .i64 crest]) 23 (0, 0)) :: (k.2 ++ [])) ∧ CuR 124 130 bc14 (leavesS ss) G ((bwdN k.1)) k.2 ∧ k.1 ≤ (mapN l).length) (fun k => k.1) ((mapN l).length, Ms41) ⟨eqv, eqv, eqv, eqv, trivial⟩ ?_ ?_
     ·exact ⟨rfl, (by exact hC43), Nat.le_refl _⟩
     ·rintro ⟨k, M_6⟩ gG45 G45 _ hG45 ⟨rfl, ho_6, hk⟩
      try dsimp only at ho_6 hk
      refine WC.fr (f := setL gG45 [(7, .int .i64 ((k : Nat) : Int)), (11, .bool (bwdN k).isSome), (5, .slice sa_hv3 (mapN l).length sc_hv3), (6, .pointer (some ⟨bc14, 0, none⟩))]) rfl ?_
      refine WC.seq ?_
      refine WC.seq ?_
      refine WC.region ?_
      refine W.mv ?_
      refine W.nil (thn_n ?_)
      refine WC.cond (b := _) rfl (fun h53 => ?_) (fun h53 => ?_)
      ·have hkt : 0 < k := by rw [bwd_some] at h53; exact of_decide_eq_true h53
       refine WC.skip (thn_n ?_)
       refine WC.seq ?_
       refine WC.block ?_
       refine WC.seq ?_
       refine WC.region ?_
       refine W.mv ?_
       refine W.ok (ok_sub rfl rfl (by omega)) ?_
       refine W.as ?_
       refine W.nil (thn_n ?_)
       refine WC.seq ?_
       refine WC.region ?_
       refine W.mv ?_
       refine W.call (Mp := M_6) (cpair_fc ho_6 hL) rfl (pmC (List.Perm.refl _)) ?_
       intro v49 G46 Ms48 hG46 q47
       rw [show pairQ (leavesS ss) (bwdN k) = (mapN l)[k - 1]'(by omega) from by rw [pair_bwd hkt (by rw [← hmp]; omega)]; simp only [hmp]] at q47
       refine match q47 with | ⟨e_51, hC50⟩ => ?_
       subst e_51
       refine W.perm (pmC (List.Perm.refl _)).symm ?_
       refine W.mv ?_
       refine W.ok (ok_extract rfl rfl) ?_
       refine W.ok (ok_extract rfl rfl) ?_
       refine W.alloc zr69 (fun b52 => ?_)
       refine W.store (i := 0) (vs := [.string _, .string _]) (L' := [.string _, .string _]) ty69 rfl rfl rfl rfl rfl rfl rfl rfl ?_
       refine W.as ?_
       refine W.nil (thn_n ?_)
       refine WC.seq ?_
       refine WC.draw mix (by kernel_rfl) ?_
       refine W.mv ?_
       refine W.ok (ok_lss rfl rfl) ?_
       refine W.mv ?_
       refine W.sp 65 rfl (fun h64 => ?_) (fun h64 => ?_)
       ·have p64 := of_decide_eq_true h64
        try dsimp only at p64
        exfalso; omega
       ·have p64 := of_decide_eq_false h64
        try dsimp only at p64
        refine W.yes (dj := 65) rfl rfl h64 ?_
        refine W.ok (ok_loadB (i := 0) (vs := [.string _, .string _]) ty69 rfl rfl rfl rfl (by simp)) ?_
        refine W.yes (dj := 65) rfl rfl h64 ?_
        refine W.mv ?_
        refine W.yes (dj := 65) rfl rfl h64 ?_
        refine W.mv ?_
        refine W.yes (dj := 65) rfl rfl h64 ?_
        have q55 := (hv3.mono (((((hG9.trans hG16).trans hG22).trans hG39).trans hG45).trans hG46)).at (i := k - 1) (by omega)
        refine match q55 with | ⟨_, he53, e_54⟩ => ?_
        subst e_54
        refine W.ok (ok_indexAddr (i := k - 1) sl41 ty69 (hv3.mono (((((hG9.trans hG16).trans hG22).trans hG39).trans hG45).trans hG46)) rfl rfl ⟨by omega, by omega⟩) ?_
        refine W.yes (dj := 65) rfl rfl h64 ?_
        refine W.ok (ok_loadE (vs := [.string _, .string _]) ty69 he53 rfl rfl rfl (by simp)) ?_
        refine W.yes (dj := 65) rfl rfl h64 ?_
        refine W.ok (ok_neqA (L1 := [.string _, .string _]) (L2 := [.string _, .string _]) eq69 rfl rfl rfl rfl) ?_
        refine W.ok (ok_pick_f rfl h64) ?_
        refine W.nil (thn_n ?_)
        refine WC.cond (b := _) rfl (fun h71 => ?_) (fun h71 => ?_)
        ·simp [eqCells] at h71
        ·refine WC.skip (blk_n (thn_n ?_))
         refine WC.region ?_
         refine W.mv ?_
         refine W.call (Mp := Ms48) (cprev_fc hC50 hL) rfl (pmC (pmC (List.Perm.refl _))) ?_
         intro v59 G56 Ms58 hG56 q57
         rw [prv_bwd hkt] at q57
         refine match q57 with | ⟨e_61, hC60⟩ => ?_
         subst e_61
         refine W.perm (pmC (pmC (List.Perm.refl _))).symm ?_
         refine W.as ?_
         refine W.sub ((List.Sublist.refl _).cons _) ?_
         refine W.nil (thn_n ?_)
         exact ⟨(hG46.trans hG56), (k - 1, Ms58), ⟨eqv, eqv, eqv, eqv, trivial⟩, ⟨rfl, (by exact hC60), by omega⟩, by omega⟩
      ·have hkf : ¬ 0 < k := by rw [bwd_some] at h53; exact of_decide_eq_false h53
       refine WC.exit (thn_x (thn_x (blk_h (thn_n ?_))))
       refine WC.seq ?_
       refine WC.region ?_
       refine W.mv ?_
       refine W.ok (ok_eql rfl rfl) ?_
       refine W.mv ?_
       refine W.sp 75 rfl (fun h74 => ?_) (fun h74 => ?_)
       ·have p74 := of_decide_eq_true h74
        try dsimp only at p74
        refine W.yes (dj := 75) rfl rfl h74 ?_
        refine W.qcall (awk54_fc) rfl ?_
        refine W.ok (ok_pick_t rfl h74) ?_
        refine W.as ?_
        refine W.nil (thn_n ?_)
        refine WC.ret ?_
        refine ⟨.inr rfl, [_], ⟨rfl, trivial⟩, [], List.nil_sublist _, ?_⟩
        rfl
       ·have p74 := of_decide_eq_false h74
        try dsimp only at p74
        exfalso; omega

end Go.Proofs.YtebkfinhhpelbaaGreat
