/- Walks of what is told of the way of a text. -/
import Derived.Test.YtebkfinhhpelbaaGreatQvUd
import Derived.Test.YtebkfinhhpelbaaGreatQvV7
namespace Go.Proofs.YtebkfinhhpelbaaGreat
open Go Go.Fw Go.RowKit
set_option maxRecDepth 100000
set_option maxHeartbeats 1600000
set_option linter.unusedVariables false
set_option linter.unusedSimpArgs false
set_option linter.unnecessarySimpa false
theorem leaf_nil {G : GH}  (k : Str) :
    Fc Tryz.prog 72 [.pointer none, .string k.b] G [] (fun v G' M' => M' = [] ∧ ∃ u0, v = .tuple #[.agg (List.toArray u0), .agg (List.toArray (Span.zero.cells)), .bool (false)] ∧ NodeC G' u0 (Nd.zero)) := by
 refine Fc.intro (rs := [.cell 4 47, .cell 5 52, .tmp 6]) cl72 Tryz.func72 rfl Tryz.ntmps72 rfl rfl (fun w0 => ?_)
 refine WC.seq (WC.region (W.alloc zr47 (fun b1 => (W.alloc zr52 (fun b2 => (W.as (W.nil (thn_n (WC.seq (WC.region ?_))))))))))
 refine W.mv (W.mv (W.call (Mp := []) (way_nil _) rfl (List.Perm.refl _) ?_))
 intro _ G3 _ hG3 q6
 refine match q6 with | ⟨e_7, _, _, e_8, hv4, hv5⟩ => ?_
 subst e_7
 subst e_8
 have q10 := hv4.form
 refine match q10 with | ⟨sa_hv4, sc_hv4, e_9⟩ => ?_
 subst e_9
 have q12 := hv5.form
 refine match q12 with | ⟨sa_hv5, sc_hv5, e_11⟩ => ?_
 subst e_11
 refine W.mv (W.ok (ok_extract rfl rfl) (W.ok (ok_extract rfl rfl) (W.as (W.as (W.nil (thn_n (WC.seq (WC.seq ?_))))))))
 refine WC.region (W.mv (W.ok (ok_len sl24 hv4 rfl) (W.ok (ok_eql rfl rfl) (W.nil (thn_n ?_)))))
 refine WC.cond (b := _) rfl (fun h17 => ?_) (fun h17 => ?_)
 ·have p17 := of_decide_eq_true h17
  refine WC.seq (WC.region (W.ok (ok_build (L := [.int .i64 _, .int .i64 _, .slice _ _ _, .slice _ _ _, .string _, .bool _, .int .i64 _, .int .i64 _, .slice _ _ _, .slice _ _ _]) pl47 zr47 rfl rfl rfl) (W.ok (ok_build (L := [.string _, .string _, .bool _]) pl52 zr52 rfl rfl rfl) (W.store (i := 1) (vs := [.int .i64 _, .int .i64 _, .slice _ _ _, .slice _ _ _, .string _, .bool _, .int .i64 _, .int .i64 _, .slice _ _ _, .slice _ _ _]) (L' := [.int .i64 _, .int .i64 _, .slice _ _ _, .slice _ _ _, .string _, .bool _, .int .i64 _, .int .i64 _, .slice _ _ _, .slice _ _ _]) ty47 rfl rfl rfl rfl rfl rfl rfl rfl (W.store (i := 0) (vs := [.string _, .string _, .bool _]) (L' := [.string _, .string _, .bool _]) ty52 rfl rfl rfl rfl rfl rfl rfl rfl (W.as (W.nil (thn_n ?_))))))))
  refine WC.ret (thn_r ?_)
  refine ⟨.inr rfl, [_, _, _], ⟨⟨_, _, _, _, _, rfl, nthM_mem (i := 1) rfl, ty47, (by simp), rfl, rfl⟩, ⟨_, _, _, _, _, rfl, nthM_mem (i := 0) rfl, ty52, (by simp), rfl, rfl⟩, rfl, trivial⟩, [], List.nil_sublist _, ?_⟩
  exact ⟨rfl, _, rfl, _, _, _, _, _, _, _, _, rfl, SlR.nil, SlR.nil, SlR.nil, SlR.nil, Nd.zero_ok⟩
 ·have p17 := of_decide_eq_false h17
  exact absurd rfl p17

theorem leaf_fc {G : GH} {b_s : Nat} {c c2 : Cfg} {l : List Nd} {ss : List Seat} {Ms_s : MH} (h_s : StR 47 4 3 182 103 b_s c G l Ms_s) (t : Tree c2 l ss) (k : Str) :
    Fc Tryz.prog 72 [.pointer (some ⟨b_s, 0, none⟩), .string k.b] G Ms_s (fun v G' M' => M' = Ms_s ∧ ∃ u0, v = .tuple #[.agg (List.toArray u0), .agg (List.toArray ((leafS l k).s.cells)), .bool (true)] ∧ NodeC G' u0 ((leafS l k).n)) := by
 have hwp := t.way_pos k
 have hwl := t.way_len k
 have hwn : ((wayN l k).map fun y : Seat => y.n).length = (wayN l k).length := List.length_map ..
 have hws : ((wayN l k).map fun y : Seat => y.s).length = (wayN l k).length := List.length_map ..
 refine Fc.intro (rs := [.cell 4 47, .cell 5 52, .tmp 6]) cl72 Tryz.func72 rfl Tryz.ntmps72 rfl rfl (fun w0 => ?_)
 refine WC.perm (M' := (Ms_s ++ [])) (by simp) (WC.seq (WC.region (W.alloc zr47 (fun b24 => (W.alloc zr52 (fun b25 => (W.as (W.nil (thn_n (WC.seq ?_))))))))))
 refine WC.region (W.mv (W.mv (W.call (Mp := Ms_s) (way_fc h_s t _) rfl (pmC (pmC (List.Perm.refl _))) ?_)))
 intro v31 G28 Ms30 hG28 q29
 refine match q29 with | ⟨eeq29, _, _, e_33, hv26, hv27⟩ => ?_
 subst e_33
 have eeq29 := eeq29.symm
 subst eeq29
 refine W.perm (pmC (pmC (List.Perm.refl _))).symm ?_
 have q35 := hv26.form
 refine match q35 with | ⟨sa_hv26, sc_hv26, e_34⟩ => ?_
 subst e_34
 have q37 := hv27.form
 refine match q37 with | ⟨sa_hv27, sc_hv27, e_36⟩ => ?_
 subst e_36
 refine W.mv (W.ok (ok_extract rfl rfl) (W.ok (ok_extract rfl rfl) (W.as (W.as (W.nil (thn_n (WC.seq (WC.seq ?_))))))))
 refine WC.region (W.mv (W.ok (ok_len sl24 hv26 rfl) (W.ok (ok_eql rfl rfl) (W.nil (thn_n ?_)))))
 refine WC.cond (b := _) rfl (fun h17 => ?_) (fun h17 => ?_)
 ·have p17 := of_decide_eq_true h17
  exfalso; omega
 ·have p17 := of_decide_eq_false h17
  refine WC.skip (thn_n (WC.seq (WC.drawW _ (((List.Sublist.refl _).cons _).cons _) mix (by rintro _ _ _ _ ⟨h | h, _⟩ <;> cases h) (WD.take 0 rfl rfl rfl (by kernel_rfl) (by kernel_rfl) (by kernel_rfl) (ok_mv) (WD.take 1 rfl rfl rfl (by kernel_rfl) (by kernel_rfl) (by kernel_rfl) (ok_mv) (WD.take 2 rfl rfl rfl (by kernel_rfl) (by kernel_rfl) (by kernel_rfl) (ok_len sl24 hv26 rfl) (WD.take 3 rfl rfl rfl (by kernel_rfl) (by kernel_rfl) (by kernel_rfl) (ok_sub rfl rfl (by omega)) ?_)))))))
  have q41 := hv26.at (i := ((wayN l k).length - 1)) (by omega)
  refine match q41 with | ⟨_, he38, ⟨pa_n39, pc_n39, ka_n39, kc_n39, ma_n39, mc_n39, ra_n39, rc_n39, e_40, hp_n39, hk_n39, hm_n39, hr_n39, hok_n39⟩⟩ => ?_
  subst e_40
  refine WD.take 4 rfl rfl rfl (by kernel_rfl) (by kernel_rfl) (by kernel_rfl) (ok_indexAddr (i := ((wayN l k).length - 1)) sl24 ty47 hv26 rfl rfl ⟨by omega, by omega⟩) (WD.take 5 rfl rfl rfl (by kernel_rfl) (by kernel_rfl) (by kernel_rfl) (ok_loadE (vs := [.int .i64 _, .int .i64 _, .slice _ _ _, .slice _ _ _, .string _, .bool _, .int .i64 _, .int .i64 _, .slice _ _ _, .slice _ _ _]) ty47 he38 rfl rfl rfl (by simp)) (WD.take 6 rfl rfl rfl (by kernel_rfl) (by kernel_rfl) (by kernel_rfl) (ok_mv) (WD.take 7 rfl rfl rfl (by kernel_rfl) (by kernel_rfl) (by kernel_rfl) (ok_mv) (WD.take 8 rfl rfl rfl (by kernel_rfl) (by kernel_rfl) (by kernel_rfl) (ok_len sl24 hv26 rfl) (WD.take 9 rfl rfl rfl (by kernel_rfl) (by kernel_rfl) (by kernel_rfl) (ok_sub rfl rfl (by omega)) ?_)))))
  have q45 := hv27.at (i := ((wayN l k).length - 1)) (by omega)
  refine match q45 with | ⟨_, he42, e_44⟩ => ?_
  subst e_44
  refine WD.take 10 rfl rfl rfl (by kernel_rfl) (by kernel_rfl) (by kernel_rfl) (ok_indexAddr (i := ((wayN l k).length - 1)) sl189 ty52 hv27 rfl rfl ⟨by omega, by omega⟩) (WD.take 11 rfl rfl rfl (by kernel_rfl) (by kernel_rfl) (by kernel_rfl) (ok_loadE (vs := [.string _, .string _, .bool _]) ty52 he42 rfl rfl rfl (by simp)) (WD.any [12] (by kernel_rfl) rfl ⟨⟨_, rfl, rfl, (W.store (i := 1) (vs := [.int .i64 _, .int .i64 _, .slice _ _ _, .slice _ _ _, .string _, .bool _, .int .i64 _, .int .i64 _, .slice _ _ _, .slice _ _ _]) (L' := [.int .i64 _, .int .i64 _, .slice _ _ _, .slice _ _ _, .string _, .bool _, .int .i64 _, .int .i64 _, .slice _ _ _, .slice _ _ _]) ty47 rfl rfl rfl rfl rfl rfl rfl rfl (W.nil ⟨Le.rfl, ((List.Sublist.refl _).cons _).cons _, _, ((List.Sublist.refl _).cons _).cons _, List.Sublist.refl _, (WD.any [13] (by kernel_rfl) rfl ⟨⟨_, rfl, rfl, (W.store (i := 0) (vs := [.string _, .string _, .bool _]) (L' := [.string _, .string _, .bool _]) ty52 rfl rfl rfl rfl rfl rfl rfl rfl (W.nil ⟨Le.rfl, ((List.Sublist.refl _).cons _).cons _, _, ((List.Sublist.refl _).cons _).cons _, List.Sublist.refl _, ?_⟩))⟩, trivial⟩)⟩))⟩, trivial⟩))
  refine WD.take 14 rfl rfl rfl (by kernel_rfl) (by kernel_rfl) (by kernel_rfl) (ok_as) (WD.done (by kernel_rfl) (thn_n (WC.ret ?_)))
  refine ⟨.inr rfl, [_, _, _], ⟨⟨_, _, _, _, _, rfl, nthM_mem (i := 1) rfl, ty47, (by simp), rfl, rfl⟩, ⟨_, _, _, _, _, rfl, nthM_mem (i := 0) rfl, ty52, (by simp), rfl, rfl⟩, rfl, trivial⟩, Ms_s, ((List.sublist_append_left _ _).cons _).cons _, ?_⟩
  exact ⟨rfl, _, congrArg (fun s : Span => Value.tuple #[.agg (List.toArray _), .agg (List.toArray s.cells), .bool true]) (t.last_s k (by omega) (by omega)), NodeC.of ⟨_, _, _, _, _, _, _, _, rfl, hp_n39, hk_n39, hm_n39, hr_n39, hok_n39⟩ (t.last_n k (by omega) (by omega))⟩

theorem msgs_fc {G : GH} {b_s : Nat} {c c2 : Cfg} {l : List Nd} {ss : List Seat} {Ms_s : MH} (h_s : StR 47 4 3 182 103 b_s c G l Ms_s) (t : Tree c2 l ss) (k : Str) :
    Fc Tryz.prog 73 [.pointer (some ⟨b_s, 0, none⟩), .string k.b] G Ms_s (fun v G' M' => M' = Ms_s ∧ ∃ u0, v = u0 ∧ SlR eMsg G' u0 ((leafS l k).ms)) := by
 have hwp := t.way_pos k
 have hwl := t.way_len k
 have hwn : ((wayN l k).map fun y : Seat => y.n).length = (wayN l k).length := List.length_map ..
 have hws : ((wayN l k).map fun y : Seat => y.s).length = (wayN l k).length := List.length_map ..
 have hmt := t.path_tot k
 refine Fc.intro (rs := [.tmp 4]) cl73 Tryz.func73 rfl Tryz.ntmps73 rfl rfl (fun w0 => ?_)
 refine WC.perm (M' := (Ms_s ++ [])) (by simp) (WC.seq (WC.region (W.as (W.nil (thn_n (WC.seq (WC.region (W.mv ?_))))))))
 refine W.mv (W.call (Mp := Ms_s) (way_fc h_s t _) rfl (List.Perm.refl _) ?_)
 intro v51 G48 Ms50 hG48 q49
 refine match q49 with | ⟨eeq49, _, _, e_53, hv46, hv47⟩ => ?_
 subst e_53
 have eeq49 := eeq49.symm
 subst eeq49
 have q55 := hv46.form
 refine match q55 with | ⟨sa_hv46, sc_hv46, e_54⟩ => ?_
 subst e_54
 have q57 := hv47.form
 refine match q57 with | ⟨sa_hv47, sc_hv47, e_56⟩ => ?_
 subst e_56
 refine W.mv (W.ok (ok_extract rfl rfl) (W.ok (ok_extract rfl rfl) (W.as (W.as (W.nil (thn_n (WC.seq (WC.region ?_))))))))
 refine W.as (W.nil (thn_n (WC.seq (WC.seq (WC.region (W.mv (W.ok (ok_len sl24 hv46 rfl) (W.mv ?_))))))))
 refine W.nil (thn_n (WC.block ?_))
 refine WC.loop (X := (Nat) × Value × MH) (fun i => [(18, .int .i64 ((i.1 : Nat) : Int)), (5, .slice sa_hv46 (((wayN (l) (k)).map fun y : Seat => y.n)).length sc_hv46), (6, .slice sa_hv47 (((wayN (l) (k)).map fun y : Seat => y.s)).length sc_hv47), (16, .slice sa_hv46 (((wayN (l) (k)).map fun y : Seat => y.n)).length sc_hv46), (17, .int .i64 (((((wayN (l) (k)).map fun y : Seat => y.n)).length : Nat) : Int)), (7, i.2.1)]) (fun i G Ml => Ml = (i.2.2 ++ (Ms_s ++ [])) ∧ OwnR (eSl eMsg) 45 G i.2.1 ((((wayN l k).map fun y : Seat => y.n).map fun n : Nd => n.msgs).take i.1) i.2.2 ∧ i.1 ≤ (wayN l k).length) (fun i => (wayN l k).length - i.1) (0, .slice none 0 0, ([] : MH)) ⟨eqv, eqv, eqv, eqv, eqv, eqv, trivial⟩ ?_ ?_
 ·exact ⟨rfl, (by simpa using OwnR.nil), by omega⟩
 ·rintro ⟨i, v_7, M_7⟩ gG58 G58 _ hG58 ⟨rfl, ho_7, hi⟩
  try dsimp only at ho_7 hi
  refine WC.fr (f := setL gG58 [(18, .int .i64 ((i : Nat) : Int)), (5, .slice sa_hv46 (((wayN (l) (k)).map fun y : Seat => y.n)).length sc_hv46), (6, .slice sa_hv47 (((wayN (l) (k)).map fun y : Seat => y.s)).length sc_hv47), (16, .slice sa_hv46 (((wayN (l) (k)).map fun y : Seat => y.n)).length sc_hv46), (17, .int .i64 (((((wayN (l) (k)).map fun y : Seat => y.n)).length : Nat) : Int)), (7, v_7)]) rfl (WC.seq (WC.region (W.ok (ok_lss rfl rfl) (W.nil (thn_n (WC.seq ?_))))))
  refine WC.cond (b := _) rfl (fun h19 => ?_) (fun h19 => ?_)
  ·have p19 := of_decide_eq_true h19
   refine WC.skip (thn_n (WC.seq (WC.block (WC.seq (WC.region ?_)))))
   have q62 := (hv46.mono hG58).at (i := i) (by omega)
   refine match q62 with | ⟨_, he59, ⟨pa_n60, pc_n60, ka_n60, kc_n60, ma_n60, mc_n60, ra_n60, rc_n60, e_61, hp_n60, hk_n60, hm_n60, hr_n60, hok_n60⟩⟩ => ?_
   subst e_61
   refine W.ok (ok_indexAddr (i := i) sl24 ty47 (hv46.mono hG58) rfl rfl ⟨by omega, by omega⟩) (W.ok (ok_loadE (vs := [.int .i64 _, .int .i64 _, .slice _ _ _, .slice _ _ _, .string _, .bool _, .int .i64 _, .int .i64 _, .slice _ _ _, .slice _ _ _]) ty47 he59 rfl rfl rfl (by simp)) (W.alloc zr47 (fun b63 => (W.store (i := 0) (vs := [.int .i64 _, .int .i64 _, .slice _ _ _, .slice _ _ _, .string _, .bool _, .int .i64 _, .int .i64 _, .slice _ _ _, .slice _ _ _]) (L' := [.int .i64 _, .int .i64 _, .slice _ _ _, .slice _ _ _, .string _, .bool _, .int .i64 _, .int .i64 _, .slice _ _ _, .slice _ _ _]) ty47 rfl rfl rfl rfl rfl rfl rfl rfl (W.nil (thn_n (WC.region (W.mv (W.ok (ok_fieldB fd47_8 rfl) ?_)))))))))
   refine W.ok (ok_loadB (i := 0) (vs := [.slice _ _ _]) ty45 rfl rfl rfl rfl (by simp)) (W.lit (e := (eSl eMsg)) (l := [((((wayN (l) (k)).map fun y : Seat => y.n))[i]).msgs]) (css := [[.slice _ _ _]]) sl187 ty45 zr45 rfl rfl rfl rfl rfl rfl ⟨⟨_, rfl, hm_n60⟩, trivial⟩ (fun bl64 G64 hG64 hv64 => (W.app (e := (eSl eMsg)) sl187 ty45 zr45 rfl by45 rfl rfl ((ho_7.mono hG64)) (hv64) (pmC (List.Perm.refl _)) (by show (List.length _ + 1) * 24 ≤ _; rw [List.length_take, List.length_map, List.length_map]; omega) (fun v65 Ms66 ho67 => (W.perm (pmC (List.Perm.refl _)).symm (W.as (W.nil (blk_n (thn_n (WC.region (W.ok (ok_add rfl rfl (by omega)) ?_)))))))))))
   refine W.mv (W.sub ((List.Sublist.refl _).cons _) (W.nil (thn_n ?_)))
   exact ⟨hG64, (i + 1, v65, Ms66), ⟨eqv, eqv, eqv, eqv, eqv, eqv, trivial⟩, ⟨rfl, (by have h := ho67; rw [List.take_succ_eq_append_getElem (by simp; omega), List.getElem_map]; exact h), by omega⟩, by omega⟩
  ·have p19 := of_decide_eq_false h19
   refine WC.exit (thn_x (thn_x (blk_h (thn_n (WC.seq (WC.seq (WC.region (W.mv (W.ok (ok_len sl24 (hv46.mono hG58) rfl) (W.ok (ok_eql rfl rfl) (W.nil (thn_n ?_))))))))))))
   refine WC.cond (b := _) rfl (fun h30 => ?_) (fun h30 => ?_)
   ·have p30 := of_decide_eq_true h30
    exfalso; omega
   ·have p30 := of_decide_eq_false h30
    refine WC.skip (thn_n (WC.seq (WC.region (W.mv (W.mv (W.ok (ok_len sl24 (hv46.mono hG58) rfl) (W.ok (ok_sub rfl rfl (by omega)) ?_)))))))
    have q71 := (hv47.mono hG58).at (i := ((wayN l k).length - 1)) (by omega)
    refine match q71 with | ⟨_, he68, e_70⟩ => ?_
    subst e_70
    refine W.ok (ok_indexAddr (i := ((wayN l k).length - 1)) sl189 ty52 (hv47.mono hG58) rfl rfl ⟨by omega, by omega⟩) (W.ok (ok_loadE (vs := [.string _, .string _, .bool _]) ty52 he68 rfl rfl rfl (by simp)) (W.mv (W.giveO ho_7 (List.Perm.refl _) (fun G72 hG72 hv72 => ?_))))
    have hc73 := SlR.cast hv72 (l' := (((wayN l k).map fun y : Seat => y.n).map fun n : Nd => n.msgs)) (by rw [List.take_of_length_le (by simp; omega)])
    have q75 := hc73.form
    refine match q75 with | ⟨_, _, e_74⟩ => ?_
    subst e_74
    refine W.call (Mp := []) (mpath_fc _ _ _ hc73 (by omega) (by rw [List.length_map, List.length_map]; omega) (t.path_key k)) rfl (List.Perm.refl _) ?_
    intro _ G76 _ hG76 q78
    refine match q78 with | ⟨e_79, _, e_80, hv77⟩ => ?_
    subst e_79
    subst e_80
    have q82 := hv77.form
    refine match q82 with | ⟨sa_hv77, sc_hv77, e_81⟩ => ?_
    subst e_81
    refine W.as (W.nil (thn_n (WC.ret ?_)))
    refine ⟨.inr rfl, [_], ⟨rfl, trivial⟩, Ms_s, List.sublist_append_left _ _, ?_⟩
    refine ⟨rfl, _, rfl, ?_⟩
    · exact SlR.cast hv77 (t.path_msgs k (t.last_s k (by omega) (by omega)))

end Go.Proofs.YtebkfinhhpelbaaGreat
