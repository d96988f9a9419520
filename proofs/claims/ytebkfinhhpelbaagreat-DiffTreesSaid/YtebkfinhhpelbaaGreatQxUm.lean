/- The example of chapter 53 is walked. -/
import Derived.Test.YtebkfinhhpelbaaGreatQxWx
import Derived.Test.YtebkfinhhpelbaaGreatQxNs
import Derived.Test.YtebkfinhhpelbaaGreatQxWu
import Derived.Test.YtebkfinhhpelbaaGreatQxMy
namespace Go.Proofs.YtebkfinhhpelbaaGreat
open Go Go.Fw Go.RowKit
set_option maxRecDepth 100000
set_option maxHeartbeats 1600000
set_option linter.unusedVariables false
set_option linter.unusedSimpArgs false
set_option linter.unnecessarySimpa false
def S_97 : Str := ⟨⟨#[97]⟩, by decide⟩
def S_98 : Str := ⟨⟨#[98]⟩, by decide⟩
def S_99 : Str := ⟨⟨#[99]⟩, by decide⟩
def S_100 : Str := ⟨⟨#[100]⟩, by decide⟩
theorem lt_one9 {a b : UInt8} (h : (a < b) = true) : Str.lt ⟨⟨#[a]⟩, by show 1 ≤ 140737488355328; omega⟩ ⟨⟨#[b]⟩, by show 1 ≤ 140737488355328; omega⟩ = true := by
  show blt _ _ = true
  unfold blt
  rw [ByteArray.toList_eq, ByteArray.toList_eq]
  show Op.bytesLess [a] [b] = true
  simp [Op.bytesLess]
  simpa using h
theorem q99_100 : S_99.lt S_100 = true := lt_one9 (by decide)
theorem q97_100 : S_97.lt S_100 = true := lt_one9 (by decide)
theorem q98_100 : S_98.lt S_100 = true := lt_one9 (by decide)
theorem bo53 : bothN ([⟨S_97, Str.nil⟩, ⟨S_98, Str.nil⟩, ⟨S_99, Str.nil⟩, ⟨S_100, Str.nil⟩] : List Pair) ([⟨S_100, Str.nil⟩] : List Pair) = [⟨S_97, Str.nil, Str.nil, true, false⟩, ⟨S_98, Str.nil, Str.nil, true, false⟩, ⟨S_99, Str.nil, Str.nil, true, false⟩, ⟨S_100, Str.nil, Str.nil, true, true⟩] := by
  simp [bothN, q97_100, q98_100, q99_100, Str.lt_irrefl]
theorem ch53 : chgN ([⟨S_97, Str.nil⟩, ⟨S_98, Str.nil⟩, ⟨S_99, Str.nil⟩, ⟨S_100, Str.nil⟩] : List Pair) ([⟨S_100, Str.nil⟩] : List Pair) = ([⟨3, S_97, Str.nil, false, Str.nil, 0⟩, ⟨3, S_98, Str.nil, false, Str.nil, 0⟩, ⟨3, S_99, Str.nil, false, Str.nil, 0⟩] : List Opr) := by
  unfold chgN
  rw [bo53]
  simp [chg]
theorem wi53 : wipN 2 (bothN ([⟨S_97, Str.nil⟩, ⟨S_98, Str.nil⟩, ⟨S_99, Str.nil⟩, ⟨S_100, Str.nil⟩] : List Pair) ([⟨S_100, Str.nil⟩] : List Pair)) = ([⟨4, S_97, S_100, false, Str.nil, 0⟩] : List Opr) := by
  rw [bo53, wipN]
  simp [strN, wipeOp, wipN, chg]
theorem awk53_fc {G : GH}  :
    Fc Tryz.prog 42 [] G [] (fun v _ _ => v = .bool (true)) := by
 refine Fc.intro (rs := [.tmp 0]) cl42 Tryz.func42 rfl Tryz.ntmps42 rfl rfl (fun w0 => ?_)
 refine WC.seq (WC.region (W.as (W.nil (thn_n (WC.seq (WC.region (W.ok (ok_build (L := [.string _, .string _]) pl69 zr69 rfl rfl rfl) (W.ok (ok_build (L := [.string _, .string _]) pl69 zr69 rfl rfl rfl) ?_))))))))
 refine W.ok (ok_build (L := [.string _, .string _]) pl69 zr69 rfl rfl rfl) (W.ok (ok_build (L := [.string _, .string _]) pl69 zr69 rfl rfl rfl) (W.lit (e := ePair) (l := [⟨S_97, Str.nil⟩, ⟨S_98, Str.nil⟩, ⟨S_99, Str.nil⟩, ⟨S_100, Str.nil⟩]) (css := [[.string _, .string _], [.string _, .string _], [.string _, .string _], [.string _, .string _]]) sl41 ty69 zr69 rfl rfl rfl rfl rfl rfl ⟨rfl, rfl, rfl, rfl, trivial⟩ (fun bl1 G1 hG1 hv1 => (W.as (W.nil (thn_n (WC.seq (WC.region (W.mv ?_)))))))))
 refine W.mv ?_
 have hs2 := SlR.slice hv1 (lo := 3) (hi := 4) (by simp) (by simp)
 refine W.ok (ok_slice (3) (4) sl41 ty69 hv1 rfl ⟨_, _, rfl, by omega⟩ rfl ⟨by simp, by simp⟩) (W.call (Mp := []) (dwipes_fc hv1 hs2 _ (by simp)) rfl (List.Perm.refl _) ?_)
 intro _ G3 _ hG3 q5
 refine match q5 with | ⟨e_6, _, e_7, hv4⟩ => ?_
 subst e_6
 subst e_7
 have hc8 := SlR.cast hv4 (l' := ([⟨4, S_97, S_100, false, Str.nil, 0⟩] : List Opr)) (wi53)
 have q10 := hc8.form
 refine match q10 with | ⟨sa_hc8, sc_hc8, e_9⟩ => ?_
 subst e_9
 refine W.as (W.nil (thn_n (WC.seq (WC.region (W.mv (W.mv ?_))))))
 have hs11 := SlR.slice (hv1.mono hG3) (lo := 3) (hi := 4) (by simp) (by simp)
 refine W.ok (ok_slice (3) (4) sl41 ty69 (hv1.mono hG3) rfl ⟨_, _, rfl, by omega⟩ rfl ⟨by simp, by simp⟩) (W.call (Mp := []) (dchanges_fc (hv1.mono hG3) hs11 (by simp)) rfl (List.Perm.refl _) ?_)
 intro _ G12 _ hG12 q14
 refine match q14 with | ⟨e_15, _, e_16, hv13⟩ => ?_
 subst e_15
 subst e_16
 have hc17 := SlR.cast hv13 (l' := ([⟨3, S_97, Str.nil, false, Str.nil, 0⟩, ⟨3, S_98, Str.nil, false, Str.nil, 0⟩, ⟨3, S_99, Str.nil, false, Str.nil, 0⟩] : List Opr)) (ch53)
 have q19 := hc17.form
 refine match q19 with | ⟨sa_hc17, sc_hc17, e_18⟩ => ?_
 subst e_18
 refine W.ok (ok_len sl77 hc17 rfl) (W.ok (ok_eql rfl rfl) (W.mv ?_))
 refine W.sp 18 rfl (fun h17 => ?_) (fun h17 => ?_)
 ·have p17 := of_decide_eq_true h17
  try dsimp only at p17
  refine W.yes (dj := 18) rfl rfl h17 (W.mv (W.yes (dj := 18) rfl rfl h17 (W.ok (ok_len sl77 (hc8.mono hG12) rfl) (W.yes (dj := 18) rfl rfl h17 (W.ok (ok_eql rfl rfl) (W.ok (ok_pick_t rfl h17) (W.mv ?_)))))))
  refine W.sp 23 rfl (fun h21 => ?_) (fun h21 => ?_)
  ·have p21 := of_decide_eq_true h21
   try dsimp only at p21
   refine W.yes (dj := 23) rfl rfl h21 (W.mv (W.yes (dj := 23) rfl rfl h21 ?_))
   have q24 := (hc8.mono hG12).at (i := 0) (by omega)
   refine match q24 with | ⟨_, he20, ⟨e_23, hm21⟩⟩ => ?_
   subst e_23
   refine W.ok (ok_indexAddr (i := 0) sl77 ty155 (hc8.mono hG12) rfl rfl ⟨by omega, by omega⟩) (W.yes (dj := 23) rfl rfl h21 (W.ok (ok_loadE (vs := [.int .i64 _, .string _, .string _, .bool _, .string _, .int .i64 _]) ty155 he20 rfl rfl rfl (by simp)) (W.yes (dj := 23) rfl rfl h21 (W.ok (ok_build (L := [.int .i64 _, .string _, .string _, .bool _, .string _, .int .i64 _]) pl155 zr155 rfl rfl rfl) (W.yes (dj := 23) rfl rfl h21 (W.ok (ok_eqlA (L1 := [.int .i64 _, .string _, .string _, .bool _, .string _, .int .i64 _]) (L2 := [.int .i64 _, .string _, .string _, .bool _, .string _, .int .i64 _]) eq155 rfl rfl rfl rfl) (W.ok (ok_pick_t rfl h21) ?_)))))))
   refine W.as (W.nil (thn_n (WC.ret ?_)))
   refine ⟨.inr rfl, [_], ⟨rfl, trivial⟩, [], List.nil_sublist _, ?_⟩
   rfl
  ·have p21 := of_decide_eq_false h21
   try dsimp only at p21
   exact absurd rfl p21
 ·have p17 := of_decide_eq_false h17
  try dsimp only at p17
  exact absurd rfl p17

end Go.Proofs.YtebkfinhhpelbaaGreat
/- The law DiffTrees is walked. -/
namespace Go.Proofs.YtebkfinhhpelbaaGreat
open Go Go.Fw Go.RowKit
set_option maxRecDepth 100000
set_option maxHeartbeats 1600000
set_option linter.unusedVariables false
set_option linter.unusedSimpArgs false
set_option linter.unnecessarySimpa false
theorem dtrees_fc {G : GH} {v_a : Value} {a : List Nd} (h_a : SlR eNode G v_a a) {v_b : Value} {b : List Nd} (h_b : SlR eNode G v_b b) (c2 : Cfg) (sa : List Seat) (ta : Tree c2 a sa) (c3 : Cfg) (sb : List Seat) (tb : Tree c3 b sb) (h40 : a.length ≤ 40 ∧ b.length ≤ 40) :
    Fc Tryz.prog 43 [v_a, v_b] G [] (fun v G' M' => M' = [] ∧ ∃ u0, v = u0 ∧ SlR eOp G' u0 ((chgN (mapN a) (mapN b)))) := by
 obtain ⟨sa_a, sc_a, rfl⟩ := h_a.form
 obtain ⟨sa_b, sc_b, rfl⟩ := h_b.form
 have hla := h_a.len47
 have hlb := h_b.len47
 have ma := ta.map_len2
 have mb := tb.map_len2
 refine Fc.intro (rs := [.tmp 4]) cl43 Tryz.func43 rfl Tryz.ntmps43 rfl rfl (fun w0 => ?_)
 refine WC.seq (WC.region (W.as (W.nil (thn_n (WC.seq (WC.region (W.mv (W.call (Mp := []) (absmap_fc h_a _ _ ta) rfl (List.Perm.refl _) ?_))))))))
 intro _ G1 _ hG1 q3
 refine match q3 with | ⟨e_4, _, e_5, hv2⟩ => ?_
 subst e_4
 subst e_5
 have q7 := hv2.form
 refine match q7 with | ⟨sa_hv2, sc_hv2, e_6⟩ => ?_
 subst e_6
 refine W.mv (W.call (Mp := []) (absmap_fc (h_b.mono hG1) _ _ tb) rfl (List.Perm.refl _) ?_)
 intro _ G8 _ hG8 q10
 refine match q10 with | ⟨e_11, _, e_12, hv9⟩ => ?_
 subst e_11
 subst e_12
 have q14 := hv9.form
 refine match q14 with | ⟨sa_hv9, sc_hv9, e_13⟩ => ?_
 subst e_13
 refine W.call (Mp := []) (dchanges_fc (hv2.mono hG8) hv9 (by omega)) rfl (List.Perm.refl _) ?_
 intro _ G15 _ hG15 q17
 refine match q17 with | ⟨e_18, _, e_19, hv16⟩ => ?_
 subst e_18
 subst e_19
 have q21 := hv16.form
 refine match q21 with | ⟨sa_hv16, sc_hv16, e_20⟩ => ?_
 subst e_20
 refine W.as (W.nil (thn_n (WC.ret ?_)))
 refine ⟨.inr rfl, [_], ⟨rfl, trivial⟩, [], List.nil_sublist _, ?_⟩
 refine ⟨rfl, _, rfl, ?_⟩
 · exact hv16

theorem diffTrees_fc {G : GH} (cfan : Int) (cleaf : Int) (cbud : Int) (cslots : Int) (crest : Int) {v_a : Value} {a : List Nd} (h_a : SlR eNode G v_a a) (dfan : Int) (dleaf : Int) (dbud : Int) (dslots : Int) (drest : Int) {v_b : Value} {b : List Nd} (h_b : SlR eNode G v_b b) :
    Fc Tryz.prog 9 [.agg #[.int .i64 cfan, .int .i64 cleaf, .int .i64 cbud, .int .i64 cslots, .int .i64 crest], v_a, .agg #[.int .i64 dfan, .int .i64 dleaf, .int .i64 dbud, .int .i64 dslots, .int .i64 drest], v_b] G [] (fun v _ _ => v = .bool (true)) := by
 obtain ⟨sa_a, sc_a, rfl⟩ := h_a.form
 obtain ⟨sa_b, sc_b, rfl⟩ := h_b.form
 have hla := h_a.len47
 have hlb := h_b.len47
 refine Fc.intro (rs := [.tmp 8]) cl9 Tryz.func9 rfl Tryz.ntmps9 rfl rfl (fun w0 => ?_)
 refine WC.seq (WC.region (W.box (L := [.int .i64 _, .int .i64 _, .int .i64 _, .int .i64 _, .int .i64 _]) rfl rfl (fun b22 => (W.box (L := [.int .i64 _, .int .i64 _, .int .i64 _, .int .i64 _, .int .i64 _]) rfl rfl (fun b23 => (W.as (W.nil (thn_n (WC.seq (WC.seq ?_))))))))))
 refine WC.region (W.ok (ok_loadB (i := 1) (vs := [.int .i64 _, .int .i64 _, .int .i64 _, .int .i64 _, .int .i64 _]) ty23 rfl rfl rfl rfl (by simp)) (W.mv (W.qcall (tree_fc _ _ _ _ _ h_a _ (by omega)) rfl (W.ok (ok_not rfl) (W.mv ?_)))))
 refine W.sp 16 rfl (fun h15 => ?_) (fun h15 => ?_)
 ·refine W.no (dj := 16) rfl rfl h15 (W.no (dj := 16) rfl rfl h15 (W.no (dj := 16) rfl rfl h15 (W.no (dj := 16) rfl rfl h15 (W.ok (ok_pick_t rfl h15) (W.nil (thn_n (WC.cond_t rfl rfl (WC.seq ?_))))))))
  refine WC.region (W.qcall (awk53_fc) rfl (W.as (W.nil (thn_n (WC.ret (thn_r ?_))))))
  refine ⟨.inr rfl, [_], ⟨rfl, trivial⟩, [], List.nil_sublist _, ?_⟩
  rfl
 ·refine W.yes (dj := 16) rfl rfl h15 (W.ok (ok_loadB (i := 0) (vs := [.int .i64 _, .int .i64 _, .int .i64 _, .int .i64 _, .int .i64 _]) ty23 rfl rfl rfl rfl (by simp)) (W.yes (dj := 16) rfl rfl h15 (W.mv (W.yes (dj := 16) rfl rfl h15 (W.qcall (tree_fc _ _ _ _ _ h_b _ (by omega)) rfl (W.yes (dj := 16) rfl rfl h15 (W.ok (ok_not rfl) ?_)))))))
  refine W.ok (ok_pick_f rfl h15) (W.nil (thn_n ?_))
  refine WC.cond (b := _) rfl (fun h20 => ?_) (fun h20 => ?_)
  ·refine WC.seq (WC.region (W.qcall (awk53_fc) rfl (W.as (W.nil (thn_n (WC.ret (thn_r ?_)))))))
   refine ⟨.inr rfl, [_], ⟨rfl, trivial⟩, [], List.nil_sublist _, ?_⟩
   rfl
  ·have t15 : treeN (⟨cfan, cleaf, cbud, cslots, crest⟩ : Cfg) a 40 = true := by simpa using h15
   have t20 : treeN (⟨dfan, dleaf, dbud, dslots, drest⟩ : Cfg) b 40 = true := by simpa using h20
   have la := tree_len t15
   have lb := tree_len t20
   obtain ⟨sa, ta⟩ := tree_of t15 (by omega : (40 : Int) ≤ 100)
   obtain ⟨sb, tb⟩ := tree_of t20 (by omega : (40 : Int) ≤ 100)
   have ma := ta.map_len2
   have mb := tb.map_len2
   have hPa := ta.mapFits
   have hPb := tb.mapFits
   have hcl : (chgN (mapN a) (mapN b)).length ≤ (bothN (mapN a) (mapN b)).length := List.length_filterMap_le ..
   have hbl := both_len (mapN a) (mapN b)
   refine WC.skip (thn_n (WC.seq (WC.region (W.mv (W.mv (W.call (Mp := []) (dtrees_fc h_a h_b _ _ ta _ _ tb (by omega)) rfl (List.Perm.refl _) ?_))))))
   intro _ G24 _ hG24 q26
   refine match q26 with | ⟨e_27, _, e_28, hv25⟩ => ?_
   subst e_27
   subst e_28
   have q30 := hv25.form
   refine match q30 with | ⟨sa_hv25, sc_hv25, e_29⟩ => ?_
   subst e_29
   refine W.as (W.nil (thn_n (WC.seq (WC.region (W.mv (W.call (Mp := []) (map27_fc (h_a.mono hG24) _ _ ta) rfl (List.Perm.refl _) ?_))))))
   intro _ G31 _ hG31 q33
   refine match q33 with | ⟨e_34, _, e_35, hv32⟩ => ?_
   subst e_34
   subst e_35
   have q37 := hv32.form
   refine match q37 with | ⟨sa_hv32, sc_hv32, e_36⟩ => ?_
   subst e_36
   refine W.mv (W.call (Mp := []) (dapply_fc hv32 (hv25.mono hG31) hPa (by omega)) rfl (List.Perm.refl _) ?_)
   intro _ G38 _ hG38 q40
   refine match q40 with | ⟨e_41, _, e_42, _, e_43, hv39⟩ => ?_
   subst e_41
   subst e_42
   subst e_43
   have q45 := hv39.form
   refine match q45 with | ⟨sa_hv39, sc_hv39, e_44⟩ => ?_
   subst e_44
   refine W.mv (W.ok (ok_extract rfl rfl) (W.ok (ok_extract rfl rfl) (W.as (W.as (W.nil (thn_n (WC.seq (WC.region ?_))))))))
   refine W.mv (W.mv ?_)
   refine W.sp 34 rfl (fun h30_1 => ?_) (fun h30_1 => ?_)
   ·refine W.yes (dj := 34) rfl rfl h30_1 (W.mv (W.yes (dj := 34) rfl rfl h30_1 (W.mv (W.yes (dj := 34) rfl rfl h30_1 (W.call (Mp := []) (map27_fc (h_b.mono ((hG24.trans hG31).trans hG38)) _ _ tb) rfl (List.Perm.refl _) ?_)))))
    intro _ G46 _ hG46 q48
    refine match q48 with | ⟨e_49, _, e_50, hv47⟩ => ?_
    subst e_49
    subst e_50
    have q52 := hv47.form
    refine match q52 with | ⟨sa_hv47, sc_hv47, e_51⟩ => ?_
    subst e_51
    refine W.yes (dj := 34) rfl rfl h30_1 (W.qcall ((samep_fc (hv39.mono hG46) hv47).mono (fun v _ _ _ hv => hv.trans (congrArg Value.bool (decide_eq_true (by rw [applyN_t (chg_right hPa hPb)]; exact chg_leads hPa hPb))))) rfl (W.ok (ok_pick_t rfl h30_1) (W.mv (W.yes (dj := 40) rfl rfl rfl (W.mv (W.yes (dj := 40) rfl rfl rfl (W.mv ?_)))))))
    refine W.yes (dj := 40) rfl rfl rfl (W.call (Mp := []) (map27_fc (h_a.mono (((hG24.trans hG31).trans hG38).trans hG46)) _ _ ta) rfl (List.Perm.refl _) ?_)
    intro _ G53 _ hG53 q55
    refine match q55 with | ⟨e_56, _, e_57, hv54⟩ => ?_
    subst e_56
    subst e_57
    have q59 := hv54.form
    refine match q59 with | ⟨sa_hv54, sc_hv54, e_58⟩ => ?_
    subst e_58
    refine W.yes (dj := 40) rfl rfl rfl (W.mv (W.yes (dj := 40) rfl rfl rfl (W.call (Mp := []) (map27_fc (h_b.mono ((((hG24.trans hG31).trans hG38).trans hG46).trans hG53)) _ _ tb) rfl (List.Perm.refl _) ?_)))
    intro _ G60 _ hG60 q62
    refine match q62 with | ⟨e_63, _, e_64, hv61⟩ => ?_
    subst e_63
    subst e_64
    have q66 := hv61.form
    refine match q66 with | ⟨sa_hv61, sc_hv61, e_65⟩ => ?_
    subst e_65
    refine W.yes (dj := 40) rfl rfl rfl (W.call (Mp := []) (changes53_fc (hv54.mono hG60) hv61 hPa.srt hPb.srt (by omega)) rfl (List.Perm.refl _) ?_)
    intro _ G67 _ hG67 q69
    refine match q69 with | ⟨e_70, _, e_71, hv68⟩ => ?_
    subst e_70
    subst e_71
    have q73 := hv68.form
    refine match q73 with | ⟨sa_hv68, sc_hv68, e_72⟩ => ?_
    subst e_72
    refine W.yes (dj := 40) rfl rfl rfl (W.qcall ((ops53_fc (hv25.mono (((((hG31.trans hG38).trans hG46).trans hG53).trans hG60).trans hG67)) hv68).mono (fun v _ _ _ hv => hv.trans (congrArg Value.bool (decide_eq_true rfl)))) rfl (W.ok (ok_pick_t rfl rfl) (W.mv (W.yes (dj := 49) rfl rfl rfl (W.qcall (awk53_fc) rfl (W.ok (ok_pick_t rfl rfl) (W.as ?_)))))))
    refine W.nil (thn_n (WC.ret ?_))
    refine ⟨.inr rfl, [_], ⟨rfl, trivial⟩, [], List.nil_sublist _, ?_⟩
    rfl
   ·rw [applyN_t (chg_right hPa hPb)] at h30_1; cases h30_1

end Go.Proofs.YtebkfinhhpelbaaGreat
