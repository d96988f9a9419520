/- The example of chapter 26 is walked. -/
import Derived.Test.YtebkfinhhpelbaaGreatQyUp
import Derived.Test.YtebkfinhhpelbaaGreatQyNp
namespace Go.Proofs.YtebkfinhhpelbaaGreat
open Go Go.Fw Go.RowKit
set_option maxRecDepth 100000
set_option maxHeartbeats 1600000
set_option linter.unusedVariables false
set_option linter.unusedSimpArgs false
set_option linter.unnecessarySimpa false
def S_97 : Str := ⟨⟨#[97]⟩, by decide⟩
def S_98 : Str := ⟨⟨#[98]⟩, by decide⟩
theorem lt26 : S_97.lt S_98 = true := by
  show blt _ _ = true
  unfold blt
  rw [ByteArray.toList_eq, ByteArray.toList_eq]
  show Op.bytesLess [97] [98] = true
  decide
def aw26 : Nd := ⟨0, 0, [], [], Str.nil, true, -1, 0, [], [⟨S_97, Str.nil⟩, ⟨S_98, Str.nil⟩]⟩
theorem aw26_ok : aw26.Ok := ⟨⟨by decide, by decide⟩, ⟨by decide, by decide⟩, ⟨by decide, by decide⟩, ⟨by decide, by decide⟩⟩
theorem aw26_P : PairsR aw26.rows := by
  refine pairsR_iff.2 ⟨fun p hp => ?_, ?_⟩
  · have hp : p ∈ [(⟨S_97, Str.nil⟩ : Pair), ⟨S_98, Str.nil⟩] := hp
    simp at hp
    rcases hp with rfl | rfl <;> exact ⟨by decide, by decide⟩
  · show Srt [(⟨S_97, Str.nil⟩ : Pair), ⟨S_98, Str.nil⟩]
    simp [Srt, lt26]
theorem aw26_t {s : Int} (h1 : 1 ≤ s) (h2 : s ≤ 4096) : Tree ⟨4, 2, 36, s, 0⟩ [aw26] [oneS aw26] := tree_one ⟨⟨by simp, by simp⟩, ⟨by simp, by simp⟩, ⟨by simp, by simp⟩, ⟨h1, h2⟩, by simp, by simp⟩ rfl rfl (by decide) ⟨⟨by decide, by decide, by decide⟩, fun _ => ⟨rfl, rfl⟩, (fun h => by cases h), (by rw [if_pos (show aw26.level = 0 from rfl)]; exact ⟨rfl, (Int.le_refl 2 : ((2 : Nat) : Int) ≤ 2), aw26_P, fun i h => rfl⟩)⟩ rfl (by
  refine ⟨by decide, by decide, by decide, by decide, by decide, (fun m hm => by cases hm), (fun m hm => by cases hm), fun p hp => ?_⟩
  have := (pairsR_iff.1 aw26_P).1 p hp
  exact ⟨by have := this.1; omega, by have := this.2; omega⟩)
theorem ck26 : (cleaveN aw26 2).2.2.2 = true := by rw [cleave_lt rfl (by decide)]
theorem ok26 : (liftN (getL [aw26] 0) 1 2).2.2.2 = true := by rw [lift_ok]; exact ck26
theorem lw26 : liftS (⟨4, 2, 36, 3, 0⟩ : Cfg) [aw26] = (0, liftL [aw26] (liftN aw26 1 2).1 (liftN aw26 1 2).2.1 (liftN aw26 1 2).2.2.1) := liftS_0 ok26 (by decide)
theorem kids26 : (getL (liftS (⟨4, 2, 36, 3, 0⟩ : Cfg) [aw26]).2 0).kids = [1, 2] := by rw [lw26, liftN_t ck26]; rfl
theorem lx26 : liftS (⟨4, 2, 36, 2, 0⟩ : Cfg) [aw26] = (4, [aw26]) := liftS_4 ok26 (by decide)
theorem awk26_fc {G : GH}  :
    Fc Tryz.prog 12 [] G [] (fun v _ _ => v = .bool (true)) := by
 refine Fc.intro (rs := [.tmp 0]) cl12 Tryz.func12 rfl Tryz.ntmps12 rfl rfl (fun w0 => ?_)
 refine WC.seq (WC.region (W.as (W.nil (thn_n (WC.seq ?_)))))
 have t := aw26_t (s := 3) (by decide) (by decide)
 have t2 := aw26_t (s := 2) (by decide) (by decide)
 refine WC.region (W.ok (ok_build (L := [.string _, .string _]) pl69 zr69 rfl rfl rfl) (W.ok (ok_build (L := [.string _, .string _]) pl69 zr69 rfl rfl rfl) (W.lit (e := ePair) (l := [⟨S_97, Str.nil⟩, ⟨S_98, Str.nil⟩]) (css := [[.string _, .string _], [.string _, .string _]]) sl41 ty69 zr69 rfl rfl rfl rfl rfl rfl ⟨rfl, rfl, trivial⟩ (fun bl1 G1 hG1 hv1 => (W.ok (ok_build (L := [.int .i64 _, .int .i64 _, .slice _ _ _, .slice _ _ _, .string _, .bool _, .int .i64 _, .int .i64 _, .slice _ _ _, .slice _ _ _]) pl47 zr47 rfl rfl rfl) (W.lit (e := eNode) (l := [aw26]) (css := [[.int .i64 _, .int .i64 _, .slice _ _ _, .slice _ _ _, .string _, .bool _, .int .i64 _, .int .i64 _, .slice _ _ _, .slice _ _ _]]) sl24 ty47 zr47 rfl rfl rfl rfl rfl rfl ⟨⟨_, _, _, _, _, _, _, _, rfl, SlR.nil, SlR.nil, SlR.nil, hv1, aw26_ok⟩, trivial⟩ (fun bl2 G2 hG2 hv2 => (W.as (W.nil (thn_n ?_))))))))))
 refine WC.seq (WC.region (W.ok (ok_build (L := [.int .i64 _, .int .i64 _, .int .i64 _, .int .i64 _, .int .i64 _]) pl23 zr23 rfl rfl rfl) (W.mv (W.call (Mp := []) (gload_fc (4) (2) (36) (3) (0) hv2) rfl (List.Perm.refl _) ?_))))
 intro v6 G3 Ms5 hG3 q4
 have q7 := or3 q4
 refine Or.elim q7 (fun q8 => ?_) (fun q9 => ?_)
 ·refine match q8 with | ⟨hnl, e_10, e_11⟩ => ?_
  subst e_10
  subst e_11
  exact absurd ⟨(by first | exact t.cfg | exact t2.cfg), t.pos, placed_of t.slot⟩ hnl
 ·refine Or.elim q9 (fun q12 => ?_) (fun q13 => ?_)
  ·refine match q12 with | ⟨hOK, hnle, e_14, e_15⟩ => ?_
   subst e_14
   subst e_15
   exact absurd (by first | exact t.q.1.2.2 | exact t2.q.1.2.2) hnle
  ·refine match q13 with | ⟨hOK, hle, bSt, e_16, hS9⟩ => ?_
   subst e_16
   refine W.mv (W.ok (ok_extract rfl rfl) (W.ok (ok_extract rfl rfl) (W.as (W.as (W.nil (thn_n (WC.seq (WC.region ?_))))))))
   refine W.mv (W.call (Mp := Ms5) (glift_fc hS9 t) rfl (List.Perm.refl _) ?_)
   intro v20 G17 Ms19 hG17 q18
   refine match q18 with | ⟨e_22, hR21⟩ => ?_
   subst e_22
   refine W.as (W.nil (thn_n (WC.seq (WC.region (W.mv (W.call (Mp := Ms19) (pnode_fc hR21 _) rfl (List.Perm.refl _) ?_))))))
   intro v26 G23 Ms25 hG23 q24
   refine match q24 with | ⟨⟨_, e_28, ⟨_, _, _, _, _, _, _, _, e_29, hp_hR27, hk_hR27, hm_hR27, hr_hR27, hok_hR27⟩⟩, eeq24⟩ => ?_
   subst e_28
   subst e_29
   have eeq24 := eeq24.symm
   subst eeq24
   refine W.mv (W.ok (ok_extract rfl rfl) (W.ok (ok_extract rfl rfl) (W.alloc zr47 (fun b30 => (W.store (i := 0) (vs := [.int .i64 _, .int .i64 _, .slice _ _ _, .slice _ _ _, .string _, .bool _, .int .i64 _, .int .i64 _, .slice _ _ _, .slice _ _ _]) (L' := [.int .i64 _, .int .i64 _, .slice _ _ _, .slice _ _ _, .string _, .bool _, .int .i64 _, .int .i64 _, .slice _ _ _, .slice _ _ _]) ty47 rfl rfl rfl rfl rfl rfl rfl rfl (W.as (W.nil (thn_n (WC.seq ?_)))))))))
   refine WC.region (W.ok (ok_build (L := [.int .i64 _, .int .i64 _, .int .i64 _, .int .i64 _, .int .i64 _]) pl23 zr23 rfl rfl rfl) (W.mv (W.call (Mp := []) (gload_fc (4) (2) (36) (2) (0) (hv2.mono ((hG3.trans hG17).trans hG23))) rfl (List.Perm.refl _) ?_)))
   intro v34 G31 Ms33 hG31 q32
   have q35 := or3 q32
   refine Or.elim q35 (fun q36 => ?_) (fun q37 => ?_)
   ·refine match q36 with | ⟨hnl, e_38, e_39⟩ => ?_
    subst e_38
    subst e_39
    exact absurd ⟨(by first | exact t.cfg | exact t2.cfg), t.pos, placed_of t.slot⟩ hnl
   ·refine Or.elim q37 (fun q40 => ?_) (fun q41 => ?_)
    ·refine match q40 with | ⟨hOK, hnle, e_42, e_43⟩ => ?_
     subst e_42
     subst e_43
     exact absurd (by first | exact t.q.1.2.2 | exact t2.q.1.2.2) hnle
    ·refine match q41 with | ⟨hOK2, hle2, bSt2, e_44, hS92⟩ => ?_
     subst e_44
     refine W.perm (pmC (List.Perm.refl _)).symm (W.mv (W.ok (ok_extract rfl rfl) (W.ok (ok_extract rfl rfl) (W.as (W.as (W.nil (thn_n (WC.seq ?_))))))))
     refine WC.region (W.mv (W.ok (ok_eql rfl rfl) (W.mv (W.yes (dj := 35) rfl rfl rfl (W.mv (W.yes (dj := 35) rfl rfl rfl (W.ok (ok_eql rfl rfl) ?_)))))))
     refine W.ok (ok_pick_t rfl rfl) (W.mv ?_)
     refine W.sp 39 rfl (fun h37 => ?_) (fun h37 => ?_)
     ·have p37 := of_decide_eq_true h37
      try dsimp only at p37
      refine W.yes (dj := 39) rfl rfl h37 (W.ok (ok_fieldB fd47_3 rfl) (W.yes (dj := 39) rfl rfl h37 (W.ok (ok_loadB (i := 0) (vs := [.slice _ _ _]) ty44 rfl rfl rfl rfl (by simp)) (W.yes (dj := 39) rfl rfl h37 (W.ok (ok_len sl44 (hk_hR27.mono hG31) rfl) (W.yes (dj := 39) rfl rfl h37 (W.ok (ok_eql rfl rfl) ?_)))))))
      refine W.ok (ok_pick_t rfl h37) (W.mv ?_)
      refine W.sp 45 rfl (fun h43 => ?_) (fun h43 => ?_)
      ·have p43 := of_decide_eq_true h43
       try dsimp only at p43
       refine W.yes (dj := 45) rfl rfl h43 (W.ok (ok_fieldB fd47_3 rfl) (W.yes (dj := 45) rfl rfl h43 (W.ok (ok_loadB (i := 0) (vs := [.slice _ _ _]) ty44 rfl rfl rfl rfl (by simp)) (W.yes (dj := 45) rfl rfl h43 ?_))))
       have q48 := (hk_hR27.mono hG31).at (i := 0) (by omega)
       refine match q48 with | ⟨_, he45, ⟨e_47, hi46⟩⟩ => ?_
       subst e_47
       refine W.ok (ok_indexAddr (i := 0) sl44 ty3 (hk_hR27.mono hG31) rfl rfl ⟨by omega, by omega⟩) (W.yes (dj := 45) rfl rfl h43 (W.ok (ok_loadE (vs := [.int .i64 _]) ty3 he45 rfl rfl rfl (by simp)) (W.yes (dj := 45) rfl rfl h43 (W.ok (ok_eql rfl rfl) (W.ok (ok_pick_t rfl h43) (W.mv ?_))))))
       refine W.sp 52 rfl (fun h50 => ?_) (fun h50 => ?_)
       ·have p50 := of_decide_eq_true h50
        try dsimp only at p50
        refine W.yes (dj := 52) rfl rfl h50 (W.ok (ok_fieldB fd47_3 rfl) (W.yes (dj := 52) rfl rfl h50 (W.ok (ok_loadB (i := 0) (vs := [.slice _ _ _]) ty44 rfl rfl rfl rfl (by simp)) (W.yes (dj := 52) rfl rfl h50 ?_))))
        have q52 := (hk_hR27.mono hG31).at (i := 1) (by omega)
        refine match q52 with | ⟨_, he49, ⟨e_51, hi50⟩⟩ => ?_
        subst e_51
        refine W.ok (ok_indexAddr (i := 1) sl44 ty3 (hk_hR27.mono hG31) rfl rfl ⟨by omega, by omega⟩) (W.yes (dj := 52) rfl rfl h50 (W.ok (ok_loadE (vs := [.int .i64 _]) ty3 he49 rfl rfl rfl (by simp)) (W.yes (dj := 52) rfl rfl h50 (W.ok (ok_eql rfl rfl) (W.ok (ok_pick_t rfl h50) (W.mv ?_))))))
        refine W.sp 59 rfl (fun h57 => ?_) (fun h57 => ?_)
        ·have p57 := of_decide_eq_true h57
         try dsimp only at p57
         refine W.yes (dj := 59) rfl rfl h57 (W.mv (W.yes (dj := 59) rfl rfl h57 (W.call (Mp := Ms33) (glift_fc hS92 t2) rfl (pmC (List.Perm.refl _)) ?_)))
         intro v56 G53 Ms55 hG53 q54
         refine match q54 with | ⟨e_58, hR57⟩ => ?_
         subst e_58
         refine W.perm (pmC (List.Perm.refl _)).symm (W.yes (dj := 59) rfl rfl h57 (W.ok (ok_eql rfl rfl) (W.ok (ok_pick_t rfl h57) (W.mv ?_))))
         refine W.sp 64 rfl (fun h62 => ?_) (fun h62 => ?_)
         ·have p62 := of_decide_eq_true h62
          try dsimp only at p62
          refine W.yes (dj := 64) rfl rfl h62 (W.mv (W.yes (dj := 64) rfl rfl h62 (W.call (Mp := Ms19) (pused_fc (StR.mono ((hG23.trans hG31).trans hG53) hR21)) rfl (pmC (pmA (List.Perm.refl _))) ?_)))
          intro v62 G59 Ms61 hG59 q60
          refine match q60 with | ⟨e_64, eeq60⟩ => ?_
          subst e_64
          have eeq60 := eeq60.symm
          subst eeq60
          refine W.perm (pmC (List.Perm.refl _)).symm (W.yes (dj := 64) rfl rfl h62 (W.ok (ok_eql rfl rfl) (W.ok (ok_pick_t rfl h62) (W.as (W.nil (thn_n (WC.ret ?_)))))))
          refine ⟨.inr rfl, [_], ⟨rfl, trivial⟩, [], List.nil_sublist _, ?_⟩
          rfl
         ·have p62 := of_decide_eq_false h62
          try dsimp only at p62
          rw [lx26] at p62; exact absurd rfl p62
        ·have p57 := of_decide_eq_false h57
         try dsimp only at p57
         exact absurd (List.getElem_of_eq kids26 _) p57
       ·have p50 := of_decide_eq_false h50
        try dsimp only at p50
        exact absurd (List.getElem_of_eq kids26 _) p50
      ·have p43 := of_decide_eq_false h43
       try dsimp only at p43
       rw [kids26] at p43; exact absurd rfl p43
     ·have p37 := of_decide_eq_false h37
      try dsimp only at p37
      rw [lw26] at p37; exact absurd rfl p37

end Go.Proofs.YtebkfinhhpelbaaGreat
