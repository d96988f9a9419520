/- The example of chapter 29 is walked. -/
import Derived.Test.YtebkfinhhpelbaaGreatQvUh
namespace Go.Proofs.YtebkfinhhpelbaaGreat
open Go Go.Fw Go.RowKit
set_option maxRecDepth 100000
set_option maxHeartbeats 1600000
set_option linter.unusedVariables false
set_option linter.unusedSimpArgs false
set_option linter.unnecessarySimpa false
def S_97 : Str := ⟨⟨#[97]⟩, by decide⟩
def S_98 : Str := ⟨⟨#[98]⟩, by decide⟩
def S_99 : Str := ⟨⟨#[99]⟩, by decide⟩
theorem lt_one {a b : UInt8} (h : (a < b) = true) : Str.lt ⟨⟨#[a]⟩, by show 1 ≤ 140737488355328; omega⟩ ⟨⟨#[b]⟩, by show 1 ≤ 140737488355328; omega⟩ = true := by
  show blt _ _ = true
  unfold blt
  rw [ByteArray.toList_eq, ByteArray.toList_eq]
  show Op.bytesLess [a] [b] = true
  simp [Op.bytesLess]
  simpa using h
theorem l97_98 : S_97.lt S_98 = true := lt_one (by decide)
theorem l98_99 : S_98.lt S_99 = true := lt_one (by decide)
def aw29 : Nd := ⟨0, 0, [], [], Str.nil, true, -1, 0, [], [⟨S_97, Str.nil⟩, ⟨S_98, Str.nil⟩, ⟨S_99, Str.nil⟩]⟩
theorem aw29_ok : aw29.Ok := ⟨⟨by decide, by decide⟩, ⟨by decide, by decide⟩, ⟨by decide, by decide⟩, ⟨by decide, by decide⟩⟩
theorem aw29_P : PairsR aw29.rows := by
  refine pairsR_iff.2 ⟨fun p hp => ?_, ?_⟩
  · have hp : p ∈ [(⟨S_97, Str.nil⟩ : Pair), ⟨S_98, Str.nil⟩, ⟨S_99, Str.nil⟩] := hp
    simp at hp
    rcases hp with rfl | rfl | rfl <;> exact ⟨by decide, by decide⟩
  · show Srt [(⟨S_97, Str.nil⟩ : Pair), ⟨S_98, Str.nil⟩, ⟨S_99, Str.nil⟩]
    simp [Srt, l97_98, l98_99, Str.lt_trans l97_98 l98_99]
theorem aw29_t : Tree (⟨4, 3, 36, 3, 0⟩ : Cfg) [aw29] [oneS aw29] := tree_one (by decide) rfl rfl (by decide) ⟨⟨by decide, by decide, by decide⟩, fun _ => ⟨rfl, rfl⟩, (fun h => by cases h), (by rw [if_pos (show aw29.level = 0 from rfl)]; exact ⟨rfl, by decide, aw29_P, fun i h => rfl⟩)⟩ rfl (by
  refine ⟨by decide, by decide, by decide, by decide, by decide, (fun m hm => by cases hm), (fun m hm => by cases hm), fun p hp => ?_⟩
  have := (pairsR_iff.1 aw29_P).1 p hp
  exact ⟨by have := this.1; omega, by have := this.2; omega⟩)
theorem aw29_s : scanN (mapN [aw29]) ⟨S_98, Str.nil, true⟩ 5 = [⟨S_98, Str.nil⟩, ⟨S_99, Str.nil⟩] := by
  rw [map_one rfl rfl (by decide)]
  show (List.filter _ [(⟨S_97, Str.nil⟩ : Pair), ⟨S_98, Str.nil⟩, ⟨S_99, Str.nil⟩]).take 5 = _
  simp [Span.has, l97_98, Str.lt_irrefl, Str.lt_asymm l98_99]
theorem awk29_fc {G : GH}  :
    Fc Tryz.prog 48 [] G [] (fun v _ _ => v = .bool (true)) := by
 refine Fc.intro (rs := [.tmp 0]) cl48 Tryz.func48 rfl Tryz.ntmps48 rfl rfl (fun w0 => ?_)
 refine WC.seq (WC.region (W.as (W.nil (thn_n (WC.seq ?_)))))
 have t := aw29_t
 refine WC.region (W.ok (ok_build (L := [.int .i64 _, .int .i64 _, .int .i64 _, .int .i64 _, .int .i64 _]) pl23 zr23 rfl rfl rfl) (W.ok (ok_build (L := [.string _, .string _]) pl69 zr69 rfl rfl rfl) (W.ok (ok_build (L := [.string _, .string _]) pl69 zr69 rfl rfl rfl) (W.ok (ok_build (L := [.string _, .string _]) pl69 zr69 rfl rfl rfl) (W.lit (e := ePair) (l := [⟨S_97, Str.nil⟩, ⟨S_98, Str.nil⟩, ⟨S_99, Str.nil⟩]) (css := [[.string _, .string _], [.string _, .string _], [.string _, .string _]]) sl41 ty69 zr69 rfl rfl rfl rfl rfl rfl ⟨rfl, rfl, rfl, trivial⟩ (fun bl1 G1 hG1 hv1 => (W.ok (ok_build (L := [.int .i64 _, .int .i64 _, .slice _ _ _, .slice _ _ _, .string _, .bool _, .int .i64 _, .int .i64 _, .slice _ _ _, .slice _ _ _]) pl47 zr47 rfl rfl rfl) (W.lit (e := eNode) (l := [aw29]) (css := [[.int .i64 _, .int .i64 _, .slice _ _ _, .slice _ _ _, .string _, .bool _, .int .i64 _, .int .i64 _, .slice _ _ _, .slice _ _ _]]) sl24 ty47 zr47 rfl rfl rfl rfl rfl rfl ⟨⟨_, _, _, _, _, _, _, _, rfl, SlR.nil, SlR.nil, SlR.nil, hv1, aw29_ok⟩, trivial⟩ (fun bl2 G2 hG2 hv2 => ?_)))))))))
 refine W.call (Mp := []) (gload_fc (4) (3) (36) (3) (0) hv2) rfl (List.Perm.refl _) ?_
 intro v6 G3 Ms5 hG3 q4
 have q7 := or3 q4
 refine Or.elim q7 (fun q8 => ?_) (fun q9 => ?_)
 ·refine match q8 with | ⟨hnl, e_10, e_11⟩ => ?_
  subst e_10
  subst e_11
  exact absurd ⟨t.cfg, t.pos, placed_of t.slot⟩ hnl
 ·refine Or.elim q9 (fun q12 => ?_) (fun q13 => ?_)
  ·refine match q12 with | ⟨hOK, hnle, e_14, e_15⟩ => ?_
   subst e_14
   subst e_15
   exact absurd t.q.1.2.2 hnle
  ·refine match q13 with | ⟨hOK, hle, bSt, e_16, hS9⟩ => ?_
   subst e_16
   refine W.mv (W.ok (ok_extract rfl rfl) (W.ok (ok_extract rfl rfl) (W.as (W.as (W.nil (thn_n (WC.seq (WC.region ?_))))))))
   refine W.mv (W.ok (ok_build (L := [.string _, .string _, .bool _]) pl52 zr52 rfl rfl rfl) (W.call (Mp := Ms5) (scan_fc hS9 t S_98 Str.nil true 5 ⟨by decide, by decide⟩ ⟨by decide, by decide⟩) rfl (List.Perm.refl _) ?_))
   intro v21 G18 Ms20 hG18 q19
   refine match q19 with | ⟨eeq19, _, e_23, hv17⟩ => ?_
   subst e_23
   have eeq19 := eeq19.symm
   subst eeq19
   have hv24 := SlR.cast hv17 (l' := [⟨S_98, Str.nil⟩, ⟨S_99, Str.nil⟩]) (aw29_s)
   have q26 := hv24.form
   refine match q26 with | ⟨sa_hv24, sc_hv24, e_25⟩ => ?_
   subst e_25
   refine W.as (W.nil (thn_n (WC.seq (WC.region (W.mv (W.ok (ok_eql rfl rfl) (W.mv (W.yes (dj := 20) rfl rfl rfl ?_))))))))
   refine W.mv (W.yes (dj := 20) rfl rfl rfl (W.ok (ok_len sl41 hv24 rfl) (W.yes (dj := 20) rfl rfl rfl (W.ok (ok_eql rfl rfl) (W.ok (ok_pick_t rfl rfl) (W.mv ?_))))))
   refine W.sp 25 rfl (fun h23 => ?_) (fun h23 => ?_)
   ·have p23 := of_decide_eq_true h23
    try dsimp only at p23
    refine W.yes (dj := 25) rfl rfl h23 (W.mv (W.yes (dj := 25) rfl rfl h23 ?_))
    have q29 := hv24.at (i := 0) (by omega)
    refine match q29 with | ⟨_, he27, e_28⟩ => ?_
    subst e_28
    refine W.ok (ok_indexAddr (i := 0) sl41 ty69 hv24 rfl rfl ⟨by omega, by omega⟩) (W.yes (dj := 25) rfl rfl h23 (W.ok (ok_fieldE fd69_0 rfl he27.form) (W.yes (dj := 25) rfl rfl h23 (W.ok (ok_loadE (vs := [.string _]) ty9 he27 rfl rfl rfl (by simp)) (W.yes (dj := 25) rfl rfl h23 (W.ok (ok_eqlS rfl rfl) (W.ok (ok_pick_t rfl h23) ?_)))))))
    refine W.mv ?_
    refine W.sp 32 rfl (fun h30 => ?_) (fun h30 => ?_)
    ·have p30 := of_decide_eq_true h30
     try dsimp only at p30
     refine W.yes (dj := 32) rfl rfl h30 (W.mv (W.yes (dj := 32) rfl rfl h30 ?_))
     have q32 := hv24.at (i := 1) (by omega)
     refine match q32 with | ⟨_, he30, e_31⟩ => ?_
     subst e_31
     refine W.ok (ok_indexAddr (i := 1) sl41 ty69 hv24 rfl rfl ⟨by omega, by omega⟩) (W.yes (dj := 32) rfl rfl h30 (W.ok (ok_fieldE fd69_0 rfl he30.form) (W.yes (dj := 32) rfl rfl h30 (W.ok (ok_loadE (vs := [.string _]) ty9 he30 rfl rfl rfl (by simp)) (W.yes (dj := 32) rfl rfl h30 (W.ok (ok_eqlS rfl rfl) (W.ok (ok_pick_t rfl h30) ?_)))))))
     refine W.as (W.nil (thn_n (WC.ret ?_)))
     refine ⟨.inr rfl, [_], ⟨rfl, trivial⟩, [], List.nil_sublist _, ?_⟩
     rfl
    ·have p30 := of_decide_eq_false h30
     try dsimp only at p30
     exact absurd rfl p30
   ·have p23 := of_decide_eq_false h23
    try dsimp only at p23
    exact absurd rfl p23

end Go.Proofs.YtebkfinhhpelbaaGreat
