/- The walk of a cycle, by definition. -/
import Derived.Test.YtfmigmijckdldaaGreatQgUu
set_option maxRecDepth 100000
set_option maxHeartbeats 1600000
set_option linter.unusedVariables false
set_option linter.unusedSimpArgs false
set_option linter.unnecessarySimpa false
namespace Go.Proofs.YtfmigmijckdldaaGreat
open Go Go.Fw Go.RowKit
attribute [local irreducible] Ok W WC
theorem rstep_o {G : GH} {b : Nat} {c : Cfg} {l : List Nd} {ss : List Seat} {M : MH} (h : RfR 53 39 b c G l M) (t : Tree c l ss) (a : Int) (k : Str) (ha : 0 ≤ a ∧ a < (l.length : Int)) : Fc Tryz.prog 12 [pt9 b, iV a, sV k.b] G M (fun v G' M' => v = .tuple #[iV (stepN c l a k).1.1, iV (stepN c l a k).1.2.1, iV (stepN c l a k).1.2.2] ∧ RfR 53 39 b c G' (stepN c l a k).2 M') := by
  obtain ⟨v, Mo, rfl, ho⟩ := h
  exact rstep_fc ho a k ss t ha
theorem rcycle_fc {G : GH} {b_s : Nat} {c : Cfg} {l : List Nd} {ss : List Seat} {Ms_s : MH} (h_s : RfR 53 39 b_s c G l Ms_s) (t : Tree c l ss) (k : Str) (mo : Int) (N : Nat) (r : Int × Int × List Nd) (hr : cycF c k N l 0 0 = some r) (hN : (N : Int) ≤ mo ∧ mo ≤ 1000000) :
    Fc Tryz.prog 20 [pt9 b_s, sV k.b, iV mo] G Ms_s (fun v G' M' => v = .tuple #[iV r.1, iV r.2.1] ∧ RfR 53 39 b_s c G' r.2.2 M') := by
 have htp := t.pos
 obtain ⟨hN1, hN2⟩ := hN
 refine Fc.go [.tmp 6, .tmp 7] Tryz.func20 Tryz.ntmps20 rfl (fun w0 => (WC.perm (M' := (Ms_s ++ [])) (by simp) (g9 19 ?_)))
 refine WC.loop (X := (Nat × List Nd × Int × Int × Int) × MH) (fun x => [(8, iV x.1.2.2.1), (9, iV x.1.2.2.2.1), (10, iV x.1.2.2.2.2), (1, sV k.b), (2, iV mo), (0, pt9 b_s)]) (fun x G Ml => Ml = (x.2 ++ []) ∧ RfR 53 39 b_s c G (x.1.2.1) x.2 ∧ cycF c k x.1.1 x.1.2.1 x.1.2.2.1 x.1.2.2.2.1 = some r ∧ (∃ T, Tree c x.1.2.1 T) ∧ (0 ≤ x.1.2.2.1 ∧ x.1.2.2.1 < (x.1.2.1.length : Int)) ∧ 0 ≤ x.1.2.2.2.1 ∧ x.1.2.2.2.1 + (x.1.1 : Int) ≤ 1000000 ∧ (0 ≤ x.1.2.2.2.2 ∧ x.1.2.2.2.2 + (x.1.1 : Int) = N)) (fun x => x.1.1) (((N, l, 0, 0, 0) : Nat × List Nd × Int × Int × Int), Ms_s) hs9 ?_ ?_
 ·exact ⟨rfl, (by exact h_s), hr, ⟨ss, t⟩, ⟨by dsimp only; omega, by dsimp only; omega⟩, by dsimp only; omega, by dsimp only; omega, ⟨by dsimp only; omega, by dsimp only; omega⟩⟩
 rintro ⟨⟨m, L, a, n, i⟩, M_0⟩ gG1 G1 _ hG1 ⟨rfl, ho_0, hcy, hTr, haL, hn0, hnm, hni⟩
 try dsimp only at ho_0 hcy hTr haL hn0 hnm hni
 obtain ⟨T8, t9⟩ := hTr
 have hm1 : 0 < m := by
   rcases Nat.eq_zero_or_pos m with h | h
   · rw [h] at hcy; cases hcy
   exact h
 rw [show m = m - 1 + 1 by omega] at hcy
 have hnx := step_next t9 haL k
 obtain ⟨T9, hT9, hmp9⟩ := step_tree t9 haL k
 refine WC.fr (f := setL gG1 [(8, iV a), (9, iV n), (10, iV i), (1, sV k.b), (2, iV mo), (0, pt9 b_s)]) rfl (g9 8 ?_)
 refine WC.cd (fun h16 p16 => ?_) (fun h16 p16 => ?_)
 ·try dsimp only at p16
  refine g9 9 ?_
  refine W.call (Mp := M_0) (rstep_o ho_0 t9 a k haL) rfl pr9 ?_
  intro v5 G2 Ms4 hG2 q3
  refine match q3 with | ⟨e_7, hR6⟩ => ?_
  subst e_7
  refine g9 16 ?_
  refine WC.cd (fun h28 p28 => ?_) (fun h28 p28 => ?_)
  ·try dsimp only at p28
   refine g9 15 ?_
   refine ⟨.inr rfl, [_, _], ⟨rfl, rfl, trivial⟩, Ms4, List.sublist_append_left _ _, ?_⟩
   have hE := Option.some.inj ((cyc_end p28).symm.trans hcy)
   exact ⟨congrArg (fun q : Int × Int × List Nd => Value.tuple #[iV q.1, iV q.2.1]) hE, RfR.to hR6 (congrArg (fun q : Int × Int × List Nd => q.2.2) hE)⟩
  try dsimp only at p28
  refine g9 9 ?_
  refine WC.cn (fun h32 p32 => ?_) (fun h32 p32 => ?_)
  ·try dsimp only at p32
   refine g9 18 ?_
   exact ⟨hG2, (((m - 1, (stepN c L a k).2, (stepN c L a k).1.2.1, n + 1, i + 1) : Nat × List Nd × Int × Int × Int), Ms4), hs9, ⟨rfl, (by exact hR6), (cyc_did p28 p32).symm.trans hcy, ⟨_, hT9⟩, hnx, by dsimp only; omega, by dsimp only; omega, by dsimp only; omega⟩, by dsimp only; omega⟩
  try dsimp only at p32
  refine g9 14 ?_
  exact ⟨hG2, (((m - 1, (stepN c L a k).2, (stepN c L a k).1.2.1, n, i + 1) : Nat × List Nd × Int × Int × Int), Ms4), hs9, ⟨rfl, (by exact hR6), (cyc_down p32).symm.trans hcy, ⟨_, hT9⟩, hnx, by dsimp only; omega, by dsimp only; omega, by dsimp only; omega⟩, by dsimp only; omega⟩
 try dsimp only at p16
 exfalso; omega

theorem leaf_nil {G : GH}  (k : Str) :
    Fc Tryz.prog 43 [.pointer none, sV k.b] G [] (fun v G' M' => M' = [] ∧ ∃ u0, v = .tuple #[.agg (List.toArray u0), .agg (List.toArray (Span.zero.cells)), .bool (false)] ∧ NodeC G' u0 (Nd.zero)) := by
 refine Fc.go [.cell 4 53, .cell 5 55, .tmp 6] Tryz.func43 Tryz.ntmps43 rfl (fun w0 => (g9 2 ?_))
 refine W.alloc zr53 (fun b1 => (W.alloc zr55 (fun b2 => (g9 7 ?_))))
 refine W.call (Mp := []) (way_nil _) rfl pr9 ?_
 intro _ G3 _ hG3 q6
 refine match q6 with | ⟨e_7, _, _, e_8, hv4, hv5⟩ => ?_
 subst e_7
 subst e_8
 have q10 := hv4.form
 refine match q10 with | ⟨sa_hv4, sc_hv4, e_9⟩ => ?_
 subst e_9
 have q12 := hv5.form
 refine match q12 with | ⟨sa_hv5, sc_hv5, e_11⟩ => ?_
 subst e_11
 refine g9 15 ?_
 refine WC.cd (fun h17 p17 => ?_) (fun h17 p17 => ?_)
 ·refine g9 2 ?_
  refine W.ok (ok_build (L := [iV _, iV _, lV _ _ _, lV _ _ _, sV _, .bool _, iV _, iV _, lV _ _ _, lV _ _ _]) pl53 zr53 rfl rfl rfl) (W.ok (ok_build (L := [sV _, sV _, .bool _]) pl55 zr55 rfl rfl rfl) (g9 8 ?_))
  exact ⟨rfl, _, rfl, _, _, _, _, _, _, _, _, rfl, SlR.nil, SlR.nil, SlR.nil, SlR.nil, Nd.zero_ok⟩
 exact absurd rfl p17

theorem leaf_fc {G : GH} {b_s : Nat} {c c2 : Cfg} {l : List Nd} {ss : List Seat} {Ms_s : MH} (h_s : StR 53 4 3 125 78 b_s c G l Ms_s) (t : Tree c2 l ss) (k : Str) :
    Fc Tryz.prog 43 [pt9 b_s, sV k.b] G Ms_s (fun v G' M' => M' = Ms_s ∧ ∃ u0, v = .tuple #[.agg (List.toArray u0), .agg (List.toArray ((leafS l k).s.cells)), .bool (true)] ∧ NodeC G' u0 ((leafS l k).n)) := by
 have hwp := t.way_pos k
 have hwl := t.way_len k
 have hwn : ((wayN l k).map fun y : Seat => y.n).length = (wayN l k).length := List.length_map ..
 have hws : ((wayN l k).map fun y : Seat => y.s).length = (wayN l k).length := List.length_map ..
 refine Fc.go [.cell 4 53, .cell 5 55, .tmp 6] Tryz.func43 Tryz.ntmps43 rfl (fun w0 => (WC.perm (M' := (Ms_s ++ [])) (by simp) (g9 2 ?_)))
 refine W.alloc zr53 (fun b13 => (W.alloc zr55 (fun b14 => (g9 7 ?_))))
 refine W.call (Mp := Ms_s) (way_fc h_s t _) rfl (pmC (pmC pr9)) ?_
 intro v20 G17 Ms19 hG17 q18
 refine match q18 with | ⟨eeq18, _, _, e_22, hv15, hv16⟩ => ?_
 subst e_22
 have eeq18 := eeq18.symm
 subst eeq18
 refine W.perm (pmC (pmC pr9)).symm ?_
 have q24 := hv15.form
 refine match q24 with | ⟨sa_hv15, sc_hv15, e_23⟩ => ?_
 subst e_23
 have q26 := hv16.form
 refine match q26 with | ⟨sa_hv16, sc_hv16, e_25⟩ => ?_
 subst e_25
 refine g9 15 ?_
 refine WC.cd (fun h17 p17 => ?_) (fun h17 p17 => ?_)
 ·exfalso; omega
 refine g9 3 ?_
 refine WC.dw ((sr9.cons _).cons _) (d9 [0, 1, 2, 3] ?_)
 refine hv15.aN (i := ((wayN l k).length - 1)) om9 (fun _ _ _ _ _ _ _ _ he27 hp_n28 hk_n28 hm_n28 hr_n28 hok_n28 => (WD.tk 4 rfl (ok_indexAddr (i := ((wayN l k).length - 1)) sl24 ty53 hv15 rfl rfl ⟨om9, om9⟩) (d9 [5, 6, 7, 8, 9] ?_)))
 refine hv16.a1 (i := ((wayN l k).length - 1)) om9 (fun he31 => (WD.tk 10 rfl (ok_indexAddr (i := ((wayN l k).length - 1)) sl136 ty55 hv16 rfl rfl ⟨om9, om9⟩) (d9 [11, 12, 13, 14] ?_)))
 refine g9 3 ?_
 refine ⟨.inr rfl, [_, _, _], ⟨⟨_, _, _, _, _, rfl, nthM_mem (i := 1) rfl, ty53, (by simp), rfl, rfl⟩, ⟨_, _, _, _, _, rfl, nthM_mem (i := 0) rfl, ty55, (by simp), rfl, rfl⟩, rfl, trivial⟩, Ms_s, ((List.sublist_append_left _ _).cons _).cons _, ?_⟩
 exact ⟨rfl, _, congrArg (fun s : Span => Value.tuple #[.agg (List.toArray _), .agg (List.toArray s.cells), .bool true]) (t.last_s k om9 om9), NodeC.of (nk9 hp_n28 hk_n28 hm_n28 hr_n28 hok_n28) (t.last_n k om9 om9)⟩

theorem fnext_nil {G : GH}  (k : Str) :
    Fc Tryz.prog 16 [.pointer none, sV k.b] G [] (fun v _ _ => v = sV (Str.b (Str.nil))) := by
 refine Fc.go [.tmp 4] Tryz.func16 Tryz.ntmps16 rfl (fun w0 => (g9 9 ?_))
 refine W.cN (leaf_nil _) rfl (fun _ _ _ _ _ _ _ _ G1 hG1 hp_hv2 hk_hv2 hm_hv2 hr_hv2 hok_hv2 => (g9 4 ?_))
 refine W.alloc zr53 (fun b7 => (W.alloc zr55 (fun b8 => (g9 12 ?_))))
 refine WC.cond rfl (fun h11_1_2 => ?_) (fun h11_1_2 => ?_)
 ·refine g9 8 ?_
  rfl
 refine g9 11 ?_
 rfl

theorem fnext_fc {G : GH} {b_s : Nat} {c c2 : Cfg} {l : List Nd} {ss : List Seat} {Ms_s : MH} (h_s : StR 53 4 3 125 78 b_s c G l Ms_s) (t : Tree c2 l ss) (k : Str) :
    Fc Tryz.prog 16 [pt9 b_s, sV k.b] G Ms_s (fun v G' M' => M' = Ms_s ∧ v = sV (Str.b ((if (leafS l k).s.opn = true then Str.nil else (leafS l k).s.hi)))) := by
 refine Fc.go [.tmp 4] Tryz.func16 Tryz.ntmps16 rfl (fun w0 => (WC.perm (M' := (Ms_s ++ [])) (by simp) (g9 9 ?_)))
 refine W.call (Mp := Ms_s) (leaf_fc h_s t _) rfl pr9 ?_
 intro v13 G10 Ms12 hG10 q11
 refine match q11 with | ⟨eeq11, _, e_15, hv9⟩ => ?_
 subst e_15
 have eeq11 := eeq11.symm
 subst eeq11
 refine match hv9 with | ⟨_, _, _, _, _, _, _, _, e_16, hp_hv9, hk_hv9, hm_hv9, hr_hv9, hok_hv9⟩ => ?_
 subst e_16
 refine g9 4 ?_
 refine W.alloc zr53 (fun b17 => (W.alloc zr55 (fun b18 => (g9 12 ?_))))
 refine WC.cond rfl (fun h11_1_2 => ?_) (fun h11_1_2 => ?_)
 ·refine g9 7 ?_
  refine ⟨.inr rfl, [_], ⟨rfl, trivial⟩, Ms_s, ((List.sublist_append_left _ _).cons _).cons _, ?_⟩
  exact ⟨rfl, congrArg (fun s : Str => Value.string s.b) (if_pos h11_1_2 : (if (leafS l k).s.opn = true then Str.nil else (leafS l k).s.hi) = Str.nil).symm⟩
 refine g9 10 ?_
 refine ⟨.inr rfl, [_], ⟨rfl, trivial⟩, Ms_s, ((List.sublist_append_left _ _).cons _).cons _, ?_⟩
 exact ⟨rfl, congrArg (fun s : Str => Value.string s.b) (if_neg (by rw [h11_1_2]; simp) : (if (leafS l k).s.opn = true then Str.nil else (leafS l k).s.hi) = (leafS l k).s.hi).symm⟩

def S_109 : Str := ⟨⟨#[109]⟩, by decide⟩
def S_122 : Str := ⟨⟨#[122]⟩, by decide⟩
theorem cf31 : CfgR (⟨4, 2, 36, 3, 0⟩ : Cfg) := ⟨⟨by simp, by simp⟩, ⟨by simp, by simp⟩, ⟨by simp, by simp⟩, ⟨by simp, by simp⟩, by simp, by simp⟩
theorem t31 : Tree (⟨4, 2, 36, 3, 0⟩ : Cfg) [leafN 0] [oneS (leafN 0)] := tree_one cf31 rfl rfl (by decide) ⟨⟨by decide, by decide, by decide⟩, fun _ => ⟨rfl, rfl⟩, (fun h => by cases h), (by rw [if_pos (show (leafN 0).level = 0 from rfl)]; exact ⟨rfl, (by decide : ((0 : Nat) : Int) ≤ 2), pairsR_iff.2 ⟨(fun p hp => by cases hp), (by show Srt ([] : List Pair); simp [Srt])⟩, fun i h => rfl⟩)⟩ rfl (by
  refine ⟨by decide, by decide, by decide, by decide, by decide, (fun m hm => by cases hm), (fun m hm => by cases hm), fun p hp => by cases hp⟩)
theorem cyc31 : cycF (⟨4, 2, 36, 3, 0⟩ : Cfg) Str.nil 1 [leafN 0] 0 0 = some (0, 0, [leafN 0]) := by
  have h : stepN (⟨4, 2, 36, 3, 0⟩ : Cfg) [leafN 0] 0 Str.nil = ((0, 0, 0), [leafN 0]) := step_0 (by rw [choose_0 rfl])
  rw [cyc_end (by rw [h]), h]
def aw31 : Nd := { Nd.zero with level := 1, pivots := [S_109], kids := [1, 2] }
theorem aw31_ok : aw31.Ok := ⟨⟨by decide, by decide⟩, ⟨by decide, by decide⟩, ⟨by decide, by decide⟩, ⟨by decide, by decide⟩⟩
theorem cp31 : ChoosePre aw31 := fun _ => ⟨by decide, (fun m hm => by cases hm), by decide, by decide⟩
theorem awk31_fc {G : GH}  :
    Fc Tryz.prog 6 [] G [] (fun v _ _ => v = .bool (true)) := by
 refine Fc.go [.tmp 0] Tryz.func6 Tryz.ntmps6 rfl (fun w0 => (g9 7 ?_))
 refine W.ok (ok_build (L := [iV _, iV _, iV _, iV _, iV _]) pl23 zr23 rfl rfl rfl) (W.call (Mp := []) (stnew_fc (4) (2) (36) (3) (0)) rfl pr9 ?_)
 intro v4 G1 Ms3 hG1 q2
 refine Or.elim q2 (fun q5 => ?_) (fun q6 => ?_)
 ·refine match q5 with | ⟨hnc, e_7, e_8⟩ => ?_
  subst e_7
  subst e_8
  exact absurd (cf31) hnc
 refine match q6 with | ⟨hC, bSt, e_9, hS9⟩ => ?_
 subst e_9
 refine g9 10 ?_
 refine W.call (Mp := Ms3) (fcycle_fc hS9 t31 Str.nil rfl 1 _ cyc31 om9) rfl pr9 ?_
 intro v13 G10 Ms12 hG10 q11
 refine match q11 with | ⟨e_15, hR14⟩ => ?_
 subst e_15
 refine g9 10 ?_
 refine W.call (Mp := Ms12) (pconfig_fc hR14) rfl pr9 ?_
 intro v19 G16 Ms18 hG16 q17
 refine match q17 with | ⟨e_21, eeq17⟩ => ?_
 subst e_21
 have eeq17 := eeq17.symm
 subst eeq17
 refine W.lit (e := eInt) (l := [_, _]) (css := [[iV _], [iV _]]) sl50 ty3 zr3 rfl rfl rfl rfl rfl rfl ⟨⟨rfl, om9, om9⟩, ⟨rfl, om9, om9⟩, trivial⟩ (fun bl22 G22 hG22 hv22 => (W.lit (e := eStr) (l := [S_109]) (css := [[sV _]]) sl49 ty9 zr9 rfl rfl rfl rfl rfl rfl ⟨rfl, trivial⟩ (fun bl23 G23 hG23 hv23 => (W.ok (ok_build (L := [iV _, iV _, lV _ _ _, lV _ _ _, sV _, .bool _, iV _, iV _, lV _ _ _, lV _ _ _]) pl53 zr53 rfl rfl rfl) (W.qcall (fchoose_fc 4 2 36 3 0 (n := aw31) ⟨_, _, _, _, _, _, _, _, rfl, hv23, (hv22.mono hG23), SlR.nil, SlR.nil, aw31_ok⟩ S_122 cp31) rfl (g9 34 ?_))))))
 rfl

end Go.Proofs.YtfmigmijckdldaaGreat

namespace Go.Fw
open Go Go.RowKit
def wtM (fan : Nat) (P : List Str) (m : Msg) : Nat := if m.kind = 4 then fan - routeN P m.key else 1
def wtS (fan : Nat) (P : List Str) (l : List Msg) : Nat := (l.map (wtM fan P)).sum
def wtN (c : Cfg) (n : Nd) : Nat := wtS c.fan.toNat n.pivots n.msgs + (c.fan.toNat - n.kids.length)
theorem wtS_size {fan : Nat} (hf : fan ≤ 64) (P : List Str) : ∀ l : List Msg, (wtS fan P l : Int) ≤ 2 * sizesN l
 | [] => by simp [wtS, sizesN]
 | m :: l => by
  have ih := wtS_size hf P l
  have h1 : (wtM fan P m : Int) ≤ 2 * m.size := by
   unfold wtM Msg.size
   split
   ·omega
   ·omega
  simp only [wtS, sizesN, List.map_cons, List.sum_cons] at ih ⊢
  omega
theorem wtN_le {c : Cfg} {n : Nd} (hc : CfgR c) (h : n.innerR c.fan c.bud) : wtN c n ≤ 8256 := by
 obtain ⟨⟨f1, f2⟩, _, ⟨b1, b2⟩, _⟩ := hc
 have h1 := wtS_size (fan := c.fan.toNat) om9 n.pivots n.msgs
 have h2 := h.2.2.2.1
 unfold wtN
 omega
theorem wtM_pos {fan : Nat} {P : List Str} {m : Msg} (h : routeN P m.key < fan) : 1 ≤ wtM fan P m := by
 unfold wtM; split <;> omega
theorem norm_lo {s : Span} (h : ¬ s.norm.empty = true) : s.norm.lo = s.lo := by
 unfold Span.norm at h ⊢
 split
 ·rename_i h2
  rw [if_pos h2] at h
  exact absurd (by simp [Span.empty, Span.zero, Str.lt_irrefl]) h
 ·split <;> rfl
theorem clip_key {m : Msg} {s : Span} (h4 : m.kind = 4) (h : (m.clip s).2 = true) : (m.clip s).1.kind = 4 ∧ (m.clip s).1.key = if m.key.lt s.lo = true then s.lo else m.key := by
 unfold Msg.clip at h ⊢
 split at h
 ·cases h
 ·rename_i h2
  rw [if_neg h2, if_pos h4]
  refine ⟨h4, ?_⟩
  dsimp only
  have hs : m.span = ⟨m.key, m.hi, m.opn⟩ := if_pos h4
  rw [hs] at h2 ⊢
  unfold Span.meet at h2 ⊢
  rw [norm_lo h2]
theorem left_kind {P : List Str} {i : Int} {T : List Msg} {m m' : Msg} (h : leftN P i T m = some m') : m' = m ∨ (m.kind = 4 ∧ (rangeN P i).opn = false ∧ (m.clip ⟨(rangeN P i).hi, Str.nil, true⟩).2 = true ∧ m' = (m.clip ⟨(rangeN P i).hi, Str.nil, true⟩).1) := by
 unfold leftN at h
 split at h
 ·split at h
  ·rename_i h2
   cases h
   right
   have h3 := h2.2
   unfold withoutN at h3 ⊢
   split at h3
   ·cases h3
   ·rename_i h4
    rw [if_neg h4]
    exact ⟨h2.1, by simpa using h4, h3, rfl⟩
  ·cases h
 ·cases h; exact .inl rfl
theorem left_le {fan : Nat} {P : List Str} {i : Int} {T : List Msg} {m m' : Msg} (h : leftN P i T m = some m') : wtM fan P m' ≤ wtM fan P m := by
 rcases left_kind h with rfl | ⟨h4, _, h2, rfl⟩
 ·exact Nat.le_refl _
 ·obtain ⟨h5, h6⟩ := clip_key h4 h2
  unfold wtM
  rw [if_pos h4, if_pos h5, h6]
  dsimp only
  have : routeN P m.key ≤ routeN P (if m.key.lt (rangeN P i).hi = true then (rangeN P i).hi else m.key) := by
   apply route_mono
   split
   ·rename_i h7; exact Str.lt_asymm h7
   ·exact Str.lt_irrefl _
  omega
theorem left_lt {fan : Nat} {P : List Str} {i : Nat} {T : List Msg} {m : Msg} (hr : rising P = true) (hT : m.stamp ∈ T.map Msg.stamp) (hi : routeN P m.key = i) (hf : i < fan) :
  ((leftN P i T m).elim 0 (wtM fan P)) + 1 ≤ wtM fan P m := by
 cases h : leftN P i T m with
 | none => exact wtM_pos om9
 | some m' =>
  show wtM fan P m' + 1 ≤ wtM fan P m
  have hiP : i ≤ P.length := by rw [← hi]; exact List.length_filter_le _ _
  unfold leftN at h
  rw [if_pos hT] at h
  split at h
  ·rename_i h2
   cases h
   have h3 := h2.2
   unfold withoutN at h3 ⊢
   split at h3
   ·cases h3
   ·rename_i h4
    rw [if_neg h4]
    obtain ⟨h5, h6⟩ := clip_key h2.1 h3
    have hk : (rangeN P (i : Int)).has m.key = true := by rw [range_has hr _ hiP, hi]; simp
    have ho : (rangeN P (i : Int)).opn = false := by simpa using h4
    have hlt : m.key.lt (rangeN P (i : Int)).hi = true := by
     rcases (span_has.1 hk).2 with h | h
     ·rw [ho] at h; cases h
     ·exact h
    unfold wtM
    rw [if_pos h2.1, if_pos h5, h6, if_pos hlt]
    dsimp only
    have h7 : routeN P m.key ≤ routeN P (rangeN P (i : Int)).hi := route_mono (Str.lt_asymm hlt)
    have h8 : routeN P (rangeN P (i : Int)).hi ≠ i := fun e => by
     have h9 : (rangeN P (i : Int)).has (rangeN P (i : Int)).hi = true := by rw [range_has hr _ hiP, e]; simp
     rcases (span_has.1 h9).2 with h | h
     ·rw [ho] at h; cases h
     ·rw [Str.lt_irrefl] at h; cases h
    omega
  ·cases h
theorem sum_fm {w : Msg → Nat} {f : Msg → Option Msg} : ∀ {l : List Msg}, (∀ m ∈ l, (f m).elim 0 w ≤ w m) → ((l.filterMap f).map w).sum ≤ (l.map w).sum
 | [], _ => by simp
 | m :: l, h => by
  have ih := sum_fm (w := w) (f := f) (l := l) fun x hx => h x (List.mem_cons_of_mem _ hx)
  have h1 := h m (by simp)
  rw [List.filterMap_cons]
  cases hf : f m with
  | none => simp only [List.map_cons, List.sum_cons]; omega
  | some x => rw [hf] at h1; simp only [List.map_cons, List.sum_cons]; dsimp only [Option.elim] at h1; omega
theorem sum_fm_lt {w : Msg → Nat} {f : Msg → Option Msg} : ∀ {l : List Msg} {a : Msg}, (∀ m ∈ l, (f m).elim 0 w ≤ w m) → a ∈ l → (f a).elim 0 w + 1 ≤ w a → ((l.filterMap f).map w).sum + 1 ≤ (l.map w).sum
 | [], _, _, ha, _ => by cases ha
 | m :: l, a, h, ha, hl => by
  have h1 := h m (by simp)
  rw [List.filterMap_cons]
  rcases List.mem_cons.1 ha with rfl | ha
  ·have ih := sum_fm (w := w) (f := f) (l := l) fun x hx => h x (List.mem_cons_of_mem _ hx)
   cases hf : f a with
   | none => rw [hf] at hl; simp only [List.map_cons, List.sum_cons]; dsimp only [Option.elim] at hl; omega
   | some x => rw [hf] at hl; simp only [List.map_cons, List.sum_cons]; dsimp only [Option.elim] at hl; omega
  ·have ih := sum_fm_lt (w := w) (f := f) (l := l) (fun x hx => h x (List.mem_cons_of_mem _ hx)) ha hl
   cases hf : f m with
   | none => simp only [List.map_cons, List.sum_cons]; omega
   | some x => rw [hf] at h1; simp only [List.map_cons, List.sum_cons]; dsimp only [Option.elim] at h1; omega
theorem Poured.lighter {c : Cfg} {p k : Nd} {i : Nat} {a b : Nd} {T : List Msg} (h : Poured c p k i a b T) (hr : rising p.pivots = true) (hi : i < c.fan.toNat) : wtN c a + 1 ≤ wtN c p := by
 obtain ⟨n, hn, hle, hT⟩ := h.take
 obtain ⟨x0, hx⟩ : ∃ x, x ∈ T := ⟨_, List.getElem_mem h.ne⟩
 have hx2 : x0 ∈ forN p.pivots p.msgs i := by
  rw [hT] at hx
  exact List.mem_of_mem_take hx
 obtain ⟨m, hm, h2⟩ := List.mem_filterMap.1 hx2
 unfold forF at h2
 split at h2
 ·rename_i h3
  have e : (m.clip (rangeN p.pivots i)).1 = x0 := Option.some.inj h2
  have hst : m.stamp ∈ T.map Msg.stamp := by
   rw [← clip_stamp h3.2, e]
   exact List.mem_map_of_mem hx
  have key := sum_fm_lt (w := wtM c.fan.toNat p.pivots) (f := leftN p.pivots i T) (l := p.msgs) (a := m) (fun x _ => by
   cases hf : leftN p.pivots i T x with
   | none => exact Nat.zero_le _
   | some y => exact left_le hf) (front_mem hm) (left_lt hr hst om9 hi)
  rw [h.ea]
  unfold wtN wtS
  dsimp only
  unfold restN
  omega
 ·cases h2
theorem adopt_lighter {c : Cfg} {n : Nd} {i : Nat} {k : Str} {v : Int} (hf : (n.kids.length : Int) < c.fan) (hi : i < n.kids.length) : wtN c (adoptNd n i k v) + 1 ≤ wtN c n := by
 have h1 : ∀ l : List Msg, wtS c.fan.toNat ((n.pivots.take i ++ [k]) ++ n.pivots.drop i) l ≤ wtS c.fan.toNat n.pivots l := by
  intro l
  induction l with
  | nil => exact Nat.le_refl _
  | cons m l ih =>
   have h2 : wtM c.fan.toNat ((n.pivots.take i ++ [k]) ++ n.pivots.drop i) m ≤ wtM c.fan.toNat n.pivots m := by
    unfold wtM
    rw [route_ins]
    split
    ·omega
    ·exact Nat.le_refl _
   simp only [wtS, List.map_cons, List.sum_cons] at ih ⊢
   omega
 have h3 := h1 n.msgs
 have h4 : ((n.kids.take (i + 1) ++ [v]) ++ n.kids.drop (i + 1)).length = n.kids.length + 1 := by simp; omega
 unfold wtN adoptNd
 dsimp only
 rw [h4]
 omega
theorem full_same {c : Cfg} {n n' : Nd} (h0 : ¬ n.level = 0) (h1 : n'.level = n.level) (h2 : n'.kids.length = n.kids.length) : fullN c n' = fullN c n := by
 unfold fullN
 rw [if_neg h0, if_neg (by rw [h1]; exact h0), h2]
theorem inner_lighter {c : Cfg} {l : List Nd} {ss : List Seat} (t : Tree c l ss) {a : Int} (ha : 0 ≤ a ∧ a < l.length) (h0 : ¬ (getL l a).level = 0) : wtN c (getL l a) ≤ 8256 := by
 obtain ⟨P, hP, e⟩ := t.seat_of ha
 rw [← e] at h0 ⊢
 exact wtN_le t.cfg (t.inner hP h0)
theorem pour_get_a {c : Cfg} {l : List Nd} {ss : List Seat} {P : Seat} {i : Nat} {x y : Nd} {T : List Msg} (p : PourOf c l ss P i x y T) (s : Int) :
  getL (pourL l x y) s = if s = y.slot then y else if s = x.slot then x else getL l s := by
 have hx : 0 ≤ x.slot ∧ x.slot < l.length := by rw [p.al.1]; exact p.sin p.mem
 have hy : 0 ≤ y.slot ∧ y.slot < l.length := by rw [p.bl.1]; exact p.sin p.km.1
 unfold pourL
 rw [getL_set (by rw [List.length_set]; exact hy), getL_set hx]
theorem pour_at {c : Cfg} {l : List Nd} {ss : List Seat} {P : Seat} {i : Nat} {x y : Nd} {T : List Msg} (p : PourOf c l ss P i x y T) : getL (pourL l x y) P.n.slot = x := by
 rw [pour_get_a p, p.bl.1, p.al.1, if_neg p.ksl.symm, if_pos rfl]
theorem pour_step {c : Cfg} {l : List Nd} {ss : List Seat} (t : Tree c l ss) {a i : Int} {P : Seat} (s : StepAt c l ss a i P) (h : 0 < countN c.leaf c.bud (getL l a) (kidAt l a i) i) :
  ∃ x y, pourL l (pourN c.leaf c.bud (getL l a) (kidAt l a i) i).1 (pourN c.leaf c.bud (getL l a) (kidAt l a i) i).2.1 = pourL l x y ∧ getL (pourL l x y) a = x ∧ (pourL l x y).length = l.length ∧ x.slot = (getL l a).slot ∧ x.level = (getL l a).level ∧ x.kids = (getL l a).kids ∧ wtN c x + 1 ≤ wtN c (getL l a) ∧
   ∀ q : Int, (getL (pourL l x y) q).level = (getL l q).level ∧ (getL (pourL l x y) q).kids = (getL l q).kids := by
 obtain ⟨T, p⟩ := s.pour t h
 have hn := s.n
 have hs := s.slot
 have hf : i.toNat < c.fan.toNat := by
  have h1 := s.hi
  have h2 := p.pin.1.2.2
  omega
 have hi : ((i.toNat : Nat) : Int) = i := by have := s.hi; omega
 have hlt := Poured.lighter p.po p.rt.1 hf
 rw [hn] at hlt
 refine ⟨_, _, rfl, ?_, p.len, ?_, ?_, ?_, hlt, fun q => ?_⟩
 ·have := pour_at p
  rwa [hs] at this
 ·exact p.al.1.trans (by rw [hn])
 ·exact p.al.2.1.trans (by rw [hn])
 ·exact p.al.2.2.2.1.trans (by rw [hn])
 ·rw [pour_get_a p]
  have hk := (p.t.nd p.km.1).2.1
  have hp := (p.t.nd p.mem).2.1
  split
  ·rename_i e
   rw [e, p.bl.1, ← hk]; exact ⟨p.bl.2.1, p.bl.2.2.2.1⟩
  ·split
   ·rename_i e
    rw [e, p.al.1, ← hp]; exact ⟨p.al.2.1, p.al.2.2.2.1⟩
   ·exact ⟨rfl, rfl⟩
theorem adopt_eq {n : Nd} {i : Nat} {k : Str} {v : Int} (h : (adoptN n i k v).2 = true) : (adoptN n i k v).1 = adoptNd n i k v ∧ i < n.kids.length := by
 unfold adoptN at h ⊢
 split at h
 ·cases h
 ·rename_i h2
  rw [if_neg h2]
  by_cases h3 : n.kids.length ≤ i ∨ (rangeN n.pivots (i : Int)).has k = false ∨ k = (rangeN n.pivots (i : Int)).lo
  ·exact absurd (.inr (bins_0 h3)) h2
  ·have h4 : ¬ n.kids.length ≤ i := fun e => h3 (.inl e)
   have h5 : (rangeN n.pivots (i : Int)).has k = true := by
    cases h6 : (rangeN n.pivots (i : Int)).has k
    ·exact absurd (.inr (.inl h6)) h3
    ·rfl
   rw [binsN_1 h4 h5 (fun e => h3 (.inr (.inr e)))]
   exact ⟨rfl, om9⟩
theorem part_step {c : Cfg} {l : List Nd} {a i : Int} (h : (partI c l a i).1 = 0) (hl : (getL l a).slot = a) :
  l.length ≤ (partI c l a i).2.length ∧ ∃ k v, getL (partI c l a i).2 a = adoptNd (getL l a) i.toNat k v ∧ i.toNat < (getL l a).kids.length ∧ fullN c (getL l a) = false := by
 refine ⟨part_grow c l a i, ?_⟩
 unfold partI at h ⊢
 split at h
 ·cases h
 ·rename_i hi
  rw [if_neg hi]
  by_cases h1 : 0 ≤ a ∧ a < l.length
  ·by_cases h2 : (getL l a).kids.length ≤ i.toNat
   ·rw [partS_8 (.inr (.inl h2))] at h; cases h
   ·by_cases h3 : 0 ≤ kdN l a i.toNat ∧ kdN l a i.toNat < l.length
    ·cases h4 : fullN c (getL l a)
     ·by_cases h5 : (cutP l a i.toNat).2.2.2 = true
      ·by_cases h6 : (adP l a i.toNat).2 = true
       ·by_cases h7 : (l.length : Int) < c.slots
        ·rw [partS_0 h1 h2 h3 h4 h5 h6 h7]
         obtain ⟨e1, e2⟩ := adopt_eq (n := getL l a) h6
         refine ⟨(cutP l a i.toNat).2.2.1, (l.length : Int), ?_, e2, rfl⟩
         have hsl := ad_slot h6
         unfold lstP
         dsimp only
         rw [getL_snoc]
         rw [if_neg (by simp only [List.length_set]; omega)]
         have hx : (adP l a i.toNat).1.slot = a := hsl.trans hl
         have := getL_set (l := l.set (cutP l a i.toNat).1.slot.toNat (cutP l a i.toNat).1) (x := (adP l a i.toNat).1) (by rw [hx, List.length_set]; exact h1) a
         rw [hx, if_pos rfl] at this
         rw [this]
         exact e1
        ·rw [partS_4 h1 h2 h3 h4 h5 h6 h7] at h; cases h
       ·rw [partS_6 h1 h2 h3 h4 (.inr (by simpa using h6))] at h; cases h
      ·rw [partS_6 h1 h2 h3 h4 (.inl (by simpa using h5))] at h; cases h
     ·rw [partS_9 h1 h2 h3 h4] at h; cases h
    ·rw [partS_8 (.inr (.inr h3))] at h; cases h
  ·rw [partS_8 (.inl h1)] at h; cases h
theorem part_light {c : Cfg} {l : List Nd} {a i : Int} (h0 : ¬ (getL l a).level = 0) (h : (partI c l a i).1 = 0) (hl : (getL l a).slot = a) :
  (getL (partI c l a i).2 a).slot = a ∧ (getL (partI c l a i).2 a).level = (getL l a).level ∧ wtN c (getL (partI c l a i).2 a) + 1 ≤ wtN c (getL l a) := by
 obtain ⟨_, k, v, e, hi, hf⟩ := part_step h hl
 rw [e]
 refine ⟨hl, rfl, adopt_lighter ?_ hi⟩
 unfold fullN at hf
 rw [if_neg h0, decide_eq_false_iff_not] at hf
 omega
def LowP (c : Cfg) (l : List Nd) (a : Int) : Prop := ¬ (getL l a).slot = 0 ∨ (2 ≤ (getL l a).level ∧ fullN c (getL l a) = false ∧ ∀ j : Nat, j < (getL l a).kids.length → fullN c (kidAt l a j) = false)
theorem choose_is1 {c : Cfg} {n : Nd} {k : Str} (h : (chooseN c n k).1 = 1) : ¬ n.level = 0 ∧ n.slot = 0 ∧ fullN c n = true := by
 unfold chooseN at h
 split at h
 ·cases h
 ·rename_i h0
  split at h
  ·rename_i h1; exact ⟨h0, h1.1, h1.2⟩
  ·cases h
theorem kid_low {c : Cfg} {l : List Nd} {ss : List Seat} (t : Tree c l ss) {a i : Int} {P : Seat} (s : StepAt c l ss a i P) : ¬ (kidAt l a i).slot = 0 ∧ (kidAt l a i).level = (getL l a).level - 1 ∧ getL l (kidAt l a i).slot = kidAt l a i ∧ 0 ≤ (kidAt l a i).slot ∧ (kidAt l a i).slot < l.length := by
 have hk := t.at s.mem s.h0 (j := i.toNat) (by have := s.hi; omega)
 have hlv := hk.2.2.2
 rw [s.kid, s.n] at hlv
 refine ⟨fun e => ?_, hlv, by rw [s.ksl]; rfl, by rw [s.ksl]; exact s.kin.1, by rw [s.ksl]; exact s.kin.2⟩
 have h1 := t.nodup_s
 rw [t.fix, List.map_cons, List.nodup_cons] at h1
 refine h1.1 (List.mem_map.2 ⟨kidSt l P i.toNat, List.mem_flatMap.2 ⟨P, s.mem, ?_⟩, ?_⟩)
 ·rw [(kids_all (t.kids s.mem) s.h0).1]
  exact List.mem_map.2 ⟨i.toNat, List.mem_range.2 (by have := s.hi; omega), rfl⟩
 ·rw [s.kid, e, t.rootn, (getL_slot t.slot ⟨Int.le_refl _, by have := t.pos; omega⟩).1]
theorem decide_3 {c : Cfg} {p k : Nd} {i : Int} (h : decideN c p k i = 3) : (0 < k.level ∧ fullN c k = true) ∨ ¬ 0 < k.level := by
 unfold decideN at h
 split at h
 ·rename_i h1; exact .inl h1
 ·split at h
  ·cases h
  ·split at h
   ·cases h
   ·rename_i h3; exact .inr h3
theorem decide_5 {c : Cfg} {p k : Nd} {i : Int} (h : decideN c p k i = 5) : 0 < k.level ∧ fullN c k = false ∧ ¬ 0 < countN c.leaf c.bud p k i := by
 unfold decideN at h
 split at h
 ·split at h <;> cases h
 ·rename_i h1
  split at h
  ·cases h
  ·rename_i h2
   split at h
   ·rename_i h3
    refine ⟨h3, ?_, h2⟩
    cases h4 : fullN c k
    ·rfl
    ·exact absurd ⟨h3, h4⟩ h1
   ·split at h
    ·split at h <;> cases h
    ·cases h
theorem cyc_ends {c : Cfg} {k : Str} : ∀ (m : Nat) {l : List Nd} {ss : List Seat} {a n : Int}, Tree c l ss → 0 ≤ a ∧ a < l.length → LowP c l a → (getL l a).level.toNat * 8300 + wtN c (getL l a) ≤ m → ∃ r, cycF c k (m + 1) l a n = some r := by
 intro m
 induction m using Nat.strongRecOn with
 | _ m ih =>
  intro l ss a n t ha hp hm
  rcases choose_cases c (getL l a) k with h | h | ⟨h, h0, _⟩
  ·exact ⟨_, cyc_end (by rw [step_0 h])⟩
  ·obtain ⟨_, h2, h3⟩ := choose_is1 h
   rcases hp with hp | ⟨_, hp, _⟩
   ·exact absurd h2 hp
   ·rw [hp] at h3; cases h3
  ·obtain ⟨_, hi1, hi2⟩ := choose_in t ha h
   obtain ⟨P, s⟩ := step_at t ha h0 ⟨hi1, hi2⟩
   have hst := step_2 h
   have hsl := (getL_slot t.slot ha).1
   obtain ⟨T, hT, _⟩ := step_tree t ha k
   have hnx := step_next t ha k
   have hlv : 0 < (getL l a).level := by have := s.kof.1; exact this
   rcases decide_cases c (getL l a) (kidAt l a (chooseN c (getL l a) k).2) (chooseN c (getL l a) k).2 with hd | hd | ⟨hd, hd2⟩ | hd
   ·exact ⟨_, cyc_end (by rw [hst, kid_0 hd])⟩
   ·by_cases h3 : (partI c l a (chooseN c (getL l a) k).2).1 = 0
    ·have e := hst.trans (kid_3 hd h3)
     obtain ⟨g1, g2, g3⟩ := part_light h0 h3 hsl
     rw [cyc_did (by rw [e]; simp) (by rw [e]; simp)]
     rw [e] at hT hnx ⊢
     dsimp only at hT hnx ⊢
     obtain ⟨m2, rfl⟩ : ∃ m2, m = m2 + 1 := ⟨m - 1, om9⟩
     refine ih m2 om9 hT hnx ?_ (by rw [g2]; omega)
     rcases hp with hp | ⟨q1, q2, q3⟩
     ·left; rw [g1]; rw [hsl] at hp; exact hp
     ·exfalso
      have hk := kid_low t s
      have hf := q3 (chooseN c (getL l a) k).2.toNat om9
      rw [show (((chooseN c (getL l a) k).2.toNat : Nat) : Int) = (chooseN c (getL l a) k).2 by omega] at hf
      rcases decide_3 hd with ⟨_, h5⟩ | h5
      ·rw [hf] at h5; cases h5
      ·omega
    ·exact ⟨_, cyc_end (by rw [hst, kid_e hd h3])⟩
   ·have e := hst.trans (kid_4 hd)
    obtain ⟨x, y, e2, g1, g2, g3, g4, g5, g6, g7⟩ := pour_step t s hd2
    rw [e2] at e
    rw [cyc_did (by rw [e]; simp) (by rw [e]; simp)]
    rw [e] at hT hnx ⊢
    dsimp only at hT hnx ⊢
    obtain ⟨m2, rfl⟩ : ∃ m2, m = m2 + 1 := ⟨m - 1, om9⟩
    refine ih m2 om9 hT hnx ?_ (by rw [g1, g4]; omega)
    rcases hp with hp | ⟨q1, q2, q3⟩
    ·left; rw [g1, g3]; exact hp
    ·right
     rw [g1]
     refine ⟨by rw [g4]; exact q1, (full_same h0 g4 (by rw [g5])).trans q2, fun j hj => ?_⟩
     rw [g5] at hj
     have ek : kidAt (pourL l x y) a j = getL (pourL l x y) ((getL l a).kids.getD j 0) := by
      unfold kidAt
      rw [g1, g5, Int.toNat_natCast]
     have ek2 : kidAt l a j = getL l ((getL l a).kids.getD j 0) := by unfold kidAt; rw [Int.toNat_natCast]
     have h7 := g7 ((getL l a).kids.getD j 0)
     obtain ⟨P2, s2⟩ := step_at t ha h0 (i := (j : Int)) ⟨om9, om9⟩
     have hk2 := (kid_low t s2).2.1
     rw [ek, full_same (n := kidAt l a j) (by rw [hk2]; omega) (by rw [ek2]; exact h7.1) (by rw [ek2, h7.2])]
     exact q3 j hj
   ·have e := hst.trans (kid_5 hd)
    obtain ⟨k1, k2, k3, k4⟩ := kid_low t s
    have h5 := decide_5 hd
    rw [cyc_down (by rw [e])]
    rw [e] at hT hnx ⊢
    dsimp only at hT hnx ⊢
    obtain ⟨m2, rfl⟩ : ∃ m2, m = m2 + 1 := ⟨m - 1, om9⟩
    have hw := inner_lighter t (a := (kidAt l a (chooseN c (getL l a) k).2).slot) k4 (by rw [k3]; omega)
    refine ih m2 om9 t k4 (.inl (by rw [k3]; exact k1)) ?_
    rw [k3] at hw ⊢
    omega
theorem lift_low {c : Cfg} {l : List Nd} {ss : List Seat} (t : Tree c l ss) (h0 : ¬ (getL l 0).level = 0) (h : (liftS c l).1 = 0) : LowP c (liftS c l).2 0 ∧ (getL (liftS c l).2 0).level = (getL l 0).level + 1 := by
 have hp := t.pos
 obtain ⟨P, hP, eP⟩ := t.seat_of (a := 0) ⟨Int.le_refl _, om9⟩
 have hin := t.inner hP (by rw [eP]; exact h0)
 rw [eP] at hin
 have hlv := t.lvl hP
 rw [eP] at hlv
 by_cases hk : (liftN (getL l 0) l.length ((l.length : Int) + 1)).2.2.2 = true
 ·by_cases hr : c.slots.toNat - l.length < 2
  ·rw [liftS_4 hk hr] at h; cases h
  ·rw [liftS_0 hk hr]
   have hc : (cleaveN (getL l 0) ((l.length : Int) + 1)).2.2.2 = true := by rw [← lift_ok _ (l.length : Int)]; exact hk
   obtain ⟨x, y, q, hh, e, hv, _⟩ := cleave_halves (t.seat hP).1 (y := (l.length : Int) + 1) (by rw [eP]; exact hc)
   rw [eP] at e hv
   rw [liftN_t hc, e]
   obtain ⟨_, _, hh2, _, ka, _, kb, _⟩ : True ∧ True ∧ hh < (getL l 0).pivots.length ∧ True ∧ x.kids = (getL l 0).kids.take (hh + 1) ∧ True ∧ y.kids = (getL l 0).kids.drop (hh + 1) ∧ True := by
    obtain ⟨_, _, g1, _, _, g2, _, g3⟩ := hv.inner h0
    exact ⟨trivial, trivial, g1, trivial, g2, trivial, g3, trivial⟩
   have hpl := (rightN_spec hin.2.1).2
   have hfan := hin.1.2.2
   obtain ⟨⟨f1, f2⟩, _⟩ := t.cfg
   have e0 : getL (liftL l (liftR (getL l 0) q l.length ((l.length : Int) + 1)) (liftH (getL l 0) x l.length) (liftH (getL l 0) y y.slot)) 0 = liftR (getL l 0) q l.length ((l.length : Int) + 1) := by
    have := getL_at (l := liftL l (liftR (getL l 0) q l.length ((l.length : Int) + 1)) (liftH (getL l 0) x l.length) (liftH (getL l 0) y y.slot)) (k := 0) (by unfold liftL; simp)
    refine Eq.trans this ?_
    unfold liftL
    rw [List.getElem_append_left (by simp; exact hp), List.getElem_set_self]
   have ek : ∀ (j : Nat) (z : Nd), (liftL l (liftR (getL l 0) q l.length ((l.length : Int) + 1)) (liftH (getL l 0) x l.length) (liftH (getL l 0) y y.slot))[l.length + j]? = some z → getL (liftL l (liftR (getL l 0) q l.length ((l.length : Int) + 1)) (liftH (getL l 0) x l.length) (liftH (getL l 0) y y.slot)) ((l.length : Int) + j) = z := fun j z hz => by
    obtain ⟨g1, g2⟩ := List.getElem?_eq_some_iff.1 hz
    have := getL_at g1
    rw [show (((l.length + j : Nat)) : Int) = (l.length : Int) + j by omega] at this
    rw [this]; exact g2
   have ex : getL (liftL l (liftR (getL l 0) q l.length ((l.length : Int) + 1)) (liftH (getL l 0) x l.length) (liftH (getL l 0) y y.slot)) (l.length : Int) = liftH (getL l 0) x l.length := by
    have := ek 0 (liftH (getL l 0) x l.length) (by unfold liftL; rw [List.getElem?_append_right (by simp)]; simp)
    simpa using this
   have ey : getL (liftL l (liftR (getL l 0) q l.length ((l.length : Int) + 1)) (liftH (getL l 0) x l.length) (liftH (getL l 0) y y.slot)) ((l.length : Int) + 1) = liftH (getL l 0) y y.slot := by
    have := ek 1 (liftH (getL l 0) y y.slot) (by unfold liftL; rw [List.getElem?_append_right (by simp)]; simp)
    simpa using this
   refine ⟨.inr ?_, by rw [e0]; rfl⟩
   dsimp only
   rw [e0]
   refine ⟨by show 2 ≤ (getL l 0).level + 1; omega, ?_, fun j hj => ?_⟩
   ·unfold fullN
    rw [if_neg (by show ¬ (getL l 0).level + 1 = 0; omega), decide_eq_false_iff_not]
    show ¬ c.fan ≤ ((2 : Nat) : Int)
    omega
   ·have hj2 : j < 2 := hj
    unfold kidAt
    rw [e0]
    have hlx : x.level = (getL l 0).level := hv.la
    have hly : y.level = (getL l 0).level := hv.lb
    have hkx : x.kids.length = hh + 1 := by rw [ka, List.length_take]; omega
    have hky : y.kids.length = (getL l 0).kids.length - (hh + 1) := by rw [kb, List.length_drop]
    rcases (by omega : j = 0 ∨ j = 1) with rfl | rfl
    ·show fullN c (getL _ (l.length : Int)) = false
     rw [ex]
     unfold fullN liftH
     dsimp only
     rw [if_neg (by rw [hlx]; exact h0), decide_eq_false_iff_not]
     omega
    ·show fullN c (getL _ ((l.length : Int) + 1)) = false
     rw [ey]
     unfold fullN liftH
     dsimp only
     rw [if_neg (by rw [hly]; exact h0), decide_eq_false_iff_not]
     omega
 ·rw [liftS_6 (by simpa using hk)] at h; cases h
theorem cyc_root {c : Cfg} {k : Str} (v : Nat) : ∀ (w : Nat) {l : List Nd} {ss : List Seat} {n : Int}, Tree c l ss → (getL l 0).level.toNat = v → wtN c (getL l 0) ≤ w → 8256 ≤ w + 8256 → ∃ r, cycF c k ((v + 2) * 8300 + w + 1) l 0 n = some r := by
 intro w
 induction w using Nat.strongRecOn with
 | _ w ih =>
  intro l ss n t hv hw hx
  have ha : (0 : Int) ≤ 0 ∧ (0 : Int) < l.length := ⟨Int.le_refl _, by have := t.pos; omega⟩
  obtain ⟨T, hT, _⟩ := step_tree t ha k
  have hnx := step_next t ha k
  have hsl := (getL_slot t.slot ha).1
  rcases choose_cases c (getL l 0) k with h | h | ⟨h, h0, _⟩
  ·exact ⟨_, cyc_end (by rw [step_0 h])⟩
  ·obtain ⟨h0, h2, h3⟩ := choose_is1 h
   by_cases hl : (liftS c l).1 = 0
   ·have e := step_1 h hl
    rw [cyc_did (by rw [e]; simp) (by rw [e]; simp)]
    rw [e] at hT hnx ⊢
    dsimp only at hT hnx ⊢
    obtain ⟨g1, g2⟩ := lift_low t h0 hl
    have hlv : 0 ≤ (getL l 0).level := by
     obtain ⟨P, hP, eP⟩ := t.seat_of ha
     rw [← eP]; exact t.lvl hP
    have hw2 := inner_lighter hT (a := 0) hnx (by rw [g2]; omega)
    have := cyc_ends (k := k) ((v + 2) * 8300 + w - 1) (n := n + 1) hT hnx g1 (by rw [g2]; omega)
    rwa [show (v + 2) * 8300 + w - 1 + 1 = (v + 2) * 8300 + w by omega] at this
   ·exact ⟨_, cyc_end (by rw [step_e h hl])⟩
  ·obtain ⟨_, hi1, hi2⟩ := choose_in t ha h
   obtain ⟨P, s⟩ := step_at t ha h0 ⟨hi1, hi2⟩
   have hst := step_2 h
   have hlv : 0 < (getL l 0).level := by have := s.kof.1; exact this
   rcases decide_cases c (getL l 0) (kidAt l 0 (chooseN c (getL l 0) k).2) (chooseN c (getL l 0) k).2 with hd | hd | ⟨hd, hd2⟩ | hd
   ·exact ⟨_, cyc_end (by rw [hst, kid_0 hd])⟩
   ·by_cases h3 : (partI c l 0 (chooseN c (getL l 0) k).2).1 = 0
    ·have e := hst.trans (kid_3 hd h3)
     obtain ⟨g1, g2, g3⟩ := part_light h0 h3 hsl
     rw [cyc_did (by rw [e]; simp) (by rw [e]; simp)]
     rw [e] at hT hnx ⊢
     dsimp only at hT hnx ⊢
     have := ih (w - 1) om9 (n := n + 1) hT (by rw [g2]; exact hv) om9 om9
     rwa [show (v + 2) * 8300 + (w - 1) + 1 = (v + 2) * 8300 + w by omega] at this
    ·exact ⟨_, cyc_end (by rw [hst, kid_e hd h3])⟩
   ·have e := hst.trans (kid_4 hd)
    obtain ⟨x, y, e2, g1, g2, g3, g4, g5, g6, g7⟩ := pour_step t s hd2
    rw [e2] at e
    rw [cyc_did (by rw [e]; simp) (by rw [e]; simp)]
    rw [e] at hT hnx ⊢
    dsimp only at hT hnx ⊢
    have := ih (w - 1) om9 (n := n + 1) hT (by rw [g1, g4]; exact hv) (by rw [g1]; omega) om9
    rwa [show (v + 2) * 8300 + (w - 1) + 1 = (v + 2) * 8300 + w by omega] at this
   ·have e := hst.trans (kid_5 hd)
    obtain ⟨k1, k2, k3, k4⟩ := kid_low t s
    have h5 := decide_5 hd
    rw [cyc_down (by rw [e])]
    rw [e] at hT hnx ⊢
    dsimp only at hT hnx ⊢
    have hw := inner_lighter t (a := (kidAt l 0 (chooseN c (getL l 0) k).2).slot) k4 (by rw [k3]; omega)
    have := cyc_ends (k := k) ((v + 2) * 8300 + w - 1) (n := n) t k4 (.inl (by rw [k3]; exact k1)) (by rw [k3] at hw ⊢; omega)
    rwa [show (v + 2) * 8300 + w - 1 + 1 = (v + 2) * 8300 + w by omega] at this
theorem Tree.level8 {c : Cfg} {l : List Nd} {ss : List Seat} (t : Tree c l ss) (hl : l.length ≤ 1000) : (getL l 0).level ≤ 8 := by
 have h1 := t.pre_perm (rootS l 0).n.level.toNat [rootS l 0] ss (by exact t.fix) (fun x hx => hx) (fun x hx => by simp at hx; rw [hx])
 rw [List.flatMap_cons, List.flatMap_nil, List.append_nil] at h1
 have h2 := t.pre_len _ _ t.root rfl
 rw [← h1.length_eq, t.len] at h2
 rw [← t.rootn]
 apply Classical.byContradiction
 intro hn
 have h4 : 2 ^ 10 ≤ 2 ^ ((rootS l 0).n.level.toNat + 1) := Nat.pow_le_pow_right om9 om9
 omega
theorem cyc_all {c : Cfg} {l : List Nd} {ss : List Seat} (t : Tree c l ss) (hl : l.length ≤ 1000) (k : Str) : ∃ N r, N ≤ 100000 ∧ cycF c k N l 0 0 = some r := by
 have hw : wtN c (getL l 0) ≤ 8256 ∨ (getL l 0).level = 0 := by
  by_cases h0 : (getL l 0).level = 0
  ·exact .inr h0
  ·exact .inl (inner_lighter t ⟨Int.le_refl _, by have := t.pos; omega⟩ h0)
 rcases hw with hw | h0
 ·have h8 := t.level8 hl
  obtain ⟨r, hr⟩ := cyc_root (k := k) (getL l 0).level.toNat 8256 (n := 0) t rfl hw om9
  exact ⟨_, r, om9, hr⟩
 ·exact ⟨1, _, om9, cyc_end (by rw [step_0 (by rw [choose_0 h0])])⟩
theorem cyc_mono {c : Cfg} {k : Str} : ∀ (m : Nat) {l : List Nd} {a n : Int} {r : Int × Int × List Nd}, cycF c k m l a n = some r → n ≤ r.1
 | 0, _, _, _, _, h => by cases h
 | m + 1, l, a, n, r, h => by
  by_cases h0 : (stepN c l a k).1.1 = 0
  ·rw [cyc_end h0] at h; cases h; exact Int.le_refl _
  ·by_cases h5 : (stepN c l a k).1.1 = 5
   ·rw [cyc_down h5] at h; exact cyc_mono m h
   ·rw [cyc_did h0 h5] at h
    have := cyc_mono m h
    omega
theorem victim_for {P : List Str} {l : List Msg} (hr : rising P = true) (hR : ∀ m ∈ l, m.R) (h : 0 < l.length) : 0 < (forN P l (victimN P l).1).length := by
 have h1 := best_pos (P := P) h
 rw [victim_p h]
 have h2 : ∃ m ∈ frontN l, routeN P m.key = bestTo (wOf P (frontN l)) (P.length + 1) := by
  apply Classical.byContradiction
  intro hn
  have : (frontN l).filter (fun m => decide (routeN P m.key = bestTo (wOf P (frontN l)) (P.length + 1))) = [] := by
   rw [List.filter_eq_nil_iff]
   intro m hm h3
   exact hn ⟨m, hm, of_decide_eq_true h3⟩
  unfold wOf at h1 this
  rw [this] at h1
  simp [sizesN] at h1
 obtain ⟨m, hm, e⟩ := h2
 have hmR := hR m (front_mem hm)
 have hb : bestTo (wOf P (frontN l)) (P.length + 1) ≤ P.length := by rw [← e]; exact List.length_filter_le _ _
 have hcl : (m.clip (rangeN P ((bestTo (wOf P (frontN l)) (P.length + 1) : Nat) : Int))).2 = true := by
  have hne : ¬ (m.span.meet (rangeN P ((bestTo (wOf P (frontN l)) (P.length + 1) : Nat) : Int))).empty = true := fun h => by
   have := empty_iff.1 h m.key
   rw [meet_has, Msg.has_key hmR, range_has hr _ hb, e] at this
   simp at this
  unfold Msg.clip
  rw [if_neg hne]
  split <;> rfl
 dsimp only
 refine List.length_pos_of_mem (a := (m.clip (rangeN P ((bestTo (wOf P (frontN l)) (P.length + 1) : Nat) : Int))).1) (List.mem_filterMap.2 ⟨m, hm, ?_⟩)
 unfold forF
 rw [if_pos ⟨om9, hcl⟩]
theorem decide_30 {c : Cfg} {p k : Nd} {i : Int} (hp : fullN c p = false) (hf : 0 < (forN p.pivots p.msgs i).length) : ¬ decideN c p k i = 0 := by
 unfold decideN
 split
 ·rw [if_neg (by rw [hp]; simp)]; simp
 ·split
  ·simp
  ·split
   ·simp
   ·first
    | (rw [if_pos hf, if_neg (by rw [hp]; simp)]; simp; done)
    | (rw [if_neg (by rw [hp]; simp)]; simp)
theorem decide_33 {c : Cfg} {p k : Nd} {i : Int} (h : decideN c p k i = 3) : (0 < k.level ∧ fullN c k = true) ∨ (¬ 0 < k.level ∧ ¬ 0 < countN c.leaf c.bud p k i) := by
 unfold decideN at h
 split at h
 ·rename_i h1; exact .inl h1
 ·split at h
  ·cases h
  ·rename_i h2
   split at h
   ·cases h
   ·rename_i h3; exact .inr ⟨h3, h2⟩
theorem size_le {m : Msg} (h : m.R) : m.size ≤ 36 := by
 have := msgR_key h
 unfold Msg.size
 split <;> omega
theorem no_count {c : Cfg} {p k : Nd} {i : Int} (hc : CfgR c) (hk : KidOf p k i) (hR : ∀ m ∈ forN p.pivots p.msgs i, m.R) (hf : 0 < (forN p.pivots p.msgs i).length) (h : ¬ 0 < countN c.leaf c.bud p k i) :
  (k.level = 0 → 2 ≤ k.rows.length) ∧ (¬ k.level = 0 → 0 < k.msgs.length) := by
 obtain ⟨_, ⟨l1, l2⟩, ⟨b1, b2⟩, _⟩ := hc
 rw [count_t hk] at h
 obtain ⟨m, L, e⟩ : ∃ m L, forN p.pivots p.msgs i = m :: L := by
  cases hh : forN p.pivots p.msgs i with
  | nil => rw [hh] at hf; cases hf
  | cons m L => exact ⟨m, L, rfl⟩
 have hmR := hR m (by rw [e]; simp)
 rw [e] at h
 refine ⟨fun h0 => ?_, fun h0 => ?_⟩
 ·rw [moved_0 h0] at h
  dsimp only at h
  unfold drainN at h
  split at h
  ·dsimp only at h; omega
  ·rename_i h2
   rw [lfits_eq hmR] at h2
   unfold rfits20N at h2
   simp only [Bool.or_eq_true, decide_eq_true_eq, not_or] at h2
   omega
 ·rw [moved_n h0 rfl] at h
  dsimp only at h
  unfold addsN at h
  split at h
  ·omega
  ·rename_i h2
   apply Classical.byContradiction
   intro h3
   have h4 : k.msgs = [] := List.eq_nil_of_length_eq_zero om9
   apply h2
   rw [h4]
   have := size_le hmR
   simp [roomB, sizesN]
   omega
theorem cleave_leaf {n : Nd} {y : Int} (h0 : n.level = 0) (h : 2 ≤ n.rows.length) : (cleaveN n y).2.2.2 = true := by
 rw [cleave_ok, halvesN_0 h0]
 dsimp only
 rw [rowsN_t om9]
theorem cleave_inner {n : Nd} {y : Int} (h0 : ¬ n.level = 0) (hr : rightN n.pivots n.kids.length = true) (h : 4 ≤ n.kids.length) : (cleaveN n y).2.2.2 = true := by
 rw [cleave_ok, halvesN_k h0 hr]
 dsimp only
 have := (rightN_spec hr).2
 rw [halveN_t om9]
theorem adopt_t {n : Nd} {i : Nat} {k : Str} {v : Int} (h0 : ¬ n.level = 0) (hi : i < n.kids.length) (hk : (rangeN n.pivots (i : Int)).has k = true) (hl : ¬ k = (rangeN n.pivots (i : Int)).lo) : (adoptN n i k v).2 = true := by
 rw [adoptN_2 h0]
 rw [binsN_1 om9 hk hl]
 simp
theorem part_err {c : Cfg} {l : List Nd} {ss : List Seat} (t : Tree c l ss) {a i : Int} {P : Seat} (ha : 0 ≤ a ∧ a < l.length) (s : StepAt c l ss a i P) (hf : fullN c (getL l a) = false)
  (h : (0 < (kidAt l a i).level ∧ fullN c (kidAt l a i) = true) ∨ ((kidAt l a i).level = 0 ∧ 2 ≤ (kidAt l a i).rows.length)) : (partI c l a i).1 = 0 ∨ (partI c l a i).1 = 4 := by
 have hi := s.hi
 have hin : i.toNat < P.n.kids.length := om9
 have hat := t.at s.mem s.h0 hin
 have hkR := t.seat hat.1
 have ec : (cleaveN (kidAt l a i) l.length).2.2.2 = true := by
  rcases h with ⟨h1, h2⟩ | ⟨h1, h2⟩
  ·have h3 : ¬ (kidAt l a i).level = 0 := om9
   have h4 := t.inner hat.1 (by rw [s.kid]; exact h3)
   rw [s.kid] at h4
   refine cleave_inner h3 h4.2.1 ?_
   unfold fullN at h2
   rw [if_neg h3] at h2
   have := of_decide_eq_true h2
   obtain ⟨⟨f1, _⟩, _⟩ := t.cfg
   omega
  ·exact cleave_leaf h1 h2
 unfold partI
 rw [if_neg om9]
 have h3 : 0 ≤ kdN l a i.toNat ∧ kdN l a i.toNat < l.length := s.kin
 have e5 : (cutP l a i.toNat).2.2.2 = true := ec
 have e6 : (adP l a i.toNat).2 = true := by
  obtain ⟨x, y, q, hh, e, hv, _, _, _, _, _, _, hq⟩ := cleave_halves hkR.1 (y := (l.length : Int)) (by rw [s.kid]; exact ec)
  obtain ⟨g1, g2⟩ := t.k_in hat.1 hv hq
  have hks : (kidSt l P i.toNat).s = P.s.meet (rangeN P.n.pivots ((i.toNat : Nat) : Int)) := rfl
  rw [hks, meet_has, Bool.and_eq_true] at g1
  have eq : (cutP l a i.toNat).2.2.1 = q := by
   show (cleaveN (kidAt l a i) l.length).2.2.1 = q
   rw [← s.kid, e]
  show (adoptN (getL l a) i.toNat (cutP l a i.toNat).2.2.1 l.length).2 = true
  rw [eq, ← s.n]
  refine adopt_t s.h0 hin g1.2 (fun e7 => g2 ?_)
  rw [hks]
  have h8 : ¬ (P.s.meet (rangeN P.n.pivots ((i.toNat : Nat) : Int))).empty = true := fun h => by
   have := empty_iff.1 h q
   rw [meet_has, g1.1, g1.2] at this
   cases this
  unfold Span.meet at h8 ⊢
  rw [norm_lo h8]
  dsimp only
  split
  ·exact e7
  ·rename_i h9
   have h10 := (span_has.1 g1.1).1
   rw [e7] at h10
   rw [e7]
   cases h11 : P.s.lo.lt (rangeN P.n.pivots ((i.toNat : Nat) : Int)).lo
   ·exact (Str.lt_total h10 h11)
   ·exact absurd h11 h9
 by_cases h7 : (l.length : Int) < c.slots
 ·rw [partS_0 ha (by rw [← s.n]; omega) h3 hf e5 e6 h7]; exact .inl rfl
 ·rw [partS_4 ha (by rw [← s.n]; omega) h3 hf e5 e6 h7]; exact .inr rfl
theorem prog {c : Cfg} {k : Str} : ∀ (m : Nat) {l : List Nd} {ss : List Seat} {a n : Int} {r : Int × Int × List Nd}, Tree c l ss → 0 ≤ a ∧ a < l.length → ¬ (getL l a).level = 0 → 0 < (getL l a).msgs.length → fullN c (getL l a) = false → cycF c k m l a n = some r → n < r.1 ∨ r.2.1 = 4
 | 0, _, _, _, _, _, _, _, _, _, _, h => by cases h
 | m + 1, l, ss, a, n, r, t, ha, h0, hm, hf, h => by
  obtain ⟨Q, hQ, eQ⟩ := t.seat_of ha
  have hin := t.inner hQ (by rw [eQ]; exact h0)
  rw [eQ] at hin
  have hmR : ∀ m ∈ (getL l a).msgs, m.R := (MsgsR.iff.1 hin.2.2.1).1
  have hri := (rightN_spec hin.2.1).1
  have hfor := victim_for hri hmR hm
  have hc := choose_v (k := k) h0 (fun e => by rw [hf] at e; cases e.2) (show (victimN (getL l a).pivots (getL l a).msgs).2 = true by rw [victim_p hm])
  have hc1 : (chooseN c (getL l a) k).1 = 2 := by rw [hc]
  have hc2 : (chooseN c (getL l a) k).2 = (victimN (getL l a).pivots (getL l a).msgs).1 := by rw [hc]
  obtain ⟨_, hi1, hi2⟩ := choose_in t ha hc1
  obtain ⟨P, s⟩ := step_at t ha h0 ⟨hi1, hi2⟩
  have hst := step_2 hc1
  rw [← hc2] at hfor
  generalize (chooseN c (getL l a) k).2 = i at *
  have hforR : ∀ m ∈ forN (getL l a).pivots (getL l a).msgs i, m.R := for_R (fun q hq => by
   obtain ⟨j, hj, rfl⟩ := List.getElem_of_mem hq
   exact (hin.2.2.2.2.2.1 j hj).2.1) hmR
  obtain ⟨k1, k2, k3, k4⟩ := kid_low t s
  have hkl : 0 ≤ (kidAt l a i).level := by have := s.kof.1; omega
  rcases decide_cases c (getL l a) (kidAt l a i) i with hd | hd | ⟨hd, _⟩ | hd
  ·exact absurd hd (decide_30 hf hfor)
  ·have hpe : (partI c l a i).1 = 0 ∨ (partI c l a i).1 = 4 := by
    refine part_err t ha s hf ?_
    rcases decide_33 hd with h | ⟨h1, h2⟩
    ·exact .inl h
    ·have h3 : (kidAt l a i).level = 0 := om9
     exact .inr ⟨h3, (no_count t.cfg s.kof hforR hfor h2).1 h3⟩
   rcases hpe with h3 | h3
   ·have e := hst.trans (kid_3 hd h3)
    rw [cyc_did (by rw [e]; simp) (by rw [e]; simp)] at h
    have := cyc_mono m h
    exact .inl om9
   ·have e := hst.trans (kid_e hd om9)
    rw [cyc_end (by rw [e])] at h
    cases h
    exact .inr (by rw [e]; exact h3)
  ·have e := hst.trans (kid_4 hd)
   rw [cyc_did (by rw [e]; simp) (by rw [e]; simp)] at h
   have := cyc_mono m h
   exact .inl om9
  ·have e := hst.trans (kid_5 hd)
   obtain ⟨d1, d2, d3⟩ := decide_5 hd
   rw [cyc_down (by rw [e])] at h
   rw [e] at h
   dsimp only at h
   exact prog m t k4 (by rw [k3]; omega) (by rw [k3]; exact (no_count t.cfg s.kof hforR hfor d3).2 om9) (by rw [k3]; exact d2) h
theorem prog_root {c : Cfg} {k : Str} {m : Nat} {l : List Nd} {ss : List Seat} {r : Int × Int × List Nd} (t : Tree c l ss) (hm : 0 < (getL l 0).msgs.length) (h : cycF c k m l 0 0 = some r) : 0 < r.1 ∨ r.2.1 = 4 := by
 have ha : (0 : Int) ≤ 0 ∧ (0 : Int) < l.length := ⟨Int.le_refl _, by have := t.pos; omega⟩
 obtain ⟨Q, hQ, eQ⟩ := t.seat_of ha
 have h0 : ¬ (getL l 0).level = 0 := fun e => by
  have := t.nomsgs hQ (by rw [eQ]; exact e)
  rw [eQ] at this
  rw [this] at hm
  cases hm
 cases hf : fullN c (getL l 0)
 ·exact prog m t ha h0 hm hf h
 ·obtain ⟨m2, rfl⟩ : ∃ m2, m = m2 + 1 := by
   cases m with
   | zero => cases h
   | succ m2 => exact ⟨m2, rfl⟩
  have hsl := (getL_slot t.slot ha).1
  have hc1 : (chooseN c (getL l 0) k).1 = 1 := by rw [choose_1 h0 hsl hf]
  have hin := t.inner hQ (by rw [eQ]; exact h0)
  rw [eQ] at hin
  have hk4 : 4 ≤ (getL l 0).kids.length := by
   unfold fullN at hf
   rw [if_neg h0] at hf
   have := of_decide_eq_true hf
   obtain ⟨⟨f1, _⟩, _⟩ := t.cfg
   omega
  have hlf : (liftN (getL l 0) 0 0).2.2.2 = true := by rw [lift_ok]; exact cleave_inner h0 hin.2.1 hk4
  by_cases hr : c.slots.toNat - l.length < 2
  ·have e := step_e hc1 (show ¬ (liftS c l).1 = 0 by rw [liftS_4 hlf hr]; simp)
   rw [cyc_end (by rw [e])] at h
   cases h
   exact .inr (by rw [e, liftS_4 hlf hr])
  ·have e := step_1 hc1 (show (liftS c l).1 = 0 by rw [liftS_0 hlf hr])
   rw [cyc_did (by rw [e]; simp) (by rw [e]; simp)] at h
   have := cyc_mono m2 h
   exact .inl om9
theorem Tree.snorm {c : Cfg} {l : List Nd} {ss : List Seat} (t : Tree c l ss) {x : Seat} (hx : x ∈ ss) : x.s.norm = x.s := by
 have h := hx
 rw [t.fix] at h
 rcases List.mem_cons.1 h with rfl | h
 ·rfl
 ·obtain ⟨y, hy, hk⟩ := List.mem_flatMap.1 h
  by_cases h0 : y.n.level = 0
  ·rw [kids_leaf h0] at hk; cases hk
  ·rw [(kids_all (t.kids hy) h0).1] at hk
   obtain ⟨j, _, rfl⟩ := List.mem_map.1 hk
   exact meet_norm _ _
theorem want_t {l : List Nd} {ss : List Seat} {k : Str} {i : Nat} (hi : i < ss.length) (e : ss[i] = leafS l k) : ∀ j (h : j < ss.length), j < i + 1 → ss[j] = leafS l k → ss[i].s.hi = (leafS l k).s.hi := fun _ _ _ _ => by rw [e]
theorem want_f {l : List Nd} {ss : List Seat} {k : Str} {i : Nat} {W : Str} (hI : ∀ j (h : j < ss.length), j < i → ss[j] = leafS l k → W = (leafS l k).s.hi) (hn : ∀ h : i < ss.length, ¬ ss[i] = leafS l k) :
  ∀ j (h : j < ss.length), j < i + 1 → ss[j] = leafS l k → W = (leafS l k).s.hi := fun j h hj e => by
 by_cases hji : j = i
 ·subst hji; exact absurd e (hn h)
 ·exact hI j h om9 e
theorem want_all {c : Cfg} {l : List Nd} {ss : List Seat} {k W : Str} (t : Tree c l ss) (hI : ∀ j (h : j < ss.length), j < ss.length → ss[j] = leafS l k → W = (leafS l k).s.hi) :
  (if (leafS l k).s.opn = true then Str.nil else (leafS l k).s.hi) = W := by
 obtain ⟨j, hj, e⟩ := List.getElem_of_mem (t.leafOk k).mem
 rw [hI j hj hj e]
 split
 ·rename_i h
  refine (norm_cases (t.snorm (t.leafOk k).mem) ?_ h).symm
  cases h2 : (leafS l k).s.empty
  ·rfl
  ·have := empty_iff.1 h2 k
   rw [(t.leafOk k).has] at this
   cases this
 ·rfl
end Go.Fw
namespace Go.Proofs.YtfmigmijckdldaaGreat
open Go Go.Fw Go.RowKit
attribute [local irreducible] Ok W WC
theorem flushCycles_fc {G : GH} (cfan : Int) (cleaf : Int) (cbud : Int) (cslots : Int) (crest : Int) {v_l : Value} {l : List Nd} (h_l : SlR eNode G v_l l) (k : Str) :
    Fc Tryz.prog 4 [.agg #[iV cfan, iV cleaf, iV cbud, iV cslots, iV crest], v_l, sV k.b] G [] (fun v _ _ => v = .bool (true)) := by
 obtain ⟨sa_l, sc_l, rfl⟩ := h_l.form
 have hl := h_l.len47
 refine Fc.go [.tmp 6] Tryz.func4 Tryz.ntmps4 rfl (fun w0 => (g9 2 ?_))
 refine W.box (L := [iV _, iV _, iV _, iV _, iV _]) rfl rfl (fun b1 => (g9 8 ?_))
 refine W.qcall (tree_fc _ _ _ _ _ h_l _ om9) rfl (g9 2 ?_)
 refine W.sp 24 rfl (fun h23 => ?_) (fun h23 => ?_)
 ·refine g9 9 ?_
  refine W.qcall (awk31_fc) rfl (g9 6 ?_)
  rfl
 obtain ⟨ss, t⟩ := tree_of (c := (⟨cfan, cleaf, cbud, cslots, crest⟩ : Cfg)) (by simpa using h23) om9
 have hS := t.sml
 have hl100 := hS.1
 have hl60 := tree_len (most := 60) (c := (⟨cfan, cleaf, cbud, cslots, crest⟩ : Cfg)) (l := l) (by simpa using h23)
 obtain ⟨N9, r9, hN9, hr9⟩ := cyc_all t om9 k
 obtain ⟨sT, tT, hmT⟩ := cyc_tree N9 t ⟨Int.le_refl _, by have := t.pos; omega⟩ hr9
 have hST := tT.sml
 refine g9 9 ?_
 refine WC.cd (fun h27 p27 => ?_) (fun h27 p27 => ?_)
 ·try dsimp only at p27
  refine g9 2 ?_
  refine W.qcall (awk31_fc) rfl (g9 6 ?_)
  rfl
 try dsimp only at p27
 refine g9 6 ?_
 refine W.call (Mp := []) (gload_fc (cfan) (cleaf) (cbud) (cslots) (crest) h_l) rfl pr9 ?_
 intro v5 G2 Ms4 hG2 q3
 have q6 := or3 q3
 refine Or.elim q6 (fun q7 => ?_) (fun q8 => ?_)
 ·refine match q7 with | ⟨hnl, e_9, e_10⟩ => ?_
  subst e_9
  subst e_10
  exact absurd ⟨t.cfg, t.pos, placed_of t.slot⟩ hnl
 refine Or.elim q8 (fun q11 => ?_) (fun q12 => ?_)
 ·refine match q11 with | ⟨hOK, hnle, e_13, e_14⟩ => ?_
  subst e_13
  subst e_14
  exact absurd t.q.1.2.2 hnle
 refine match q12 with | ⟨hOK, hle, bSt, e_15, hS9⟩ => ?_
 subst e_15
 refine W.perm (pmC pr9).symm (g9 11 ?_)
 refine W.call (Mp := []) (rof_fc (cfan) (cleaf) (cbud) (cslots) (crest) (h_l.mono hG2)) rfl pr9 ?_
 intro v19 G16 Ms18 hG16 q17
 refine match q17 with | ⟨bRf, e_20, vRf, MoRf, eRf, hoRf⟩ => ?_
 subst e_20
 subst eRf
 have q22 := hoRf.form
 refine match q22 with | ⟨saRf, scRf, e_21⟩ => ?_
 subst e_21
 refine W.perm (M' := ((bRf, ce9 39 [iV cfan, iV cleaf, iV cbud, iV cslots, iV crest, lV saRf l.length scRf]) :: ((b1, ce9 23 [iV cfan, iV cleaf, iV cbud, iV cslots, iV crest]) :: (MoRf ++ (Ms4 ++ []))))) (((pmC pr9).cons _).trans pr9).symm (g9 7 ?_)
 refine W.call (Mp := Ms4) (fnext_fc (StR.mono hG16 hS9) t _) rfl (pmC (pmC (pmA pr9))) ?_
 intro v26 G23 Ms25 hG23 q24
 refine match q24 with | ⟨eeq24, e_28⟩ => ?_
 subst e_28
 have eeq24 := eeq24.symm
 subst eeq24
 refine W.perm (pmC (pmC pr9)).symm (g9 11 ?_)
 refine W.call (Mp := []) (seats_fc (h_l.mono lec) _ (by assumption)) rfl pr9 ?_
 intro v31 G29 _ hG29 q30
 have q32 := q30.1
 subst q32
 have q33 := q30.2
 refine Or.elim q33 (fun q34 => ?_) (fun q35 => ?_)
 ·refine match q34 with | ⟨u_s36, ssq, hssq, e_37, hv_s36, hqsq⟩ => ?_
  subst e_37
  have q39 := hv_s36.form
  refine match q39 with | ⟨sa_s36, sc_s36, e_38⟩ => ?_
  subst e_38
  have e9 : ss = ssq := Option.some.inj (t.sts.symm.trans hssq)
  subst e9
  have hss47q := hv_s36.len47
  refine g9 16 ?_
  refine WC.loop (X := Nat × Str) (fun x => [(11, sV x.2.b), (49, nt9 x.1), (7, pt9 bSt), (3, pt9 b1), (9, pt9 bRf), (1, lV sa_l l.length sc_l), (2, sV k.b), (8, iV 0), (10, sV ((if (leafS (l) (k)).s.opn = true then Str.nil else (leafS (l) (k)).s.hi)).b), (47, lV sa_s36 ss.length sc_s36), (48, nt9 ((ss).length))]) (fun x _ Ml => Ml = ((bRf, ce9 39 [iV cfan, iV cleaf, iV cbud, iV cslots, iV crest, lV saRf l.length scRf]) :: ((b1, ce9 23 [iV cfan, iV cleaf, iV cbud, iV cslots, iV crest]) :: (Ms4 ++ (MoRf ++ [])))) ∧ (∀ j (h : j < ss.length), j < x.1 → ss[j] = leafS l k → x.2 = (leafS l k).s.hi) ∧ x.1 ≤ ss.length) (fun x => ss.length - x.1) ((0, Str.nil) : Nat × Str) hs9 ?_ ?_
  ·exact ⟨rfl, fun j h hj => absurd hj (Nat.not_lt_zero j), Nat.zero_le _⟩
  rintro ⟨i, wn⟩ gG40 G40 _ hG40 ⟨rfl, hwI, hwi⟩
  refine WC.fr (f := setL gG40 [(11, sV wn.b), (49, nt9 i), (7, pt9 bSt), (3, pt9 b1), (9, pt9 bRf), (1, lV sa_l l.length sc_l), (2, sV k.b), (8, iV 0), (10, sV ((if (leafS (l) (k)).s.opn = true then Str.nil else (leafS (l) (k)).s.hi)).b), (47, lV sa_s36 ss.length sc_s36), (48, nt9 ((ss).length))]) rfl (g9 6 ?_)
  refine WC.cd (fun h50 p50 => ?_) (fun h50 p50 => ?_)
  ·try dsimp only at p50
   refine g9 6 ?_
   have q44 := (hv_s36.mono hG40).at (i := (i)) om9
   refine match q44 with | ⟨_, he41, ⟨_, _, _, _, _, _, _, _, qa_t42, qc_t42, e_43, hp_t42, hk_t42, hm_t42, hr_t42, hq_t42, hok_t42⟩⟩ => ?_
   subst e_43
   refine W.ok (ok_indexAddr (i := (i)) sl46 ty57 (hv_s36.mono hG40) rfl rfl ⟨om9, om9⟩) (g9 1 ?_)
   refine W.alloc zr57 (fun b45 => (g9 10 ?_))
   refine W.sd 57 (fun h56 p56 => ?_) (fun h56 p56 => ?_)
   ·try dsimp only at p56
    refine g9 7 ?_
    refine W.qcall (has_fc _ _ _ _) rfl (g9 3 ?_)
    refine WC.cond rfl (fun h61 => ?_) (fun h61 => ?_)
    ·refine g9 11 ?_
     refine W.sub (sr9.cons _) (g9 2 ?_)
     exact ⟨Le.rfl, ((i + 1, (ss[i]'om9).s.hi) : Nat × Str), hs9, ⟨rfl, want_t om9 (t.leaf_eq (List.getElem_mem _) h61 p56), by dsimp only; omega⟩, by dsimp only; omega⟩
    refine g9 6 ?_
    refine W.sub (sr9.cons _) (g9 2 ?_)
    exact ⟨Le.rfl, ((i + 1, wn) : Nat × Str), hs9, ⟨rfl, want_f hwI (fun h e => by have h9 := (t.leafOk k).has; rw [← e] at h9; rw [h9] at h61; cases h61), by dsimp only; omega⟩, by dsimp only; omega⟩
   try dsimp only at p56
   refine g9 14 ?_
   refine W.sub (sr9.cons _) (g9 2 ?_)
   exact ⟨Le.rfl, ((i + 1, wn) : Nat × Str), hs9, ⟨rfl, want_f hwI (fun h e => by exact p56 (by rw [e]; exact (t.leafOk k).lvl)), by dsimp only; omega⟩, by dsimp only; omega⟩
  try dsimp only at p50
  have hNX := want_all (W := wn) t (fun j h _ e => hwI j h om9 e)
  refine g9 9 ?_
  refine W.call (Mp := Ms4) (fcycle_fc (StR.mono lec hS9) t k rfl N9 r9 hr9 om9) rfl (pmC (pmC pr9)) ?_
  intro v49 G46 Ms48 hG46 q47
  refine match q47 with | ⟨e_51, hR50⟩ => ?_
  subst e_51
  refine W.perm (pmC (pmC pr9)).symm (g9 11 ?_)
  refine W.call (Mp := ((bRf, ce9 39 [iV cfan, iV cleaf, iV cbud, iV cslots, iV crest, lV saRf l.length scRf]) :: MoRf)) (Mr := ((b1, ce9 23 [iV cfan, iV cleaf, iV cbud, iV cslots, iV crest]) :: (Ms48 ++ []))) (rcycle_fc (c := (⟨cfan, cleaf, cbud, cslots, crest⟩ : Cfg)) ⟨_, _, rfl, (hoRf.mono lec)⟩ t k 100000 N9 r9 hr9 ⟨om9, om9⟩) rfl (((pmC (pmA pr9)).cons _).trans pr9) ?_
  intro v53 G54 Ms55 hG54 q52
  refine match q52 with | ⟨e_56, vRg, MoRg, eRg, hoRg⟩ => ?_
  subst e_56
  subst eRg
  have q58 := hoRg.form
  refine match q58 with | ⟨saRg, scRg, e_57⟩ => ?_
  subst e_57
  refine W.perm (M' := ((bRf, ce9 39 [iV cfan, iV cleaf, iV cbud, iV cslots, iV crest, lV saRg (r9.2.2).length scRg]) :: ((b1, ce9 23 [iV cfan, iV cleaf, iV cbud, iV cslots, iV crest]) :: (MoRg ++ (Ms48 ++ []))))) (((pmC pr9).cons _).trans pr9).symm (g9 9 ?_)
  refine WC.dw (sn9.k9.k9) (d9 [0, 1, 2, 3, 4, 5, 6, 7] ?_)
  refine WD.sp 86 rfl (fun h84 => ?_) (fun h84 => ?_)
  ·have p84 := nd_t h84
   try dsimp only at p84
   exact absurd (congrArg Str.b hNX) p84
  have p84 := nd_f h84
  try dsimp only at p84
  refine d9 [8, 9, 10, 11, 12] ?_
  refine WD.sp 91 rfl (fun h89 => ?_) (fun h89 => ?_)
  ·have p89 := nd_t h89
   try dsimp only at p89
   exact absurd rfl p89
  have p89 := nd_f h89
  try dsimp only at p89
  refine d9 [13, 14, 15, 16, 17] ?_
  refine WD.sp 96 rfl (fun h94 => ?_) (fun h94 => ?_)
  ·have p94 := nd_t h94
   try dsimp only at p94
   exact absurd rfl p94
  have p94 := nd_f h94
  try dsimp only at p94
  refine d9 [18, 20, 21, 22, 23] ?_
  refine WD.anyG [19] (by kernel_rfl) rfl ⟨⟨_, rfl, .inr ⟨_, 96, _, _, rfl, rfl, rfl, h94, rfl⟩, (W.call (Mp := Ms48) (pnodes_fc (StR.mono hG54 hR50)) rfl (pmC (pmC (pmA pr9))) ?_)⟩, trivial⟩
  intro v62 G59 Ms61 hG59 q60
  refine match q60 with | ⟨hR63, eeq60⟩ => ?_
  have eeq60 := eeq60.symm
  subst eeq60
  refine W.perm (pmC (pmC pr9)).symm ?_
  have q65 := hR63.form
  refine match q65 with | ⟨sa_hR63, sc_hR63, e_64⟩ => ?_
  subst e_64
  refine W.nn (WD.anyG [24] (by kernel_rfl) rfl ⟨⟨_, rfl, .inr ⟨_, 96, _, _, rfl, rfl, rfl, h94, rfl⟩, (W.giveO (hoRg.mono hG59) (pmC (pmC (pmA pr9))) (fun G66 hG66 hv66 => (W.qcall ((all21_fc (hR63.mono hG66) hv66).mono (fun v _ _ _ hv => hv.trans (congrArg Value.bool (decide_eq_true rfl)))) rfl (W.nn (d9 [25, 26, 27, 28, 29] ?_)))))⟩, trivial⟩)
  refine WD.anyG [30] (by kernel_rfl) rfl ⟨⟨_, rfl, .inr ⟨_, 106, _, _, rfl, rfl, rfl, rfl, rfl⟩, (W.call (Mp := Ms48) (pnodes_fc (StR.mono lec hR50)) rfl (pmC (pmC pr9)) ?_)⟩, trivial⟩
  intro v70 G67 Ms69 hG67 q68
  refine match q68 with | ⟨hR71, eeq68⟩ => ?_
  have eeq68 := eeq68.symm
  subst eeq68
  refine W.perm (pmC (pmC pr9)).symm ?_
  have q73 := hR71.form
  refine match q73 with | ⟨sa_hR71, sc_hR71, e_72⟩ => ?_
  subst e_72
  refine W.nn (WD.anyG [31] (by kernel_rfl) rfl ⟨⟨_, rfl, .inr ⟨_, 106, _, _, rfl, rfl, rfl, rfl, rfl⟩, (W.qcall ((sound_fc _ _ _ _ _ hR71 hST).mono (fun v _ _ _ hv => hv.trans (congrArg Value.bool tT.sound))) rfl (W.nn (d9 [32, 33] ?_)))⟩, trivial⟩)
  refine g9 8 ?_
  refine (h_l.mono (((((((((hG2.trans hG16).trans hG23).trans hG29).trans hG40).trans hG46).trans hG54).trans hG59).trans hG66).trans hG67)).aN (i := 0) om9 (fun _ _ _ _ _ _ _ _ he74 hp_n75 hk_n75 hm_n75 hr_n75 hok_n75 => (W.ok (ok_indexAddr (i := 0) sl24 ty53 (h_l.mono lec) rfl rfl ⟨om9, om9⟩) (g9 5 ?_)))
  refine W.sd 119 (fun h118 p118 => ?_) (fun h118 p118 => ?_)
  ·try dsimp only at p118
   refine g9 11 ?_
   refine W.qcall (fnext_nil k) rfl (g9 4 ?_)
   refine W.sd 132 (fun h130 p130 => ?_) (fun h130 p130 => ?_)
   ·try dsimp only at p130
    refine g9 1 ?_
    refine W.qcall (awk31_fc) rfl (g9 6 ?_)
    rfl
   try dsimp only at p130
   exact absurd rfl p130
  try dsimp only at p118
  refine g9 6 ?_
  refine W.sd 123 (fun h121 p121 => ?_) (fun h121 p121 => ?_)
  ·try dsimp only at p121
   refine g9 7 ?_
   refine W.qcall (fnext_nil k) rfl (g9 4 ?_)
   refine W.sd 132 (fun h130 p130 => ?_) (fun h130 p130 => ?_)
   ·try dsimp only at p130
    refine g9 1 ?_
    refine W.qcall (awk31_fc) rfl (g9 6 ?_)
    rfl
   try dsimp only at p130
   exact absurd rfl p130
  try dsimp only at p121
  refine g9 6 ?_
  refine W.sd 127 (fun h125 p125 => ?_) (fun h125 p125 => ?_)
  ·try dsimp only at p125
   refine g9 3 ?_
   refine W.qcall (fnext_nil k) rfl (g9 4 ?_)
   refine W.sd 132 (fun h130 p130 => ?_) (fun h130 p130 => ?_)
   ·try dsimp only at p130
    refine g9 1 ?_
    refine W.qcall (awk31_fc) rfl (g9 6 ?_)
    rfl
   try dsimp only at p130
   exact absurd rfl p130
  try dsimp only at p125
  exact absurd (prog_root t (by rw [show getL l 0 = l[0] from getL_in ⟨Int.le_refl _, by have := t.pos; omega⟩]; omega) hr9) (fun h => h.elim p121 p125)
 exact absurd (t.sts.symm.trans (by obtain ⟨_, _, h0, _⟩ := q35; exact h0)) (by simp)

end Go.Proofs.YtfmigmijckdldaaGreat
