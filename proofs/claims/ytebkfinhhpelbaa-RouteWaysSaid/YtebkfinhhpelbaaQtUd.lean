/- Walks of the ways of texts. -/
import Derived.Test.YtebkfinhhpelbaaQtUc
import Derived.Test.YtebkfinhhpelbaaQtNo
import Derived.Test.YtebkfinhhpelbaaQtU4
namespace Go.Proofs.Ytebkfinhhpelbaa
open Go Go.Fw Go.RowKit
set_option maxRecDepth 100000
set_option maxHeartbeats 1600000
set_option linter.unusedVariables false
set_option linter.unusedSimpArgs false
set_option linter.unnecessarySimpa false
theorem pnode_nil {G : GH}  (i : Int) :
    Fc Try.prog 29 [.pointer none, .int .i64 i] G [] (fun v G' M' => M' = [] ∧ ∃ u0, v = .tuple #[.agg (List.toArray u0), .bool (false)] ∧ NodeC G' u0 (Nd.zero)) := by
 refine Fc.intro (rs := [.cell 4 35, .tmp 5]) cl29 Try.func29 rfl Try.ntmps29 rfl rfl (fun w0 => ?_)
 refine WC.seq ?_
 refine WC.region ?_
 refine W.alloc zr35 (fun b1 => ?_)
 refine W.as ?_
 refine W.nil (thn_n ?_)
 refine WC.seq ?_
 refine WC.seq ?_
 refine WC.region ?_
 refine W.mv ?_
 refine W.ok (ok_eqlPN pp48 rfl rfl) ?_
 refine W.nil (thn_n ?_)
 refine WC.cond_t rfl rfl ?_
 refine WC.seq ?_
 refine WC.region ?_
 refine W.ok (ok_build (L := [.int .i64 _, .int .i64 _, .slice _ _ _, .slice _ _ _, .string _, .bool _, .int .i64 _, .int .i64 _, .slice _ _ _, .slice _ _ _]) pl35 zr35 rfl rfl rfl) ?_
 refine W.store (i := 0) (vs := [.int .i64 _, .int .i64 _, .slice _ _ _, .slice _ _ _, .string _, .bool _, .int .i64 _, .int .i64 _, .slice _ _ _, .slice _ _ _]) (L' := [.int .i64 _, .int .i64 _, .slice _ _ _, .slice _ _ _, .string _, .bool _, .int .i64 _, .int .i64 _, .slice _ _ _, .slice _ _ _]) ty35 rfl rfl rfl rfl rfl rfl rfl rfl ?_
 refine W.as ?_
 refine W.nil (thn_n ?_)
 refine WC.ret (thn_r ?_)
 refine ⟨.inr rfl, [_, _], ⟨⟨_, _, _, _, _, rfl, nthM_mem (i := 0) rfl, ty35, (by simp), rfl, rfl⟩, rfl, trivial⟩, [], List.nil_sublist _, ?_⟩
 exact ⟨rfl, _, rfl, _, _, _, _, _, _, _, _, rfl, SlR.nil, SlR.nil, SlR.nil, SlR.nil, Nd.zero_ok⟩

theorem way_nil {G : GH}  (k : Str) :
    Fc Try.prog 77 [.pointer none, .string k.b] G [] (fun v G' M' => M' = [] ∧ ∃ u0 u1, v = .tuple #[u0, u1] ∧ SlR eNode G' u0 (([] : List Nd)) ∧ SlR eSpan G' u1 (([] : List Span))) := by
 refine Fc.intro (rs := [.tmp 4, .tmp 5]) cl77 Try.func77 rfl Try.ntmps77 rfl rfl (fun w0 => ?_)
 refine WC.seq ?_
 refine WC.region ?_
 refine W.as ?_
 refine W.as ?_
 refine W.nil (thn_n ?_)
 refine WC.seq ?_
 refine WC.region ?_
 refine W.qcall (spanall_fc ) rfl ?_
 refine W.alloc zr37 (fun b2 => ?_)
 refine W.as ?_
 refine W.store (i := 0) (vs := [.string _, .string _, .bool _]) (L' := [.string _, .string _, .bool _]) ty37 rfl rfl rfl rfl rfl rfl rfl rfl ?_
 refine W.nil (thn_n ?_)
 refine WC.seq ?_
 refine WC.region ?_
 refine W.as ?_
 refine W.nil (thn_n ?_)
 refine WC.block ?_
 refine WC.loop (X := Nat) (fun j => [(4, .slice none 0 0), (5, .slice none 0 0), (6, .int .i64 0), (8, .int .i64 (-1)), (7, .pointer (some ⟨b2, 0, none⟩)), (0, .pointer none), (1, .string k.b)]) (fun j _ Ml => Ml = [(b2, .cells (List.toArray [.string (Span.all).lo.b, .string (Span.all).hi.b, .bool (Span.all).opn]) 37 (0, 0))]) (fun j => 0) 0 ⟨eqv, eqv, eqv, eqv, eqv, eqv, eqv, trivial⟩ ?_ ?_
 ·exact rfl
 ·rintro j gG3 G3 _ hG3 rfl
  refine WC.block ?_
  refine WC.seq ?_
  refine WC.region ?_
  refine W.mv ?_
  refine W.mv ?_
  refine W.call (Mp := []) (pnode_nil _) rfl (List.Perm.refl _) ?_
  intro _ G4 _ hG4 q6
  refine match q6 with | ⟨e_7, _, e_8, hv5⟩ => ?_
  subst e_7
  subst e_8
  refine match hv5 with | ⟨pa_hv5, pc_hv5, ka_hv5, kc_hv5, ma_hv5, mc_hv5, ra_hv5, rc_hv5, e_9, hp_hv5, hk_hv5, hm_hv5, hr_hv5, hok_hv5⟩ => ?_
  subst e_9
  refine W.mv ?_
  refine W.ok (ok_extract rfl rfl) ?_
  refine W.ok (ok_extract rfl rfl) ?_
  refine W.alloc zr35 (fun b10 => ?_)
  refine W.store (i := 0) (vs := [.int .i64 _, .int .i64 _, .slice _ _ _, .slice _ _ _, .string _, .bool _, .int .i64 _, .int .i64 _, .slice _ _ _, .slice _ _ _]) (L' := [.int .i64 _, .int .i64 _, .slice _ _ _, .slice _ _ _, .string _, .bool _, .int .i64 _, .int .i64 _, .slice _ _ _, .slice _ _ _]) ty35 rfl rfl rfl rfl rfl rfl rfl rfl ?_
  refine W.as ?_
  refine W.nil (thn_n ?_)
  refine WC.seq ?_
  refine WC.seq ?_
  refine WC.region ?_
  refine W.mv ?_
  refine W.ok (ok_not rfl) ?_
  refine W.mv ?_
  refine W.no (dj := 21) rfl rfl rfl ?_
  refine W.no (dj := 21) rfl rfl rfl ?_
  refine W.no (dj := 21) rfl rfl rfl ?_
  refine W.nou (dj := 24) rfl rfl ?_
  refine W.nou (dj := 24) rfl rfl ?_
  refine W.nou (dj := 24) rfl rfl ?_
  refine W.nou (dj := 24) rfl rfl ?_
  refine W.nou (dj := 24) rfl rfl ?_
  refine W.no (dj := 21) rfl rfl rfl ?_
  refine W.ok (ok_pick_t rfl rfl) ?_
  refine W.nil (thn_n ?_)
  refine WC.cond_t rfl rfl ?_
  refine WC.seq ?_
  refine WC.region ?_
  refine W.mv ?_
  refine W.mv ?_
  refine W.as ?_
  refine W.as ?_
  refine W.nil (thn_n ?_)
  refine WC.ret (thn_r (blk_r (thn_r (blk_r ?_))))
  refine ⟨.inr rfl, [_, _], ⟨rfl, rfl, trivial⟩, [], List.nil_sublist _, ?_⟩
  refine ⟨rfl, _, _, rfl, ?_, ?_⟩
  · exact SlR.nil
  · exact SlR.nil

theorem pnode_at {G : GH} {b : Nat} {c c2 : Cfg} {l : List Nd} {ss : List Seat} {M : MH} (h : StR 35 4 3 153 109 b c G l M) (t : Tree c2 l ss) {x : Seat} (hx : x ∈ ss) : Fc Try.prog 29 [.pointer (some ⟨b, 0, none⟩), .int .i64 x.n.slot] G M (fun v G' M' => (∃ cs, v = .tuple #[.agg (List.toArray cs), .bool true] ∧ NodeC G' cs x.n) ∧ M' = M) :=
  (pnode_fc h _).mono fun v G' M' _ ⟨⟨cs, e1, e2⟩, e3⟩ => ⟨⟨cs, by rw [e1, decide_eq_true (t.nd hx).1], e2.of (t.nd hx).2.1.symm⟩, e3⟩
theorem way_fc {G : GH} {b_s : Nat} {c c2 : Cfg} {l : List Nd} {ss : List Seat} {Ms_s : MH} (h_s : StR 35 4 3 153 109 b_s c G l Ms_s) (t : Tree c2 l ss) (k : Str) :
    Fc Try.prog 77 [.pointer (some ⟨b_s, 0, none⟩), .string k.b] G Ms_s (fun v G' M' => M' = Ms_s ∧ ∃ u1 u2, v = .tuple #[u1, u2] ∧ SlR eNode G' u1 ((wayN l k).map (·.n)) ∧ SlR eSpan G' u2 ((wayN l k).map (·.s))) := by
 refine Fc.intro (rs := [.tmp 4, .tmp 5]) cl77 Try.func77 rfl Try.ntmps77 rfl rfl (fun w0 => ?_)
 refine WC.perm (M' := (Ms_s ++ [])) (by simp) ?_
 refine WC.seq ?_
 refine WC.region ?_
 refine W.as ?_
 refine W.as ?_
 refine W.nil (thn_n ?_)
 refine WC.seq ?_
 refine WC.region ?_
 refine W.qcall (spanall_fc ) rfl ?_
 refine W.alloc zr37 (fun b11 => ?_)
 refine W.as ?_
 refine W.store (i := 0) (vs := [.string _, .string _, .bool _]) (L' := [.string _, .string _, .bool _]) ty37 rfl rfl rfl rfl rfl rfl rfl rfl ?_
 refine W.nil (thn_n ?_)
 refine WC.seq ?_
 refine WC.region ?_
 refine W.as ?_
 refine W.nil (thn_n ?_)
 refine WC.block ?_
 refine WC.loop (X := (Seat × List Seat × Int) × Value × MH × Value × MH) (fun x => [(6, .int .i64 x.1.1.n.slot), (8, .int .i64 x.1.2.2), (0, .pointer (some ⟨b_s, 0, none⟩)), (7, .pointer (some ⟨b11, 0, none⟩)), (1, .string k.b), (4, x.2.1), (5, x.2.2.2.1)]) (fun x G Ml => Ml = ((b11, .cells (List.toArray [.string (x.1.1.s).lo.b, .string (x.1.1.s).hi.b, .bool (x.1.1.s).opn]) 37 (0, 0)) :: (x.2.2.1 ++ (x.2.2.2.2 ++ (Ms_s ++ [])))) ∧ OwnR eNode 35 G x.2.1 (x.1.2.1.map (fun y : Seat => y.n)) x.2.2.1 ∧ OwnR eSpan 37 G x.2.2.2.1 (x.1.2.1.map (fun y : Seat => y.s)) x.2.2.2.2 ∧ At l ss k x.1.1 x.1.2.1 x.1.2.2) (fun x => x.1.1.n.level.toNat) (((rootS l 0, [], -1) : Seat × List Seat × Int), .slice none 0 0, ([] : MH), .slice none 0 0, ([] : MH)) ⟨(congrArg (Value.int .i64) t.root0.symm), eqv, eqv, eqv, eqv, eqv, eqv, trivial⟩ ?_ ?_
 ·exact ⟨rfl, (by simpa using OwnR.nil), (by simpa using OwnR.nil), At.init t k⟩
 ·rintro ⟨⟨x, P, lv⟩, v_4, M_4, v_5, M_5⟩ gG12 G12 _ hG12 ⟨rfl, ho_4, ho_5, hA⟩
  try dsimp only at ho_4 ho_5 hA
  have hpl := hA.plen t
  have hlx := t.lvl hA.mem
  have hlv := hA.lv
  refine WC.block ?_
  refine WC.seq ?_
  refine WC.region ?_
  refine W.mv ?_
  refine W.mv ?_
  refine W.call (Mp := Ms_s) (pnode_at (StR.mono hG12 h_s) t hA.mem) rfl (pmC (pmA (pmA (List.Perm.refl _)))) ?_
  intro v16 G13 Ms15 hG13 q14
  refine match q14 with | ⟨⟨_, e_18, ⟨pa_hR17, pc_hR17, ka_hR17, kc_hR17, ma_hR17, mc_hR17, ra_hR17, rc_hR17, e_19, hp_hR17, hk_hR17, hm_hR17, hr_hR17, hok_hR17⟩⟩, eeq14⟩ => ?_
  subst e_18
  subst e_19
  have eeq14 := eeq14.symm
  subst eeq14
  refine W.perm (pmC (List.Perm.refl _)).symm ?_
  refine W.mv ?_
  refine W.ok (ok_extract rfl rfl) ?_
  refine W.ok (ok_extract rfl rfl) ?_
  refine W.alloc zr35 (fun b20 => ?_)
  refine W.store (i := 0) (vs := [.int .i64 _, .int .i64 _, .slice _ _ _, .slice _ _ _, .string _, .bool _, .int .i64 _, .int .i64 _, .slice _ _ _, .slice _ _ _]) (L' := [.int .i64 _, .int .i64 _, .slice _ _ _, .slice _ _ _, .string _, .bool _, .int .i64 _, .int .i64 _, .slice _ _ _, .slice _ _ _]) ty35 rfl rfl rfl rfl rfl rfl rfl rfl ?_
  refine W.as ?_
  refine W.nil (thn_n ?_)
  refine WC.seq ?_
  refine WC.seq ?_
  refine WC.region ?_
  refine W.mv ?_
  refine W.ok (ok_not rfl) ?_
  refine W.mv ?_
  refine W.yes (dj := 21) rfl rfl rfl ?_
  refine W.mv ?_
  refine W.yes (dj := 21) rfl rfl rfl ?_
  refine W.ok (ok_geq rfl rfl) ?_
  refine W.yes (dj := 21) rfl rfl rfl ?_
  refine W.mv ?_
  refine W.sp 24 rfl (fun h23 => ?_) (fun h23 => ?_)
  ·have p23 := of_decide_eq_true h23
   try dsimp only at p23
   have hlv4 := hok_hR17.2.1.2
   refine W.yes (dj := 24) rfl rfl h23 ?_
   refine W.ok (ok_fieldB fd35_1 rfl) ?_
   refine W.yes (dj := 24) rfl rfl h23 ?_
   refine W.ok (ok_loadB (i := 0) (vs := [.int .i64 _]) ty3 rfl rfl rfl rfl (by simp)) ?_
   refine W.yes (dj := 24) rfl rfl h23 ?_
   refine W.mv ?_
   refine W.yes (dj := 24) rfl rfl h23 ?_
   refine W.ok (ok_sub rfl rfl (by dsimp only; omega)) ?_
   refine W.yes (dj := 24) rfl rfl h23 ?_
   refine W.ok (ok_neq rfl rfl) ?_
   refine W.yes (dj := 21) rfl rfl rfl ?_
   refine W.ok (ok_pick_t rfl h23) ?_
   refine W.ok (ok_pick_f rfl rfl) ?_
   refine W.nil (thn_n ?_)
   refine WC.cond (b := _) rfl (fun h29 => ?_) (fun h29 => ?_)
   ·have p29 := nd_t h29
    try dsimp only at p29
    exfalso; omega
   ·have p29 := nd_f h29
    try dsimp only at p29
    refine WC.skip (thn_n ?_)
    refine WC.perm (M' := ((b20, .cells (List.toArray [.int .i64 x.n.slot, .int .i64 x.n.level, .slice pa_hR17 (x.n.pivots).length pc_hR17, .slice ka_hR17 (x.n.kids).length kc_hR17, .string x.n.high.b, .bool x.n.top, .int .i64 x.n.right, .int .i64 x.n.seen, .slice ma_hR17 (x.n.msgs).length mc_hR17, .slice ra_hR17 (x.n.rows).length rc_hR17]) 35 (0, 0)) :: ((b11, .cells (List.toArray [.string (x.s).lo.b, .string (x.s).hi.b, .bool (x.s).opn]) 37 (0, 0)) :: (M_4 ++ (M_5 ++ (Ms_s ++ [])))))) ((((List.Perm.append_left _ ((List.Perm.append_left _ (List.Perm.refl _)).trans (pmA (List.Perm.refl _)))).trans (pmA (List.Perm.refl _))).cons _).cons _) ?_
    refine WC.join (X := (Unit) × Value × MH × Value × MH) (fun u7 => [(8, .int .i64 x.n.level), (0, .pointer (some ⟨b_s, 0, none⟩)), (7, .pointer (some ⟨b11, 0, none⟩)), (9, .pointer (some ⟨b20, 0, none⟩)), (1, .string k.b), (4, u7.2.1), (5, u7.2.2.2.1)]) (fun u7 G Ml => Ml = ((b20, .cells (List.toArray [.int .i64 x.n.slot, .int .i64 x.n.level, .slice pa_hR17 (x.n.pivots).length pc_hR17, .slice ka_hR17 (x.n.kids).length kc_hR17, .string x.n.high.b, .bool x.n.top, .int .i64 x.n.right, .int .i64 x.n.seen, .slice ma_hR17 (x.n.msgs).length mc_hR17, .slice ra_hR17 (x.n.rows).length rc_hR17]) 35 (0, 0)) :: ((b11, .cells (List.toArray [.string (x.s).lo.b, .string (x.s).hi.b, .bool (x.s).opn]) 37 (0, 0)) :: (u7.2.2.1 ++ (u7.2.2.2.2 ++ (Ms_s ++ []))))) ∧ OwnR eNode 35 G u7.2.1 ((P ++ [x]).map (fun y : Seat => y.n)) u7.2.2.1 ∧ OwnR eSpan 37 G u7.2.2.2.1 ((P ++ [x]).map (fun y : Seat => y.s)) u7.2.2.2.2) ?_ ?_
    ·refine WC.drawW _ (((List.nil_sublist _).cons_cons _).cons_cons _) mix (by rintro _ _ _ _ ⟨h | h, _⟩ <;> cases h) ?_
     refine WD.take 0 rfl rfl rfl (by kernel_rfl) (by kernel_rfl) (by kernel_rfl) (ok_mv) ?_
     refine WD.take 1 rfl rfl rfl (by kernel_rfl) (by kernel_rfl) (by kernel_rfl) (ok_loadB (i := 0) (vs := [.int .i64 _, .int .i64 _, .slice _ _ _, .slice _ _ _, .string _, .bool _, .int .i64 _, .int .i64 _, .slice _ _ _, .slice _ _ _]) ty35 rfl rfl rfl rfl (by simp)) ?_
     refine WD.take 4 rfl rfl rfl (by kernel_rfl) (by kernel_rfl) (by kernel_rfl) (ok_mv) ?_
     refine WD.take 5 rfl rfl rfl (by kernel_rfl) (by kernel_rfl) (by kernel_rfl) (ok_loadB (i := 1) (vs := [.string _, .string _, .bool _]) ty37 rfl rfl rfl rfl (by simp)) ?_
     refine WD.take 8 rfl rfl rfl (by kernel_rfl) (by kernel_rfl) (by kernel_rfl) (ok_fieldB fd35_1 rfl) ?_
     refine WD.take 9 rfl rfl rfl (by kernel_rfl) (by kernel_rfl) (by kernel_rfl) (ok_loadB (i := 0) (vs := [.int .i64 _]) ty3 rfl rfl rfl rfl (by simp)) ?_
     refine WD.any [2, 6] (by kernel_rfl) rfl ⟨⟨_, rfl, rfl, ?_⟩, ⟨_, rfl, rfl, ?_⟩, trivial⟩
     ·refine W.lit (e := eNode) (l := [x.n]) (css := [[.int .i64 _, .int .i64 _, .slice _ _ _, .slice _ _ _, .string _, .bool _, .int .i64 _, .int .i64 _, .slice _ _ _, .slice _ _ _]]) sl24 ty35 zr35 rfl rfl rfl rfl rfl rfl ⟨⟨_, _, _, _, _, _, _, _, rfl, hp_hR17, hk_hR17, hm_hR17, hr_hR17, hok_hR17⟩, trivial⟩ (fun bl21 G21 hG21 hv21 => ?_)
      refine W.nil ⟨hG21, ((List.nil_sublist _).cons_cons _).cons_cons _, _, ((List.nil_sublist _).cons_cons _).cons_cons _, List.Sublist.refl _, ?_⟩
      refine WD.any [3, 6] (by kernel_rfl) rfl ⟨⟨_, rfl, rfl, ?_⟩, ⟨_, rfl, rfl, ?_⟩, trivial⟩
      ·refine W.app (e := eNode) sl24 ty35 zr35 rfl by35 rfl rfl ((ho_4.mono (hG13.trans hG21))) (hv21) (pmC (pmC (List.Perm.refl _))) (by show (List.length _ + 1) * 152 ≤ _; rw [List.length_map]; omega) (fun v22 Ms23 ho24 => ?_)
       refine W.perm (pmC (pmC (List.Perm.refl _))).symm ?_
       refine W.nil ⟨Le.rfl, ((List.nil_sublist _).cons_cons _).cons_cons _, _, ((List.nil_sublist _).cons_cons _).cons_cons _, List.Sublist.refl _, ?_⟩
       refine WD.any [6] (by kernel_rfl) rfl ⟨⟨_, rfl, rfl, ?_⟩, trivial⟩
       refine W.lit (e := eSpan) (l := [x.s]) (css := [[.string _, .string _, .bool _]]) sl79 ty37 zr37 rfl rfl rfl rfl rfl rfl ⟨rfl, trivial⟩ (fun bl25 G25 hG25 hv25 => ?_)
       refine W.nil ⟨hG25, ((List.nil_sublist _).cons_cons _).cons_cons _, _, ((List.nil_sublist _).cons_cons _).cons_cons _, List.Sublist.refl _, ?_⟩
       refine WD.any [7] (by kernel_rfl) rfl ⟨⟨_, rfl, rfl, ?_⟩, trivial⟩
       refine W.app (e := eSpan) sl79 ty37 zr37 rfl by37 rfl rfl ((ho_5.mono ((hG13.trans hG21).trans hG25))) (hv25) (pmC (pmC (pmA (List.Perm.refl _)))) (by show (List.length _ + 1) * 40 ≤ _; rw [List.length_map]; omega) (fun v26 Ms27 ho28 => ?_)
       refine W.perm (pmC (pmC (List.Perm.refl _))).symm ?_
       refine W.nil ⟨Le.rfl, ((List.nil_sublist _).cons_cons _).cons_cons _, _, ((List.nil_sublist _).cons_cons _).cons_cons _, List.Sublist.refl _, ?_⟩
       refine WD.take 10 rfl rfl rfl (by kernel_rfl) (by kernel_rfl) (by kernel_rfl) (ok_as) ?_
       refine WD.take 11 rfl rfl rfl (by kernel_rfl) (by kernel_rfl) (by kernel_rfl) (ok_as) ?_
       refine WD.take 12 rfl rfl rfl (by kernel_rfl) (by kernel_rfl) (by kernel_rfl) (ok_as) ?_
       refine WD.doneP (M' := ((b20, .cells (List.toArray [.int .i64 x.n.slot, .int .i64 x.n.level, .slice pa_hR17 (x.n.pivots).length pc_hR17, .slice ka_hR17 (x.n.kids).length kc_hR17, .string x.n.high.b, .bool x.n.top, .int .i64 x.n.right, .int .i64 x.n.seen, .slice ma_hR17 (x.n.msgs).length mc_hR17, .slice ra_hR17 (x.n.rows).length rc_hR17]) 35 (0, 0)) :: ((b11, .cells (List.toArray [.string (x.s).lo.b, .string (x.s).hi.b, .bool (x.s).opn]) 37 (0, 0)) :: (Ms23 ++ (Ms27 ++ (Ms_s ++ [])))))) (by kernel_rfl) (List.Sublist.refl _) ((((List.Perm.append_left _ ((List.Perm.append_left _ (List.Perm.refl _)).trans (List.Perm.refl _))).trans (pmA (List.Perm.refl _))).cons _).cons _) (thn_n ?_)
       exact ⟨(hG21.trans hG25), ((), v22, Ms23, v26, Ms27), ⟨eqv, eqv, eqv, eqv, eqv, eqv, eqv, trivial⟩, ⟨rfl, (by have h := (ho24.mono hG25); rw [List.map_append]; exact h), (by have h := ho28; rw [List.map_append]; exact h)⟩⟩
      ·refine W.lit (e := eSpan) (l := [x.s]) (css := [[.string _, .string _, .bool _]]) sl79 ty37 zr37 rfl rfl rfl rfl rfl rfl ⟨rfl, trivial⟩ (fun bl29 G29 hG29 hv29 => ?_)
       refine W.nil ⟨hG29, ((List.nil_sublist _).cons_cons _).cons_cons _, _, ((List.nil_sublist _).cons_cons _).cons_cons _, List.Sublist.refl _, ?_⟩
       refine WD.any [3] (by kernel_rfl) rfl ⟨⟨_, rfl, rfl, ?_⟩, trivial⟩
       refine W.app (e := eNode) sl24 ty35 zr35 rfl by35 rfl rfl ((ho_4.mono ((hG13.trans hG21).trans hG29))) ((hv21.mono hG29)) (pmC (pmC (List.Perm.refl _))) (by show (List.length _ + 1) * 152 ≤ _; rw [List.length_map]; omega) (fun v30 Ms31 ho32 => ?_)
       refine W.perm (pmC (pmC (List.Perm.refl _))).symm ?_
       refine W.nil ⟨Le.rfl, ((List.nil_sublist _).cons_cons _).cons_cons _, _, ((List.nil_sublist _).cons_cons _).cons_cons _, List.Sublist.refl _, ?_⟩
       refine WD.any [7] (by kernel_rfl) rfl ⟨⟨_, rfl, rfl, ?_⟩, trivial⟩
       refine W.app (e := eSpan) sl79 ty37 zr37 rfl by37 rfl rfl ((ho_5.mono ((hG13.trans hG21).trans hG29))) (hv29) (pmC (pmC (pmA (List.Perm.refl _)))) (by show (List.length _ + 1) * 40 ≤ _; rw [List.length_map]; omega) (fun v33 Ms34 ho35 => ?_)
       refine W.perm (pmC (pmC (List.Perm.refl _))).symm ?_
       refine W.nil ⟨Le.rfl, ((List.nil_sublist _).cons_cons _).cons_cons _, _, ((List.nil_sublist _).cons_cons _).cons_cons _, List.Sublist.refl _, ?_⟩
       refine WD.take 10 rfl rfl rfl (by kernel_rfl) (by kernel_rfl) (by kernel_rfl) (ok_as) ?_
       refine WD.take 11 rfl rfl rfl (by kernel_rfl) (by kernel_rfl) (by kernel_rfl) (ok_as) ?_
       refine WD.take 12 rfl rfl rfl (by kernel_rfl) (by kernel_rfl) (by kernel_rfl) (ok_as) ?_
       refine WD.doneP (M' := ((b20, .cells (List.toArray [.int .i64 x.n.slot, .int .i64 x.n.level, .slice pa_hR17 (x.n.pivots).length pc_hR17, .slice ka_hR17 (x.n.kids).length kc_hR17, .string x.n.high.b, .bool x.n.top, .int .i64 x.n.right, .int .i64 x.n.seen, .slice ma_hR17 (x.n.msgs).length mc_hR17, .slice ra_hR17 (x.n.rows).length rc_hR17]) 35 (0, 0)) :: ((b11, .cells (List.toArray [.string (x.s).lo.b, .string (x.s).hi.b, .bool (x.s).opn]) 37 (0, 0)) :: (Ms31 ++ (Ms34 ++ (Ms_s ++ [])))))) (by kernel_rfl) (List.Sublist.refl _) ((((List.Perm.append_left _ ((List.Perm.append_left _ (List.Perm.refl _)).trans (List.Perm.refl _))).trans (pmA (List.Perm.refl _))).cons _).cons _) (thn_n ?_)
       exact ⟨(hG21.trans hG29), ((), v30, Ms31, v33, Ms34), ⟨eqv, eqv, eqv, eqv, eqv, eqv, eqv, trivial⟩, ⟨rfl, (by have h := ho32; rw [List.map_append]; exact h), (by have h := ho35; rw [List.map_append]; exact h)⟩⟩
     ·refine W.lit (e := eSpan) (l := [x.s]) (css := [[.string _, .string _, .bool _]]) sl79 ty37 zr37 rfl rfl rfl rfl rfl rfl ⟨rfl, trivial⟩ (fun bl36 G36 hG36 hv36 => ?_)
      refine W.nil ⟨hG36, ((List.nil_sublist _).cons_cons _).cons_cons _, _, ((List.nil_sublist _).cons_cons _).cons_cons _, List.Sublist.refl _, ?_⟩
      refine WD.any [2] (by kernel_rfl) rfl ⟨⟨_, rfl, rfl, ?_⟩, trivial⟩
      refine W.lit (e := eNode) (l := [x.n]) (css := [[.int .i64 _, .int .i64 _, .slice _ _ _, .slice _ _ _, .string _, .bool _, .int .i64 _, .int .i64 _, .slice _ _ _, .slice _ _ _]]) sl24 ty35 zr35 rfl rfl rfl rfl rfl rfl ⟨⟨_, _, _, _, _, _, _, _, rfl, (hp_hR17.mono hG36), (hk_hR17.mono hG36), (hm_hR17.mono hG36), (hr_hR17.mono hG36), hok_hR17⟩, trivial⟩ (fun bl37 G37 hG37 hv37 => ?_)
      refine W.nil ⟨hG37, ((List.nil_sublist _).cons_cons _).cons_cons _, _, ((List.nil_sublist _).cons_cons _).cons_cons _, List.Sublist.refl _, ?_⟩
      refine WD.any [3] (by kernel_rfl) rfl ⟨⟨_, rfl, rfl, ?_⟩, trivial⟩
      refine W.app (e := eNode) sl24 ty35 zr35 rfl by35 rfl rfl ((ho_4.mono ((hG13.trans hG36).trans hG37))) (hv37) (pmC (pmC (List.Perm.refl _))) (by show (List.length _ + 1) * 152 ≤ _; rw [List.length_map]; omega) (fun v38 Ms39 ho40 => ?_)
      refine W.perm (pmC (pmC (List.Perm.refl _))).symm ?_
      refine W.nil ⟨Le.rfl, ((List.nil_sublist _).cons_cons _).cons_cons _, _, ((List.nil_sublist _).cons_cons _).cons_cons _, List.Sublist.refl _, ?_⟩
      refine WD.any [7] (by kernel_rfl) rfl ⟨⟨_, rfl, rfl, ?_⟩, trivial⟩
      refine W.app (e := eSpan) sl79 ty37 zr37 rfl by37 rfl rfl ((ho_5.mono ((hG13.trans hG36).trans hG37))) ((hv36.mono hG37)) (pmC (pmC (pmA (List.Perm.refl _)))) (by show (List.length _ + 1) * 40 ≤ _; rw [List.length_map]; omega) (fun v41 Ms42 ho43 => ?_)
      refine W.perm (pmC (pmC (List.Perm.refl _))).symm ?_
      refine W.nil ⟨Le.rfl, ((List.nil_sublist _).cons_cons _).cons_cons _, _, ((List.nil_sublist _).cons_cons _).cons_cons _, List.Sublist.refl _, ?_⟩
      refine WD.take 10 rfl rfl rfl (by kernel_rfl) (by kernel_rfl) (by kernel_rfl) (ok_as) ?_
      refine WD.take 11 rfl rfl rfl (by kernel_rfl) (by kernel_rfl) (by kernel_rfl) (ok_as) ?_
      refine WD.take 12 rfl rfl rfl (by kernel_rfl) (by kernel_rfl) (by kernel_rfl) (ok_as) ?_
      refine WD.doneP (M' := ((b20, .cells (List.toArray [.int .i64 x.n.slot, .int .i64 x.n.level, .slice pa_hR17 (x.n.pivots).length pc_hR17, .slice ka_hR17 (x.n.kids).length kc_hR17, .string x.n.high.b, .bool x.n.top, .int .i64 x.n.right, .int .i64 x.n.seen, .slice ma_hR17 (x.n.msgs).length mc_hR17, .slice ra_hR17 (x.n.rows).length rc_hR17]) 35 (0, 0)) :: ((b11, .cells (List.toArray [.string (x.s).lo.b, .string (x.s).hi.b, .bool (x.s).opn]) 37 (0, 0)) :: (Ms39 ++ (Ms42 ++ (Ms_s ++ [])))))) (by kernel_rfl) (List.Sublist.refl _) ((((List.Perm.append_left _ ((List.Perm.append_left _ (List.Perm.refl _)).trans (List.Perm.refl _))).trans (pmA (List.Perm.refl _))).cons _).cons _) (thn_n ?_)
      exact ⟨(hG36.trans hG37), ((), v38, Ms39, v41, Ms42), ⟨eqv, eqv, eqv, eqv, eqv, eqv, eqv, trivial⟩, ⟨rfl, (by have h := ho40; rw [List.map_append]; exact h), (by have h := ho43; rw [List.map_append]; exact h)⟩⟩
    ·rintro ⟨u7, v_4, M_4, v_5, M_5⟩ gG44 G44 _ hG44 ⟨rfl, ho_4, ho_5⟩
     try dsimp only at ho_4 ho_5
     refine WC.seq ?_
     refine WC.seq ?_
     refine WC.region ?_
     refine W.mv ?_
     refine W.ok (ok_leq rfl rfl) ?_
     refine W.mv ?_
     refine W.sp 46 rfl (fun h45 => ?_) (fun h45 => ?_)
     ·have p45 := of_decide_eq_true h45
      try dsimp only at p45
      refine W.no (dj := 46) rfl rfl h45 ?_
      refine W.no (dj := 46) rfl rfl h45 ?_
      refine W.no (dj := 46) rfl rfl h45 ?_
      refine W.no (dj := 46) rfl rfl h45 ?_
      refine W.no (dj := 46) rfl rfl h45 ?_
      refine W.no (dj := 46) rfl rfl h45 ?_
      refine W.ok (ok_pick_t rfl h45) ?_
      refine W.nil (thn_n ?_)
      refine WC.cond_t rfl rfl ?_
      refine WC.seq ?_
      refine WC.region ?_
      refine W.mv ?_
      refine W.mv ?_
      refine W.as ?_
      refine W.as ?_
      refine W.nil (thn_n ?_)
      refine WC.giveO ho_4 (pmC (pmC (List.Perm.refl _))) (fun G45 hG45 hv45 => ?_)
      refine WC.giveO (ho_5.mono hG45) (pmC (pmC (List.Perm.refl _))) (fun G46 hG46 hv46 => ?_)
      refine WC.ret (thn_r (blk_r (thn_r (blk_r ?_))))
      refine ⟨.inr rfl, [_, _], ⟨rfl, rfl, trivial⟩, Ms_s, ((List.sublist_append_left _ _).cons _).cons _, ?_⟩
      refine ⟨rfl, _, _, rfl, SlR.cast (hv45.mono hG46) (by rw [hA.last p45]), SlR.cast hv46 (by rw [hA.last p45])⟩
     ·have p45 := of_decide_eq_false h45
      try dsimp only at p45
      refine W.yes (dj := 46) rfl rfl h45 ?_
      refine W.ok (ok_fieldB fd35_2 rfl) ?_
      refine W.yes (dj := 46) rfl rfl h45 ?_
      refine W.ok (ok_loadB (i := 0) (vs := [.slice _ _ _]) ty32 rfl rfl rfl rfl (by simp)) ?_
      refine W.yes (dj := 46) rfl rfl h45 ?_
      refine W.ok (ok_fieldB fd35_3 rfl) ?_
      refine W.yes (dj := 46) rfl rfl h45 ?_
      refine W.ok (ok_loadB (i := 0) (vs := [.slice _ _ _]) ty30 rfl rfl rfl rfl (by simp)) ?_
      refine W.yes (dj := 46) rfl rfl h45 ?_
      refine W.qcall (bright_fc (hp_hR17.mono hG44) (hk_hR17.mono hG44)) rfl ?_
      refine W.yes (dj := 46) rfl rfl h45 ?_
      refine W.ok (ok_not rfl) ?_
      refine W.ok (ok_pick_f rfl h45) ?_
      refine W.nil (thn_n ?_)
      refine WC.cond (b := _) rfl (fun h52 => ?_) (fun h52 => ?_)
      ·have h0 := t.right hA.mem p45; simp [h0] at h52
      ·have hrt := t.route hA.mem p45 k
       have hkl : x.n.kids.length ≤ 4000 := (t.sml.at (.inr (t.nd hA.mem).2.2)).1
       refine WC.skip (thn_n ?_)
       refine WC.seq ?_
       refine WC.region ?_
       refine W.ok (ok_fieldB fd35_2 rfl) ?_
       refine W.ok (ok_loadB (i := 0) (vs := [.slice _ _ _]) ty32 rfl rfl rfl rfl (by simp)) ?_
       refine W.mv ?_
       refine W.qcall (broute_fc (hp_hR17.mono hG44) _ (rightN_spec (t.right hA.mem p45)).1) rfl ?_
       refine W.as ?_
       refine W.nil (thn_n ?_)
       refine WC.drawW _ (((List.Sublist.refl _).cons _).cons_cons _) mix (by rintro _ _ _ _ ⟨h | h, _⟩ <;> cases h) ?_
       refine WD.take 0 rfl rfl rfl (by kernel_rfl) (by kernel_rfl) (by kernel_rfl) (ok_fieldB fd35_3 rfl) ?_
       refine WD.take 1 rfl rfl rfl (by kernel_rfl) (by kernel_rfl) (by kernel_rfl) (ok_loadB (i := 0) (vs := [.slice _ _ _]) ty30 rfl rfl rfl rfl (by simp)) ?_
       refine WD.take 2 rfl rfl rfl (by kernel_rfl) (by kernel_rfl) (by kernel_rfl) (ok_mv) ?_
       have q50 := (hk_hR17.mono hG44).at (i := routeN x.n.pivots k) (by omega)
       refine match q50 with | ⟨_, he47, ⟨e_49, hi48⟩⟩ => ?_
       subst e_49
       refine WD.take 3 rfl rfl rfl (by kernel_rfl) (by kernel_rfl) (by kernel_rfl) (ok_indexAddr (i := routeN x.n.pivots k) sl30 ty3 (hk_hR17.mono hG44) rfl rfl ⟨by omega, by omega⟩) ?_
       refine WD.take 4 rfl rfl rfl (by kernel_rfl) (by kernel_rfl) (by kernel_rfl) (ok_loadE (vs := [.int .i64 _]) ty3 he47 rfl rfl rfl (by simp)) ?_
       refine WD.take 6 rfl rfl rfl (by kernel_rfl) (by kernel_rfl) (by kernel_rfl) (ok_fieldB fd35_2 rfl) ?_
       refine WD.take 7 rfl rfl rfl (by kernel_rfl) (by kernel_rfl) (by kernel_rfl) (ok_loadB (i := 0) (vs := [.slice _ _ _]) ty32 rfl rfl rfl rfl (by simp)) ?_
       refine WD.take 8 rfl rfl rfl (by kernel_rfl) (by kernel_rfl) (by kernel_rfl) (ok_mv) ?_
       refine WD.any [5, 9] (by kernel_rfl) rfl ⟨⟨_, rfl, rfl, ?_⟩, ⟨_, rfl, rfl, ?_⟩, trivial⟩
       ·refine W.ok (ok_loadB (i := 1) (vs := [.string _, .string _, .bool _]) ty37 rfl rfl rfl rfl (by simp)) ?_
        refine W.nil ⟨Le.rfl, ((List.Sublist.refl _).cons _).cons_cons _, _, ((List.Sublist.refl _).cons _).cons_cons _, List.Sublist.refl _, ?_⟩
        refine WD.any [9] (by kernel_rfl) rfl ⟨⟨_, rfl, rfl, ?_⟩, trivial⟩
        refine W.qcall (brange_fc (hp_hR17.mono hG44) _ ⟨by omega, by omega⟩) rfl ?_
        refine W.nil ⟨Le.rfl, ((List.Sublist.refl _).cons _).cons_cons _, _, ((List.Sublist.refl _).cons _).cons_cons _, List.Sublist.refl _, ?_⟩
        refine WD.any [10] (by kernel_rfl) rfl ⟨⟨_, rfl, rfl, ?_⟩, trivial⟩
        refine W.qcall (smeet_fc _ _ _ _ _ _) rfl ?_
        refine W.nil ⟨Le.rfl, ((List.Sublist.refl _).cons _).cons_cons _, _, ((List.Sublist.refl _).cons _).cons_cons _, List.Sublist.refl _, ?_⟩
        refine WD.take 11 rfl rfl rfl (by kernel_rfl) (by kernel_rfl) (by kernel_rfl) (ok_as) ?_
        refine WD.any [12] (by kernel_rfl) rfl ⟨⟨_, rfl, rfl, ?_⟩, trivial⟩
        refine W.store (i := 1) (vs := [.string _, .string _, .bool _]) (L' := [.string _, .string _, .bool _]) ty37 rfl rfl rfl rfl rfl rfl rfl rfl ?_
        refine W.nil ⟨Le.rfl, ((List.Sublist.refl _).cons _).cons_cons _, _, ((List.Sublist.refl _).cons _).cons_cons _, List.Sublist.refl _, ?_⟩
        refine WD.doneP (M' := ((b11, .cells (List.toArray [.string ((kidSt l x (routeN x.n.pivots k)).s).lo.b, .string ((kidSt l x (routeN x.n.pivots k)).s).hi.b, .bool ((kidSt l x (routeN x.n.pivots k)).s).opn]) 37 (0, 0)) :: (M_4 ++ (M_5 ++ (Ms_s ++ []))))) (by kernel_rfl) ((List.Sublist.refl _).cons _) (List.Perm.refl _) (blk_n (thn_n ?_))
        exact ⟨(hG13.trans hG44), (((kidSt l x (routeN x.n.pivots k), P ++ [x], x.n.level) : Seat × List Seat × Int), v_4, M_4, v_5, M_5), ⟨(congrArg (Value.int .i64) (At.slot t hA.mem p45 k).symm), eqv, eqv, eqv, eqv, eqv, eqv, trivial⟩, ⟨rfl, (by simpa using ho_4), (by simpa using ho_5), hA.next t p45⟩, by have := (t.at hA.mem (by omega) (t.route hA.mem p45 k)).2.2.2; dsimp only; omega⟩
       ·refine W.qcall (brange_fc (hp_hR17.mono hG44) _ ⟨by omega, by omega⟩) rfl ?_
        refine W.nil ⟨Le.rfl, ((List.Sublist.refl _).cons _).cons_cons _, _, ((List.Sublist.refl _).cons _).cons_cons _, List.Sublist.refl _, ?_⟩
        refine WD.any [5] (by kernel_rfl) rfl ⟨⟨_, rfl, rfl, ?_⟩, trivial⟩
        refine W.ok (ok_loadB (i := 1) (vs := [.string _, .string _, .bool _]) ty37 rfl rfl rfl rfl (by simp)) ?_
        refine W.nil ⟨Le.rfl, ((List.Sublist.refl _).cons _).cons_cons _, _, ((List.Sublist.refl _).cons _).cons_cons _, List.Sublist.refl _, ?_⟩
        refine WD.any [10] (by kernel_rfl) rfl ⟨⟨_, rfl, rfl, ?_⟩, trivial⟩
        refine W.qcall (smeet_fc _ _ _ _ _ _) rfl ?_
        refine W.nil ⟨Le.rfl, ((List.Sublist.refl _).cons _).cons_cons _, _, ((List.Sublist.refl _).cons _).cons_cons _, List.Sublist.refl _, ?_⟩
        refine WD.take 11 rfl rfl rfl (by kernel_rfl) (by kernel_rfl) (by kernel_rfl) (ok_as) ?_
        refine WD.any [12] (by kernel_rfl) rfl ⟨⟨_, rfl, rfl, ?_⟩, trivial⟩
        refine W.store (i := 1) (vs := [.string _, .string _, .bool _]) (L' := [.string _, .string _, .bool _]) ty37 rfl rfl rfl rfl rfl rfl rfl rfl ?_
        refine W.nil ⟨Le.rfl, ((List.Sublist.refl _).cons _).cons_cons _, _, ((List.Sublist.refl _).cons _).cons_cons _, List.Sublist.refl _, ?_⟩
        refine WD.doneP (M' := ((b11, .cells (List.toArray [.string ((kidSt l x (routeN x.n.pivots k)).s).lo.b, .string ((kidSt l x (routeN x.n.pivots k)).s).hi.b, .bool ((kidSt l x (routeN x.n.pivots k)).s).opn]) 37 (0, 0)) :: (M_4 ++ (M_5 ++ (Ms_s ++ []))))) (by kernel_rfl) ((List.Sublist.refl _).cons _) (List.Perm.refl _) (blk_n (thn_n ?_))
        exact ⟨(hG13.trans hG44), (((kidSt l x (routeN x.n.pivots k), P ++ [x], x.n.level) : Seat × List Seat × Int), v_4, M_4, v_5, M_5), ⟨(congrArg (Value.int .i64) (At.slot t hA.mem p45 k).symm), eqv, eqv, eqv, eqv, eqv, eqv, trivial⟩, ⟨rfl, (by simpa using ho_4), (by simpa using ho_5), hA.next t p45⟩, by have := (t.at hA.mem (by omega) (t.route hA.mem p45 k)).2.2.2; dsimp only; omega⟩
  ·have p23 := of_decide_eq_false h23
   try dsimp only at p23
   refine W.no (dj := 24) rfl rfl h23 ?_
   refine W.no (dj := 24) rfl rfl h23 ?_
   refine W.no (dj := 24) rfl rfl h23 ?_
   refine W.no (dj := 24) rfl rfl h23 ?_
   refine W.no (dj := 24) rfl rfl h23 ?_
   refine W.yes (dj := 21) rfl rfl rfl ?_
   refine W.ok (ok_pick_f rfl h23) ?_
   refine W.ok (ok_pick_f rfl rfl) ?_
   refine W.nil (thn_n ?_)
   refine WC.cond_f rfl rfl ?_
   refine WC.skip (thn_n ?_)
   refine WC.perm (M' := ((b20, .cells (List.toArray [.int .i64 x.n.slot, .int .i64 x.n.level, .slice pa_hR17 (x.n.pivots).length pc_hR17, .slice ka_hR17 (x.n.kids).length kc_hR17, .string x.n.high.b, .bool x.n.top, .int .i64 x.n.right, .int .i64 x.n.seen, .slice ma_hR17 (x.n.msgs).length mc_hR17, .slice ra_hR17 (x.n.rows).length rc_hR17]) 35 (0, 0)) :: ((b11, .cells (List.toArray [.string (x.s).lo.b, .string (x.s).hi.b, .bool (x.s).opn]) 37 (0, 0)) :: (M_4 ++ (M_5 ++ (Ms_s ++ [])))))) ((((List.Perm.append_left _ ((List.Perm.append_left _ (List.Perm.refl _)).trans (pmA (List.Perm.refl _)))).trans (pmA (List.Perm.refl _))).cons _).cons _) ?_
   refine WC.join (X := (Unit) × Value × MH × Value × MH) (fun u7 => [(8, .int .i64 x.n.level), (0, .pointer (some ⟨b_s, 0, none⟩)), (7, .pointer (some ⟨b11, 0, none⟩)), (9, .pointer (some ⟨b20, 0, none⟩)), (1, .string k.b), (4, u7.2.1), (5, u7.2.2.2.1)]) (fun u7 G Ml => Ml = ((b20, .cells (List.toArray [.int .i64 x.n.slot, .int .i64 x.n.level, .slice pa_hR17 (x.n.pivots).length pc_hR17, .slice ka_hR17 (x.n.kids).length kc_hR17, .string x.n.high.b, .bool x.n.top, .int .i64 x.n.right, .int .i64 x.n.seen, .slice ma_hR17 (x.n.msgs).length mc_hR17, .slice ra_hR17 (x.n.rows).length rc_hR17]) 35 (0, 0)) :: ((b11, .cells (List.toArray [.string (x.s).lo.b, .string (x.s).hi.b, .bool (x.s).opn]) 37 (0, 0)) :: (u7.2.2.1 ++ (u7.2.2.2.2 ++ (Ms_s ++ []))))) ∧ OwnR eNode 35 G u7.2.1 ((P ++ [x]).map (fun y : Seat => y.n)) u7.2.2.1 ∧ OwnR eSpan 37 G u7.2.2.2.1 ((P ++ [x]).map (fun y : Seat => y.s)) u7.2.2.2.2) ?_ ?_
   ·refine WC.drawW _ (((List.nil_sublist _).cons_cons _).cons_cons _) mix (by rintro _ _ _ _ ⟨h | h, _⟩ <;> cases h) ?_
    refine WD.take 0 rfl rfl rfl (by kernel_rfl) (by kernel_rfl) (by kernel_rfl) (ok_mv) ?_
    refine WD.take 1 rfl rfl rfl (by kernel_rfl) (by kernel_rfl) (by kernel_rfl) (ok_loadB (i := 0) (vs := [.int .i64 _, .int .i64 _, .slice _ _ _, .slice _ _ _, .string _, .bool _, .int .i64 _, .int .i64 _, .slice _ _ _, .slice _ _ _]) ty35 rfl rfl rfl rfl (by simp)) ?_
    refine WD.take 4 rfl rfl rfl (by kernel_rfl) (by kernel_rfl) (by kernel_rfl) (ok_mv) ?_
    refine WD.take 5 rfl rfl rfl (by kernel_rfl) (by kernel_rfl) (by kernel_rfl) (ok_loadB (i := 1) (vs := [.string _, .string _, .bool _]) ty37 rfl rfl rfl rfl (by simp)) ?_
    refine WD.take 8 rfl rfl rfl (by kernel_rfl) (by kernel_rfl) (by kernel_rfl) (ok_fieldB fd35_1 rfl) ?_
    refine WD.take 9 rfl rfl rfl (by kernel_rfl) (by kernel_rfl) (by kernel_rfl) (ok_loadB (i := 0) (vs := [.int .i64 _]) ty3 rfl rfl rfl rfl (by simp)) ?_
    refine WD.any [2, 6] (by kernel_rfl) rfl ⟨⟨_, rfl, rfl, ?_⟩, ⟨_, rfl, rfl, ?_⟩, trivial⟩
    ·refine W.lit (e := eNode) (l := [x.n]) (css := [[.int .i64 _, .int .i64 _, .slice _ _ _, .slice _ _ _, .string _, .bool _, .int .i64 _, .int .i64 _, .slice _ _ _, .slice _ _ _]]) sl24 ty35 zr35 rfl rfl rfl rfl rfl rfl ⟨⟨_, _, _, _, _, _, _, _, rfl, hp_hR17, hk_hR17, hm_hR17, hr_hR17, hok_hR17⟩, trivial⟩ (fun bl51 G51 hG51 hv51 => ?_)
     refine W.nil ⟨hG51, ((List.nil_sublist _).cons_cons _).cons_cons _, _, ((List.nil_sublist _).cons_cons _).cons_cons _, List.Sublist.refl _, ?_⟩
     refine WD.any [3, 6] (by kernel_rfl) rfl ⟨⟨_, rfl, rfl, ?_⟩, ⟨_, rfl, rfl, ?_⟩, trivial⟩
     ·refine W.app (e := eNode) sl24 ty35 zr35 rfl by35 rfl rfl ((ho_4.mono (hG13.trans hG51))) (hv51) (pmC (pmC (List.Perm.refl _))) (by show (List.length _ + 1) * 152 ≤ _; rw [List.length_map]; omega) (fun v52 Ms53 ho54 => ?_)
      refine W.perm (pmC (pmC (List.Perm.refl _))).symm ?_
      refine W.nil ⟨Le.rfl, ((List.nil_sublist _).cons_cons _).cons_cons _, _, ((List.nil_sublist _).cons_cons _).cons_cons _, List.Sublist.refl _, ?_⟩
      refine WD.any [6] (by kernel_rfl) rfl ⟨⟨_, rfl, rfl, ?_⟩, trivial⟩
      refine W.lit (e := eSpan) (l := [x.s]) (css := [[.string _, .string _, .bool _]]) sl79 ty37 zr37 rfl rfl rfl rfl rfl rfl ⟨rfl, trivial⟩ (fun bl55 G55 hG55 hv55 => ?_)
      refine W.nil ⟨hG55, ((List.nil_sublist _).cons_cons _).cons_cons _, _, ((List.nil_sublist _).cons_cons _).cons_cons _, List.Sublist.refl _, ?_⟩
      refine WD.any [7] (by kernel_rfl) rfl ⟨⟨_, rfl, rfl, ?_⟩, trivial⟩
      refine W.app (e := eSpan) sl79 ty37 zr37 rfl by37 rfl rfl ((ho_5.mono ((hG13.trans hG51).trans hG55))) (hv55) (pmC (pmC (pmA (List.Perm.refl _)))) (by show (List.length _ + 1) * 40 ≤ _; rw [List.length_map]; omega) (fun v56 Ms57 ho58 => ?_)
      refine W.perm (pmC (pmC (List.Perm.refl _))).symm ?_
      refine W.nil ⟨Le.rfl, ((List.nil_sublist _).cons_cons _).cons_cons _, _, ((List.nil_sublist _).cons_cons _).cons_cons _, List.Sublist.refl _, ?_⟩
      refine WD.take 10 rfl rfl rfl (by kernel_rfl) (by kernel_rfl) (by kernel_rfl) (ok_as) ?_
      refine WD.take 11 rfl rfl rfl (by kernel_rfl) (by kernel_rfl) (by kernel_rfl) (ok_as) ?_
      refine WD.take 12 rfl rfl rfl (by kernel_rfl) (by kernel_rfl) (by kernel_rfl) (ok_as) ?_
      refine WD.doneP (M' := ((b20, .cells (List.toArray [.int .i64 x.n.slot, .int .i64 x.n.level, .slice pa_hR17 (x.n.pivots).length pc_hR17, .slice ka_hR17 (x.n.kids).length kc_hR17, .string x.n.high.b, .bool x.n.top, .int .i64 x.n.right, .int .i64 x.n.seen, .slice ma_hR17 (x.n.msgs).length mc_hR17, .slice ra_hR17 (x.n.rows).length rc_hR17]) 35 (0, 0)) :: ((b11, .cells (List.toArray [.string (x.s).lo.b, .string (x.s).hi.b, .bool (x.s).opn]) 37 (0, 0)) :: (Ms53 ++ (Ms57 ++ (Ms_s ++ [])))))) (by kernel_rfl) (List.Sublist.refl _) ((((List.Perm.append_left _ ((List.Perm.append_left _ (List.Perm.refl _)).trans (List.Perm.refl _))).trans (pmA (List.Perm.refl _))).cons _).cons _) (thn_n ?_)
      exact ⟨(hG51.trans hG55), ((), v52, Ms53, v56, Ms57), ⟨eqv, eqv, eqv, eqv, eqv, eqv, eqv, trivial⟩, ⟨rfl, (by have h := (ho54.mono hG55); rw [List.map_append]; exact h), (by have h := ho58; rw [List.map_append]; exact h)⟩⟩
     ·refine W.lit (e := eSpan) (l := [x.s]) (css := [[.string _, .string _, .bool _]]) sl79 ty37 zr37 rfl rfl rfl rfl rfl rfl ⟨rfl, trivial⟩ (fun bl59 G59 hG59 hv59 => ?_)
      refine W.nil ⟨hG59, ((List.nil_sublist _).cons_cons _).cons_cons _, _, ((List.nil_sublist _).cons_cons _).cons_cons _, List.Sublist.refl _, ?_⟩
      refine WD.any [3] (by kernel_rfl) rfl ⟨⟨_, rfl, rfl, ?_⟩, trivial⟩
      refine W.app (e := eNode) sl24 ty35 zr35 rfl by35 rfl rfl ((ho_4.mono ((hG13.trans hG51).trans hG59))) ((hv51.mono hG59)) (pmC (pmC (List.Perm.refl _))) (by show (List.length _ + 1) * 152 ≤ _; rw [List.length_map]; omega) (fun v60 Ms61 ho62 => ?_)
      refine W.perm (pmC (pmC (List.Perm.refl _))).symm ?_
      refine W.nil ⟨Le.rfl, ((List.nil_sublist _).cons_cons _).cons_cons _, _, ((List.nil_sublist _).cons_cons _).cons_cons _, List.Sublist.refl _, ?_⟩
      refine WD.any [7] (by kernel_rfl) rfl ⟨⟨_, rfl, rfl, ?_⟩, trivial⟩
      refine W.app (e := eSpan) sl79 ty37 zr37 rfl by37 rfl rfl ((ho_5.mono ((hG13.trans hG51).trans hG59))) (hv59) (pmC (pmC (pmA (List.Perm.refl _)))) (by show (List.length _ + 1) * 40 ≤ _; rw [List.length_map]; omega) (fun v63 Ms64 ho65 => ?_)
      refine W.perm (pmC (pmC (List.Perm.refl _))).symm ?_
      refine W.nil ⟨Le.rfl, ((List.nil_sublist _).cons_cons _).cons_cons _, _, ((List.nil_sublist _).cons_cons _).cons_cons _, List.Sublist.refl _, ?_⟩
      refine WD.take 10 rfl rfl rfl (by kernel_rfl) (by kernel_rfl) (by kernel_rfl) (ok_as) ?_
      refine WD.take 11 rfl rfl rfl (by kernel_rfl) (by kernel_rfl) (by kernel_rfl) (ok_as) ?_
      refine WD.take 12 rfl rfl rfl (by kernel_rfl) (by kernel_rfl) (by kernel_rfl) (ok_as) ?_
      refine WD.doneP (M' := ((b20, .cells (List.toArray [.int .i64 x.n.slot, .int .i64 x.n.level, .slice pa_hR17 (x.n.pivots).length pc_hR17, .slice ka_hR17 (x.n.kids).length kc_hR17, .string x.n.high.b, .bool x.n.top, .int .i64 x.n.right, .int .i64 x.n.seen, .slice ma_hR17 (x.n.msgs).length mc_hR17, .slice ra_hR17 (x.n.rows).length rc_hR17]) 35 (0, 0)) :: ((b11, .cells (List.toArray [.string (x.s).lo.b, .string (x.s).hi.b, .bool (x.s).opn]) 37 (0, 0)) :: (Ms61 ++ (Ms64 ++ (Ms_s ++ [])))))) (by kernel_rfl) (List.Sublist.refl _) ((((List.Perm.append_left _ ((List.Perm.append_left _ (List.Perm.refl _)).trans (List.Perm.refl _))).trans (pmA (List.Perm.refl _))).cons _).cons _) (thn_n ?_)
      exact ⟨(hG51.trans hG59), ((), v60, Ms61, v63, Ms64), ⟨eqv, eqv, eqv, eqv, eqv, eqv, eqv, trivial⟩, ⟨rfl, (by have h := ho62; rw [List.map_append]; exact h), (by have h := ho65; rw [List.map_append]; exact h)⟩⟩
    ·refine W.lit (e := eSpan) (l := [x.s]) (css := [[.string _, .string _, .bool _]]) sl79 ty37 zr37 rfl rfl rfl rfl rfl rfl ⟨rfl, trivial⟩ (fun bl66 G66 hG66 hv66 => ?_)
     refine W.nil ⟨hG66, ((List.nil_sublist _).cons_cons _).cons_cons _, _, ((List.nil_sublist _).cons_cons _).cons_cons _, List.Sublist.refl _, ?_⟩
     refine WD.any [2] (by kernel_rfl) rfl ⟨⟨_, rfl, rfl, ?_⟩, trivial⟩
     refine W.lit (e := eNode) (l := [x.n]) (css := [[.int .i64 _, .int .i64 _, .slice _ _ _, .slice _ _ _, .string _, .bool _, .int .i64 _, .int .i64 _, .slice _ _ _, .slice _ _ _]]) sl24 ty35 zr35 rfl rfl rfl rfl rfl rfl ⟨⟨_, _, _, _, _, _, _, _, rfl, (hp_hR17.mono hG66), (hk_hR17.mono hG66), (hm_hR17.mono hG66), (hr_hR17.mono hG66), hok_hR17⟩, trivial⟩ (fun bl67 G67 hG67 hv67 => ?_)
     refine W.nil ⟨hG67, ((List.nil_sublist _).cons_cons _).cons_cons _, _, ((List.nil_sublist _).cons_cons _).cons_cons _, List.Sublist.refl _, ?_⟩
     refine WD.any [3] (by kernel_rfl) rfl ⟨⟨_, rfl, rfl, ?_⟩, trivial⟩
     refine W.app (e := eNode) sl24 ty35 zr35 rfl by35 rfl rfl ((ho_4.mono ((hG13.trans hG66).trans hG67))) (hv67) (pmC (pmC (List.Perm.refl _))) (by show (List.length _ + 1) * 152 ≤ _; rw [List.length_map]; omega) (fun v68 Ms69 ho70 => ?_)
     refine W.perm (pmC (pmC (List.Perm.refl _))).symm ?_
     refine W.nil ⟨Le.rfl, ((List.nil_sublist _).cons_cons _).cons_cons _, _, ((List.nil_sublist _).cons_cons _).cons_cons _, List.Sublist.refl _, ?_⟩
     refine WD.any [7] (by kernel_rfl) rfl ⟨⟨_, rfl, rfl, ?_⟩, trivial⟩
     refine W.app (e := eSpan) sl79 ty37 zr37 rfl by37 rfl rfl ((ho_5.mono ((hG13.trans hG66).trans hG67))) ((hv66.mono hG67)) (pmC (pmC (pmA (List.Perm.refl _)))) (by show (List.length _ + 1) * 40 ≤ _; rw [List.length_map]; omega) (fun v71 Ms72 ho73 => ?_)
     refine W.perm (pmC (pmC (List.Perm.refl _))).symm ?_
     refine W.nil ⟨Le.rfl, ((List.nil_sublist _).cons_cons _).cons_cons _, _, ((List.nil_sublist _).cons_cons _).cons_cons _, List.Sublist.refl _, ?_⟩
     refine WD.take 10 rfl rfl rfl (by kernel_rfl) (by kernel_rfl) (by kernel_rfl) (ok_as) ?_
     refine WD.take 11 rfl rfl rfl (by kernel_rfl) (by kernel_rfl) (by kernel_rfl) (ok_as) ?_
     refine WD.take 12 rfl rfl rfl (by kernel_rfl) (by kernel_rfl) (by kernel_rfl) (ok_as) ?_
     refine WD.doneP (M' := ((b20, .cells (List.toArray [.int .i64 x.n.slot, .int .i64 x.n.level, .slice pa_hR17 (x.n.pivots).length pc_hR17, .slice ka_hR17 (x.n.kids).length kc_hR17, .string x.n.high.b, .bool x.n.top, .int .i64 x.n.right, .int .i64 x.n.seen, .slice ma_hR17 (x.n.msgs).length mc_hR17, .slice ra_hR17 (x.n.rows).length rc_hR17]) 35 (0, 0)) :: ((b11, .cells (List.toArray [.string (x.s).lo.b, .string (x.s).hi.b, .bool (x.s).opn]) 37 (0, 0)) :: (Ms69 ++ (Ms72 ++ (Ms_s ++ [])))))) (by kernel_rfl) (List.Sublist.refl _) ((((List.Perm.append_left _ ((List.Perm.append_left _ (List.Perm.refl _)).trans (List.Perm.refl _))).trans (pmA (List.Perm.refl _))).cons _).cons _) (thn_n ?_)
     exact ⟨(hG66.trans hG67), ((), v68, Ms69, v71, Ms72), ⟨eqv, eqv, eqv, eqv, eqv, eqv, eqv, trivial⟩, ⟨rfl, (by have h := ho70; rw [List.map_append]; exact h), (by have h := ho73; rw [List.map_append]; exact h)⟩⟩
   ·rintro ⟨u7, v_4, M_4, v_5, M_5⟩ gG74 G74 _ hG74 ⟨rfl, ho_4, ho_5⟩
    try dsimp only at ho_4 ho_5
    refine WC.seq ?_
    refine WC.seq ?_
    refine WC.region ?_
    refine W.mv ?_
    refine W.ok (ok_leq rfl rfl) ?_
    refine W.mv ?_
    refine W.sp 46 rfl (fun h45 => ?_) (fun h45 => ?_)
    ·have p45 := of_decide_eq_true h45
     try dsimp only at p45
     refine W.no (dj := 46) rfl rfl h45 ?_
     refine W.no (dj := 46) rfl rfl h45 ?_
     refine W.no (dj := 46) rfl rfl h45 ?_
     refine W.no (dj := 46) rfl rfl h45 ?_
     refine W.no (dj := 46) rfl rfl h45 ?_
     refine W.no (dj := 46) rfl rfl h45 ?_
     refine W.ok (ok_pick_t rfl h45) ?_
     refine W.nil (thn_n ?_)
     refine WC.cond_t rfl rfl ?_
     refine WC.seq ?_
     refine WC.region ?_
     refine W.mv ?_
     refine W.mv ?_
     refine W.as ?_
     refine W.as ?_
     refine W.nil (thn_n ?_)
     refine WC.giveO ho_4 (pmC (pmC (List.Perm.refl _))) (fun G75 hG75 hv75 => ?_)
     refine WC.giveO (ho_5.mono hG75) (pmC (pmC (List.Perm.refl _))) (fun G76 hG76 hv76 => ?_)
     refine WC.ret (thn_r (blk_r (thn_r (blk_r ?_))))
     refine ⟨.inr rfl, [_, _], ⟨rfl, rfl, trivial⟩, Ms_s, ((List.sublist_append_left _ _).cons _).cons _, ?_⟩
     refine ⟨rfl, _, _, rfl, SlR.cast (hv75.mono hG76) (by rw [hA.last p45]), SlR.cast hv76 (by rw [hA.last p45])⟩
    ·have p45 := of_decide_eq_false h45
     try dsimp only at p45
     refine W.yes (dj := 46) rfl rfl h45 ?_
     refine W.ok (ok_fieldB fd35_2 rfl) ?_
     refine W.yes (dj := 46) rfl rfl h45 ?_
     refine W.ok (ok_loadB (i := 0) (vs := [.slice _ _ _]) ty32 rfl rfl rfl rfl (by simp)) ?_
     refine W.yes (dj := 46) rfl rfl h45 ?_
     refine W.ok (ok_fieldB fd35_3 rfl) ?_
     refine W.yes (dj := 46) rfl rfl h45 ?_
     refine W.ok (ok_loadB (i := 0) (vs := [.slice _ _ _]) ty30 rfl rfl rfl rfl (by simp)) ?_
     refine W.yes (dj := 46) rfl rfl h45 ?_
     refine W.qcall (bright_fc (hp_hR17.mono hG74) (hk_hR17.mono hG74)) rfl ?_
     refine W.yes (dj := 46) rfl rfl h45 ?_
     refine W.ok (ok_not rfl) ?_
     refine W.ok (ok_pick_f rfl h45) ?_
     refine W.nil (thn_n ?_)
     refine WC.cond (b := _) rfl (fun h52 => ?_) (fun h52 => ?_)
     ·have h0 := t.right hA.mem p45; simp [h0] at h52
     ·have hrt := t.route hA.mem p45 k
      have hkl : x.n.kids.length ≤ 4000 := (t.sml.at (.inr (t.nd hA.mem).2.2)).1
      refine WC.skip (thn_n ?_)
      refine WC.seq ?_
      refine WC.region ?_
      refine W.ok (ok_fieldB fd35_2 rfl) ?_
      refine W.ok (ok_loadB (i := 0) (vs := [.slice _ _ _]) ty32 rfl rfl rfl rfl (by simp)) ?_
      refine W.mv ?_
      refine W.qcall (broute_fc (hp_hR17.mono hG74) _ (rightN_spec (t.right hA.mem p45)).1) rfl ?_
      refine W.as ?_
      refine W.nil (thn_n ?_)
      refine WC.drawW _ (((List.Sublist.refl _).cons _).cons_cons _) mix (by rintro _ _ _ _ ⟨h | h, _⟩ <;> cases h) ?_
      refine WD.take 0 rfl rfl rfl (by kernel_rfl) (by kernel_rfl) (by kernel_rfl) (ok_fieldB fd35_3 rfl) ?_
      refine WD.take 1 rfl rfl rfl (by kernel_rfl) (by kernel_rfl) (by kernel_rfl) (ok_loadB (i := 0) (vs := [.slice _ _ _]) ty30 rfl rfl rfl rfl (by simp)) ?_
      refine WD.take 2 rfl rfl rfl (by kernel_rfl) (by kernel_rfl) (by kernel_rfl) (ok_mv) ?_
      have q80 := (hk_hR17.mono hG74).at (i := routeN x.n.pivots k) (by omega)
      refine match q80 with | ⟨_, he77, ⟨e_79, hi78⟩⟩ => ?_
      subst e_79
      refine WD.take 3 rfl rfl rfl (by kernel_rfl) (by kernel_rfl) (by kernel_rfl) (ok_indexAddr (i := routeN x.n.pivots k) sl30 ty3 (hk_hR17.mono hG74) rfl rfl ⟨by omega, by omega⟩) ?_
      refine WD.take 4 rfl rfl rfl (by kernel_rfl) (by kernel_rfl) (by kernel_rfl) (ok_loadE (vs := [.int .i64 _]) ty3 he77 rfl rfl rfl (by simp)) ?_
      refine WD.take 6 rfl rfl rfl (by kernel_rfl) (by kernel_rfl) (by kernel_rfl) (ok_fieldB fd35_2 rfl) ?_
      refine WD.take 7 rfl rfl rfl (by kernel_rfl) (by kernel_rfl) (by kernel_rfl) (ok_loadB (i := 0) (vs := [.slice _ _ _]) ty32 rfl rfl rfl rfl (by simp)) ?_
      refine WD.take 8 rfl rfl rfl (by kernel_rfl) (by kernel_rfl) (by kernel_rfl) (ok_mv) ?_
      refine WD.any [5, 9] (by kernel_rfl) rfl ⟨⟨_, rfl, rfl, ?_⟩, ⟨_, rfl, rfl, ?_⟩, trivial⟩
      ·refine W.ok (ok_loadB (i := 1) (vs := [.string _, .string _, .bool _]) ty37 rfl rfl rfl rfl (by simp)) ?_
       refine W.nil ⟨Le.rfl, ((List.Sublist.refl _).cons _).cons_cons _, _, ((List.Sublist.refl _).cons _).cons_cons _, List.Sublist.refl _, ?_⟩
       refine WD.any [9] (by kernel_rfl) rfl ⟨⟨_, rfl, rfl, ?_⟩, trivial⟩
       refine W.qcall (brange_fc (hp_hR17.mono hG74) _ ⟨by omega, by omega⟩) rfl ?_
       refine W.nil ⟨Le.rfl, ((List.Sublist.refl _).cons _).cons_cons _, _, ((List.Sublist.refl _).cons _).cons_cons _, List.Sublist.refl _, ?_⟩
       refine WD.any [10] (by kernel_rfl) rfl ⟨⟨_, rfl, rfl, ?_⟩, trivial⟩
       refine W.qcall (smeet_fc _ _ _ _ _ _) rfl ?_
       refine W.nil ⟨Le.rfl, ((List.Sublist.refl _).cons _).cons_cons _, _, ((List.Sublist.refl _).cons _).cons_cons _, List.Sublist.refl _, ?_⟩
       refine WD.take 11 rfl rfl rfl (by kernel_rfl) (by kernel_rfl) (by kernel_rfl) (ok_as) ?_
       refine WD.any [12] (by kernel_rfl) rfl ⟨⟨_, rfl, rfl, ?_⟩, trivial⟩
       refine W.store (i := 1) (vs := [.string _, .string _, .bool _]) (L' := [.string _, .string _, .bool _]) ty37 rfl rfl rfl rfl rfl rfl rfl rfl ?_
       refine W.nil ⟨Le.rfl, ((List.Sublist.refl _).cons _).cons_cons _, _, ((List.Sublist.refl _).cons _).cons_cons _, List.Sublist.refl _, ?_⟩
       refine WD.doneP (M' := ((b11, .cells (List.toArray [.string ((kidSt l x (routeN x.n.pivots k)).s).lo.b, .string ((kidSt l x (routeN x.n.pivots k)).s).hi.b, .bool ((kidSt l x (routeN x.n.pivots k)).s).opn]) 37 (0, 0)) :: (M_4 ++ (M_5 ++ (Ms_s ++ []))))) (by kernel_rfl) ((List.Sublist.refl _).cons _) (List.Perm.refl _) (blk_n (thn_n ?_))
       exact ⟨(hG13.trans hG74), (((kidSt l x (routeN x.n.pivots k), P ++ [x], x.n.level) : Seat × List Seat × Int), v_4, M_4, v_5, M_5), ⟨(congrArg (Value.int .i64) (At.slot t hA.mem p45 k).symm), eqv, eqv, eqv, eqv, eqv, eqv, trivial⟩, ⟨rfl, (by simpa using ho_4), (by simpa using ho_5), hA.next t p45⟩, by have := (t.at hA.mem (by omega) (t.route hA.mem p45 k)).2.2.2; dsimp only; omega⟩
      ·refine W.qcall (brange_fc (hp_hR17.mono hG74) _ ⟨by omega, by omega⟩) rfl ?_
       refine W.nil ⟨Le.rfl, ((List.Sublist.refl _).cons _).cons_cons _, _, ((List.Sublist.refl _).cons _).cons_cons _, List.Sublist.refl _, ?_⟩
       refine WD.any [5] (by kernel_rfl) rfl ⟨⟨_, rfl, rfl, ?_⟩, trivial⟩
       refine W.ok (ok_loadB (i := 1) (vs := [.string _, .string _, .bool _]) ty37 rfl rfl rfl rfl (by simp)) ?_
       refine W.nil ⟨Le.rfl, ((List.Sublist.refl _).cons _).cons_cons _, _, ((List.Sublist.refl _).cons _).cons_cons _, List.Sublist.refl _, ?_⟩
       refine WD.any [10] (by kernel_rfl) rfl ⟨⟨_, rfl, rfl, ?_⟩, trivial⟩
       refine W.qcall (smeet_fc _ _ _ _ _ _) rfl ?_
       refine W.nil ⟨Le.rfl, ((List.Sublist.refl _).cons _).cons_cons _, _, ((List.Sublist.refl _).cons _).cons_cons _, List.Sublist.refl _, ?_⟩
       refine WD.take 11 rfl rfl rfl (by kernel_rfl) (by kernel_rfl) (by kernel_rfl) (ok_as) ?_
       refine WD.any [12] (by kernel_rfl) rfl ⟨⟨_, rfl, rfl, ?_⟩, trivial⟩
       refine W.store (i := 1) (vs := [.string _, .string _, .bool _]) (L' := [.string _, .string _, .bool _]) ty37 rfl rfl rfl rfl rfl rfl rfl rfl ?_
       refine W.nil ⟨Le.rfl, ((List.Sublist.refl _).cons _).cons_cons _, _, ((List.Sublist.refl _).cons _).cons_cons _, List.Sublist.refl _, ?_⟩
       refine WD.doneP (M' := ((b11, .cells (List.toArray [.string ((kidSt l x (routeN x.n.pivots k)).s).lo.b, .string ((kidSt l x (routeN x.n.pivots k)).s).hi.b, .bool ((kidSt l x (routeN x.n.pivots k)).s).opn]) 37 (0, 0)) :: (M_4 ++ (M_5 ++ (Ms_s ++ []))))) (by kernel_rfl) ((List.Sublist.refl _).cons _) (List.Perm.refl _) (blk_n (thn_n ?_))
       exact ⟨(hG13.trans hG74), (((kidSt l x (routeN x.n.pivots k), P ++ [x], x.n.level) : Seat × List Seat × Int), v_4, M_4, v_5, M_5), ⟨(congrArg (Value.int .i64) (At.slot t hA.mem p45 k).symm), eqv, eqv, eqv, eqv, eqv, eqv, trivial⟩, ⟨rfl, (by simpa using ho_4), (by simpa using ho_5), hA.next t p45⟩, by have := (t.at hA.mem (by omega) (t.route hA.mem p45 k)).2.2.2; dsimp only; omega⟩

end Go.Proofs.Ytebkfinhhpelbaa
