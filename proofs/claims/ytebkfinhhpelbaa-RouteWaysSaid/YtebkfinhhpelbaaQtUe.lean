/- Walks of what is told of the way of a text. -/
import Derived.Test.YtebkfinhhpelbaaQtUd
import Derived.Test.YtebkfinhhpelbaaQtV7
namespace Go.Proofs.Ytebkfinhhpelbaa
open Go Go.Fw Go.RowKit
set_option maxRecDepth 100000
set_option maxHeartbeats 1600000
set_option linter.unusedVariables false
set_option linter.unusedSimpArgs false
set_option linter.unnecessarySimpa false
theorem nodes_nil {G : GH}  (k : Str) :
    Fc Try.prog 39 [.pointer none, .string k.b] G [] (fun v G' M' => M' = [] ∧ ∃ u0, v = u0 ∧ SlR eNode G' u0 (([] : List Nd))) := by
 refine Fc.intro (rs := [.tmp 4]) cl39 Try.func39 rfl Try.ntmps39 rfl rfl (fun w0 => ?_)
 refine WC.seq ?_
 refine WC.region ?_
 refine W.as ?_
 refine W.nil (thn_n ?_)
 refine WC.seq ?_
 refine WC.region ?_
 refine W.mv ?_
 refine W.mv ?_
 refine W.call (Mp := []) (way_nil _) rfl (List.Perm.refl _) ?_
 intro _ G1 _ hG1 q4
 refine match q4 with | ⟨e_5, _, _, e_6, hv2, hv3⟩ => ?_
 subst e_5
 subst e_6
 have q8 := hv2.form
 refine match q8 with | ⟨sa_hv2, sc_hv2, e_7⟩ => ?_
 subst e_7
 have q10 := hv3.form
 refine match q10 with | ⟨sa_hv3, sc_hv3, e_9⟩ => ?_
 subst e_9
 refine W.mv ?_
 refine W.ok (ok_extract rfl rfl) ?_
 refine W.ok (ok_extract rfl rfl) ?_
 refine W.as ?_
 refine W.as ?_
 refine W.nil (thn_n ?_)
 refine WC.seq ?_
 refine WC.region ?_
 refine W.mv ?_
 refine W.as ?_
 refine W.nil (thn_n ?_)
 refine WC.ret ?_
 refine ⟨.inr rfl, [_], ⟨rfl, trivial⟩, [], List.nil_sublist _, ?_⟩
 refine ⟨rfl, _, rfl, ?_⟩
 · exact hv2

theorem spans_nil {G : GH}  (k : Str) :
    Fc Try.prog 40 [.pointer none, .string k.b] G [] (fun v G' M' => M' = [] ∧ ∃ u0, v = u0 ∧ SlR eSpan G' u0 (([] : List Span))) := by
 refine Fc.intro (rs := [.tmp 4]) cl40 Try.func40 rfl Try.ntmps40 rfl rfl (fun w0 => ?_)
 refine WC.seq ?_
 refine WC.region ?_
 refine W.as ?_
 refine W.nil (thn_n ?_)
 refine WC.seq ?_
 refine WC.region ?_
 refine W.mv ?_
 refine W.mv ?_
 refine W.call (Mp := []) (way_nil _) rfl (List.Perm.refl _) ?_
 intro _ G11 _ hG11 q14
 refine match q14 with | ⟨e_15, _, _, e_16, hv12, hv13⟩ => ?_
 subst e_15
 subst e_16
 have q18 := hv12.form
 refine match q18 with | ⟨sa_hv12, sc_hv12, e_17⟩ => ?_
 subst e_17
 have q20 := hv13.form
 refine match q20 with | ⟨sa_hv13, sc_hv13, e_19⟩ => ?_
 subst e_19
 refine W.mv ?_
 refine W.ok (ok_extract rfl rfl) ?_
 refine W.ok (ok_extract rfl rfl) ?_
 refine W.as ?_
 refine W.as ?_
 refine W.nil (thn_n ?_)
 refine WC.seq ?_
 refine WC.region ?_
 refine W.mv ?_
 refine W.as ?_
 refine W.nil (thn_n ?_)
 refine WC.ret ?_
 refine ⟨.inr rfl, [_], ⟨rfl, trivial⟩, [], List.nil_sublist _, ?_⟩
 refine ⟨rfl, _, rfl, ?_⟩
 · exact hv13

theorem leaf_nil {G : GH}  (k : Str) :
    Fc Try.prog 42 [.pointer none, .string k.b] G [] (fun v G' M' => M' = [] ∧ ∃ u0, v = .tuple #[.agg (List.toArray u0), .agg (List.toArray (Span.zero.cells)), .bool (false)] ∧ NodeC G' u0 (Nd.zero)) := by
 refine Fc.intro (rs := [.cell 4 35, .cell 5 37, .tmp 6]) cl42 Try.func42 rfl Try.ntmps42 rfl rfl (fun w0 => ?_)
 refine WC.seq ?_
 refine WC.region ?_
 refine W.alloc zr35 (fun b21 => ?_)
 refine W.alloc zr37 (fun b22 => ?_)
 refine W.as ?_
 refine W.nil (thn_n ?_)
 refine WC.seq ?_
 refine WC.region ?_
 refine W.mv ?_
 refine W.mv ?_
 refine W.call (Mp := []) (way_nil _) rfl (List.Perm.refl _) ?_
 intro _ G23 _ hG23 q26
 refine match q26 with | ⟨e_27, _, _, e_28, hv24, hv25⟩ => ?_
 subst e_27
 subst e_28
 have q30 := hv24.form
 refine match q30 with | ⟨sa_hv24, sc_hv24, e_29⟩ => ?_
 subst e_29
 have q32 := hv25.form
 refine match q32 with | ⟨sa_hv25, sc_hv25, e_31⟩ => ?_
 subst e_31
 refine W.mv ?_
 refine W.ok (ok_extract rfl rfl) ?_
 refine W.ok (ok_extract rfl rfl) ?_
 refine W.as ?_
 refine W.as ?_
 refine W.nil (thn_n ?_)
 refine WC.seq ?_
 refine WC.seq ?_
 refine WC.region ?_
 refine W.mv ?_
 refine W.ok (ok_len sl24 hv24 rfl) ?_
 refine W.ok (ok_eql rfl rfl) ?_
 refine W.nil (thn_n ?_)
 refine WC.cond (b := _) rfl (fun h17 => ?_) (fun h17 => ?_)
 ·have p17 := of_decide_eq_true h17
  refine WC.seq ?_
  refine WC.region ?_
  refine W.ok (ok_build (L := [.int .i64 _, .int .i64 _, .slice _ _ _, .slice _ _ _, .string _, .bool _, .int .i64 _, .int .i64 _, .slice _ _ _, .slice _ _ _]) pl35 zr35 rfl rfl rfl) ?_
  refine W.ok (ok_build (L := [.string _, .string _, .bool _]) pl37 zr37 rfl rfl rfl) ?_
  refine W.store (i := 1) (vs := [.int .i64 _, .int .i64 _, .slice _ _ _, .slice _ _ _, .string _, .bool _, .int .i64 _, .int .i64 _, .slice _ _ _, .slice _ _ _]) (L' := [.int .i64 _, .int .i64 _, .slice _ _ _, .slice _ _ _, .string _, .bool _, .int .i64 _, .int .i64 _, .slice _ _ _, .slice _ _ _]) ty35 rfl rfl rfl rfl rfl rfl rfl rfl ?_
  refine W.store (i := 0) (vs := [.string _, .string _, .bool _]) (L' := [.string _, .string _, .bool _]) ty37 rfl rfl rfl rfl rfl rfl rfl rfl ?_
  refine W.as ?_
  refine W.nil (thn_n ?_)
  refine WC.ret (thn_r ?_)
  refine ⟨.inr rfl, [_, _, _], ⟨⟨_, _, _, _, _, rfl, nthM_mem (i := 1) rfl, ty35, (by simp), rfl, rfl⟩, ⟨_, _, _, _, _, rfl, nthM_mem (i := 0) rfl, ty37, (by simp), rfl, rfl⟩, rfl, trivial⟩, [], List.nil_sublist _, ?_⟩
  exact ⟨rfl, _, rfl, _, _, _, _, _, _, _, _, rfl, SlR.nil, SlR.nil, SlR.nil, SlR.nil, Nd.zero_ok⟩
 ·have p17 := of_decide_eq_false h17
  exact absurd rfl p17

theorem msgs_nil {G : GH}  (k : Str) :
    Fc Try.prog 44 [.pointer none, .string k.b] G [] (fun v G' M' => M' = [] ∧ ∃ u0, v = u0 ∧ SlR eMsg G' u0 (([] : List Msg))) := by
 refine Fc.intro (rs := [.tmp 4]) cl44 Try.func44 rfl Try.ntmps44 rfl rfl (fun w0 => ?_)
 refine WC.seq ?_
 refine WC.region ?_
 refine W.as ?_
 refine W.nil (thn_n ?_)
 refine WC.seq ?_
 refine WC.region ?_
 refine W.mv ?_
 refine W.mv ?_
 refine W.call (Mp := []) (way_nil _) rfl (List.Perm.refl _) ?_
 intro _ G33 _ hG33 q36
 refine match q36 with | ⟨e_37, _, _, e_38, hv34, hv35⟩ => ?_
 subst e_37
 subst e_38
 have q40 := hv34.form
 refine match q40 with | ⟨sa_hv34, sc_hv34, e_39⟩ => ?_
 subst e_39
 have q42 := hv35.form
 refine match q42 with | ⟨sa_hv35, sc_hv35, e_41⟩ => ?_
 subst e_41
 refine W.mv ?_
 refine W.ok (ok_extract rfl rfl) ?_
 refine W.ok (ok_extract rfl rfl) ?_
 refine W.as ?_
 refine W.as ?_
 refine W.nil (thn_n ?_)
 refine WC.seq ?_
 refine WC.region ?_
 refine W.as ?_
 refine W.nil (thn_n ?_)
 refine WC.seq ?_
 refine WC.seq ?_
 refine WC.region ?_
 refine W.mv ?_
 refine W.ok (ok_len sl24 hv34 rfl) ?_
 refine W.mv ?_
 refine W.nil (thn_n ?_)
 refine WC.block ?_
 refine WC.loop (X := Unit) (fun u => [(7, .slice none 0 0), (18, .int .i64 0), (5, .slice sa_hv34 (([] : List Nd)).length sc_hv34), (6, .slice sa_hv35 (([] : List Span)).length sc_hv35), (16, .slice sa_hv34 (([] : List Nd)).length sc_hv34), (17, .int .i64 (((([] : List Nd)).length : Nat) : Int))]) (fun u _ Ml => Ml = []) (fun u => 0) () ⟨eqv, eqv, eqv, eqv, eqv, eqv, trivial⟩ ?_ ?_
 ·exact rfl
 ·rintro u gG43 G43 _ hG43 rfl
  refine WC.seq ?_
  refine WC.region ?_
  refine W.ok (ok_lss rfl rfl) ?_
  refine W.nil (thn_n ?_)
  refine WC.seq ?_
  refine WC.cond (b := _) rfl (fun h19 => ?_) (fun h19 => ?_)
  ·have p19 := of_decide_eq_true h19
   exact absurd p19 (by decide)
  ·have p19 := of_decide_eq_false h19
   refine WC.exit (thn_x (thn_x (blk_h (thn_n ?_))))
   refine WC.seq ?_
   refine WC.seq ?_
   refine WC.region ?_
   refine W.mv ?_
   refine W.ok (ok_len sl24 (hv34.mono hG43) rfl) ?_
   refine W.ok (ok_eql rfl rfl) ?_
   refine W.nil (thn_n ?_)
   refine WC.cond (b := _) rfl (fun h30 => ?_) (fun h30 => ?_)
   ·have p30 := of_decide_eq_true h30
    refine WC.seq ?_
    refine WC.region ?_
    refine W.as ?_
    refine W.nil (thn_n ?_)
    refine WC.ret (thn_r ?_)
    refine ⟨.inr rfl, [_], ⟨rfl, trivial⟩, [], List.nil_sublist _, ?_⟩
    refine ⟨rfl, _, rfl, ?_⟩
    · exact SlR.nil
   ·have p30 := of_decide_eq_false h30
    exact absurd rfl p30

theorem nodes_fc {G : GH} {b_s : Nat} {c c2 : Cfg} {l : List Nd} {ss : List Seat} {Ms_s : MH} (h_s : StR 35 4 3 153 109 b_s c G l Ms_s) (t : Tree c2 l ss) (k : Str) :
    Fc Try.prog 39 [.pointer (some ⟨b_s, 0, none⟩), .string k.b] G Ms_s (fun v G' M' => M' = Ms_s ∧ ∃ u0, v = u0 ∧ SlR eNode G' u0 (((wayN l k).map fun y : Seat => y.n))) := by
 refine Fc.intro (rs := [.tmp 4]) cl39 Try.func39 rfl Try.ntmps39 rfl rfl (fun w0 => ?_)
 refine WC.perm (M' := (Ms_s ++ [])) (by simp) ?_
 refine WC.seq ?_
 refine WC.region ?_
 refine W.as ?_
 refine W.nil (thn_n ?_)
 refine WC.seq ?_
 refine WC.region ?_
 refine W.mv ?_
 refine W.mv ?_
 refine W.call (Mp := Ms_s) (way_fc h_s t _) rfl (List.Perm.refl _) ?_
 intro v49 G46 Ms48 hG46 q47
 refine match q47 with | ⟨eeq47, _, _, e_51, hv44, hv45⟩ => ?_
 subst e_51
 have eeq47 := eeq47.symm
 subst eeq47
 have q53 := hv44.form
 refine match q53 with | ⟨sa_hv44, sc_hv44, e_52⟩ => ?_
 subst e_52
 have q55 := hv45.form
 refine match q55 with | ⟨sa_hv45, sc_hv45, e_54⟩ => ?_
 subst e_54
 refine W.mv ?_
 refine W.ok (ok_extract rfl rfl) ?_
 refine W.ok (ok_extract rfl rfl) ?_
 refine W.as ?_
 refine W.as ?_
 refine W.nil (thn_n ?_)
 refine WC.seq ?_
 refine WC.region ?_
 refine W.mv ?_
 refine W.as ?_
 refine W.nil (thn_n ?_)
 refine WC.ret ?_
 refine ⟨.inr rfl, [_], ⟨rfl, trivial⟩, Ms_s, List.sublist_append_left _ _, ?_⟩
 refine ⟨rfl, _, rfl, ?_⟩
 · exact hv44

theorem spans_fc {G : GH} {b_s : Nat} {c c2 : Cfg} {l : List Nd} {ss : List Seat} {Ms_s : MH} (h_s : StR 35 4 3 153 109 b_s c G l Ms_s) (t : Tree c2 l ss) (k : Str) :
    Fc Try.prog 40 [.pointer (some ⟨b_s, 0, none⟩), .string k.b] G Ms_s (fun v G' M' => M' = Ms_s ∧ ∃ u0, v = u0 ∧ SlR eSpan G' u0 (((wayN l k).map fun y : Seat => y.s))) := by
 refine Fc.intro (rs := [.tmp 4]) cl40 Try.func40 rfl Try.ntmps40 rfl rfl (fun w0 => ?_)
 refine WC.perm (M' := (Ms_s ++ [])) (by simp) ?_
 refine WC.seq ?_
 refine WC.region ?_
 refine W.as ?_
 refine W.nil (thn_n ?_)
 refine WC.seq ?_
 refine WC.region ?_
 refine W.mv ?_
 refine W.mv ?_
 refine W.call (Mp := Ms_s) (way_fc h_s t _) rfl (List.Perm.refl _) ?_
 intro v61 G58 Ms60 hG58 q59
 refine match q59 with | ⟨eeq59, _, _, e_63, hv56, hv57⟩ => ?_
 subst e_63
 have eeq59 := eeq59.symm
 subst eeq59
 have q65 := hv56.form
 refine match q65 with | ⟨sa_hv56, sc_hv56, e_64⟩ => ?_
 subst e_64
 have q67 := hv57.form
 refine match q67 with | ⟨sa_hv57, sc_hv57, e_66⟩ => ?_
 subst e_66
 refine W.mv ?_
 refine W.ok (ok_extract rfl rfl) ?_
 refine W.ok (ok_extract rfl rfl) ?_
 refine W.as ?_
 refine W.as ?_
 refine W.nil (thn_n ?_)
 refine WC.seq ?_
 refine WC.region ?_
 refine W.mv ?_
 refine W.as ?_
 refine W.nil (thn_n ?_)
 refine WC.ret ?_
 refine ⟨.inr rfl, [_], ⟨rfl, trivial⟩, Ms_s, List.sublist_append_left _ _, ?_⟩
 refine ⟨rfl, _, rfl, ?_⟩
 · exact hv57

theorem leaf_fc {G : GH} {b_s : Nat} {c c2 : Cfg} {l : List Nd} {ss : List Seat} {Ms_s : MH} (h_s : StR 35 4 3 153 109 b_s c G l Ms_s) (t : Tree c2 l ss) (k : Str) :
    Fc Try.prog 42 [.pointer (some ⟨b_s, 0, none⟩), .string k.b] G Ms_s (fun v G' M' => M' = Ms_s ∧ ∃ u0, v = .tuple #[.agg (List.toArray u0), .agg (List.toArray ((leafS l k).s.cells)), .bool (true)] ∧ NodeC G' u0 ((leafS l k).n)) := by
 have hwp := t.way_pos k
 have hwl := t.way_len k
 have hwn : ((wayN l k).map fun y : Seat => y.n).length = (wayN l k).length := List.length_map ..
 have hws : ((wayN l k).map fun y : Seat => y.s).length = (wayN l k).length := List.length_map ..
 refine Fc.intro (rs := [.cell 4 35, .cell 5 37, .tmp 6]) cl42 Try.func42 rfl Try.ntmps42 rfl rfl (fun w0 => ?_)
 refine WC.perm (M' := (Ms_s ++ [])) (by simp) ?_
 refine WC.seq ?_
 refine WC.region ?_
 refine W.alloc zr35 (fun b68 => ?_)
 refine W.alloc zr37 (fun b69 => ?_)
 refine W.as ?_
 refine W.nil (thn_n ?_)
 refine WC.seq ?_
 refine WC.region ?_
 refine W.mv ?_
 refine W.mv ?_
 refine W.call (Mp := Ms_s) (way_fc h_s t _) rfl (pmC (pmC (List.Perm.refl _))) ?_
 intro v75 G72 Ms74 hG72 q73
 refine match q73 with | ⟨eeq73, _, _, e_77, hv70, hv71⟩ => ?_
 subst e_77
 have eeq73 := eeq73.symm
 subst eeq73
 refine W.perm (pmC (pmC (List.Perm.refl _))).symm ?_
 have q79 := hv70.form
 refine match q79 with | ⟨sa_hv70, sc_hv70, e_78⟩ => ?_
 subst e_78
 have q81 := hv71.form
 refine match q81 with | ⟨sa_hv71, sc_hv71, e_80⟩ => ?_
 subst e_80
 refine W.mv ?_
 refine W.ok (ok_extract rfl rfl) ?_
 refine W.ok (ok_extract rfl rfl) ?_
 refine W.as ?_
 refine W.as ?_
 refine W.nil (thn_n ?_)
 refine WC.seq ?_
 refine WC.seq ?_
 refine WC.region ?_
 refine W.mv ?_
 refine W.ok (ok_len sl24 hv70 rfl) ?_
 refine W.ok (ok_eql rfl rfl) ?_
 refine W.nil (thn_n ?_)
 refine WC.cond (b := _) rfl (fun h17 => ?_) (fun h17 => ?_)
 ·have p17 := of_decide_eq_true h17
  exfalso; omega
 ·have p17 := of_decide_eq_false h17
  refine WC.skip (thn_n ?_)
  refine WC.seq ?_
  refine WC.drawW _ (((List.Sublist.refl _).cons _).cons _) mix (by rintro _ _ _ _ ⟨h | h, _⟩ <;> cases h) ?_
  refine WD.take 0 rfl rfl rfl (by kernel_rfl) (by kernel_rfl) (by kernel_rfl) (ok_mv) ?_
  refine WD.take 1 rfl rfl rfl (by kernel_rfl) (by kernel_rfl) (by kernel_rfl) (ok_mv) ?_
  refine WD.take 2 rfl rfl rfl (by kernel_rfl) (by kernel_rfl) (by kernel_rfl) (ok_len sl24 hv70 rfl) ?_
  refine WD.take 3 rfl rfl rfl (by kernel_rfl) (by kernel_rfl) (by kernel_rfl) (ok_sub rfl rfl (by omega)) ?_
  have q85 := hv70.at (i := ((wayN l k).length - 1)) (by omega)
  refine match q85 with | ⟨_, he82, ⟨pa_n83, pc_n83, ka_n83, kc_n83, ma_n83, mc_n83, ra_n83, rc_n83, e_84, hp_n83, hk_n83, hm_n83, hr_n83, hok_n83⟩⟩ => ?_
  subst e_84
  refine WD.take 4 rfl rfl rfl (by kernel_rfl) (by kernel_rfl) (by kernel_rfl) (ok_indexAddr (i := ((wayN l k).length - 1)) sl24 ty35 hv70 rfl rfl ⟨by omega, by omega⟩) ?_
  refine WD.take 5 rfl rfl rfl (by kernel_rfl) (by kernel_rfl) (by kernel_rfl) (ok_loadE (vs := [.int .i64 _, .int .i64 _, .slice _ _ _, .slice _ _ _, .string _, .bool _, .int .i64 _, .int .i64 _, .slice _ _ _, .slice _ _ _]) ty35 he82 rfl rfl rfl (by simp)) ?_
  refine WD.take 6 rfl rfl rfl (by kernel_rfl) (by kernel_rfl) (by kernel_rfl) (ok_mv) ?_
  refine WD.take 7 rfl rfl rfl (by kernel_rfl) (by kernel_rfl) (by kernel_rfl) (ok_mv) ?_
  refine WD.take 8 rfl rfl rfl (by kernel_rfl) (by kernel_rfl) (by kernel_rfl) (ok_len sl24 hv70 rfl) ?_
  refine WD.take 9 rfl rfl rfl (by kernel_rfl) (by kernel_rfl) (by kernel_rfl) (ok_sub rfl rfl (by omega)) ?_
  have q89 := hv71.at (i := ((wayN l k).length - 1)) (by omega)
  refine match q89 with | ⟨_, he86, e_88⟩ => ?_
  subst e_88
  refine WD.take 10 rfl rfl rfl (by kernel_rfl) (by kernel_rfl) (by kernel_rfl) (ok_indexAddr (i := ((wayN l k).length - 1)) sl79 ty37 hv71 rfl rfl ⟨by omega, by omega⟩) ?_
  refine WD.take 11 rfl rfl rfl (by kernel_rfl) (by kernel_rfl) (by kernel_rfl) (ok_loadE (vs := [.string _, .string _, .bool _]) ty37 he86 rfl rfl rfl (by simp)) ?_
  refine WD.any [12] (by kernel_rfl) rfl ⟨⟨_, rfl, rfl, ?_⟩, trivial⟩
  refine W.store (i := 1) (vs := [.int .i64 _, .int .i64 _, .slice _ _ _, .slice _ _ _, .string _, .bool _, .int .i64 _, .int .i64 _, .slice _ _ _, .slice _ _ _]) (L' := [.int .i64 _, .int .i64 _, .slice _ _ _, .slice _ _ _, .string _, .bool _, .int .i64 _, .int .i64 _, .slice _ _ _, .slice _ _ _]) ty35 rfl rfl rfl rfl rfl rfl rfl rfl ?_
  refine W.nil ⟨Le.rfl, ((List.Sublist.refl _).cons _).cons _, _, ((List.Sublist.refl _).cons _).cons _, List.Sublist.refl _, ?_⟩
  refine WD.any [13] (by kernel_rfl) rfl ⟨⟨_, rfl, rfl, ?_⟩, trivial⟩
  refine W.store (i := 0) (vs := [.string _, .string _, .bool _]) (L' := [.string _, .string _, .bool _]) ty37 rfl rfl rfl rfl rfl rfl rfl rfl ?_
  refine W.nil ⟨Le.rfl, ((List.Sublist.refl _).cons _).cons _, _, ((List.Sublist.refl _).cons _).cons _, List.Sublist.refl _, ?_⟩
  refine WD.take 14 rfl rfl rfl (by kernel_rfl) (by kernel_rfl) (by kernel_rfl) (ok_as) ?_
  refine WD.done (by kernel_rfl) (thn_n ?_)
  refine WC.ret ?_
  refine ⟨.inr rfl, [_, _, _], ⟨⟨_, _, _, _, _, rfl, nthM_mem (i := 1) rfl, ty35, (by simp), rfl, rfl⟩, ⟨_, _, _, _, _, rfl, nthM_mem (i := 0) rfl, ty37, (by simp), rfl, rfl⟩, rfl, trivial⟩, Ms_s, ((List.sublist_append_left _ _).cons _).cons _, ?_⟩
  exact ⟨rfl, _, congrArg (fun s : Span => Value.tuple #[.agg (List.toArray _), .agg (List.toArray s.cells), .bool true]) (t.last_s k (by omega) (by omega)), NodeC.of ⟨_, _, _, _, _, _, _, _, rfl, hp_n83, hk_n83, hm_n83, hr_n83, hok_n83⟩ (t.last_n k (by omega) (by omega))⟩

theorem msgs_fc {G : GH} {b_s : Nat} {c c2 : Cfg} {l : List Nd} {ss : List Seat} {Ms_s : MH} (h_s : StR 35 4 3 153 109 b_s c G l Ms_s) (t : Tree c2 l ss) (k : Str) :
    Fc Try.prog 44 [.pointer (some ⟨b_s, 0, none⟩), .string k.b] G Ms_s (fun v G' M' => M' = Ms_s ∧ ∃ u0, v = u0 ∧ SlR eMsg G' u0 ((leafS l k).ms)) := by
 have hwp := t.way_pos k
 have hwl := t.way_len k
 have hwn : ((wayN l k).map fun y : Seat => y.n).length = (wayN l k).length := List.length_map ..
 have hws : ((wayN l k).map fun y : Seat => y.s).length = (wayN l k).length := List.length_map ..
 have hmt := t.path_tot k
 refine Fc.intro (rs := [.tmp 4]) cl44 Try.func44 rfl Try.ntmps44 rfl rfl (fun w0 => ?_)
 refine WC.perm (M' := (Ms_s ++ [])) (by simp) ?_
 refine WC.seq ?_
 refine WC.region ?_
 refine W.as ?_
 refine W.nil (thn_n ?_)
 refine WC.seq ?_
 refine WC.region ?_
 refine W.mv ?_
 refine W.mv ?_
 refine W.call (Mp := Ms_s) (way_fc h_s t _) rfl (List.Perm.refl _) ?_
 intro v95 G92 Ms94 hG92 q93
 refine match q93 with | ⟨eeq93, _, _, e_97, hv90, hv91⟩ => ?_
 subst e_97
 have eeq93 := eeq93.symm
 subst eeq93
 have q99 := hv90.form
 refine match q99 with | ⟨sa_hv90, sc_hv90, e_98⟩ => ?_
 subst e_98
 have q101 := hv91.form
 refine match q101 with | ⟨sa_hv91, sc_hv91, e_100⟩ => ?_
 subst e_100
 refine W.mv ?_
 refine W.ok (ok_extract rfl rfl) ?_
 refine W.ok (ok_extract rfl rfl) ?_
 refine W.as ?_
 refine W.as ?_
 refine W.nil (thn_n ?_)
 refine WC.seq ?_
 refine WC.region ?_
 refine W.as ?_
 refine W.nil (thn_n ?_)
 refine WC.seq ?_
 refine WC.seq ?_
 refine WC.region ?_
 refine W.mv ?_
 refine W.ok (ok_len sl24 hv90 rfl) ?_
 refine W.mv ?_
 refine W.nil (thn_n ?_)
 refine WC.block ?_
 refine WC.loop (X := (Nat) × Value × MH) (fun i => [(18, .int .i64 ((i.1 : Nat) : Int)), (5, .slice sa_hv90 (((wayN (l) (k)).map fun y : Seat => y.n)).length sc_hv90), (6, .slice sa_hv91 (((wayN (l) (k)).map fun y : Seat => y.s)).length sc_hv91), (16, .slice sa_hv90 (((wayN (l) (k)).map fun y : Seat => y.n)).length sc_hv90), (17, .int .i64 (((((wayN (l) (k)).map fun y : Seat => y.n)).length : Nat) : Int)), (7, i.2.1)]) (fun i G Ml => Ml = (i.2.2 ++ (Ms_s ++ [])) ∧ OwnR (eSl eMsg) 33 G i.2.1 ((((wayN l k).map fun y : Seat => y.n).map fun n : Nd => n.msgs).take i.1) i.2.2 ∧ i.1 ≤ (wayN l k).length) (fun i => (wayN l k).length - i.1) (0, .slice none 0 0, ([] : MH)) ⟨eqv, eqv, eqv, eqv, eqv, eqv, trivial⟩ ?_ ?_
 ·exact ⟨rfl, (by simpa using OwnR.nil), by omega⟩
 ·rintro ⟨i, v_7, M_7⟩ gG102 G102 _ hG102 ⟨rfl, ho_7, hi⟩
  try dsimp only at ho_7 hi
  refine WC.fr (f := setL gG102 [(18, .int .i64 ((i : Nat) : Int)), (5, .slice sa_hv90 (((wayN (l) (k)).map fun y : Seat => y.n)).length sc_hv90), (6, .slice sa_hv91 (((wayN (l) (k)).map fun y : Seat => y.s)).length sc_hv91), (16, .slice sa_hv90 (((wayN (l) (k)).map fun y : Seat => y.n)).length sc_hv90), (17, .int .i64 (((((wayN (l) (k)).map fun y : Seat => y.n)).length : Nat) : Int)), (7, v_7)]) rfl ?_
  refine WC.seq ?_
  refine WC.region ?_
  refine W.ok (ok_lss rfl rfl) ?_
  refine W.nil (thn_n ?_)
  refine WC.seq ?_
  refine WC.cond (b := _) rfl (fun h19 => ?_) (fun h19 => ?_)
  ·have p19 := of_decide_eq_true h19
   refine WC.skip (thn_n ?_)
   refine WC.seq ?_
   refine WC.block ?_
   refine WC.seq ?_
   refine WC.region ?_
   have q106 := (hv90.mono hG102).at (i := i) (by omega)
   refine match q106 with | ⟨_, he103, ⟨pa_n104, pc_n104, ka_n104, kc_n104, ma_n104, mc_n104, ra_n104, rc_n104, e_105, hp_n104, hk_n104, hm_n104, hr_n104, hok_n104⟩⟩ => ?_
   subst e_105
   refine W.ok (ok_indexAddr (i := i) sl24 ty35 (hv90.mono hG102) rfl rfl ⟨by omega, by omega⟩) ?_
   refine W.ok (ok_loadE (vs := [.int .i64 _, .int .i64 _, .slice _ _ _, .slice _ _ _, .string _, .bool _, .int .i64 _, .int .i64 _, .slice _ _ _, .slice _ _ _]) ty35 he103 rfl rfl rfl (by simp)) ?_
   refine W.alloc zr35 (fun b107 => ?_)
   refine W.store (i := 0) (vs := [.int .i64 _, .int .i64 _, .slice _ _ _, .slice _ _ _, .string _, .bool _, .int .i64 _, .int .i64 _, .slice _ _ _, .slice _ _ _]) (L' := [.int .i64 _, .int .i64 _, .slice _ _ _, .slice _ _ _, .string _, .bool _, .int .i64 _, .int .i64 _, .slice _ _ _, .slice _ _ _]) ty35 rfl rfl rfl rfl rfl rfl rfl rfl ?_
   refine W.nil (thn_n ?_)
   refine WC.region ?_
   refine W.mv ?_
   refine W.ok (ok_fieldB fd35_8 rfl) ?_
   refine W.ok (ok_loadB (i := 0) (vs := [.slice _ _ _]) ty33 rfl rfl rfl rfl (by simp)) ?_
   refine W.lit (e := (eSl eMsg)) (l := [((((wayN (l) (k)).map fun y : Seat => y.n))[i]).msgs]) (css := [[.slice _ _ _]]) sl97 ty33 zr33 rfl rfl rfl rfl rfl rfl ⟨⟨_, rfl, hm_n104⟩, trivial⟩ (fun bl108 G108 hG108 hv108 => ?_)
   refine W.app (e := (eSl eMsg)) sl97 ty33 zr33 rfl by33 rfl rfl ((ho_7.mono hG108)) (hv108) (pmC (List.Perm.refl _)) (by show (List.length _ + 1) * 24 ≤ _; rw [List.length_take, List.length_map, List.length_map]; omega) (fun v109 Ms110 ho111 => ?_)
   refine W.perm (pmC (List.Perm.refl _)).symm ?_
   refine W.as ?_
   refine W.nil (blk_n (thn_n ?_))
   refine WC.region ?_
   refine W.ok (ok_add rfl rfl (by omega)) ?_
   refine W.mv ?_
   refine W.sub ((List.Sublist.refl _).cons _) ?_
   refine W.nil (thn_n ?_)
   exact ⟨hG108, (i + 1, v109, Ms110), ⟨eqv, eqv, eqv, eqv, eqv, eqv, trivial⟩, ⟨rfl, (by have h := ho111; rw [List.take_succ_eq_append_getElem (by simp; omega), List.getElem_map]; exact h), by omega⟩, by omega⟩
  ·have p19 := of_decide_eq_false h19
   refine WC.exit (thn_x (thn_x (blk_h (thn_n ?_))))
   refine WC.seq ?_
   refine WC.seq ?_
   refine WC.region ?_
   refine W.mv ?_
   refine W.ok (ok_len sl24 (hv90.mono hG102) rfl) ?_
   refine W.ok (ok_eql rfl rfl) ?_
   refine W.nil (thn_n ?_)
   refine WC.cond (b := _) rfl (fun h30 => ?_) (fun h30 => ?_)
   ·have p30 := of_decide_eq_true h30
    exfalso; omega
   ·have p30 := of_decide_eq_false h30
    refine WC.skip (thn_n ?_)
    refine WC.seq ?_
    refine WC.region ?_
    refine W.mv ?_
    refine W.mv ?_
    refine W.ok (ok_len sl24 (hv90.mono hG102) rfl) ?_
    refine W.ok (ok_sub rfl rfl (by omega)) ?_
    have q115 := (hv91.mono hG102).at (i := ((wayN l k).length - 1)) (by omega)
    refine match q115 with | ⟨_, he112, e_114⟩ => ?_
    subst e_114
    refine W.ok (ok_indexAddr (i := ((wayN l k).length - 1)) sl79 ty37 (hv91.mono hG102) rfl rfl ⟨by omega, by omega⟩) ?_
    refine W.ok (ok_loadE (vs := [.string _, .string _, .bool _]) ty37 he112 rfl rfl rfl (by simp)) ?_
    refine W.mv ?_
    refine W.giveO ho_7 (List.Perm.refl _) (fun G116 hG116 hv116 => ?_)
    have hc117 := SlR.cast hv116 (l' := (((wayN l k).map fun y : Seat => y.n).map fun n : Nd => n.msgs)) (by rw [List.take_of_length_le (by simp; omega)])
    have q119 := hc117.form
    refine match q119 with | ⟨_, _, e_118⟩ => ?_
    subst e_118
    refine W.call (Mp := []) (mpath_fc _ _ _ hc117 (by omega) (by rw [List.length_map, List.length_map]; omega) (t.path_key k)) rfl (List.Perm.refl _) ?_
    intro _ G120 _ hG120 q122
    refine match q122 with | ⟨e_123, _, e_124, hv121⟩ => ?_
    subst e_123
    subst e_124
    have q126 := hv121.form
    refine match q126 with | ⟨sa_hv121, sc_hv121, e_125⟩ => ?_
    subst e_125
    refine W.as ?_
    refine W.nil (thn_n ?_)
    refine WC.ret ?_
    refine ⟨.inr rfl, [_], ⟨rfl, trivial⟩, Ms_s, List.sublist_append_left _ _, ?_⟩
    refine ⟨rfl, _, rfl, ?_⟩
    · exact SlR.cast hv121 (t.path_msgs k (t.last_s k (by omega) (by omega)))

end Go.Proofs.Ytebkfinhhpelbaa
