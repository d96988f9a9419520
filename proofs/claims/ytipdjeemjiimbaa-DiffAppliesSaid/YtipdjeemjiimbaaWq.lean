/- Walks of functions on operations, by definition. -/
import Derived.Test.YtipdjeemjiimbaaWl
namespace Go.Proofs.Ytipdjeemjiimbaa
open Go Go.Fw Go.RowKit
set_option maxRecDepth 100000
set_option maxHeartbeats 1600000
set_option linter.unusedVariables false
set_option linter.unusedSimpArgs false
set_option linter.unnecessarySimpa false
theorem opright_fc {G : GH} (pk : Int) (pkey : Str) (phi : Str) (po : Bool) (pv : Str) (pl : Int) :
    Fc Try.prog 177 [.agg #[.int .i64 pk, .string pkey.b, .string phi.b, .bool po, .string pv.b, .int .i64 pl]] G [] (fun v _ _ => v = .int .i64 (if Opr.R (⟨pk, pkey, phi, po, pv, pl⟩ : Opr) then 0 else 3)) := by
  have h1 := pkey.le
  have h2 := phi.le
  have h3 := pv.le
  refine Fc.intro (rs := [.tmp 2]) cl177 Try.func177 rfl Try.ntmps177 rfl rfl (fun w0 => ?_)
  refine WC.seq ?_
  refine WC.region ?_
  refine W.box (L := [.int .i64 _, .string _, .string _, .bool _, .string _, .int .i64 _]) rfl rfl (fun b1 => ?_)
  refine W.as ?_
  refine W.nil (thn_n ?_)
  refine WC.seq ?_
  refine WC.region ?_
  refine W.ok (ok_fieldB fd134_0 rfl) ?_
  refine W.ok (ok_loadB (i := 0) (vs := [.int .i64 _]) ty3 rfl rfl rfl rfl (by simp)) ?_
  refine W.ok (ok_geq rfl rfl) ?_
  refine W.mv ?_
  refine W.sp 7 rfl (fun h6 => ?_) (fun h6 => ?_)
  · have p6 := of_decide_eq_true h6
    refine W.yes (dj := 7) rfl rfl h6 ?_
    refine W.ok (ok_fieldB fd134_0 rfl) ?_
    refine W.yes (dj := 7) rfl rfl h6 ?_
    refine W.ok (ok_loadB (i := 0) (vs := [.int .i64 _]) ty3 rfl rfl rfl rfl (by simp)) ?_
    refine W.yes (dj := 7) rfl rfl h6 ?_
    refine W.ok (ok_leq rfl rfl) ?_
    refine W.ok (ok_pick_t rfl h6) ?_
    refine W.mv ?_
    refine W.sp 12 rfl (fun h10 => ?_) (fun h10 => ?_)
    · have p10 := of_decide_eq_true h10
      refine W.yes (dj := 12) rfl rfl h10 ?_
      refine W.ok (ok_fieldB fd134_1 rfl) ?_
      refine W.yes (dj := 12) rfl rfl h10 ?_
      refine W.ok (ok_loadB (i := 0) (vs := [.string _]) ty9 rfl rfl rfl rfl (by simp)) ?_
      refine W.yes (dj := 12) rfl rfl h10 ?_
      refine W.qcall (kright_fc _) rfl ?_
      refine W.ok (ok_pick_t rfl h10) ?_
      refine W.mv ?_
      refine W.sp 17 rfl (fun h15 => ?_) (fun h15 => ?_)
      · have k15 := of_decide_eq_true h15
        refine W.yes (dj := 17) rfl rfl h15 ?_
        refine W.ok (ok_fieldB fd134_2 rfl) ?_
        refine W.yes (dj := 17) rfl rfl h15 ?_
        refine W.ok (ok_loadB (i := 0) (vs := [.string _]) ty9 rfl rfl rfl rfl (by simp)) ?_
        refine W.yes (dj := 17) rfl rfl h15 ?_
        refine W.qcall (kright_fc _) rfl ?_
        refine W.ok (ok_pick_t rfl h15) ?_
        refine W.mv ?_
        refine W.sp 22 rfl (fun h20 => ?_) (fun h20 => ?_)
        · have k20 := of_decide_eq_true h20
          refine W.yes (dj := 22) rfl rfl h20 ?_
          refine W.ok (ok_fieldB fd134_4 rfl) ?_
          refine W.yes (dj := 22) rfl rfl h20 ?_
          refine W.ok (ok_loadB (i := 0) (vs := [.string _]) ty9 rfl rfl rfl rfl (by simp)) ?_
          refine W.yes (dj := 22) rfl rfl h20 ?_
          refine W.qcall (vright_fc _) rfl ?_
          refine W.ok (ok_pick_t rfl h20) ?_
          refine W.as ?_
          refine W.nil (thn_n ?_)
          refine WC.seq ?_
          refine WC.region ?_
          refine W.mv ?_
          refine W.mv ?_
          refine W.sp 28 rfl (fun h25 => ?_) (fun h25 => ?_)
          · have k25 := of_decide_eq_true h25
            refine W.yes (dj := 28) rfl rfl h25 ?_
            refine W.ok (ok_loadB (i := 0) (vs := [.int .i64 _, .string _, .string _, .bool _, .string _, .int .i64 _]) ty134 rfl rfl rfl rfl (by simp)) ?_
            refine W.yes (dj := 28) rfl rfl h25 ?_
            refine W.qcall (valued_fc _ _ _ _ _ _) rfl ?_
            refine W.yes (dj := 28) rfl rfl h25 ?_
            refine W.mv ?_
            refine W.sp 31 rfl (fun h30 => ?_) (fun h30 => ?_)
            · refine W.no (dj := 31) rfl rfl h30 ?_
              refine W.no (dj := 31) rfl rfl h30 ?_
              refine W.no (dj := 31) rfl rfl h30 ?_
              refine W.yes (dj := 28) rfl rfl h25 ?_
              refine W.ok (ok_pick_t rfl h30) ?_
              refine W.ok (ok_pick_t rfl h25) ?_
              refine W.mv ?_
              refine W.yes (dj := 37) rfl rfl rfl ?_
              refine W.ok (ok_fieldB fd134_3 rfl) ?_
              refine W.yes (dj := 37) rfl rfl rfl ?_
              refine W.ok (ok_loadB (i := 0) (vs := [.bool _]) ty4 rfl rfl rfl rfl (by simp)) ?_
              refine W.yes (dj := 37) rfl rfl rfl ?_
              refine W.ok (ok_not rfl) ?_
              refine W.yes (dj := 37) rfl rfl rfl ?_
              refine W.mv ?_
              refine W.sp 41 rfl (fun h40 => ?_) (fun h40 => ?_)
              · refine W.no (dj := 41) rfl rfl h40 ?_
                refine W.no (dj := 41) rfl rfl h40 ?_
                refine W.no (dj := 41) rfl rfl h40 ?_
                refine W.yes (dj := 37) rfl rfl rfl ?_
                refine W.ok (ok_pick_t rfl h40) ?_
                refine W.ok (ok_pick_t rfl rfl) ?_
                refine W.as ?_
                refine W.nil (thn_n ?_)
                refine WC.seq ?_
                refine WC.seq ?_
                refine WC.region ?_
                refine W.ok (ok_loadB (i := 0) (vs := [.int .i64 _, .string _, .string _, .bool _, .string _, .int .i64 _]) ty134 rfl rfl rfl rfl (by simp)) ?_
                refine W.qcall (ranged_fc _ _ _ _ _ _) rfl ?_
                refine W.nil (thn_n ?_)
                refine WC.cond (b := _) rfl (fun h48 => ?_) (fun h48 => ?_)
                · refine WC.region ?_
                  refine W.mv ?_
                  refine W.mv ?_
                  refine W.yes (dj := 50) rfl rfl rfl ?_
                  refine W.ok (ok_loadB (i := 0) (vs := [.int .i64 _, .string _, .string _, .bool _, .string _, .int .i64 _]) ty134 rfl rfl rfl rfl (by simp)) ?_
                  refine W.yes (dj := 50) rfl rfl rfl ?_
                  refine W.qcall (opspan_fc _ _ _ _ _ _ (by first | assumption | omega | (dsimp only; omega))) rfl ?_
                  refine W.yes (dj := 50) rfl rfl rfl ?_
                  refine W.qcall (spanempty_fc _ _ _) rfl ?_
                  refine W.yes (dj := 50) rfl rfl rfl ?_
                  refine W.ok (ok_not rfl) ?_
                  refine W.ok (ok_pick_t rfl rfl) ?_
                  refine W.as ?_
                  refine W.nil (thn_n ?_)
                  refine WC.seq ?_
                  refine WC.seq ?_
                  refine WC.region ?_
                  refine W.ok (ok_fieldB fd134_0 rfl) ?_
                  refine W.ok (ok_loadB (i := 0) (vs := [.int .i64 _]) ty3 rfl rfl rfl rfl (by simp)) ?_
                  refine W.ok (ok_eql rfl rfl) ?_
                  refine W.nil (thn_n ?_)
                  refine WC.cond (b := _) rfl (fun h69 => ?_) (fun h69 => ?_)
                  · have p69 := of_decide_eq_true h69
                    refine WC.region ?_
                    refine W.mv ?_
                    refine W.mv ?_
                    refine W.sp 71 rfl (fun h54 => ?_) (fun h54 => ?_)
                    · replace h54 : (!(Opr.span (⟨pk, pkey, phi, po, pv, pl⟩ : Opr)).empty) = true := h54
                      refine W.yes (dj := 71) rfl rfl h54 ?_
                      refine W.ok (ok_fieldB fd134_5 rfl) ?_
                      refine W.yes (dj := 71) rfl rfl h54 ?_
                      refine W.ok (ok_loadB (i := 0) (vs := [.int .i64 _]) ty3 rfl rfl rfl rfl (by simp)) ?_
                      refine W.yes (dj := 71) rfl rfl h54 ?_
                      refine W.ok (ok_geq rfl rfl) ?_
                      refine W.ok (ok_pick_t rfl h54) ?_
                      refine W.mv ?_
                      refine W.sp 76 rfl (fun h74 => ?_) (fun h74 => ?_)
                      · have p74 := of_decide_eq_true h74
                        refine W.yes (dj := 76) rfl rfl h74 ?_
                        refine W.ok (ok_fieldB fd134_5 rfl) ?_
                        refine W.yes (dj := 76) rfl rfl h74 ?_
                        refine W.ok (ok_loadB (i := 0) (vs := [.int .i64 _]) ty3 rfl rfl rfl rfl (by simp)) ?_
                        refine W.yes (dj := 76) rfl rfl h74 ?_
                        refine W.ok (ok_leq rfl rfl) ?_
                        refine W.ok (ok_pick_t rfl h74) ?_
                        refine W.as ?_
                        refine W.nil (thn_n ?_)
                        refine WC.seq ?_
                        refine WC.seq ?_
                        refine WC.region ?_
                        refine W.mv ?_
                        refine W.ok (ok_not rfl) ?_
                        refine W.nil (thn_n ?_)
                        refine WC.cond (b := _) rfl (fun h88 => ?_) (fun h88 => ?_)
                        · have p88 := nd_t h88
                          refine WC.seq ?_
                          refine WC.region ?_
                          refine W.as ?_
                          refine W.nil (thn_n ?_)
                          refine WC.ret (thn_r ?_)
                          refine ⟨.inr rfl, [_], ⟨rfl, trivial⟩, [], List.nil_sublist _, ?_⟩
                          have hn : ∀ s : Str, s.b = ⟨#[]⟩ ↔ s = Str.nil := fun s => ⟨fun h => Str.ext' h, fun h => by rw [h]; rfl⟩
                          refine congrArg (Value.int .i64) ?_
                          rw [if_neg ?_]
                          simp only [Opr.R]
                          first | (simp_all; done) | (simp_all; omega) | grind
                        · have p88 := nd_f h88
                          refine WC.skip (thn_n ?_)
                          refine WC.seq ?_
                          refine WC.region ?_
                          refine W.as ?_
                          refine W.nil (thn_n ?_)
                          refine WC.ret ?_
                          refine ⟨.inr rfl, [_], ⟨rfl, trivial⟩, [], List.nil_sublist _, ?_⟩
                          have hn : ∀ s : Str, s.b = ⟨#[]⟩ ↔ s = Str.nil := fun s => ⟨fun h => Str.ext' h, fun h => by rw [h]; rfl⟩
                          refine congrArg (Value.int .i64) ?_
                          rw [if_pos ?_]
                          simp only [Opr.R]
                          first | (simp_all; done) | (simp_all; omega) | grind
                      · have p74 := of_decide_eq_false h74
                        refine W.no (dj := 76) rfl rfl h74 ?_
                        refine W.no (dj := 76) rfl rfl h74 ?_
                        refine W.no (dj := 76) rfl rfl h74 ?_
                        refine W.ok (ok_pick_f rfl h74) ?_
                        refine W.as ?_
                        refine W.nil (thn_n ?_)
                        refine WC.seq ?_
                        refine WC.seq ?_
                        refine WC.region ?_
                        refine W.mv ?_
                        refine W.ok (ok_not rfl) ?_
                        refine W.nil (thn_n ?_)
                        refine WC.cond_t rfl rfl ?_
                        refine WC.seq ?_
                        refine WC.region ?_
                        refine W.as ?_
                        refine W.nil (thn_n ?_)
                        refine WC.ret (thn_r ?_)
                        refine ⟨.inr rfl, [_], ⟨rfl, trivial⟩, [], List.nil_sublist _, ?_⟩
                        have hn : ∀ s : Str, s.b = ⟨#[]⟩ ↔ s = Str.nil := fun s => ⟨fun h => Str.ext' h, fun h => by rw [h]; rfl⟩
                        refine congrArg (Value.int .i64) ?_
                        rw [if_neg ?_]
                        simp only [Opr.R]
                        first | (simp_all; done) | (simp_all; omega) | grind
                    · replace h54 : (!(Opr.span (⟨pk, pkey, phi, po, pv, pl⟩ : Opr)).empty) = false := h54
                      refine W.no (dj := 71) rfl rfl h54 ?_
                      refine W.no (dj := 71) rfl rfl h54 ?_
                      refine W.no (dj := 71) rfl rfl h54 ?_
                      refine W.ok (ok_pick_f rfl h54) ?_
                      refine W.mv ?_
                      refine W.no (dj := 76) rfl rfl rfl ?_
                      refine W.no (dj := 76) rfl rfl rfl ?_
                      refine W.no (dj := 76) rfl rfl rfl ?_
                      refine W.ok (ok_pick_f rfl rfl) ?_
                      refine W.as ?_
                      refine W.nil (thn_n ?_)
                      refine WC.seq ?_
                      refine WC.seq ?_
                      refine WC.region ?_
                      refine W.mv ?_
                      refine W.ok (ok_not rfl) ?_
                      refine W.nil (thn_n ?_)
                      refine WC.cond_t rfl rfl ?_
                      refine WC.seq ?_
                      refine WC.region ?_
                      refine W.as ?_
                      refine W.nil (thn_n ?_)
                      refine WC.ret (thn_r ?_)
                      refine ⟨.inr rfl, [_], ⟨rfl, trivial⟩, [], List.nil_sublist _, ?_⟩
                      have hn : ∀ s : Str, s.b = ⟨#[]⟩ ↔ s = Str.nil := fun s => ⟨fun h => Str.ext' h, fun h => by rw [h]; rfl⟩
                      refine congrArg (Value.int .i64) ?_
                      rw [if_neg ?_]
                      simp only [Opr.R]
                      first | (simp_all; done) | (simp_all; omega) | grind
                  · have p69 := of_decide_eq_false h69
                    refine WC.region ?_
                    refine W.mv ?_
                    refine W.mv ?_
                    refine W.sp 82 rfl (fun h54 => ?_) (fun h54 => ?_)
                    · replace h54 : (!(Opr.span (⟨pk, pkey, phi, po, pv, pl⟩ : Opr)).empty) = true := h54
                      refine W.yes (dj := 82) rfl rfl h54 ?_
                      refine W.ok (ok_fieldB fd134_5 rfl) ?_
                      refine W.yes (dj := 82) rfl rfl h54 ?_
                      refine W.ok (ok_loadB (i := 0) (vs := [.int .i64 _]) ty3 rfl rfl rfl rfl (by simp)) ?_
                      refine W.yes (dj := 82) rfl rfl h54 ?_
                      refine W.ok (ok_eql rfl rfl) ?_
                      refine W.ok (ok_pick_t rfl h54) ?_
                      refine W.as ?_
                      refine W.nil (thn_n ?_)
                      refine WC.seq ?_
                      refine WC.seq ?_
                      refine WC.region ?_
                      refine W.mv ?_
                      refine W.ok (ok_not rfl) ?_
                      refine W.nil (thn_n ?_)
                      refine WC.cond (b := _) rfl (fun h88 => ?_) (fun h88 => ?_)
                      · have p88 := nd_t h88
                        refine WC.seq ?_
                        refine WC.region ?_
                        refine W.as ?_
                        refine W.nil (thn_n ?_)
                        refine WC.ret (thn_r ?_)
                        refine ⟨.inr rfl, [_], ⟨rfl, trivial⟩, [], List.nil_sublist _, ?_⟩
                        have hn : ∀ s : Str, s.b = ⟨#[]⟩ ↔ s = Str.nil := fun s => ⟨fun h => Str.ext' h, fun h => by rw [h]; rfl⟩
                        refine congrArg (Value.int .i64) ?_
                        rw [if_neg ?_]
                        simp only [Opr.R]
                        first | (simp_all; done) | (simp_all; omega) | grind
                      · have p88 := nd_f h88
                        refine WC.skip (thn_n ?_)
                        refine WC.seq ?_
                        refine WC.region ?_
                        refine W.as ?_
                        refine W.nil (thn_n ?_)
                        refine WC.ret ?_
                        refine ⟨.inr rfl, [_], ⟨rfl, trivial⟩, [], List.nil_sublist _, ?_⟩
                        have hn : ∀ s : Str, s.b = ⟨#[]⟩ ↔ s = Str.nil := fun s => ⟨fun h => Str.ext' h, fun h => by rw [h]; rfl⟩
                        refine congrArg (Value.int .i64) ?_
                        rw [if_pos ?_]
                        simp only [Opr.R]
                        first | (simp_all; done) | (simp_all; omega) | grind
                    · replace h54 : (!(Opr.span (⟨pk, pkey, phi, po, pv, pl⟩ : Opr)).empty) = false := h54
                      refine W.no (dj := 82) rfl rfl h54 ?_
                      refine W.no (dj := 82) rfl rfl h54 ?_
                      refine W.no (dj := 82) rfl rfl h54 ?_
                      refine W.ok (ok_pick_f rfl h54) ?_
                      refine W.as ?_
                      refine W.nil (thn_n ?_)
                      refine WC.seq ?_
                      refine WC.seq ?_
                      refine WC.region ?_
                      refine W.mv ?_
                      refine W.ok (ok_not rfl) ?_
                      refine W.nil (thn_n ?_)
                      refine WC.cond_t rfl rfl ?_
                      refine WC.seq ?_
                      refine WC.region ?_
                      refine W.as ?_
                      refine W.nil (thn_n ?_)
                      refine WC.ret (thn_r ?_)
                      refine ⟨.inr rfl, [_], ⟨rfl, trivial⟩, [], List.nil_sublist _, ?_⟩
                      have hn : ∀ s : Str, s.b = ⟨#[]⟩ ↔ s = Str.nil := fun s => ⟨fun h => Str.ext' h, fun h => by rw [h]; rfl⟩
                      refine congrArg (Value.int .i64) ?_
                      rw [if_neg ?_]
                      simp only [Opr.R]
                      first | (simp_all; done) | (simp_all; omega) | grind
                · refine WC.region ?_
                  refine W.mv ?_
                  refine W.mv ?_
                  refine W.yes (dj := 57) rfl rfl rfl ?_
                  refine W.ok (ok_fieldB fd134_2 rfl) ?_
                  refine W.yes (dj := 57) rfl rfl rfl ?_
                  refine W.ok (ok_loadB (i := 0) (vs := [.string _]) ty9 rfl rfl rfl rfl (by simp)) ?_
                  refine W.yes (dj := 57) rfl rfl rfl ?_
                  refine W.ok (ok_eqlS rfl rfl) ?_
                  refine W.ok (ok_pick_t rfl rfl) ?_
                  refine W.mv ?_
                  refine W.sp 62 rfl (fun h60 => ?_) (fun h60 => ?_)
                  · have p60 := of_decide_eq_true h60
                    refine W.yes (dj := 62) rfl rfl h60 ?_
                    refine W.ok (ok_fieldB fd134_3 rfl) ?_
                    refine W.yes (dj := 62) rfl rfl h60 ?_
                    refine W.ok (ok_loadB (i := 0) (vs := [.bool _]) ty4 rfl rfl rfl rfl (by simp)) ?_
                    refine W.yes (dj := 62) rfl rfl h60 ?_
                    refine W.ok (ok_not rfl) ?_
                    refine W.ok (ok_pick_t rfl h60) ?_
                    refine W.as ?_
                    refine W.nil (thn_n ?_)
                    refine WC.seq ?_
                    refine WC.seq ?_
                    refine WC.region ?_
                    refine W.ok (ok_fieldB fd134_0 rfl) ?_
                    refine W.ok (ok_loadB (i := 0) (vs := [.int .i64 _]) ty3 rfl rfl rfl rfl (by simp)) ?_
                    refine W.ok (ok_eql rfl rfl) ?_
                    refine W.nil (thn_n ?_)
                    refine WC.cond (b := _) rfl (fun h69 => ?_) (fun h69 => ?_)
                    · have p69 := of_decide_eq_true h69
                      refine WC.region ?_
                      refine W.mv ?_
                      refine W.mv ?_
                      refine W.sp 71 rfl (fun h65 => ?_) (fun h65 => ?_)
                      · refine W.yes (dj := 71) rfl rfl h65 ?_
                        refine W.ok (ok_fieldB fd134_5 rfl) ?_
                        refine W.yes (dj := 71) rfl rfl h65 ?_
                        refine W.ok (ok_loadB (i := 0) (vs := [.int .i64 _]) ty3 rfl rfl rfl rfl (by simp)) ?_
                        refine W.yes (dj := 71) rfl rfl h65 ?_
                        refine W.ok (ok_geq rfl rfl) ?_
                        refine W.ok (ok_pick_t rfl h65) ?_
                        refine W.mv ?_
                        refine W.sp 76 rfl (fun h74 => ?_) (fun h74 => ?_)
                        · have p74 := of_decide_eq_true h74
                          refine W.yes (dj := 76) rfl rfl h74 ?_
                          refine W.ok (ok_fieldB fd134_5 rfl) ?_
                          refine W.yes (dj := 76) rfl rfl h74 ?_
                          refine W.ok (ok_loadB (i := 0) (vs := [.int .i64 _]) ty3 rfl rfl rfl rfl (by simp)) ?_
                          refine W.yes (dj := 76) rfl rfl h74 ?_
                          refine W.ok (ok_leq rfl rfl) ?_
                          refine W.ok (ok_pick_t rfl h74) ?_
                          refine W.as ?_
                          refine W.nil (thn_n ?_)
                          refine WC.seq ?_
                          refine WC.seq ?_
                          refine WC.region ?_
                          refine W.mv ?_
                          refine W.ok (ok_not rfl) ?_
                          refine W.nil (thn_n ?_)
                          refine WC.cond (b := _) rfl (fun h88 => ?_) (fun h88 => ?_)
                          · have p88 := nd_t h88
                            refine WC.seq ?_
                            refine WC.region ?_
                            refine W.as ?_
                            refine W.nil (thn_n ?_)
                            refine WC.ret (thn_r ?_)
                            refine ⟨.inr rfl, [_], ⟨rfl, trivial⟩, [], List.nil_sublist _, ?_⟩
                            have hn : ∀ s : Str, s.b = ⟨#[]⟩ ↔ s = Str.nil := fun s => ⟨fun h => Str.ext' h, fun h => by rw [h]; rfl⟩
                            refine congrArg (Value.int .i64) ?_
                            rw [if_neg ?_]
                            simp only [Opr.R]
                            first | (simp_all; done) | (simp_all; omega) | grind
                          · have p88 := nd_f h88
                            refine WC.skip (thn_n ?_)
                            refine WC.seq ?_
                            refine WC.region ?_
                            refine W.as ?_
                            refine W.nil (thn_n ?_)
                            refine WC.ret ?_
                            refine ⟨.inr rfl, [_], ⟨rfl, trivial⟩, [], List.nil_sublist _, ?_⟩
                            have hn : ∀ s : Str, s.b = ⟨#[]⟩ ↔ s = Str.nil := fun s => ⟨fun h => Str.ext' h, fun h => by rw [h]; rfl⟩
                            refine congrArg (Value.int .i64) ?_
                            rw [if_pos ?_]
                            simp only [Opr.R]
                            first | (simp_all; done) | (simp_all; omega) | grind
                        · have p74 := of_decide_eq_false h74
                          refine W.no (dj := 76) rfl rfl h74 ?_
                          refine W.no (dj := 76) rfl rfl h74 ?_
                          refine W.no (dj := 76) rfl rfl h74 ?_
                          refine W.ok (ok_pick_f rfl h74) ?_
                          refine W.as ?_
                          refine W.nil (thn_n ?_)
                          refine WC.seq ?_
                          refine WC.seq ?_
                          refine WC.region ?_
                          refine W.mv ?_
                          refine W.ok (ok_not rfl) ?_
                          refine W.nil (thn_n ?_)
                          refine WC.cond_t rfl rfl ?_
                          refine WC.seq ?_
                          refine WC.region ?_
                          refine W.as ?_
                          refine W.nil (thn_n ?_)
                          refine WC.ret (thn_r ?_)
                          refine ⟨.inr rfl, [_], ⟨rfl, trivial⟩, [], List.nil_sublist _, ?_⟩
                          have hn : ∀ s : Str, s.b = ⟨#[]⟩ ↔ s = Str.nil := fun s => ⟨fun h => Str.ext' h, fun h => by rw [h]; rfl⟩
                          refine congrArg (Value.int .i64) ?_
                          rw [if_neg ?_]
                          simp only [Opr.R]
                          first | (simp_all; done) | (simp_all; omega) | grind
                      · refine W.no (dj := 71) rfl rfl h65 ?_
                        refine W.no (dj := 71) rfl rfl h65 ?_
                        refine W.no (dj := 71) rfl rfl h65 ?_
                        refine W.ok (ok_pick_f rfl h65) ?_
                        refine W.mv ?_
                        refine W.no (dj := 76) rfl rfl rfl ?_
                        refine W.no (dj := 76) rfl rfl rfl ?_
                        refine W.no (dj := 76) rfl rfl rfl ?_
                        refine W.ok (ok_pick_f rfl rfl) ?_
                        refine W.as ?_
                        refine W.nil (thn_n ?_)
                        refine WC.seq ?_
                        refine WC.seq ?_
                        refine WC.region ?_
                        refine W.mv ?_
                        refine W.ok (ok_not rfl) ?_
                        refine W.nil (thn_n ?_)
                        refine WC.cond_t rfl rfl ?_
                        refine WC.seq ?_
                        refine WC.region ?_
                        refine W.as ?_
                        refine W.nil (thn_n ?_)
                        refine WC.ret (thn_r ?_)
                        refine ⟨.inr rfl, [_], ⟨rfl, trivial⟩, [], List.nil_sublist _, ?_⟩
                        have hn : ∀ s : Str, s.b = ⟨#[]⟩ ↔ s = Str.nil := fun s => ⟨fun h => Str.ext' h, fun h => by rw [h]; rfl⟩
                        refine congrArg (Value.int .i64) ?_
                        rw [if_neg ?_]
                        simp only [Opr.R]
                        first | (simp_all; done) | (simp_all; omega) | grind
                    · have p69 := of_decide_eq_false h69
                      refine WC.region ?_
                      refine W.mv ?_
                      refine W.mv ?_
                      refine W.sp 82 rfl (fun h65 => ?_) (fun h65 => ?_)
                      · refine W.yes (dj := 82) rfl rfl h65 ?_
                        refine W.ok (ok_fieldB fd134_5 rfl) ?_
                        refine W.yes (dj := 82) rfl rfl h65 ?_
                        refine W.ok (ok_loadB (i := 0) (vs := [.int .i64 _]) ty3 rfl rfl rfl rfl (by simp)) ?_
                        refine W.yes (dj := 82) rfl rfl h65 ?_
                        refine W.ok (ok_eql rfl rfl) ?_
                        refine W.ok (ok_pick_t rfl h65) ?_
                        refine W.as ?_
                        refine W.nil (thn_n ?_)
                        refine WC.seq ?_
                        refine WC.seq ?_
                        refine WC.region ?_
                        refine W.mv ?_
                        refine W.ok (ok_not rfl) ?_
                        refine W.nil (thn_n ?_)
                        refine WC.cond (b := _) rfl (fun h88 => ?_) (fun h88 => ?_)
                        · have p88 := nd_t h88
                          refine WC.seq ?_
                          refine WC.region ?_
                          refine W.as ?_
                          refine W.nil (thn_n ?_)
                          refine WC.ret (thn_r ?_)
                          refine ⟨.inr rfl, [_], ⟨rfl, trivial⟩, [], List.nil_sublist _, ?_⟩
                          have hn : ∀ s : Str, s.b = ⟨#[]⟩ ↔ s = Str.nil := fun s => ⟨fun h => Str.ext' h, fun h => by rw [h]; rfl⟩
                          refine congrArg (Value.int .i64) ?_
                          rw [if_neg ?_]
                          simp only [Opr.R]
                          first | (simp_all; done) | (simp_all; omega) | grind
                        · have p88 := nd_f h88
                          refine WC.skip (thn_n ?_)
                          refine WC.seq ?_
                          refine WC.region ?_
                          refine W.as ?_
                          refine W.nil (thn_n ?_)
                          refine WC.ret ?_
                          refine ⟨.inr rfl, [_], ⟨rfl, trivial⟩, [], List.nil_sublist _, ?_⟩
                          have hn : ∀ s : Str, s.b = ⟨#[]⟩ ↔ s = Str.nil := fun s => ⟨fun h => Str.ext' h, fun h => by rw [h]; rfl⟩
                          refine congrArg (Value.int .i64) ?_
                          rw [if_pos ?_]
                          simp only [Opr.R]
                          first | (simp_all; done) | (simp_all; omega) | grind
                      · refine W.no (dj := 82) rfl rfl h65 ?_
                        refine W.no (dj := 82) rfl rfl h65 ?_
                        refine W.no (dj := 82) rfl rfl h65 ?_
                        refine W.ok (ok_pick_f rfl h65) ?_
                        refine W.as ?_
                        refine W.nil (thn_n ?_)
                        refine WC.seq ?_
                        refine WC.seq ?_
                        refine WC.region ?_
                        refine W.mv ?_
                        refine W.ok (ok_not rfl) ?_
                        refine W.nil (thn_n ?_)
                        refine WC.cond_t rfl rfl ?_
                        refine WC.seq ?_
                        refine WC.region ?_
                        refine W.as ?_
                        refine W.nil (thn_n ?_)
                        refine WC.ret (thn_r ?_)
                        refine ⟨.inr rfl, [_], ⟨rfl, trivial⟩, [], List.nil_sublist _, ?_⟩
                        have hn : ∀ s : Str, s.b = ⟨#[]⟩ ↔ s = Str.nil := fun s => ⟨fun h => Str.ext' h, fun h => by rw [h]; rfl⟩
                        refine congrArg (Value.int .i64) ?_
                        rw [if_neg ?_]
                        simp only [Opr.R]
                        first | (simp_all; done) | (simp_all; omega) | grind
                  · have p60 := of_decide_eq_false h60
                    refine W.no (dj := 62) rfl rfl h60 ?_
                    refine W.no (dj := 62) rfl rfl h60 ?_
                    refine W.no (dj := 62) rfl rfl h60 ?_
                    refine W.ok (ok_pick_f rfl h60) ?_
                    refine W.as ?_
                    refine W.nil (thn_n ?_)
                    refine WC.seq ?_
                    refine WC.seq ?_
                    refine WC.region ?_
                    refine W.ok (ok_fieldB fd134_0 rfl) ?_
                    refine W.ok (ok_loadB (i := 0) (vs := [.int .i64 _]) ty3 rfl rfl rfl rfl (by simp)) ?_
                    refine W.ok (ok_eql rfl rfl) ?_
                    refine W.nil (thn_n ?_)
                    refine WC.cond (b := _) rfl (fun h69 => ?_) (fun h69 => ?_)
                    · have p69 := of_decide_eq_true h69
                      refine WC.region ?_
                      refine W.mv ?_
                      refine W.mv ?_
                      refine W.no (dj := 71) rfl rfl rfl ?_
                      refine W.no (dj := 71) rfl rfl rfl ?_
                      refine W.no (dj := 71) rfl rfl rfl ?_
                      refine W.ok (ok_pick_f rfl rfl) ?_
                      refine W.mv ?_
                      refine W.no (dj := 76) rfl rfl rfl ?_
                      refine W.no (dj := 76) rfl rfl rfl ?_
                      refine W.no (dj := 76) rfl rfl rfl ?_
                      refine W.ok (ok_pick_f rfl rfl) ?_
                      refine W.as ?_
                      refine W.nil (thn_n ?_)
                      refine WC.seq ?_
                      refine WC.seq ?_
                      refine WC.region ?_
                      refine W.mv ?_
                      refine W.ok (ok_not rfl) ?_
                      refine W.nil (thn_n ?_)
                      refine WC.cond_t rfl rfl ?_
                      refine WC.seq ?_
                      refine WC.region ?_
                      refine W.as ?_
                      refine W.nil (thn_n ?_)
                      refine WC.ret (thn_r ?_)
                      refine ⟨.inr rfl, [_], ⟨rfl, trivial⟩, [], List.nil_sublist _, ?_⟩
                      have hn : ∀ s : Str, s.b = ⟨#[]⟩ ↔ s = Str.nil := fun s => ⟨fun h => Str.ext' h, fun h => by rw [h]; rfl⟩
                      refine congrArg (Value.int .i64) ?_
                      rw [if_neg ?_]
                      simp only [Opr.R]
                      first | (simp_all; done) | (simp_all; omega) | grind
                    · have p69 := of_decide_eq_false h69
                      refine WC.region ?_
                      refine W.mv ?_
                      refine W.mv ?_
                      refine W.no (dj := 82) rfl rfl rfl ?_
                      refine W.no (dj := 82) rfl rfl rfl ?_
                      refine W.no (dj := 82) rfl rfl rfl ?_
                      refine W.ok (ok_pick_f rfl rfl) ?_
                      refine W.as ?_
                      refine W.nil (thn_n ?_)
                      refine WC.seq ?_
                      refine WC.seq ?_
                      refine WC.region ?_
                      refine W.mv ?_
                      refine W.ok (ok_not rfl) ?_
                      refine W.nil (thn_n ?_)
                      refine WC.cond_t rfl rfl ?_
                      refine WC.seq ?_
                      refine WC.region ?_
                      refine W.as ?_
                      refine W.nil (thn_n ?_)
                      refine WC.ret (thn_r ?_)
                      refine ⟨.inr rfl, [_], ⟨rfl, trivial⟩, [], List.nil_sublist _, ?_⟩
                      have hn : ∀ s : Str, s.b = ⟨#[]⟩ ↔ s = Str.nil := fun s => ⟨fun h => Str.ext' h, fun h => by rw [h]; rfl⟩
                      refine congrArg (Value.int .i64) ?_
                      rw [if_neg ?_]
                      simp only [Opr.R]
                      first | (simp_all; done) | (simp_all; omega) | grind
              · refine W.yes (dj := 41) rfl rfl h40 ?_
                refine W.ok (ok_fieldB fd134_2 rfl) ?_
                refine W.yes (dj := 41) rfl rfl h40 ?_
                refine W.ok (ok_loadB (i := 0) (vs := [.string _]) ty9 rfl rfl rfl rfl (by simp)) ?_
                refine W.yes (dj := 41) rfl rfl h40 ?_
                refine W.ok (ok_eqlS rfl rfl) ?_
                refine W.yes (dj := 37) rfl rfl rfl ?_
                refine W.ok (ok_pick_f rfl h40) ?_
                refine W.ok (ok_pick_t rfl rfl) ?_
                refine W.as ?_
                refine W.nil (thn_n ?_)
                refine WC.seq ?_
                refine WC.seq ?_
                refine WC.region ?_
                refine W.ok (ok_loadB (i := 0) (vs := [.int .i64 _, .string _, .string _, .bool _, .string _, .int .i64 _]) ty134 rfl rfl rfl rfl (by simp)) ?_
                refine W.qcall (ranged_fc _ _ _ _ _ _) rfl ?_
                refine W.nil (thn_n ?_)
                refine WC.cond (b := _) rfl (fun h48 => ?_) (fun h48 => ?_)
                · refine WC.region ?_
                  refine W.mv ?_
                  refine W.mv ?_
                  refine W.sp 50 rfl (fun h44 => ?_) (fun h44 => ?_)
                  · have p44 := of_decide_eq_true h44
                    refine W.yes (dj := 50) rfl rfl h44 ?_
                    refine W.ok (ok_loadB (i := 0) (vs := [.int .i64 _, .string _, .string _, .bool _, .string _, .int .i64 _]) ty134 rfl rfl rfl rfl (by simp)) ?_
                    refine W.yes (dj := 50) rfl rfl h44 ?_
                    refine W.qcall (opspan_fc _ _ _ _ _ _ (by first | assumption | omega | (dsimp only; omega))) rfl ?_
                    refine W.yes (dj := 50) rfl rfl h44 ?_
                    refine W.qcall (spanempty_fc _ _ _) rfl ?_
                    refine W.yes (dj := 50) rfl rfl h44 ?_
                    refine W.ok (ok_not rfl) ?_
                    refine W.ok (ok_pick_t rfl h44) ?_
                    refine W.as ?_
                    refine W.nil (thn_n ?_)
                    refine WC.seq ?_
                    refine WC.seq ?_
                    refine WC.region ?_
                    refine W.ok (ok_fieldB fd134_0 rfl) ?_
                    refine W.ok (ok_loadB (i := 0) (vs := [.int .i64 _]) ty3 rfl rfl rfl rfl (by simp)) ?_
                    refine W.ok (ok_eql rfl rfl) ?_
                    refine W.nil (thn_n ?_)
                    refine WC.cond (b := _) rfl (fun h69 => ?_) (fun h69 => ?_)
                    · have p69 := of_decide_eq_true h69
                      refine WC.region ?_
                      refine W.mv ?_
                      refine W.mv ?_
                      refine W.sp 71 rfl (fun h54 => ?_) (fun h54 => ?_)
                      · replace h54 : (!(Opr.span (⟨pk, pkey, phi, po, pv, pl⟩ : Opr)).empty) = true := h54
                        refine W.yes (dj := 71) rfl rfl h54 ?_
                        refine W.ok (ok_fieldB fd134_5 rfl) ?_
                        refine W.yes (dj := 71) rfl rfl h54 ?_
                        refine W.ok (ok_loadB (i := 0) (vs := [.int .i64 _]) ty3 rfl rfl rfl rfl (by simp)) ?_
                        refine W.yes (dj := 71) rfl rfl h54 ?_
                        refine W.ok (ok_geq rfl rfl) ?_
                        refine W.ok (ok_pick_t rfl h54) ?_
                        refine W.mv ?_
                        refine W.sp 76 rfl (fun h74 => ?_) (fun h74 => ?_)
                        · have p74 := of_decide_eq_true h74
                          refine W.yes (dj := 76) rfl rfl h74 ?_
                          refine W.ok (ok_fieldB fd134_5 rfl) ?_
                          refine W.yes (dj := 76) rfl rfl h74 ?_
                          refine W.ok (ok_loadB (i := 0) (vs := [.int .i64 _]) ty3 rfl rfl rfl rfl (by simp)) ?_
                          refine W.yes (dj := 76) rfl rfl h74 ?_
                          refine W.ok (ok_leq rfl rfl) ?_
                          refine W.ok (ok_pick_t rfl h74) ?_
                          refine W.as ?_
                          refine W.nil (thn_n ?_)
                          refine WC.seq ?_
                          refine WC.seq ?_
                          refine WC.region ?_
                          refine W.mv ?_
                          refine W.ok (ok_not rfl) ?_
                          refine W.nil (thn_n ?_)
                          refine WC.cond (b := _) rfl (fun h88 => ?_) (fun h88 => ?_)
                          · have p88 := nd_t h88
                            refine WC.seq ?_
                            refine WC.region ?_
                            refine W.as ?_
                            refine W.nil (thn_n ?_)
                            refine WC.ret (thn_r ?_)
                            refine ⟨.inr rfl, [_], ⟨rfl, trivial⟩, [], List.nil_sublist _, ?_⟩
                            have hn : ∀ s : Str, s.b = ⟨#[]⟩ ↔ s = Str.nil := fun s => ⟨fun h => Str.ext' h, fun h => by rw [h]; rfl⟩
                            refine congrArg (Value.int .i64) ?_
                            rw [if_neg ?_]
                            simp only [Opr.R]
                            first | (simp_all; done) | (simp_all; omega) | grind
                          · have p88 := nd_f h88
                            refine WC.skip (thn_n ?_)
                            refine WC.seq ?_
                            refine WC.region ?_
                            refine W.as ?_
                            refine W.nil (thn_n ?_)
                            refine WC.ret ?_
                            refine ⟨.inr rfl, [_], ⟨rfl, trivial⟩, [], List.nil_sublist _, ?_⟩
                            have hn : ∀ s : Str, s.b = ⟨#[]⟩ ↔ s = Str.nil := fun s => ⟨fun h => Str.ext' h, fun h => by rw [h]; rfl⟩
                            refine congrArg (Value.int .i64) ?_
                            rw [if_pos ?_]
                            simp only [Opr.R]
                            first | (simp_all; done) | (simp_all; omega) | grind
                        · have p74 := of_decide_eq_false h74
                          refine W.no (dj := 76) rfl rfl h74 ?_
                          refine W.no (dj := 76) rfl rfl h74 ?_
                          refine W.no (dj := 76) rfl rfl h74 ?_
                          refine W.ok (ok_pick_f rfl h74) ?_
                          refine W.as ?_
                          refine W.nil (thn_n ?_)
                          refine WC.seq ?_
                          refine WC.seq ?_
                          refine WC.region ?_
                          refine W.mv ?_
                          refine W.ok (ok_not rfl) ?_
                          refine W.nil (thn_n ?_)
                          refine WC.cond_t rfl rfl ?_
                          refine WC.seq ?_
                          refine WC.region ?_
                          refine W.as ?_
                          refine W.nil (thn_n ?_)
                          refine WC.ret (thn_r ?_)
                          refine ⟨.inr rfl, [_], ⟨rfl, trivial⟩, [], List.nil_sublist _, ?_⟩
                          have hn : ∀ s : Str, s.b = ⟨#[]⟩ ↔ s = Str.nil := fun s => ⟨fun h => Str.ext' h, fun h => by rw [h]; rfl⟩
                          refine congrArg (Value.int .i64) ?_
                          rw [if_neg ?_]
                          simp only [Opr.R]
                          first | (simp_all; done) | (simp_all; omega) | grind
                      · replace h54 : (!(Opr.span (⟨pk, pkey, phi, po, pv, pl⟩ : Opr)).empty) = false := h54
                        refine W.no (dj := 71) rfl rfl h54 ?_
                        refine W.no (dj := 71) rfl rfl h54 ?_
                        refine W.no (dj := 71) rfl rfl h54 ?_
                        refine W.ok (ok_pick_f rfl h54) ?_
                        refine W.mv ?_
                        refine W.no (dj := 76) rfl rfl rfl ?_
                        refine W.no (dj := 76) rfl rfl rfl ?_
                        refine W.no (dj := 76) rfl rfl rfl ?_
                        refine W.ok (ok_pick_f rfl rfl) ?_
                        refine W.as ?_
                        refine W.nil (thn_n ?_)
                        refine WC.seq ?_
                        refine WC.seq ?_
                        refine WC.region ?_
                        refine W.mv ?_
                        refine W.ok (ok_not rfl) ?_
                        refine W.nil (thn_n ?_)
                        refine WC.cond_t rfl rfl ?_
                        refine WC.seq ?_
                        refine WC.region ?_
                        refine W.as ?_
                        refine W.nil (thn_n ?_)
                        refine WC.ret (thn_r ?_)
                        refine ⟨.inr rfl, [_], ⟨rfl, trivial⟩, [], List.nil_sublist _, ?_⟩
                        have hn : ∀ s : Str, s.b = ⟨#[]⟩ ↔ s = Str.nil := fun s => ⟨fun h => Str.ext' h, fun h => by rw [h]; rfl⟩
                        refine congrArg (Value.int .i64) ?_
                        rw [if_neg ?_]
                        simp only [Opr.R]
                        first | (simp_all; done) | (simp_all; omega) | grind
                    · have p69 := of_decide_eq_false h69
                      refine WC.region ?_
                      refine W.mv ?_
                      refine W.mv ?_
                      refine W.sp 82 rfl (fun h54 => ?_) (fun h54 => ?_)
                      · replace h54 : (!(Opr.span (⟨pk, pkey, phi, po, pv, pl⟩ : Opr)).empty) = true := h54
                        refine W.yes (dj := 82) rfl rfl h54 ?_
                        refine W.ok (ok_fieldB fd134_5 rfl) ?_
                        refine W.yes (dj := 82) rfl rfl h54 ?_
                        refine W.ok (ok_loadB (i := 0) (vs := [.int .i64 _]) ty3 rfl rfl rfl rfl (by simp)) ?_
                        refine W.yes (dj := 82) rfl rfl h54 ?_
                        refine W.ok (ok_eql rfl rfl) ?_
                        refine W.ok (ok_pick_t rfl h54) ?_
                        refine W.as ?_
                        refine W.nil (thn_n ?_)
                        refine WC.seq ?_
                        refine WC.seq ?_
                        refine WC.region ?_
                        refine W.mv ?_
                        refine W.ok (ok_not rfl) ?_
                        refine W.nil (thn_n ?_)
                        refine WC.cond (b := _) rfl (fun h88 => ?_) (fun h88 => ?_)
                        · have p88 := nd_t h88
                          refine WC.seq ?_
                          refine WC.region ?_
                          refine W.as ?_
                          refine W.nil (thn_n ?_)
                          refine WC.ret (thn_r ?_)
                          refine ⟨.inr rfl, [_], ⟨rfl, trivial⟩, [], List.nil_sublist _, ?_⟩
                          have hn : ∀ s : Str, s.b = ⟨#[]⟩ ↔ s = Str.nil := fun s => ⟨fun h => Str.ext' h, fun h => by rw [h]; rfl⟩
                          refine congrArg (Value.int .i64) ?_
                          rw [if_neg ?_]
                          simp only [Opr.R]
                          first | (simp_all; done) | (simp_all; omega) | grind
                        · have p88 := nd_f h88
                          refine WC.skip (thn_n ?_)
                          refine WC.seq ?_
                          refine WC.region ?_
                          refine W.as ?_
                          refine W.nil (thn_n ?_)
                          refine WC.ret ?_
                          refine ⟨.inr rfl, [_], ⟨rfl, trivial⟩, [], List.nil_sublist _, ?_⟩
                          have hn : ∀ s : Str, s.b = ⟨#[]⟩ ↔ s = Str.nil := fun s => ⟨fun h => Str.ext' h, fun h => by rw [h]; rfl⟩
                          refine congrArg (Value.int .i64) ?_
                          rw [if_pos ?_]
                          simp only [Opr.R]
                          first | (simp_all; done) | (simp_all; omega) | grind
                      · replace h54 : (!(Opr.span (⟨pk, pkey, phi, po, pv, pl⟩ : Opr)).empty) = false := h54
                        refine W.no (dj := 82) rfl rfl h54 ?_
                        refine W.no (dj := 82) rfl rfl h54 ?_
                        refine W.no (dj := 82) rfl rfl h54 ?_
                        refine W.ok (ok_pick_f rfl h54) ?_
                        refine W.as ?_
                        refine W.nil (thn_n ?_)
                        refine WC.seq ?_
                        refine WC.seq ?_
                        refine WC.region ?_
                        refine W.mv ?_
                        refine W.ok (ok_not rfl) ?_
                        refine W.nil (thn_n ?_)
                        refine WC.cond_t rfl rfl ?_
                        refine WC.seq ?_
                        refine WC.region ?_
                        refine W.as ?_
                        refine W.nil (thn_n ?_)
                        refine WC.ret (thn_r ?_)
                        refine ⟨.inr rfl, [_], ⟨rfl, trivial⟩, [], List.nil_sublist _, ?_⟩
                        have hn : ∀ s : Str, s.b = ⟨#[]⟩ ↔ s = Str.nil := fun s => ⟨fun h => Str.ext' h, fun h => by rw [h]; rfl⟩
                        refine congrArg (Value.int .i64) ?_
                        rw [if_neg ?_]
                        simp only [Opr.R]
                        first | (simp_all; done) | (simp_all; omega) | grind
                  · have p44 := of_decide_eq_false h44
                    refine W.no (dj := 50) rfl rfl h44 ?_
                    refine W.no (dj := 50) rfl rfl h44 ?_
                    refine W.no (dj := 50) rfl rfl h44 ?_
                    refine W.no (dj := 50) rfl rfl h44 ?_
                    refine W.ok (ok_pick_f rfl h44) ?_
                    refine W.as ?_
                    refine W.nil (thn_n ?_)
                    refine WC.seq ?_
                    refine WC.seq ?_
                    refine WC.region ?_
                    refine W.ok (ok_fieldB fd134_0 rfl) ?_
                    refine W.ok (ok_loadB (i := 0) (vs := [.int .i64 _]) ty3 rfl rfl rfl rfl (by simp)) ?_
                    refine W.ok (ok_eql rfl rfl) ?_
                    refine W.nil (thn_n ?_)
                    refine WC.cond (b := _) rfl (fun h69 => ?_) (fun h69 => ?_)
                    · have p69 := of_decide_eq_true h69
                      refine WC.region ?_
                      refine W.mv ?_
                      refine W.mv ?_
                      refine W.no (dj := 71) rfl rfl rfl ?_
                      refine W.no (dj := 71) rfl rfl rfl ?_
                      refine W.no (dj := 71) rfl rfl rfl ?_
                      refine W.ok (ok_pick_f rfl rfl) ?_
                      refine W.mv ?_
                      refine W.no (dj := 76) rfl rfl rfl ?_
                      refine W.no (dj := 76) rfl rfl rfl ?_
                      refine W.no (dj := 76) rfl rfl rfl ?_
                      refine W.ok (ok_pick_f rfl rfl) ?_
                      refine W.as ?_
                      refine W.nil (thn_n ?_)
                      refine WC.seq ?_
                      refine WC.seq ?_
                      refine WC.region ?_
                      refine W.mv ?_
                      refine W.ok (ok_not rfl) ?_
                      refine W.nil (thn_n ?_)
                      refine WC.cond_t rfl rfl ?_
                      refine WC.seq ?_
                      refine WC.region ?_
                      refine W.as ?_
                      refine W.nil (thn_n ?_)
                      refine WC.ret (thn_r ?_)
                      refine ⟨.inr rfl, [_], ⟨rfl, trivial⟩, [], List.nil_sublist _, ?_⟩
                      have hn : ∀ s : Str, s.b = ⟨#[]⟩ ↔ s = Str.nil := fun s => ⟨fun h => Str.ext' h, fun h => by rw [h]; rfl⟩
                      refine congrArg (Value.int .i64) ?_
                      rw [if_neg ?_]
                      simp only [Opr.R]
                      first | (simp_all; done) | (simp_all; omega) | grind
                    · have p69 := of_decide_eq_false h69
                      refine WC.region ?_
                      refine W.mv ?_
                      refine W.mv ?_
                      refine W.no (dj := 82) rfl rfl rfl ?_
                      refine W.no (dj := 82) rfl rfl rfl ?_
                      refine W.no (dj := 82) rfl rfl rfl ?_
                      refine W.ok (ok_pick_f rfl rfl) ?_
                      refine W.as ?_
                      refine W.nil (thn_n ?_)
                      refine WC.seq ?_
                      refine WC.seq ?_
                      refine WC.region ?_
                      refine W.mv ?_
                      refine W.ok (ok_not rfl) ?_
                      refine W.nil (thn_n ?_)
                      refine WC.cond_t rfl rfl ?_
                      refine WC.seq ?_
                      refine WC.region ?_
                      refine W.as ?_
                      refine W.nil (thn_n ?_)
                      refine WC.ret (thn_r ?_)
                      refine ⟨.inr rfl, [_], ⟨rfl, trivial⟩, [], List.nil_sublist _, ?_⟩
                      have hn : ∀ s : Str, s.b = ⟨#[]⟩ ↔ s = Str.nil := fun s => ⟨fun h => Str.ext' h, fun h => by rw [h]; rfl⟩
                      refine congrArg (Value.int .i64) ?_
                      rw [if_neg ?_]
                      simp only [Opr.R]
                      first | (simp_all; done) | (simp_all; omega) | grind
                · refine WC.region ?_
                  refine W.mv ?_
                  refine W.mv ?_
                  refine W.sp 57 rfl (fun h44 => ?_) (fun h44 => ?_)
                  · have p44 := of_decide_eq_true h44
                    refine W.yes (dj := 57) rfl rfl h44 ?_
                    refine W.ok (ok_fieldB fd134_2 rfl) ?_
                    refine W.yes (dj := 57) rfl rfl h44 ?_
                    refine W.ok (ok_loadB (i := 0) (vs := [.string _]) ty9 rfl rfl rfl rfl (by simp)) ?_
                    refine W.yes (dj := 57) rfl rfl h44 ?_
                    refine W.ok (ok_eqlS rfl rfl) ?_
                    refine W.ok (ok_pick_t rfl h44) ?_
                    refine W.mv ?_
                    refine W.sp 62 rfl (fun h60 => ?_) (fun h60 => ?_)
                    · have p60 := of_decide_eq_true h60
                      refine W.yes (dj := 62) rfl rfl h60 ?_
                      refine W.ok (ok_fieldB fd134_3 rfl) ?_
                      refine W.yes (dj := 62) rfl rfl h60 ?_
                      refine W.ok (ok_loadB (i := 0) (vs := [.bool _]) ty4 rfl rfl rfl rfl (by simp)) ?_
                      refine W.yes (dj := 62) rfl rfl h60 ?_
                      refine W.ok (ok_not rfl) ?_
                      refine W.ok (ok_pick_t rfl h60) ?_
                      refine W.as ?_
                      refine W.nil (thn_n ?_)
                      refine WC.seq ?_
                      refine WC.seq ?_
                      refine WC.region ?_
                      refine W.ok (ok_fieldB fd134_0 rfl) ?_
                      refine W.ok (ok_loadB (i := 0) (vs := [.int .i64 _]) ty3 rfl rfl rfl rfl (by simp)) ?_
                      refine W.ok (ok_eql rfl rfl) ?_
                      refine W.nil (thn_n ?_)
                      refine WC.cond (b := _) rfl (fun h69 => ?_) (fun h69 => ?_)
                      · have p69 := of_decide_eq_true h69
                        refine WC.region ?_
                        refine W.mv ?_
                        refine W.mv ?_
                        refine W.sp 71 rfl (fun h65 => ?_) (fun h65 => ?_)
                        · refine W.yes (dj := 71) rfl rfl h65 ?_
                          refine W.ok (ok_fieldB fd134_5 rfl) ?_
                          refine W.yes (dj := 71) rfl rfl h65 ?_
                          refine W.ok (ok_loadB (i := 0) (vs := [.int .i64 _]) ty3 rfl rfl rfl rfl (by simp)) ?_
                          refine W.yes (dj := 71) rfl rfl h65 ?_
                          refine W.ok (ok_geq rfl rfl) ?_
                          refine W.ok (ok_pick_t rfl h65) ?_
                          refine W.mv ?_
                          refine W.sp 76 rfl (fun h74 => ?_) (fun h74 => ?_)
                          · have p74 := of_decide_eq_true h74
                            refine W.yes (dj := 76) rfl rfl h74 ?_
                            refine W.ok (ok_fieldB fd134_5 rfl) ?_
                            refine W.yes (dj := 76) rfl rfl h74 ?_
                            refine W.ok (ok_loadB (i := 0) (vs := [.int .i64 _]) ty3 rfl rfl rfl rfl (by simp)) ?_
                            refine W.yes (dj := 76) rfl rfl h74 ?_
                            refine W.ok (ok_leq rfl rfl) ?_
                            refine W.ok (ok_pick_t rfl h74) ?_
                            refine W.as ?_
                            refine W.nil (thn_n ?_)
                            refine WC.seq ?_
                            refine WC.seq ?_
                            refine WC.region ?_
                            refine W.mv ?_
                            refine W.ok (ok_not rfl) ?_
                            refine W.nil (thn_n ?_)
                            refine WC.cond (b := _) rfl (fun h88 => ?_) (fun h88 => ?_)
                            · have p88 := nd_t h88
                              refine WC.seq ?_
                              refine WC.region ?_
                              refine W.as ?_
                              refine W.nil (thn_n ?_)
                              refine WC.ret (thn_r ?_)
                              refine ⟨.inr rfl, [_], ⟨rfl, trivial⟩, [], List.nil_sublist _, ?_⟩
                              have hn : ∀ s : Str, s.b = ⟨#[]⟩ ↔ s = Str.nil := fun s => ⟨fun h => Str.ext' h, fun h => by rw [h]; rfl⟩
                              refine congrArg (Value.int .i64) ?_
                              rw [if_neg ?_]
                              simp only [Opr.R]
                              first | (simp_all; done) | (simp_all; omega) | grind
                            · have p88 := nd_f h88
                              refine WC.skip (thn_n ?_)
                              refine WC.seq ?_
                              refine WC.region ?_
                              refine W.as ?_
                              refine W.nil (thn_n ?_)
                              refine WC.ret ?_
                              refine ⟨.inr rfl, [_], ⟨rfl, trivial⟩, [], List.nil_sublist _, ?_⟩
                              have hn : ∀ s : Str, s.b = ⟨#[]⟩ ↔ s = Str.nil := fun s => ⟨fun h => Str.ext' h, fun h => by rw [h]; rfl⟩
                              refine congrArg (Value.int .i64) ?_
                              rw [if_pos ?_]
                              simp only [Opr.R]
                              first | (simp_all; done) | (simp_all; omega) | grind
                          · have p74 := of_decide_eq_false h74
                            refine W.no (dj := 76) rfl rfl h74 ?_
                            refine W.no (dj := 76) rfl rfl h74 ?_
                            refine W.no (dj := 76) rfl rfl h74 ?_
                            refine W.ok (ok_pick_f rfl h74) ?_
                            refine W.as ?_
                            refine W.nil (thn_n ?_)
                            refine WC.seq ?_
                            refine WC.seq ?_
                            refine WC.region ?_
                            refine W.mv ?_
                            refine W.ok (ok_not rfl) ?_
                            refine W.nil (thn_n ?_)
                            refine WC.cond_t rfl rfl ?_
                            refine WC.seq ?_
                            refine WC.region ?_
                            refine W.as ?_
                            refine W.nil (thn_n ?_)
                            refine WC.ret (thn_r ?_)
                            refine ⟨.inr rfl, [_], ⟨rfl, trivial⟩, [], List.nil_sublist _, ?_⟩
                            have hn : ∀ s : Str, s.b = ⟨#[]⟩ ↔ s = Str.nil := fun s => ⟨fun h => Str.ext' h, fun h => by rw [h]; rfl⟩
                            refine congrArg (Value.int .i64) ?_
                            rw [if_neg ?_]
                            simp only [Opr.R]
                            first | (simp_all; done) | (simp_all; omega) | grind
                        · refine W.no (dj := 71) rfl rfl h65 ?_
                          refine W.no (dj := 71) rfl rfl h65 ?_
                          refine W.no (dj := 71) rfl rfl h65 ?_
                          refine W.ok (ok_pick_f rfl h65) ?_
                          refine W.mv ?_
                          refine W.no (dj := 76) rfl rfl rfl ?_
                          refine W.no (dj := 76) rfl rfl rfl ?_
                          refine W.no (dj := 76) rfl rfl rfl ?_
                          refine W.ok (ok_pick_f rfl rfl) ?_
                          refine W.as ?_
                          refine W.nil (thn_n ?_)
                          refine WC.seq ?_
                          refine WC.seq ?_
                          refine WC.region ?_
                          refine W.mv ?_
                          refine W.ok (ok_not rfl) ?_
                          refine W.nil (thn_n ?_)
                          refine WC.cond_t rfl rfl ?_
                          refine WC.seq ?_
                          refine WC.region ?_
                          refine W.as ?_
                          refine W.nil (thn_n ?_)
                          refine WC.ret (thn_r ?_)
                          refine ⟨.inr rfl, [_], ⟨rfl, trivial⟩, [], List.nil_sublist _, ?_⟩
                          have hn : ∀ s : Str, s.b = ⟨#[]⟩ ↔ s = Str.nil := fun s => ⟨fun h => Str.ext' h, fun h => by rw [h]; rfl⟩
                          refine congrArg (Value.int .i64) ?_
                          rw [if_neg ?_]
                          simp only [Opr.R]
                          first | (simp_all; done) | (simp_all; omega) | grind
                      · have p69 := of_decide_eq_false h69
                        refine WC.region ?_
                        refine W.mv ?_
                        refine W.mv ?_
                        refine W.sp 82 rfl (fun h65 => ?_) (fun h65 => ?_)
                        · refine W.yes (dj := 82) rfl rfl h65 ?_
                          refine W.ok (ok_fieldB fd134_5 rfl) ?_
                          refine W.yes (dj := 82) rfl rfl h65 ?_
                          refine W.ok (ok_loadB (i := 0) (vs := [.int .i64 _]) ty3 rfl rfl rfl rfl (by simp)) ?_
                          refine W.yes (dj := 82) rfl rfl h65 ?_
                          refine W.ok (ok_eql rfl rfl) ?_
                          refine W.ok (ok_pick_t rfl h65) ?_
                          refine W.as ?_
                          refine W.nil (thn_n ?_)
                          refine WC.seq ?_
                          refine WC.seq ?_
                          refine WC.region ?_
                          refine W.mv ?_
                          refine W.ok (ok_not rfl) ?_
                          refine W.nil (thn_n ?_)
                          refine WC.cond (b := _) rfl (fun h88 => ?_) (fun h88 => ?_)
                          · have p88 := nd_t h88
                            refine WC.seq ?_
                            refine WC.region ?_
                            refine W.as ?_
                            refine W.nil (thn_n ?_)
                            refine WC.ret (thn_r ?_)
                            refine ⟨.inr rfl, [_], ⟨rfl, trivial⟩, [], List.nil_sublist _, ?_⟩
                            have hn : ∀ s : Str, s.b = ⟨#[]⟩ ↔ s = Str.nil := fun s => ⟨fun h => Str.ext' h, fun h => by rw [h]; rfl⟩
                            refine congrArg (Value.int .i64) ?_
                            rw [if_neg ?_]
                            simp only [Opr.R]
                            first | (simp_all; done) | (simp_all; omega) | grind
                          · have p88 := nd_f h88
                            refine WC.skip (thn_n ?_)
                            refine WC.seq ?_
                            refine WC.region ?_
                            refine W.as ?_
                            refine W.nil (thn_n ?_)
                            refine WC.ret ?_
                            refine ⟨.inr rfl, [_], ⟨rfl, trivial⟩, [], List.nil_sublist _, ?_⟩
                            have hn : ∀ s : Str, s.b = ⟨#[]⟩ ↔ s = Str.nil := fun s => ⟨fun h => Str.ext' h, fun h => by rw [h]; rfl⟩
                            refine congrArg (Value.int .i64) ?_
                            rw [if_pos ?_]
                            simp only [Opr.R]
                            first | (simp_all; done) | (simp_all; omega) | grind
                        · refine W.no (dj := 82) rfl rfl h65 ?_
                          refine W.no (dj := 82) rfl rfl h65 ?_
                          refine W.no (dj := 82) rfl rfl h65 ?_
                          refine W.ok (ok_pick_f rfl h65) ?_
                          refine W.as ?_
                          refine W.nil (thn_n ?_)
                          refine WC.seq ?_
                          refine WC.seq ?_
                          refine WC.region ?_
                          refine W.mv ?_
                          refine W.ok (ok_not rfl) ?_
                          refine W.nil (thn_n ?_)
                          refine WC.cond_t rfl rfl ?_
                          refine WC.seq ?_
                          refine WC.region ?_
                          refine W.as ?_
                          refine W.nil (thn_n ?_)
                          refine WC.ret (thn_r ?_)
                          refine ⟨.inr rfl, [_], ⟨rfl, trivial⟩, [], List.nil_sublist _, ?_⟩
                          have hn : ∀ s : Str, s.b = ⟨#[]⟩ ↔ s = Str.nil := fun s => ⟨fun h => Str.ext' h, fun h => by rw [h]; rfl⟩
                          refine congrArg (Value.int .i64) ?_
                          rw [if_neg ?_]
                          simp only [Opr.R]
                          first | (simp_all; done) | (simp_all; omega) | grind
                    · have p60 := of_decide_eq_false h60
                      refine W.no (dj := 62) rfl rfl h60 ?_
                      refine W.no (dj := 62) rfl rfl h60 ?_
                      refine W.no (dj := 62) rfl rfl h60 ?_
                      refine W.ok (ok_pick_f rfl h60) ?_
                      refine W.as ?_
                      refine W.nil (thn_n ?_)
                      refine WC.seq ?_
                      refine WC.seq ?_
                      refine WC.region ?_
                      refine W.ok (ok_fieldB fd134_0 rfl) ?_
                      refine W.ok (ok_loadB (i := 0) (vs := [.int .i64 _]) ty3 rfl rfl rfl rfl (by simp)) ?_
                      refine W.ok (ok_eql rfl rfl) ?_
                      refine W.nil (thn_n ?_)
                      refine WC.cond (b := _) rfl (fun h69 => ?_) (fun h69 => ?_)
                      · have p69 := of_decide_eq_true h69
                        refine WC.region ?_
                        refine W.mv ?_
                        refine W.mv ?_
                        refine W.no (dj := 71) rfl rfl rfl ?_
                        refine W.no (dj := 71) rfl rfl rfl ?_
                        refine W.no (dj := 71) rfl rfl rfl ?_
                        refine W.ok (ok_pick_f rfl rfl) ?_
                        refine W.mv ?_
                        refine W.no (dj := 76) rfl rfl rfl ?_
                        refine W.no (dj := 76) rfl rfl rfl ?_
                        refine W.no (dj := 76) rfl rfl rfl ?_
                        refine W.ok (ok_pick_f rfl rfl) ?_
                        refine W.as ?_
                        refine W.nil (thn_n ?_)
                        refine WC.seq ?_
                        refine WC.seq ?_
                        refine WC.region ?_
                        refine W.mv ?_
                        refine W.ok (ok_not rfl) ?_
                        refine W.nil (thn_n ?_)
                        refine WC.cond_t rfl rfl ?_
                        refine WC.seq ?_
                        refine WC.region ?_
                        refine W.as ?_
                        refine W.nil (thn_n ?_)
                        refine WC.ret (thn_r ?_)
                        refine ⟨.inr rfl, [_], ⟨rfl, trivial⟩, [], List.nil_sublist _, ?_⟩
                        have hn : ∀ s : Str, s.b = ⟨#[]⟩ ↔ s = Str.nil := fun s => ⟨fun h => Str.ext' h, fun h => by rw [h]; rfl⟩
                        refine congrArg (Value.int .i64) ?_
                        rw [if_neg ?_]
                        simp only [Opr.R]
                        first | (simp_all; done) | (simp_all; omega) | grind
                      · have p69 := of_decide_eq_false h69
                        refine WC.region ?_
                        refine W.mv ?_
                        refine W.mv ?_
                        refine W.no (dj := 82) rfl rfl rfl ?_
                        refine W.no (dj := 82) rfl rfl rfl ?_
                        refine W.no (dj := 82) rfl rfl rfl ?_
                        refine W.ok (ok_pick_f rfl rfl) ?_
                        refine W.as ?_
                        refine W.nil (thn_n ?_)
                        refine WC.seq ?_
                        refine WC.seq ?_
                        refine WC.region ?_
                        refine W.mv ?_
                        refine W.ok (ok_not rfl) ?_
                        refine W.nil (thn_n ?_)
                        refine WC.cond_t rfl rfl ?_
                        refine WC.seq ?_
                        refine WC.region ?_
                        refine W.as ?_
                        refine W.nil (thn_n ?_)
                        refine WC.ret (thn_r ?_)
                        refine ⟨.inr rfl, [_], ⟨rfl, trivial⟩, [], List.nil_sublist _, ?_⟩
                        have hn : ∀ s : Str, s.b = ⟨#[]⟩ ↔ s = Str.nil := fun s => ⟨fun h => Str.ext' h, fun h => by rw [h]; rfl⟩
                        refine congrArg (Value.int .i64) ?_
                        rw [if_neg ?_]
                        simp only [Opr.R]
                        first | (simp_all; done) | (simp_all; omega) | grind
                  · have p44 := of_decide_eq_false h44
                    refine W.no (dj := 57) rfl rfl h44 ?_
                    refine W.no (dj := 57) rfl rfl h44 ?_
                    refine W.no (dj := 57) rfl rfl h44 ?_
                    refine W.ok (ok_pick_f rfl h44) ?_
                    refine W.mv ?_
                    refine W.no (dj := 62) rfl rfl rfl ?_
                    refine W.no (dj := 62) rfl rfl rfl ?_
                    refine W.no (dj := 62) rfl rfl rfl ?_
                    refine W.ok (ok_pick_f rfl rfl) ?_
                    refine W.as ?_
                    refine W.nil (thn_n ?_)
                    refine WC.seq ?_
                    refine WC.seq ?_
                    refine WC.region ?_
                    refine W.ok (ok_fieldB fd134_0 rfl) ?_
                    refine W.ok (ok_loadB (i := 0) (vs := [.int .i64 _]) ty3 rfl rfl rfl rfl (by simp)) ?_
                    refine W.ok (ok_eql rfl rfl) ?_
                    refine W.nil (thn_n ?_)
                    refine WC.cond (b := _) rfl (fun h69 => ?_) (fun h69 => ?_)
                    · have p69 := of_decide_eq_true h69
                      refine WC.region ?_
                      refine W.mv ?_
                      refine W.mv ?_
                      refine W.no (dj := 71) rfl rfl rfl ?_
                      refine W.no (dj := 71) rfl rfl rfl ?_
                      refine W.no (dj := 71) rfl rfl rfl ?_
                      refine W.ok (ok_pick_f rfl rfl) ?_
                      refine W.mv ?_
                      refine W.no (dj := 76) rfl rfl rfl ?_
                      refine W.no (dj := 76) rfl rfl rfl ?_
                      refine W.no (dj := 76) rfl rfl rfl ?_
                      refine W.ok (ok_pick_f rfl rfl) ?_
                      refine W.as ?_
                      refine W.nil (thn_n ?_)
                      refine WC.seq ?_
                      refine WC.seq ?_
                      refine WC.region ?_
                      refine W.mv ?_
                      refine W.ok (ok_not rfl) ?_
                      refine W.nil (thn_n ?_)
                      refine WC.cond_t rfl rfl ?_
                      refine WC.seq ?_
                      refine WC.region ?_
                      refine W.as ?_
                      refine W.nil (thn_n ?_)
                      refine WC.ret (thn_r ?_)
                      refine ⟨.inr rfl, [_], ⟨rfl, trivial⟩, [], List.nil_sublist _, ?_⟩
                      have hn : ∀ s : Str, s.b = ⟨#[]⟩ ↔ s = Str.nil := fun s => ⟨fun h => Str.ext' h, fun h => by rw [h]; rfl⟩
                      refine congrArg (Value.int .i64) ?_
                      rw [if_neg ?_]
                      simp only [Opr.R]
                      first | (simp_all; done) | (simp_all; omega) | grind
                    · have p69 := of_decide_eq_false h69
                      refine WC.region ?_
                      refine W.mv ?_
                      refine W.mv ?_
                      refine W.no (dj := 82) rfl rfl rfl ?_
                      refine W.no (dj := 82) rfl rfl rfl ?_
                      refine W.no (dj := 82) rfl rfl rfl ?_
                      refine W.ok (ok_pick_f rfl rfl) ?_
                      refine W.as ?_
                      refine W.nil (thn_n ?_)
                      refine WC.seq ?_
                      refine WC.seq ?_
                      refine WC.region ?_
                      refine W.mv ?_
                      refine W.ok (ok_not rfl) ?_
                      refine W.nil (thn_n ?_)
                      refine WC.cond_t rfl rfl ?_
                      refine WC.seq ?_
                      refine WC.region ?_
                      refine W.as ?_
                      refine W.nil (thn_n ?_)
                      refine WC.ret (thn_r ?_)
                      refine ⟨.inr rfl, [_], ⟨rfl, trivial⟩, [], List.nil_sublist _, ?_⟩
                      have hn : ∀ s : Str, s.b = ⟨#[]⟩ ↔ s = Str.nil := fun s => ⟨fun h => Str.ext' h, fun h => by rw [h]; rfl⟩
                      refine congrArg (Value.int .i64) ?_
                      rw [if_neg ?_]
                      simp only [Opr.R]
                      first | (simp_all; done) | (simp_all; omega) | grind
            · refine W.yes (dj := 31) rfl rfl h30 ?_
              refine W.ok (ok_fieldB fd134_4 rfl) ?_
              refine W.yes (dj := 31) rfl rfl h30 ?_
              refine W.ok (ok_loadB (i := 0) (vs := [.string _]) ty9 rfl rfl rfl rfl (by simp)) ?_
              refine W.yes (dj := 31) rfl rfl h30 ?_
              refine W.ok (ok_eqlS rfl rfl) ?_
              refine W.yes (dj := 28) rfl rfl h25 ?_
              refine W.ok (ok_pick_f rfl h30) ?_
              refine W.ok (ok_pick_t rfl h25) ?_
              refine W.mv ?_
              refine W.sp 37 rfl (fun h34 => ?_) (fun h34 => ?_)
              · have p34 := of_decide_eq_true h34
                refine W.yes (dj := 37) rfl rfl h34 ?_
                refine W.ok (ok_fieldB fd134_3 rfl) ?_
                refine W.yes (dj := 37) rfl rfl h34 ?_
                refine W.ok (ok_loadB (i := 0) (vs := [.bool _]) ty4 rfl rfl rfl rfl (by simp)) ?_
                refine W.yes (dj := 37) rfl rfl h34 ?_
                refine W.ok (ok_not rfl) ?_
                refine W.yes (dj := 37) rfl rfl h34 ?_
                refine W.mv ?_
                refine W.sp 41 rfl (fun h40 => ?_) (fun h40 => ?_)
                · refine W.no (dj := 41) rfl rfl h40 ?_
                  refine W.no (dj := 41) rfl rfl h40 ?_
                  refine W.no (dj := 41) rfl rfl h40 ?_
                  refine W.yes (dj := 37) rfl rfl h34 ?_
                  refine W.ok (ok_pick_t rfl h40) ?_
                  refine W.ok (ok_pick_t rfl h34) ?_
                  refine W.as ?_
                  refine W.nil (thn_n ?_)
                  refine WC.seq ?_
                  refine WC.seq ?_
                  refine WC.region ?_
                  refine W.ok (ok_loadB (i := 0) (vs := [.int .i64 _, .string _, .string _, .bool _, .string _, .int .i64 _]) ty134 rfl rfl rfl rfl (by simp)) ?_
                  refine W.qcall (ranged_fc _ _ _ _ _ _) rfl ?_
                  refine W.nil (thn_n ?_)
                  refine WC.cond (b := _) rfl (fun h48 => ?_) (fun h48 => ?_)
                  · refine WC.region ?_
                    refine W.mv ?_
                    refine W.mv ?_
                    refine W.yes (dj := 50) rfl rfl rfl ?_
                    refine W.ok (ok_loadB (i := 0) (vs := [.int .i64 _, .string _, .string _, .bool _, .string _, .int .i64 _]) ty134 rfl rfl rfl rfl (by simp)) ?_
                    refine W.yes (dj := 50) rfl rfl rfl ?_
                    refine W.qcall (opspan_fc _ _ _ _ _ _ (by first | assumption | omega | (dsimp only; omega))) rfl ?_
                    refine W.yes (dj := 50) rfl rfl rfl ?_
                    refine W.qcall (spanempty_fc _ _ _) rfl ?_
                    refine W.yes (dj := 50) rfl rfl rfl ?_
                    refine W.ok (ok_not rfl) ?_
                    refine W.ok (ok_pick_t rfl rfl) ?_
                    refine W.as ?_
                    refine W.nil (thn_n ?_)
                    refine WC.seq ?_
                    refine WC.seq ?_
                    refine WC.region ?_
                    refine W.ok (ok_fieldB fd134_0 rfl) ?_
                    refine W.ok (ok_loadB (i := 0) (vs := [.int .i64 _]) ty3 rfl rfl rfl rfl (by simp)) ?_
                    refine W.ok (ok_eql rfl rfl) ?_
                    refine W.nil (thn_n ?_)
                    refine WC.cond (b := _) rfl (fun h69 => ?_) (fun h69 => ?_)
                    · have p69 := of_decide_eq_true h69
                      refine WC.region ?_
                      refine W.mv ?_
                      refine W.mv ?_
                      refine W.sp 71 rfl (fun h54 => ?_) (fun h54 => ?_)
                      · replace h54 : (!(Opr.span (⟨pk, pkey, phi, po, pv, pl⟩ : Opr)).empty) = true := h54
                        refine W.yes (dj := 71) rfl rfl h54 ?_
                        refine W.ok (ok_fieldB fd134_5 rfl) ?_
                        refine W.yes (dj := 71) rfl rfl h54 ?_
                        refine W.ok (ok_loadB (i := 0) (vs := [.int .i64 _]) ty3 rfl rfl rfl rfl (by simp)) ?_
                        refine W.yes (dj := 71) rfl rfl h54 ?_
                        refine W.ok (ok_geq rfl rfl) ?_
                        refine W.ok (ok_pick_t rfl h54) ?_
                        refine W.mv ?_
                        refine W.sp 76 rfl (fun h74 => ?_) (fun h74 => ?_)
                        · have p74 := of_decide_eq_true h74
                          refine W.yes (dj := 76) rfl rfl h74 ?_
                          refine W.ok (ok_fieldB fd134_5 rfl) ?_
                          refine W.yes (dj := 76) rfl rfl h74 ?_
                          refine W.ok (ok_loadB (i := 0) (vs := [.int .i64 _]) ty3 rfl rfl rfl rfl (by simp)) ?_
                          refine W.yes (dj := 76) rfl rfl h74 ?_
                          refine W.ok (ok_leq rfl rfl) ?_
                          refine W.ok (ok_pick_t rfl h74) ?_
                          refine W.as ?_
                          refine W.nil (thn_n ?_)
                          refine WC.seq ?_
                          refine WC.seq ?_
                          refine WC.region ?_
                          refine W.mv ?_
                          refine W.ok (ok_not rfl) ?_
                          refine W.nil (thn_n ?_)
                          refine WC.cond (b := _) rfl (fun h88 => ?_) (fun h88 => ?_)
                          · have p88 := nd_t h88
                            refine WC.seq ?_
                            refine WC.region ?_
                            refine W.as ?_
                            refine W.nil (thn_n ?_)
                            refine WC.ret (thn_r ?_)
                            refine ⟨.inr rfl, [_], ⟨rfl, trivial⟩, [], List.nil_sublist _, ?_⟩
                            have hn : ∀ s : Str, s.b = ⟨#[]⟩ ↔ s = Str.nil := fun s => ⟨fun h => Str.ext' h, fun h => by rw [h]; rfl⟩
                            refine congrArg (Value.int .i64) ?_
                            rw [if_neg ?_]
                            simp only [Opr.R]
                            first | (simp_all; done) | (simp_all; omega) | grind
                          · have p88 := nd_f h88
                            refine WC.skip (thn_n ?_)
                            refine WC.seq ?_
                            refine WC.region ?_
                            refine W.as ?_
                            refine W.nil (thn_n ?_)
                            refine WC.ret ?_
                            refine ⟨.inr rfl, [_], ⟨rfl, trivial⟩, [], List.nil_sublist _, ?_⟩
                            have hn : ∀ s : Str, s.b = ⟨#[]⟩ ↔ s = Str.nil := fun s => ⟨fun h => Str.ext' h, fun h => by rw [h]; rfl⟩
                            refine congrArg (Value.int .i64) ?_
                            rw [if_pos ?_]
                            simp only [Opr.R]
                            first | (simp_all; done) | (simp_all; omega) | grind
                        · have p74 := of_decide_eq_false h74
                          refine W.no (dj := 76) rfl rfl h74 ?_
                          refine W.no (dj := 76) rfl rfl h74 ?_
                          refine W.no (dj := 76) rfl rfl h74 ?_
                          refine W.ok (ok_pick_f rfl h74) ?_
                          refine W.as ?_
                          refine W.nil (thn_n ?_)
                          refine WC.seq ?_
                          refine WC.seq ?_
                          refine WC.region ?_
                          refine W.mv ?_
                          refine W.ok (ok_not rfl) ?_
                          refine W.nil (thn_n ?_)
                          refine WC.cond_t rfl rfl ?_
                          refine WC.seq ?_
                          refine WC.region ?_
                          refine W.as ?_
                          refine W.nil (thn_n ?_)
                          refine WC.ret (thn_r ?_)
                          refine ⟨.inr rfl, [_], ⟨rfl, trivial⟩, [], List.nil_sublist _, ?_⟩
                          have hn : ∀ s : Str, s.b = ⟨#[]⟩ ↔ s = Str.nil := fun s => ⟨fun h => Str.ext' h, fun h => by rw [h]; rfl⟩
                          refine congrArg (Value.int .i64) ?_
                          rw [if_neg ?_]
                          simp only [Opr.R]
                          first | (simp_all; done) | (simp_all; omega) | grind
                      · replace h54 : (!(Opr.span (⟨pk, pkey, phi, po, pv, pl⟩ : Opr)).empty) = false := h54
                        refine W.no (dj := 71) rfl rfl h54 ?_
                        refine W.no (dj := 71) rfl rfl h54 ?_
                        refine W.no (dj := 71) rfl rfl h54 ?_
                        refine W.ok (ok_pick_f rfl h54) ?_
                        refine W.mv ?_
                        refine W.no (dj := 76) rfl rfl rfl ?_
                        refine W.no (dj := 76) rfl rfl rfl ?_
                        refine W.no (dj := 76) rfl rfl rfl ?_
                        refine W.ok (ok_pick_f rfl rfl) ?_
                        refine W.as ?_
                        refine W.nil (thn_n ?_)
                        refine WC.seq ?_
                        refine WC.seq ?_
                        refine WC.region ?_
                        refine W.mv ?_
                        refine W.ok (ok_not rfl) ?_
                        refine W.nil (thn_n ?_)
                        refine WC.cond_t rfl rfl ?_
                        refine WC.seq ?_
                        refine WC.region ?_
                        refine W.as ?_
                        refine W.nil (thn_n ?_)
                        refine WC.ret (thn_r ?_)
                        refine ⟨.inr rfl, [_], ⟨rfl, trivial⟩, [], List.nil_sublist _, ?_⟩
                        have hn : ∀ s : Str, s.b = ⟨#[]⟩ ↔ s = Str.nil := fun s => ⟨fun h => Str.ext' h, fun h => by rw [h]; rfl⟩
                        refine congrArg (Value.int .i64) ?_
                        rw [if_neg ?_]
                        simp only [Opr.R]
                        first | (simp_all; done) | (simp_all; omega) | grind
                    · have p69 := of_decide_eq_false h69
                      refine WC.region ?_
                      refine W.mv ?_
                      refine W.mv ?_
                      refine W.sp 82 rfl (fun h54 => ?_) (fun h54 => ?_)
                      · replace h54 : (!(Opr.span (⟨pk, pkey, phi, po, pv, pl⟩ : Opr)).empty) = true := h54
                        refine W.yes (dj := 82) rfl rfl h54 ?_
                        refine W.ok (ok_fieldB fd134_5 rfl) ?_
                        refine W.yes (dj := 82) rfl rfl h54 ?_
                        refine W.ok (ok_loadB (i := 0) (vs := [.int .i64 _]) ty3 rfl rfl rfl rfl (by simp)) ?_
                        refine W.yes (dj := 82) rfl rfl h54 ?_
                        refine W.ok (ok_eql rfl rfl) ?_
                        refine W.ok (ok_pick_t rfl h54) ?_
                        refine W.as ?_
                        refine W.nil (thn_n ?_)
                        refine WC.seq ?_
                        refine WC.seq ?_
                        refine WC.region ?_
                        refine W.mv ?_
                        refine W.ok (ok_not rfl) ?_
                        refine W.nil (thn_n ?_)
                        refine WC.cond (b := _) rfl (fun h88 => ?_) (fun h88 => ?_)
                        · have p88 := nd_t h88
                          refine WC.seq ?_
                          refine WC.region ?_
                          refine W.as ?_
                          refine W.nil (thn_n ?_)
                          refine WC.ret (thn_r ?_)
                          refine ⟨.inr rfl, [_], ⟨rfl, trivial⟩, [], List.nil_sublist _, ?_⟩
                          have hn : ∀ s : Str, s.b = ⟨#[]⟩ ↔ s = Str.nil := fun s => ⟨fun h => Str.ext' h, fun h => by rw [h]; rfl⟩
                          refine congrArg (Value.int .i64) ?_
                          rw [if_neg ?_]
                          simp only [Opr.R]
                          first | (simp_all; done) | (simp_all; omega) | grind
                        · have p88 := nd_f h88
                          refine WC.skip (thn_n ?_)
                          refine WC.seq ?_
                          refine WC.region ?_
                          refine W.as ?_
                          refine W.nil (thn_n ?_)
                          refine WC.ret ?_
                          refine ⟨.inr rfl, [_], ⟨rfl, trivial⟩, [], List.nil_sublist _, ?_⟩
                          have hn : ∀ s : Str, s.b = ⟨#[]⟩ ↔ s = Str.nil := fun s => ⟨fun h => Str.ext' h, fun h => by rw [h]; rfl⟩
                          refine congrArg (Value.int .i64) ?_
                          rw [if_pos ?_]
                          simp only [Opr.R]
                          first | (simp_all; done) | (simp_all; omega) | grind
                      · replace h54 : (!(Opr.span (⟨pk, pkey, phi, po, pv, pl⟩ : Opr)).empty) = false := h54
                        refine W.no (dj := 82) rfl rfl h54 ?_
                        refine W.no (dj := 82) rfl rfl h54 ?_
                        refine W.no (dj := 82) rfl rfl h54 ?_
                        refine W.ok (ok_pick_f rfl h54) ?_
                        refine W.as ?_
                        refine W.nil (thn_n ?_)
                        refine WC.seq ?_
                        refine WC.seq ?_
                        refine WC.region ?_
                        refine W.mv ?_
                        refine W.ok (ok_not rfl) ?_
                        refine W.nil (thn_n ?_)
                        refine WC.cond_t rfl rfl ?_
                        refine WC.seq ?_
                        refine WC.region ?_
                        refine W.as ?_
                        refine W.nil (thn_n ?_)
                        refine WC.ret (thn_r ?_)
                        refine ⟨.inr rfl, [_], ⟨rfl, trivial⟩, [], List.nil_sublist _, ?_⟩
                        have hn : ∀ s : Str, s.b = ⟨#[]⟩ ↔ s = Str.nil := fun s => ⟨fun h => Str.ext' h, fun h => by rw [h]; rfl⟩
                        refine congrArg (Value.int .i64) ?_
                        rw [if_neg ?_]
                        simp only [Opr.R]
                        first | (simp_all; done) | (simp_all; omega) | grind
                  · refine WC.region ?_
                    refine W.mv ?_
                    refine W.mv ?_
                    refine W.yes (dj := 57) rfl rfl rfl ?_
                    refine W.ok (ok_fieldB fd134_2 rfl) ?_
                    refine W.yes (dj := 57) rfl rfl rfl ?_
                    refine W.ok (ok_loadB (i := 0) (vs := [.string _]) ty9 rfl rfl rfl rfl (by simp)) ?_
                    refine W.yes (dj := 57) rfl rfl rfl ?_
                    refine W.ok (ok_eqlS rfl rfl) ?_
                    refine W.ok (ok_pick_t rfl rfl) ?_
                    refine W.mv ?_
                    refine W.sp 62 rfl (fun h60 => ?_) (fun h60 => ?_)
                    · have p60 := of_decide_eq_true h60
                      refine W.yes (dj := 62) rfl rfl h60 ?_
                      refine W.ok (ok_fieldB fd134_3 rfl) ?_
                      refine W.yes (dj := 62) rfl rfl h60 ?_
                      refine W.ok (ok_loadB (i := 0) (vs := [.bool _]) ty4 rfl rfl rfl rfl (by simp)) ?_
                      refine W.yes (dj := 62) rfl rfl h60 ?_
                      refine W.ok (ok_not rfl) ?_
                      refine W.ok (ok_pick_t rfl h60) ?_
                      refine W.as ?_
                      refine W.nil (thn_n ?_)
                      refine WC.seq ?_
                      refine WC.seq ?_
                      refine WC.region ?_
                      refine W.ok (ok_fieldB fd134_0 rfl) ?_
                      refine W.ok (ok_loadB (i := 0) (vs := [.int .i64 _]) ty3 rfl rfl rfl rfl (by simp)) ?_
                      refine W.ok (ok_eql rfl rfl) ?_
                      refine W.nil (thn_n ?_)
                      refine WC.cond (b := _) rfl (fun h69 => ?_) (fun h69 => ?_)
                      · have p69 := of_decide_eq_true h69
                        refine WC.region ?_
                        refine W.mv ?_
                        refine W.mv ?_
                        refine W.sp 71 rfl (fun h65 => ?_) (fun h65 => ?_)
                        · refine W.yes (dj := 71) rfl rfl h65 ?_
                          refine W.ok (ok_fieldB fd134_5 rfl) ?_
                          refine W.yes (dj := 71) rfl rfl h65 ?_
                          refine W.ok (ok_loadB (i := 0) (vs := [.int .i64 _]) ty3 rfl rfl rfl rfl (by simp)) ?_
                          refine W.yes (dj := 71) rfl rfl h65 ?_
                          refine W.ok (ok_geq rfl rfl) ?_
                          refine W.ok (ok_pick_t rfl h65) ?_
                          refine W.mv ?_
                          refine W.sp 76 rfl (fun h74 => ?_) (fun h74 => ?_)
                          · have p74 := of_decide_eq_true h74
                            refine W.yes (dj := 76) rfl rfl h74 ?_
                            refine W.ok (ok_fieldB fd134_5 rfl) ?_
                            refine W.yes (dj := 76) rfl rfl h74 ?_
                            refine W.ok (ok_loadB (i := 0) (vs := [.int .i64 _]) ty3 rfl rfl rfl rfl (by simp)) ?_
                            refine W.yes (dj := 76) rfl rfl h74 ?_
                            refine W.ok (ok_leq rfl rfl) ?_
                            refine W.ok (ok_pick_t rfl h74) ?_
                            refine W.as ?_
                            refine W.nil (thn_n ?_)
                            refine WC.seq ?_
                            refine WC.seq ?_
                            refine WC.region ?_
                            refine W.mv ?_
                            refine W.ok (ok_not rfl) ?_
                            refine W.nil (thn_n ?_)
                            refine WC.cond (b := _) rfl (fun h88 => ?_) (fun h88 => ?_)
                            · have p88 := nd_t h88
                              refine WC.seq ?_
                              refine WC.region ?_
                              refine W.as ?_
                              refine W.nil (thn_n ?_)
                              refine WC.ret (thn_r ?_)
                              refine ⟨.inr rfl, [_], ⟨rfl, trivial⟩, [], List.nil_sublist _, ?_⟩
                              have hn : ∀ s : Str, s.b = ⟨#[]⟩ ↔ s = Str.nil := fun s => ⟨fun h => Str.ext' h, fun h => by rw [h]; rfl⟩
                              refine congrArg (Value.int .i64) ?_
                              rw [if_neg ?_]
                              simp only [Opr.R]
                              first | (simp_all; done) | (simp_all; omega) | grind
                            · have p88 := nd_f h88
                              refine WC.skip (thn_n ?_)
                              refine WC.seq ?_
                              refine WC.region ?_
                              refine W.as ?_
                              refine W.nil (thn_n ?_)
                              refine WC.ret ?_
                              refine ⟨.inr rfl, [_], ⟨rfl, trivial⟩, [], List.nil_sublist _, ?_⟩
                              have hn : ∀ s : Str, s.b = ⟨#[]⟩ ↔ s = Str.nil := fun s => ⟨fun h => Str.ext' h, fun h => by rw [h]; rfl⟩
                              refine congrArg (Value.int .i64) ?_
                              rw [if_pos ?_]
                              simp only [Opr.R]
                              first | (simp_all; done) | (simp_all; omega) | grind
                          · have p74 := of_decide_eq_false h74
                            refine W.no (dj := 76) rfl rfl h74 ?_
                            refine W.no (dj := 76) rfl rfl h74 ?_
                            refine W.no (dj := 76) rfl rfl h74 ?_
                            refine W.ok (ok_pick_f rfl h74) ?_
                            refine W.as ?_
                            refine W.nil (thn_n ?_)
                            refine WC.seq ?_
                            refine WC.seq ?_
                            refine WC.region ?_
                            refine W.mv ?_
                            refine W.ok (ok_not rfl) ?_
                            refine W.nil (thn_n ?_)
                            refine WC.cond_t rfl rfl ?_
                            refine WC.seq ?_
                            refine WC.region ?_
                            refine W.as ?_
                            refine W.nil (thn_n ?_)
                            refine WC.ret (thn_r ?_)
                            refine ⟨.inr rfl, [_], ⟨rfl, trivial⟩, [], List.nil_sublist _, ?_⟩
                            have hn : ∀ s : Str, s.b = ⟨#[]⟩ ↔ s = Str.nil := fun s => ⟨fun h => Str.ext' h, fun h => by rw [h]; rfl⟩
                            refine congrArg (Value.int .i64) ?_
                            rw [if_neg ?_]
                            simp only [Opr.R]
                            first | (simp_all; done) | (simp_all; omega) | grind
                        · refine W.no (dj := 71) rfl rfl h65 ?_
                          refine W.no (dj := 71) rfl rfl h65 ?_
                          refine W.no (dj := 71) rfl rfl h65 ?_
                          refine W.ok (ok_pick_f rfl h65) ?_
                          refine W.mv ?_
                          refine W.no (dj := 76) rfl rfl rfl ?_
                          refine W.no (dj := 76) rfl rfl rfl ?_
                          refine W.no (dj := 76) rfl rfl rfl ?_
                          refine W.ok (ok_pick_f rfl rfl) ?_
                          refine W.as ?_
                          refine W.nil (thn_n ?_)
                          refine WC.seq ?_
                          refine WC.seq ?_
                          refine WC.region ?_
                          refine W.mv ?_
                          refine W.ok (ok_not rfl) ?_
                          refine W.nil (thn_n ?_)
                          refine WC.cond_t rfl rfl ?_
                          refine WC.seq ?_
                          refine WC.region ?_
                          refine W.as ?_
                          refine W.nil (thn_n ?_)
                          refine WC.ret (thn_r ?_)
                          refine ⟨.inr rfl, [_], ⟨rfl, trivial⟩, [], List.nil_sublist _, ?_⟩
                          have hn : ∀ s : Str, s.b = ⟨#[]⟩ ↔ s = Str.nil := fun s => ⟨fun h => Str.ext' h, fun h => by rw [h]; rfl⟩
                          refine congrArg (Value.int .i64) ?_
                          rw [if_neg ?_]
                          simp only [Opr.R]
                          first | (simp_all; done) | (simp_all; omega) | grind
                      · have p69 := of_decide_eq_false h69
                        refine WC.region ?_
                        refine W.mv ?_
                        refine W.mv ?_
                        refine W.sp 82 rfl (fun h65 => ?_) (fun h65 => ?_)
                        · refine W.yes (dj := 82) rfl rfl h65 ?_
                          refine W.ok (ok_fieldB fd134_5 rfl) ?_
                          refine W.yes (dj := 82) rfl rfl h65 ?_
                          refine W.ok (ok_loadB (i := 0) (vs := [.int .i64 _]) ty3 rfl rfl rfl rfl (by simp)) ?_
                          refine W.yes (dj := 82) rfl rfl h65 ?_
                          refine W.ok (ok_eql rfl rfl) ?_
                          refine W.ok (ok_pick_t rfl h65) ?_
                          refine W.as ?_
                          refine W.nil (thn_n ?_)
                          refine WC.seq ?_
                          refine WC.seq ?_
                          refine WC.region ?_
                          refine W.mv ?_
                          refine W.ok (ok_not rfl) ?_
                          refine W.nil (thn_n ?_)
                          refine WC.cond (b := _) rfl (fun h88 => ?_) (fun h88 => ?_)
                          · have p88 := nd_t h88
                            refine WC.seq ?_
                            refine WC.region ?_
                            refine W.as ?_
                            refine W.nil (thn_n ?_)
                            refine WC.ret (thn_r ?_)
                            refine ⟨.inr rfl, [_], ⟨rfl, trivial⟩, [], List.nil_sublist _, ?_⟩
                            have hn : ∀ s : Str, s.b = ⟨#[]⟩ ↔ s = Str.nil := fun s => ⟨fun h => Str.ext' h, fun h => by rw [h]; rfl⟩
                            refine congrArg (Value.int .i64) ?_
                            rw [if_neg ?_]
                            simp only [Opr.R]
                            first | (simp_all; done) | (simp_all; omega) | grind
                          · have p88 := nd_f h88
                            refine WC.skip (thn_n ?_)
                            refine WC.seq ?_
                            refine WC.region ?_
                            refine W.as ?_
                            refine W.nil (thn_n ?_)
                            refine WC.ret ?_
                            refine ⟨.inr rfl, [_], ⟨rfl, trivial⟩, [], List.nil_sublist _, ?_⟩
                            have hn : ∀ s : Str, s.b = ⟨#[]⟩ ↔ s = Str.nil := fun s => ⟨fun h => Str.ext' h, fun h => by rw [h]; rfl⟩
                            refine congrArg (Value.int .i64) ?_
                            rw [if_pos ?_]
                            simp only [Opr.R]
                            first | (simp_all; done) | (simp_all; omega) | grind
                        · refine W.no (dj := 82) rfl rfl h65 ?_
                          refine W.no (dj := 82) rfl rfl h65 ?_
                          refine W.no (dj := 82) rfl rfl h65 ?_
                          refine W.ok (ok_pick_f rfl h65) ?_
                          refine W.as ?_
                          refine W.nil (thn_n ?_)
                          refine WC.seq ?_
                          refine WC.seq ?_
                          refine WC.region ?_
                          refine W.mv ?_
                          refine W.ok (ok_not rfl) ?_
                          refine W.nil (thn_n ?_)
                          refine WC.cond_t rfl rfl ?_
                          refine WC.seq ?_
                          refine WC.region ?_
                          refine W.as ?_
                          refine W.nil (thn_n ?_)
                          refine WC.ret (thn_r ?_)
                          refine ⟨.inr rfl, [_], ⟨rfl, trivial⟩, [], List.nil_sublist _, ?_⟩
                          have hn : ∀ s : Str, s.b = ⟨#[]⟩ ↔ s = Str.nil := fun s => ⟨fun h => Str.ext' h, fun h => by rw [h]; rfl⟩
                          refine congrArg (Value.int .i64) ?_
                          rw [if_neg ?_]
                          simp only [Opr.R]
                          first | (simp_all; done) | (simp_all; omega) | grind
                    · have p60 := of_decide_eq_false h60
                      refine W.no (dj := 62) rfl rfl h60 ?_
                      refine W.no (dj := 62) rfl rfl h60 ?_
                      refine W.no (dj := 62) rfl rfl h60 ?_
                      refine W.ok (ok_pick_f rfl h60) ?_
                      refine W.as ?_
                      refine W.nil (thn_n ?_)
                      refine WC.seq ?_
                      refine WC.seq ?_
                      refine WC.region ?_
                      refine W.ok (ok_fieldB fd134_0 rfl) ?_
                      refine W.ok (ok_loadB (i := 0) (vs := [.int .i64 _]) ty3 rfl rfl rfl rfl (by simp)) ?_
                      refine W.ok (ok_eql rfl rfl) ?_
                      refine W.nil (thn_n ?_)
                      refine WC.cond (b := _) rfl (fun h69 => ?_) (fun h69 => ?_)
                      · have p69 := of_decide_eq_true h69
                        refine WC.region ?_
                        refine W.mv ?_
                        refine W.mv ?_
                        refine W.no (dj := 71) rfl rfl rfl ?_
                        refine W.no (dj := 71) rfl rfl rfl ?_
                        refine W.no (dj := 71) rfl rfl rfl ?_
                        refine W.ok (ok_pick_f rfl rfl) ?_
                        refine W.mv ?_
                        refine W.no (dj := 76) rfl rfl rfl ?_
                        refine W.no (dj := 76) rfl rfl rfl ?_
                        refine W.no (dj := 76) rfl rfl rfl ?_
                        refine W.ok (ok_pick_f rfl rfl) ?_
                        refine W.as ?_
                        refine W.nil (thn_n ?_)
                        refine WC.seq ?_
                        refine WC.seq ?_
                        refine WC.region ?_
                        refine W.mv ?_
                        refine W.ok (ok_not rfl) ?_
                        refine W.nil (thn_n ?_)
                        refine WC.cond_t rfl rfl ?_
                        refine WC.seq ?_
                        refine WC.region ?_
                        refine W.as ?_
                        refine W.nil (thn_n ?_)
                        refine WC.ret (thn_r ?_)
                        refine ⟨.inr rfl, [_], ⟨rfl, trivial⟩, [], List.nil_sublist _, ?_⟩
                        have hn : ∀ s : Str, s.b = ⟨#[]⟩ ↔ s = Str.nil := fun s => ⟨fun h => Str.ext' h, fun h => by rw [h]; rfl⟩
                        refine congrArg (Value.int .i64) ?_
                        rw [if_neg ?_]
                        simp only [Opr.R]
                        first | (simp_all; done) | (simp_all; omega) | grind
                      · have p69 := of_decide_eq_false h69
                        refine WC.region ?_
                        refine W.mv ?_
                        refine W.mv ?_
                        refine W.no (dj := 82) rfl rfl rfl ?_
                        refine W.no (dj := 82) rfl rfl rfl ?_
                        refine W.no (dj := 82) rfl rfl rfl ?_
                        refine W.ok (ok_pick_f rfl rfl) ?_
                        refine W.as ?_
                        refine W.nil (thn_n ?_)
                        refine WC.seq ?_
                        refine WC.seq ?_
                        refine WC.region ?_
                        refine W.mv ?_
                        refine W.ok (ok_not rfl) ?_
                        refine W.nil (thn_n ?_)
                        refine WC.cond_t rfl rfl ?_
                        refine WC.seq ?_
                        refine WC.region ?_
                        refine W.as ?_
                        refine W.nil (thn_n ?_)
                        refine WC.ret (thn_r ?_)
                        refine ⟨.inr rfl, [_], ⟨rfl, trivial⟩, [], List.nil_sublist _, ?_⟩
                        have hn : ∀ s : Str, s.b = ⟨#[]⟩ ↔ s = Str.nil := fun s => ⟨fun h => Str.ext' h, fun h => by rw [h]; rfl⟩
                        refine congrArg (Value.int .i64) ?_
                        rw [if_neg ?_]
                        simp only [Opr.R]
                        first | (simp_all; done) | (simp_all; omega) | grind
                · refine W.yes (dj := 41) rfl rfl h40 ?_
                  refine W.ok (ok_fieldB fd134_2 rfl) ?_
                  refine W.yes (dj := 41) rfl rfl h40 ?_
                  refine W.ok (ok_loadB (i := 0) (vs := [.string _]) ty9 rfl rfl rfl rfl (by simp)) ?_
                  refine W.yes (dj := 41) rfl rfl h40 ?_
                  refine W.ok (ok_eqlS rfl rfl) ?_
                  refine W.yes (dj := 37) rfl rfl h34 ?_
                  refine W.ok (ok_pick_f rfl h40) ?_
                  refine W.ok (ok_pick_t rfl h34) ?_
                  refine W.as ?_
                  refine W.nil (thn_n ?_)
                  refine WC.seq ?_
                  refine WC.seq ?_
                  refine WC.region ?_
                  refine W.ok (ok_loadB (i := 0) (vs := [.int .i64 _, .string _, .string _, .bool _, .string _, .int .i64 _]) ty134 rfl rfl rfl rfl (by simp)) ?_
                  refine W.qcall (ranged_fc _ _ _ _ _ _) rfl ?_
                  refine W.nil (thn_n ?_)
                  refine WC.cond (b := _) rfl (fun h48 => ?_) (fun h48 => ?_)
                  · refine WC.region ?_
                    refine W.mv ?_
                    refine W.mv ?_
                    refine W.sp 50 rfl (fun h44 => ?_) (fun h44 => ?_)
                    · have p44 := of_decide_eq_true h44
                      refine W.yes (dj := 50) rfl rfl h44 ?_
                      refine W.ok (ok_loadB (i := 0) (vs := [.int .i64 _, .string _, .string _, .bool _, .string _, .int .i64 _]) ty134 rfl rfl rfl rfl (by simp)) ?_
                      refine W.yes (dj := 50) rfl rfl h44 ?_
                      refine W.qcall (opspan_fc _ _ _ _ _ _ (by first | assumption | omega | (dsimp only; omega))) rfl ?_
                      refine W.yes (dj := 50) rfl rfl h44 ?_
                      refine W.qcall (spanempty_fc _ _ _) rfl ?_
                      refine W.yes (dj := 50) rfl rfl h44 ?_
                      refine W.ok (ok_not rfl) ?_
                      refine W.ok (ok_pick_t rfl h44) ?_
                      refine W.as ?_
                      refine W.nil (thn_n ?_)
                      refine WC.seq ?_
                      refine WC.seq ?_
                      refine WC.region ?_
                      refine W.ok (ok_fieldB fd134_0 rfl) ?_
                      refine W.ok (ok_loadB (i := 0) (vs := [.int .i64 _]) ty3 rfl rfl rfl rfl (by simp)) ?_
                      refine W.ok (ok_eql rfl rfl) ?_
                      refine W.nil (thn_n ?_)
                      refine WC.cond (b := _) rfl (fun h69 => ?_) (fun h69 => ?_)
                      · have p69 := of_decide_eq_true h69
                        refine WC.region ?_
                        refine W.mv ?_
                        refine W.mv ?_
                        refine W.sp 71 rfl (fun h54 => ?_) (fun h54 => ?_)
                        · replace h54 : (!(Opr.span (⟨pk, pkey, phi, po, pv, pl⟩ : Opr)).empty) = true := h54
                          refine W.yes (dj := 71) rfl rfl h54 ?_
                          refine W.ok (ok_fieldB fd134_5 rfl) ?_
                          refine W.yes (dj := 71) rfl rfl h54 ?_
                          refine W.ok (ok_loadB (i := 0) (vs := [.int .i64 _]) ty3 rfl rfl rfl rfl (by simp)) ?_
                          refine W.yes (dj := 71) rfl rfl h54 ?_
                          refine W.ok (ok_geq rfl rfl) ?_
                          refine W.ok (ok_pick_t rfl h54) ?_
                          refine W.mv ?_
                          refine W.sp 76 rfl (fun h74 => ?_) (fun h74 => ?_)
                          · have p74 := of_decide_eq_true h74
                            refine W.yes (dj := 76) rfl rfl h74 ?_
                            refine W.ok (ok_fieldB fd134_5 rfl) ?_
                            refine W.yes (dj := 76) rfl rfl h74 ?_
                            refine W.ok (ok_loadB (i := 0) (vs := [.int .i64 _]) ty3 rfl rfl rfl rfl (by simp)) ?_
                            refine W.yes (dj := 76) rfl rfl h74 ?_
                            refine W.ok (ok_leq rfl rfl) ?_
                            refine W.ok (ok_pick_t rfl h74) ?_
                            refine W.as ?_
                            refine W.nil (thn_n ?_)
                            refine WC.seq ?_
                            refine WC.seq ?_
                            refine WC.region ?_
                            refine W.mv ?_
                            refine W.ok (ok_not rfl) ?_
                            refine W.nil (thn_n ?_)
                            refine WC.cond (b := _) rfl (fun h88 => ?_) (fun h88 => ?_)
                            · have p88 := nd_t h88
                              refine WC.seq ?_
                              refine WC.region ?_
                              refine W.as ?_
                              refine W.nil (thn_n ?_)
                              refine WC.ret (thn_r ?_)
                              refine ⟨.inr rfl, [_], ⟨rfl, trivial⟩, [], List.nil_sublist _, ?_⟩
                              have hn : ∀ s : Str, s.b = ⟨#[]⟩ ↔ s = Str.nil := fun s => ⟨fun h => Str.ext' h, fun h => by rw [h]; rfl⟩
                              refine congrArg (Value.int .i64) ?_
                              rw [if_neg ?_]
                              simp only [Opr.R]
                              first | (simp_all; done) | (simp_all; omega) | grind
                            · have p88 := nd_f h88
                              refine WC.skip (thn_n ?_)
                              refine WC.seq ?_
                              refine WC.region ?_
                              refine W.as ?_
                              refine W.nil (thn_n ?_)
                              refine WC.ret ?_
                              refine ⟨.inr rfl, [_], ⟨rfl, trivial⟩, [], List.nil_sublist _, ?_⟩
                              have hn : ∀ s : Str, s.b = ⟨#[]⟩ ↔ s = Str.nil := fun s => ⟨fun h => Str.ext' h, fun h => by rw [h]; rfl⟩
                              refine congrArg (Value.int .i64) ?_
                              rw [if_pos ?_]
                              simp only [Opr.R]
                              first | (simp_all; done) | (simp_all; omega) | grind
                          · have p74 := of_decide_eq_false h74
                            refine W.no (dj := 76) rfl rfl h74 ?_
                            refine W.no (dj := 76) rfl rfl h74 ?_
                            refine W.no (dj := 76) rfl rfl h74 ?_
                            refine W.ok (ok_pick_f rfl h74) ?_
                            refine W.as ?_
                            refine W.nil (thn_n ?_)
                            refine WC.seq ?_
                            refine WC.seq ?_
                            refine WC.region ?_
                            refine W.mv ?_
                            refine W.ok (ok_not rfl) ?_
                            refine W.nil (thn_n ?_)
                            refine WC.cond_t rfl rfl ?_
                            refine WC.seq ?_
                            refine WC.region ?_
                            refine W.as ?_
                            refine W.nil (thn_n ?_)
                            refine WC.ret (thn_r ?_)
                            refine ⟨.inr rfl, [_], ⟨rfl, trivial⟩, [], List.nil_sublist _, ?_⟩
                            have hn : ∀ s : Str, s.b = ⟨#[]⟩ ↔ s = Str.nil := fun s => ⟨fun h => Str.ext' h, fun h => by rw [h]; rfl⟩
                            refine congrArg (Value.int .i64) ?_
                            rw [if_neg ?_]
                            simp only [Opr.R]
                            first | (simp_all; done) | (simp_all; omega) | grind
                        · replace h54 : (!(Opr.span (⟨pk, pkey, phi, po, pv, pl⟩ : Opr)).empty) = false := h54
                          refine W.no (dj := 71) rfl rfl h54 ?_
                          refine W.no (dj := 71) rfl rfl h54 ?_
                          refine W.no (dj := 71) rfl rfl h54 ?_
                          refine W.ok (ok_pick_f rfl h54) ?_
                          refine W.mv ?_
                          refine W.no (dj := 76) rfl rfl rfl ?_
                          refine W.no (dj := 76) rfl rfl rfl ?_
                          refine W.no (dj := 76) rfl rfl rfl ?_
                          refine W.ok (ok_pick_f rfl rfl) ?_
                          refine W.as ?_
                          refine W.nil (thn_n ?_)
                          refine WC.seq ?_
                          refine WC.seq ?_
                          refine WC.region ?_
                          refine W.mv ?_
                          refine W.ok (ok_not rfl) ?_
                          refine W.nil (thn_n ?_)
                          refine WC.cond_t rfl rfl ?_
                          refine WC.seq ?_
                          refine WC.region ?_
                          refine W.as ?_
                          refine W.nil (thn_n ?_)
                          refine WC.ret (thn_r ?_)
                          refine ⟨.inr rfl, [_], ⟨rfl, trivial⟩, [], List.nil_sublist _, ?_⟩
                          have hn : ∀ s : Str, s.b = ⟨#[]⟩ ↔ s = Str.nil := fun s => ⟨fun h => Str.ext' h, fun h => by rw [h]; rfl⟩
                          refine congrArg (Value.int .i64) ?_
                          rw [if_neg ?_]
                          simp only [Opr.R]
                          first | (simp_all; done) | (simp_all; omega) | grind
                      · have p69 := of_decide_eq_false h69
                        refine WC.region ?_
                        refine W.mv ?_
                        refine W.mv ?_
                        refine W.sp 82 rfl (fun h54 => ?_) (fun h54 => ?_)
                        · replace h54 : (!(Opr.span (⟨pk, pkey, phi, po, pv, pl⟩ : Opr)).empty) = true := h54
                          refine W.yes (dj := 82) rfl rfl h54 ?_
                          refine W.ok (ok_fieldB fd134_5 rfl) ?_
                          refine W.yes (dj := 82) rfl rfl h54 ?_
                          refine W.ok (ok_loadB (i := 0) (vs := [.int .i64 _]) ty3 rfl rfl rfl rfl (by simp)) ?_
                          refine W.yes (dj := 82) rfl rfl h54 ?_
                          refine W.ok (ok_eql rfl rfl) ?_
                          refine W.ok (ok_pick_t rfl h54) ?_
                          refine W.as ?_
                          refine W.nil (thn_n ?_)
                          refine WC.seq ?_
                          refine WC.seq ?_
                          refine WC.region ?_
                          refine W.mv ?_
                          refine W.ok (ok_not rfl) ?_
                          refine W.nil (thn_n ?_)
                          refine WC.cond (b := _) rfl (fun h88 => ?_) (fun h88 => ?_)
                          · have p88 := nd_t h88
                            refine WC.seq ?_
                            refine WC.region ?_
                            refine W.as ?_
                            refine W.nil (thn_n ?_)
                            refine WC.ret (thn_r ?_)
                            refine ⟨.inr rfl, [_], ⟨rfl, trivial⟩, [], List.nil_sublist _, ?_⟩
                            have hn : ∀ s : Str, s.b = ⟨#[]⟩ ↔ s = Str.nil := fun s => ⟨fun h => Str.ext' h, fun h => by rw [h]; rfl⟩
                            refine congrArg (Value.int .i64) ?_
                            rw [if_neg ?_]
                            simp only [Opr.R]
                            first | (simp_all; done) | (simp_all; omega) | grind
                          · have p88 := nd_f h88
                            refine WC.skip (thn_n ?_)
                            refine WC.seq ?_
                            refine WC.region ?_
                            refine W.as ?_
                            refine W.nil (thn_n ?_)
                            refine WC.ret ?_
                            refine ⟨.inr rfl, [_], ⟨rfl, trivial⟩, [], List.nil_sublist _, ?_⟩
                            have hn : ∀ s : Str, s.b = ⟨#[]⟩ ↔ s = Str.nil := fun s => ⟨fun h => Str.ext' h, fun h => by rw [h]; rfl⟩
                            refine congrArg (Value.int .i64) ?_
                            rw [if_pos ?_]
                            simp only [Opr.R]
                            first | (simp_all; done) | (simp_all; omega) | grind
                        · replace h54 : (!(Opr.span (⟨pk, pkey, phi, po, pv, pl⟩ : Opr)).empty) = false := h54
                          refine W.no (dj := 82) rfl rfl h54 ?_
                          refine W.no (dj := 82) rfl rfl h54 ?_
                          refine W.no (dj := 82) rfl rfl h54 ?_
                          refine W.ok (ok_pick_f rfl h54) ?_
                          refine W.as ?_
                          refine W.nil (thn_n ?_)
                          refine WC.seq ?_
                          refine WC.seq ?_
                          refine WC.region ?_
                          refine W.mv ?_
                          refine W.ok (ok_not rfl) ?_
                          refine W.nil (thn_n ?_)
                          refine WC.cond_t rfl rfl ?_
                          refine WC.seq ?_
                          refine WC.region ?_
                          refine W.as ?_
                          refine W.nil (thn_n ?_)
                          refine WC.ret (thn_r ?_)
                          refine ⟨.inr rfl, [_], ⟨rfl, trivial⟩, [], List.nil_sublist _, ?_⟩
                          have hn : ∀ s : Str, s.b = ⟨#[]⟩ ↔ s = Str.nil := fun s => ⟨fun h => Str.ext' h, fun h => by rw [h]; rfl⟩
                          refine congrArg (Value.int .i64) ?_
                          rw [if_neg ?_]
                          simp only [Opr.R]
                          first | (simp_all; done) | (simp_all; omega) | grind
                    · have p44 := of_decide_eq_false h44
                      refine W.no (dj := 50) rfl rfl h44 ?_
                      refine W.no (dj := 50) rfl rfl h44 ?_
                      refine W.no (dj := 50) rfl rfl h44 ?_
                      refine W.no (dj := 50) rfl rfl h44 ?_
                      refine W.ok (ok_pick_f rfl h44) ?_
                      refine W.as ?_
                      refine W.nil (thn_n ?_)
                      refine WC.seq ?_
                      refine WC.seq ?_
                      refine WC.region ?_
                      refine W.ok (ok_fieldB fd134_0 rfl) ?_
                      refine W.ok (ok_loadB (i := 0) (vs := [.int .i64 _]) ty3 rfl rfl rfl rfl (by simp)) ?_
                      refine W.ok (ok_eql rfl rfl) ?_
                      refine W.nil (thn_n ?_)
                      refine WC.cond (b := _) rfl (fun h69 => ?_) (fun h69 => ?_)
                      · have p69 := of_decide_eq_true h69
                        refine WC.region ?_
                        refine W.mv ?_
                        refine W.mv ?_
                        refine W.no (dj := 71) rfl rfl rfl ?_
                        refine W.no (dj := 71) rfl rfl rfl ?_
                        refine W.no (dj := 71) rfl rfl rfl ?_
                        refine W.ok (ok_pick_f rfl rfl) ?_
                        refine W.mv ?_
                        refine W.no (dj := 76) rfl rfl rfl ?_
                        refine W.no (dj := 76) rfl rfl rfl ?_
                        refine W.no (dj := 76) rfl rfl rfl ?_
                        refine W.ok (ok_pick_f rfl rfl) ?_
                        refine W.as ?_
                        refine W.nil (thn_n ?_)
                        refine WC.seq ?_
                        refine WC.seq ?_
                        refine WC.region ?_
                        refine W.mv ?_
                        refine W.ok (ok_not rfl) ?_
                        refine W.nil (thn_n ?_)
                        refine WC.cond_t rfl rfl ?_
                        refine WC.seq ?_
                        refine WC.region ?_
                        refine W.as ?_
                        refine W.nil (thn_n ?_)
                        refine WC.ret (thn_r ?_)
                        refine ⟨.inr rfl, [_], ⟨rfl, trivial⟩, [], List.nil_sublist _, ?_⟩
                        have hn : ∀ s : Str, s.b = ⟨#[]⟩ ↔ s = Str.nil := fun s => ⟨fun h => Str.ext' h, fun h => by rw [h]; rfl⟩
                        refine congrArg (Value.int .i64) ?_
                        rw [if_neg ?_]
                        simp only [Opr.R]
                        first | (simp_all; done) | (simp_all; omega) | grind
                      · have p69 := of_decide_eq_false h69
                        refine WC.region ?_
                        refine W.mv ?_
                        refine W.mv ?_
                        refine W.no (dj := 82) rfl rfl rfl ?_
                        refine W.no (dj := 82) rfl rfl rfl ?_
                        refine W.no (dj := 82) rfl rfl rfl ?_
                        refine W.ok (ok_pick_f rfl rfl) ?_
                        refine W.as ?_
                        refine W.nil (thn_n ?_)
                        refine WC.seq ?_
                        refine WC.seq ?_
                        refine WC.region ?_
                        refine W.mv ?_
                        refine W.ok (ok_not rfl) ?_
                        refine W.nil (thn_n ?_)
                        refine WC.cond_t rfl rfl ?_
                        refine WC.seq ?_
                        refine WC.region ?_
                        refine W.as ?_
                        refine W.nil (thn_n ?_)
                        refine WC.ret (thn_r ?_)
                        refine ⟨.inr rfl, [_], ⟨rfl, trivial⟩, [], List.nil_sublist _, ?_⟩
                        have hn : ∀ s : Str, s.b = ⟨#[]⟩ ↔ s = Str.nil := fun s => ⟨fun h => Str.ext' h, fun h => by rw [h]; rfl⟩
                        refine congrArg (Value.int .i64) ?_
                        rw [if_neg ?_]
                        simp only [Opr.R]
                        first | (simp_all; done) | (simp_all; omega) | grind
                  · refine WC.region ?_
                    refine W.mv ?_
                    refine W.mv ?_
                    refine W.sp 57 rfl (fun h44 => ?_) (fun h44 => ?_)
                    · have p44 := of_decide_eq_true h44
                      refine W.yes (dj := 57) rfl rfl h44 ?_
                      refine W.ok (ok_fieldB fd134_2 rfl) ?_
                      refine W.yes (dj := 57) rfl rfl h44 ?_
                      refine W.ok (ok_loadB (i := 0) (vs := [.string _]) ty9 rfl rfl rfl rfl (by simp)) ?_
                      refine W.yes (dj := 57) rfl rfl h44 ?_
                      refine W.ok (ok_eqlS rfl rfl) ?_
                      refine W.ok (ok_pick_t rfl h44) ?_
                      refine W.mv ?_
                      refine W.sp 62 rfl (fun h60 => ?_) (fun h60 => ?_)
                      · have p60 := of_decide_eq_true h60
                        refine W.yes (dj := 62) rfl rfl h60 ?_
                        refine W.ok (ok_fieldB fd134_3 rfl) ?_
                        refine W.yes (dj := 62) rfl rfl h60 ?_
                        refine W.ok (ok_loadB (i := 0) (vs := [.bool _]) ty4 rfl rfl rfl rfl (by simp)) ?_
                        refine W.yes (dj := 62) rfl rfl h60 ?_
                        refine W.ok (ok_not rfl) ?_
                        refine W.ok (ok_pick_t rfl h60) ?_
                        refine W.as ?_
                        refine W.nil (thn_n ?_)
                        refine WC.seq ?_
                        refine WC.seq ?_
                        refine WC.region ?_
                        refine W.ok (ok_fieldB fd134_0 rfl) ?_
                        refine W.ok (ok_loadB (i := 0) (vs := [.int .i64 _]) ty3 rfl rfl rfl rfl (by simp)) ?_
                        refine W.ok (ok_eql rfl rfl) ?_
                        refine W.nil (thn_n ?_)
                        refine WC.cond (b := _) rfl (fun h69 => ?_) (fun h69 => ?_)
                        · have p69 := of_decide_eq_true h69
                          refine WC.region ?_
                          refine W.mv ?_
                          refine W.mv ?_
                          refine W.sp 71 rfl (fun h65 => ?_) (fun h65 => ?_)
                          · refine W.yes (dj := 71) rfl rfl h65 ?_
                            refine W.ok (ok_fieldB fd134_5 rfl) ?_
                            refine W.yes (dj := 71) rfl rfl h65 ?_
                            refine W.ok (ok_loadB (i := 0) (vs := [.int .i64 _]) ty3 rfl rfl rfl rfl (by simp)) ?_
                            refine W.yes (dj := 71) rfl rfl h65 ?_
                            refine W.ok (ok_geq rfl rfl) ?_
                            refine W.ok (ok_pick_t rfl h65) ?_
                            refine W.mv ?_
                            refine W.sp 76 rfl (fun h74 => ?_) (fun h74 => ?_)
                            · have p74 := of_decide_eq_true h74
                              refine W.yes (dj := 76) rfl rfl h74 ?_
                              refine W.ok (ok_fieldB fd134_5 rfl) ?_
                              refine W.yes (dj := 76) rfl rfl h74 ?_
                              refine W.ok (ok_loadB (i := 0) (vs := [.int .i64 _]) ty3 rfl rfl rfl rfl (by simp)) ?_
                              refine W.yes (dj := 76) rfl rfl h74 ?_
                              refine W.ok (ok_leq rfl rfl) ?_
                              refine W.ok (ok_pick_t rfl h74) ?_
                              refine W.as ?_
                              refine W.nil (thn_n ?_)
                              refine WC.seq ?_
                              refine WC.seq ?_
                              refine WC.region ?_
                              refine W.mv ?_
                              refine W.ok (ok_not rfl) ?_
                              refine W.nil (thn_n ?_)
                              refine WC.cond (b := _) rfl (fun h88 => ?_) (fun h88 => ?_)
                              · have p88 := nd_t h88
                                refine WC.seq ?_
                                refine WC.region ?_
                                refine W.as ?_
                                refine W.nil (thn_n ?_)
                                refine WC.ret (thn_r ?_)
                                refine ⟨.inr rfl, [_], ⟨rfl, trivial⟩, [], List.nil_sublist _, ?_⟩
                                have hn : ∀ s : Str, s.b = ⟨#[]⟩ ↔ s = Str.nil := fun s => ⟨fun h => Str.ext' h, fun h => by rw [h]; rfl⟩
                                refine congrArg (Value.int .i64) ?_
                                rw [if_neg ?_]
                                simp only [Opr.R]
                                first | (simp_all; done) | (simp_all; omega) | grind
                              · have p88 := nd_f h88
                                refine WC.skip (thn_n ?_)
                                refine WC.seq ?_
                                refine WC.region ?_
                                refine W.as ?_
                                refine W.nil (thn_n ?_)
                                refine WC.ret ?_
                                refine ⟨.inr rfl, [_], ⟨rfl, trivial⟩, [], List.nil_sublist _, ?_⟩
                                have hn : ∀ s : Str, s.b = ⟨#[]⟩ ↔ s = Str.nil := fun s => ⟨fun h => Str.ext' h, fun h => by rw [h]; rfl⟩
                                refine congrArg (Value.int .i64) ?_
                                rw [if_pos ?_]
                                simp only [Opr.R]
                                first | (simp_all; done) | (simp_all; omega) | grind
                            · have p74 := of_decide_eq_false h74
                              refine W.no (dj := 76) rfl rfl h74 ?_
                              refine W.no (dj := 76) rfl rfl h74 ?_
                              refine W.no (dj := 76) rfl rfl h74 ?_
                              refine W.ok (ok_pick_f rfl h74) ?_
                              refine W.as ?_
                              refine W.nil (thn_n ?_)
                              refine WC.seq ?_
                              refine WC.seq ?_
                              refine WC.region ?_
                              refine W.mv ?_
                              refine W.ok (ok_not rfl) ?_
                              refine W.nil (thn_n ?_)
                              refine WC.cond_t rfl rfl ?_
                              refine WC.seq ?_
                              refine WC.region ?_
                              refine W.as ?_
                              refine W.nil (thn_n ?_)
                              refine WC.ret (thn_r ?_)
                              refine ⟨.inr rfl, [_], ⟨rfl, trivial⟩, [], List.nil_sublist _, ?_⟩
                              have hn : ∀ s : Str, s.b = ⟨#[]⟩ ↔ s = Str.nil := fun s => ⟨fun h => Str.ext' h, fun h => by rw [h]; rfl⟩
                              refine congrArg (Value.int .i64) ?_
                              rw [if_neg ?_]
                              simp only [Opr.R]
                              first | (simp_all; done) | (simp_all; omega) | grind
                          · refine W.no (dj := 71) rfl rfl h65 ?_
                            refine W.no (dj := 71) rfl rfl h65 ?_
                            refine W.no (dj := 71) rfl rfl h65 ?_
                            refine W.ok (ok_pick_f rfl h65) ?_
                            refine W.mv ?_
                            refine W.no (dj := 76) rfl rfl rfl ?_
                            refine W.no (dj := 76) rfl rfl rfl ?_
                            refine W.no (dj := 76) rfl rfl rfl ?_
                            refine W.ok (ok_pick_f rfl rfl) ?_
                            refine W.as ?_
                            refine W.nil (thn_n ?_)
                            refine WC.seq ?_
                            refine WC.seq ?_
                            refine WC.region ?_
                            refine W.mv ?_
                            refine W.ok (ok_not rfl) ?_
                            refine W.nil (thn_n ?_)
                            refine WC.cond_t rfl rfl ?_
                            refine WC.seq ?_
                            refine WC.region ?_
                            refine W.as ?_
                            refine W.nil (thn_n ?_)
                            refine WC.ret (thn_r ?_)
                            refine ⟨.inr rfl, [_], ⟨rfl, trivial⟩, [], List.nil_sublist _, ?_⟩
                            have hn : ∀ s : Str, s.b = ⟨#[]⟩ ↔ s = Str.nil := fun s => ⟨fun h => Str.ext' h, fun h => by rw [h]; rfl⟩
                            refine congrArg (Value.int .i64) ?_
                            rw [if_neg ?_]
                            simp only [Opr.R]
                            first | (simp_all; done) | (simp_all; omega) | grind
                        · have p69 := of_decide_eq_false h69
                          refine WC.region ?_
                          refine W.mv ?_
                          refine W.mv ?_
                          refine W.sp 82 rfl (fun h65 => ?_) (fun h65 => ?_)
                          · refine W.yes (dj := 82) rfl rfl h65 ?_
                            refine W.ok (ok_fieldB fd134_5 rfl) ?_
                            refine W.yes (dj := 82) rfl rfl h65 ?_
                            refine W.ok (ok_loadB (i := 0) (vs := [.int .i64 _]) ty3 rfl rfl rfl rfl (by simp)) ?_
                            refine W.yes (dj := 82) rfl rfl h65 ?_
                            refine W.ok (ok_eql rfl rfl) ?_
                            refine W.ok (ok_pick_t rfl h65) ?_
                            refine W.as ?_
                            refine W.nil (thn_n ?_)
                            refine WC.seq ?_
                            refine WC.seq ?_
                            refine WC.region ?_
                            refine W.mv ?_
                            refine W.ok (ok_not rfl) ?_
                            refine W.nil (thn_n ?_)
                            refine WC.cond (b := _) rfl (fun h88 => ?_) (fun h88 => ?_)
                            · have p88 := nd_t h88
                              refine WC.seq ?_
                              refine WC.region ?_
                              refine W.as ?_
                              refine W.nil (thn_n ?_)
                              refine WC.ret (thn_r ?_)
                              refine ⟨.inr rfl, [_], ⟨rfl, trivial⟩, [], List.nil_sublist _, ?_⟩
                              have hn : ∀ s : Str, s.b = ⟨#[]⟩ ↔ s = Str.nil := fun s => ⟨fun h => Str.ext' h, fun h => by rw [h]; rfl⟩
                              refine congrArg (Value.int .i64) ?_
                              rw [if_neg ?_]
                              simp only [Opr.R]
                              first | (simp_all; done) | (simp_all; omega) | grind
                            · have p88 := nd_f h88
                              refine WC.skip (thn_n ?_)
                              refine WC.seq ?_
                              refine WC.region ?_
                              refine W.as ?_
                              refine W.nil (thn_n ?_)
                              refine WC.ret ?_
                              refine ⟨.inr rfl, [_], ⟨rfl, trivial⟩, [], List.nil_sublist _, ?_⟩
                              have hn : ∀ s : Str, s.b = ⟨#[]⟩ ↔ s = Str.nil := fun s => ⟨fun h => Str.ext' h, fun h => by rw [h]; rfl⟩
                              refine congrArg (Value.int .i64) ?_
                              rw [if_pos ?_]
                              simp only [Opr.R]
                              first | (simp_all; done) | (simp_all; omega) | grind
                          · refine W.no (dj := 82) rfl rfl h65 ?_
                            refine W.no (dj := 82) rfl rfl h65 ?_
                            refine W.no (dj := 82) rfl rfl h65 ?_
                            refine W.ok (ok_pick_f rfl h65) ?_
                            refine W.as ?_
                            refine W.nil (thn_n ?_)
                            refine WC.seq ?_
                            refine WC.seq ?_
                            refine WC.region ?_
                            refine W.mv ?_
                            refine W.ok (ok_not rfl) ?_
                            refine W.nil (thn_n ?_)
                            refine WC.cond_t rfl rfl ?_
                            refine WC.seq ?_
                            refine WC.region ?_
                            refine W.as ?_
                            refine W.nil (thn_n ?_)
                            refine WC.ret (thn_r ?_)
                            refine ⟨.inr rfl, [_], ⟨rfl, trivial⟩, [], List.nil_sublist _, ?_⟩
                            have hn : ∀ s : Str, s.b = ⟨#[]⟩ ↔ s = Str.nil := fun s => ⟨fun h => Str.ext' h, fun h => by rw [h]; rfl⟩
                            refine congrArg (Value.int .i64) ?_
                            rw [if_neg ?_]
                            simp only [Opr.R]
                            first | (simp_all; done) | (simp_all; omega) | grind
                      · have p60 := of_decide_eq_false h60
                        refine W.no (dj := 62) rfl rfl h60 ?_
                        refine W.no (dj := 62) rfl rfl h60 ?_
                        refine W.no (dj := 62) rfl rfl h60 ?_
                        refine W.ok (ok_pick_f rfl h60) ?_
                        refine W.as ?_
                        refine W.nil (thn_n ?_)
                        refine WC.seq ?_
                        refine WC.seq ?_
                        refine WC.region ?_
                        refine W.ok (ok_fieldB fd134_0 rfl) ?_
                        refine W.ok (ok_loadB (i := 0) (vs := [.int .i64 _]) ty3 rfl rfl rfl rfl (by simp)) ?_
                        refine W.ok (ok_eql rfl rfl) ?_
                        refine W.nil (thn_n ?_)
                        refine WC.cond (b := _) rfl (fun h69 => ?_) (fun h69 => ?_)
                        · have p69 := of_decide_eq_true h69
                          refine WC.region ?_
                          refine W.mv ?_
                          refine W.mv ?_
                          refine W.no (dj := 71) rfl rfl rfl ?_
                          refine W.no (dj := 71) rfl rfl rfl ?_
                          refine W.no (dj := 71) rfl rfl rfl ?_
                          refine W.ok (ok_pick_f rfl rfl) ?_
                          refine W.mv ?_
                          refine W.no (dj := 76) rfl rfl rfl ?_
                          refine W.no (dj := 76) rfl rfl rfl ?_
                          refine W.no (dj := 76) rfl rfl rfl ?_
                          refine W.ok (ok_pick_f rfl rfl) ?_
                          refine W.as ?_
                          refine W.nil (thn_n ?_)
                          refine WC.seq ?_
                          refine WC.seq ?_
                          refine WC.region ?_
                          refine W.mv ?_
                          refine W.ok (ok_not rfl) ?_
                          refine W.nil (thn_n ?_)
                          refine WC.cond_t rfl rfl ?_
                          refine WC.seq ?_
                          refine WC.region ?_
                          refine W.as ?_
                          refine W.nil (thn_n ?_)
                          refine WC.ret (thn_r ?_)
                          refine ⟨.inr rfl, [_], ⟨rfl, trivial⟩, [], List.nil_sublist _, ?_⟩
                          have hn : ∀ s : Str, s.b = ⟨#[]⟩ ↔ s = Str.nil := fun s => ⟨fun h => Str.ext' h, fun h => by rw [h]; rfl⟩
                          refine congrArg (Value.int .i64) ?_
                          rw [if_neg ?_]
                          simp only [Opr.R]
                          first | (simp_all; done) | (simp_all; omega) | grind
                        · have p69 := of_decide_eq_false h69
                          refine WC.region ?_
                          refine W.mv ?_
                          refine W.mv ?_
                          refine W.no (dj := 82) rfl rfl rfl ?_
                          refine W.no (dj := 82) rfl rfl rfl ?_
                          refine W.no (dj := 82) rfl rfl rfl ?_
                          refine W.ok (ok_pick_f rfl rfl) ?_
                          refine W.as ?_
                          refine W.nil (thn_n ?_)
                          refine WC.seq ?_
                          refine WC.seq ?_
                          refine WC.region ?_
                          refine W.mv ?_
                          refine W.ok (ok_not rfl) ?_
                          refine W.nil (thn_n ?_)
                          refine WC.cond_t rfl rfl ?_
                          refine WC.seq ?_
                          refine WC.region ?_
                          refine W.as ?_
                          refine W.nil (thn_n ?_)
                          refine WC.ret (thn_r ?_)
                          refine ⟨.inr rfl, [_], ⟨rfl, trivial⟩, [], List.nil_sublist _, ?_⟩
                          have hn : ∀ s : Str, s.b = ⟨#[]⟩ ↔ s = Str.nil := fun s => ⟨fun h => Str.ext' h, fun h => by rw [h]; rfl⟩
                          refine congrArg (Value.int .i64) ?_
                          rw [if_neg ?_]
                          simp only [Opr.R]
                          first | (simp_all; done) | (simp_all; omega) | grind
                    · have p44 := of_decide_eq_false h44
                      refine W.no (dj := 57) rfl rfl h44 ?_
                      refine W.no (dj := 57) rfl rfl h44 ?_
                      refine W.no (dj := 57) rfl rfl h44 ?_
                      refine W.ok (ok_pick_f rfl h44) ?_
                      refine W.mv ?_
                      refine W.no (dj := 62) rfl rfl rfl ?_
                      refine W.no (dj := 62) rfl rfl rfl ?_
                      refine W.no (dj := 62) rfl rfl rfl ?_
                      refine W.ok (ok_pick_f rfl rfl) ?_
                      refine W.as ?_
                      refine W.nil (thn_n ?_)
                      refine WC.seq ?_
                      refine WC.seq ?_
                      refine WC.region ?_
                      refine W.ok (ok_fieldB fd134_0 rfl) ?_
                      refine W.ok (ok_loadB (i := 0) (vs := [.int .i64 _]) ty3 rfl rfl rfl rfl (by simp)) ?_
                      refine W.ok (ok_eql rfl rfl) ?_
                      refine W.nil (thn_n ?_)
                      refine WC.cond (b := _) rfl (fun h69 => ?_) (fun h69 => ?_)
                      · have p69 := of_decide_eq_true h69
                        refine WC.region ?_
                        refine W.mv ?_
                        refine W.mv ?_
                        refine W.no (dj := 71) rfl rfl rfl ?_
                        refine W.no (dj := 71) rfl rfl rfl ?_
                        refine W.no (dj := 71) rfl rfl rfl ?_
                        refine W.ok (ok_pick_f rfl rfl) ?_
                        refine W.mv ?_
                        refine W.no (dj := 76) rfl rfl rfl ?_
                        refine W.no (dj := 76) rfl rfl rfl ?_
                        refine W.no (dj := 76) rfl rfl rfl ?_
                        refine W.ok (ok_pick_f rfl rfl) ?_
                        refine W.as ?_
                        refine W.nil (thn_n ?_)
                        refine WC.seq ?_
                        refine WC.seq ?_
                        refine WC.region ?_
                        refine W.mv ?_
                        refine W.ok (ok_not rfl) ?_
                        refine W.nil (thn_n ?_)
                        refine WC.cond_t rfl rfl ?_
                        refine WC.seq ?_
                        refine WC.region ?_
                        refine W.as ?_
                        refine W.nil (thn_n ?_)
                        refine WC.ret (thn_r ?_)
                        refine ⟨.inr rfl, [_], ⟨rfl, trivial⟩, [], List.nil_sublist _, ?_⟩
                        have hn : ∀ s : Str, s.b = ⟨#[]⟩ ↔ s = Str.nil := fun s => ⟨fun h => Str.ext' h, fun h => by rw [h]; rfl⟩
                        refine congrArg (Value.int .i64) ?_
                        rw [if_neg ?_]
                        simp only [Opr.R]
                        first | (simp_all; done) | (simp_all; omega) | grind
                      · have p69 := of_decide_eq_false h69
                        refine WC.region ?_
                        refine W.mv ?_
                        refine W.mv ?_
                        refine W.no (dj := 82) rfl rfl rfl ?_
                        refine W.no (dj := 82) rfl rfl rfl ?_
                        refine W.no (dj := 82) rfl rfl rfl ?_
                        refine W.ok (ok_pick_f rfl rfl) ?_
                        refine W.as ?_
                        refine W.nil (thn_n ?_)
                        refine WC.seq ?_
                        refine WC.seq ?_
                        refine WC.region ?_
                        refine W.mv ?_
                        refine W.ok (ok_not rfl) ?_
                        refine W.nil (thn_n ?_)
                        refine WC.cond_t rfl rfl ?_
                        refine WC.seq ?_
                        refine WC.region ?_
                        refine W.as ?_
                        refine W.nil (thn_n ?_)
                        refine WC.ret (thn_r ?_)
                        refine ⟨.inr rfl, [_], ⟨rfl, trivial⟩, [], List.nil_sublist _, ?_⟩
                        have hn : ∀ s : Str, s.b = ⟨#[]⟩ ↔ s = Str.nil := fun s => ⟨fun h => Str.ext' h, fun h => by rw [h]; rfl⟩
                        refine congrArg (Value.int .i64) ?_
                        rw [if_neg ?_]
                        simp only [Opr.R]
                        first | (simp_all; done) | (simp_all; omega) | grind
              · have p34 := of_decide_eq_false h34
                refine W.no (dj := 37) rfl rfl h34 ?_
                refine W.no (dj := 37) rfl rfl h34 ?_
                refine W.no (dj := 37) rfl rfl h34 ?_
                refine W.no (dj := 37) rfl rfl h34 ?_
                refine W.nou (dj := 41) rfl rfl ?_
                refine W.nou (dj := 41) rfl rfl ?_
                refine W.nou (dj := 41) rfl rfl ?_
                refine W.no (dj := 37) rfl rfl h34 ?_
                refine W.ok (ok_pick_f rfl h34) ?_
                refine W.as ?_
                refine W.nil (thn_n ?_)
                refine WC.seq ?_
                refine WC.seq ?_
                refine WC.region ?_
                refine W.ok (ok_loadB (i := 0) (vs := [.int .i64 _, .string _, .string _, .bool _, .string _, .int .i64 _]) ty134 rfl rfl rfl rfl (by simp)) ?_
                refine W.qcall (ranged_fc _ _ _ _ _ _) rfl ?_
                refine W.nil (thn_n ?_)
                refine WC.cond (b := _) rfl (fun h48 => ?_) (fun h48 => ?_)
                · refine WC.region ?_
                  refine W.mv ?_
                  refine W.mv ?_
                  refine W.no (dj := 50) rfl rfl rfl ?_
                  refine W.no (dj := 50) rfl rfl rfl ?_
                  refine W.no (dj := 50) rfl rfl rfl ?_
                  refine W.no (dj := 50) rfl rfl rfl ?_
                  refine W.ok (ok_pick_f rfl rfl) ?_
                  refine W.as ?_
                  refine W.nil (thn_n ?_)
                  refine WC.seq ?_
                  refine WC.seq ?_
                  refine WC.region ?_
                  refine W.ok (ok_fieldB fd134_0 rfl) ?_
                  refine W.ok (ok_loadB (i := 0) (vs := [.int .i64 _]) ty3 rfl rfl rfl rfl (by simp)) ?_
                  refine W.ok (ok_eql rfl rfl) ?_
                  refine W.nil (thn_n ?_)
                  refine WC.cond (b := _) rfl (fun h69 => ?_) (fun h69 => ?_)
                  · have p69 := of_decide_eq_true h69
                    refine WC.region ?_
                    refine W.mv ?_
                    refine W.mv ?_
                    refine W.no (dj := 71) rfl rfl rfl ?_
                    refine W.no (dj := 71) rfl rfl rfl ?_
                    refine W.no (dj := 71) rfl rfl rfl ?_
                    refine W.ok (ok_pick_f rfl rfl) ?_
                    refine W.mv ?_
                    refine W.no (dj := 76) rfl rfl rfl ?_
                    refine W.no (dj := 76) rfl rfl rfl ?_
                    refine W.no (dj := 76) rfl rfl rfl ?_
                    refine W.ok (ok_pick_f rfl rfl) ?_
                    refine W.as ?_
                    refine W.nil (thn_n ?_)
                    refine WC.seq ?_
                    refine WC.seq ?_
                    refine WC.region ?_
                    refine W.mv ?_
                    refine W.ok (ok_not rfl) ?_
                    refine W.nil (thn_n ?_)
                    refine WC.cond_t rfl rfl ?_
                    refine WC.seq ?_
                    refine WC.region ?_
                    refine W.as ?_
                    refine W.nil (thn_n ?_)
                    refine WC.ret (thn_r ?_)
                    refine ⟨.inr rfl, [_], ⟨rfl, trivial⟩, [], List.nil_sublist _, ?_⟩
                    have hn : ∀ s : Str, s.b = ⟨#[]⟩ ↔ s = Str.nil := fun s => ⟨fun h => Str.ext' h, fun h => by rw [h]; rfl⟩
                    refine congrArg (Value.int .i64) ?_
                    rw [if_neg ?_]
                    simp only [Opr.R]
                    first | (simp_all; done) | (simp_all; omega) | grind
                  · have p69 := of_decide_eq_false h69
                    refine WC.region ?_
                    refine W.mv ?_
                    refine W.mv ?_
                    refine W.no (dj := 82) rfl rfl rfl ?_
                    refine W.no (dj := 82) rfl rfl rfl ?_
                    refine W.no (dj := 82) rfl rfl rfl ?_
                    refine W.ok (ok_pick_f rfl rfl) ?_
                    refine W.as ?_
                    refine W.nil (thn_n ?_)
                    refine WC.seq ?_
                    refine WC.seq ?_
                    refine WC.region ?_
                    refine W.mv ?_
                    refine W.ok (ok_not rfl) ?_
                    refine W.nil (thn_n ?_)
                    refine WC.cond_t rfl rfl ?_
                    refine WC.seq ?_
                    refine WC.region ?_
                    refine W.as ?_
                    refine W.nil (thn_n ?_)
                    refine WC.ret (thn_r ?_)
                    refine ⟨.inr rfl, [_], ⟨rfl, trivial⟩, [], List.nil_sublist _, ?_⟩
                    have hn : ∀ s : Str, s.b = ⟨#[]⟩ ↔ s = Str.nil := fun s => ⟨fun h => Str.ext' h, fun h => by rw [h]; rfl⟩
                    refine congrArg (Value.int .i64) ?_
                    rw [if_neg ?_]
                    simp only [Opr.R]
                    first | (simp_all; done) | (simp_all; omega) | grind
                · refine WC.region ?_
                  refine W.mv ?_
                  refine W.mv ?_
                  refine W.no (dj := 57) rfl rfl rfl ?_
                  refine W.no (dj := 57) rfl rfl rfl ?_
                  refine W.no (dj := 57) rfl rfl rfl ?_
                  refine W.ok (ok_pick_f rfl rfl) ?_
                  refine W.mv ?_
                  refine W.no (dj := 62) rfl rfl rfl ?_
                  refine W.no (dj := 62) rfl rfl rfl ?_
                  refine W.no (dj := 62) rfl rfl rfl ?_
                  refine W.ok (ok_pick_f rfl rfl) ?_
                  refine W.as ?_
                  refine W.nil (thn_n ?_)
                  refine WC.seq ?_
                  refine WC.seq ?_
                  refine WC.region ?_
                  refine W.ok (ok_fieldB fd134_0 rfl) ?_
                  refine W.ok (ok_loadB (i := 0) (vs := [.int .i64 _]) ty3 rfl rfl rfl rfl (by simp)) ?_
                  refine W.ok (ok_eql rfl rfl) ?_
                  refine W.nil (thn_n ?_)
                  refine WC.cond (b := _) rfl (fun h69 => ?_) (fun h69 => ?_)
                  · have p69 := of_decide_eq_true h69
                    refine WC.region ?_
                    refine W.mv ?_
                    refine W.mv ?_
                    refine W.no (dj := 71) rfl rfl rfl ?_
                    refine W.no (dj := 71) rfl rfl rfl ?_
                    refine W.no (dj := 71) rfl rfl rfl ?_
                    refine W.ok (ok_pick_f rfl rfl) ?_
                    refine W.mv ?_
                    refine W.no (dj := 76) rfl rfl rfl ?_
                    refine W.no (dj := 76) rfl rfl rfl ?_
                    refine W.no (dj := 76) rfl rfl rfl ?_
                    refine W.ok (ok_pick_f rfl rfl) ?_
                    refine W.as ?_
                    refine W.nil (thn_n ?_)
                    refine WC.seq ?_
                    refine WC.seq ?_
                    refine WC.region ?_
                    refine W.mv ?_
                    refine W.ok (ok_not rfl) ?_
                    refine W.nil (thn_n ?_)
                    refine WC.cond_t rfl rfl ?_
                    refine WC.seq ?_
                    refine WC.region ?_
                    refine W.as ?_
                    refine W.nil (thn_n ?_)
                    refine WC.ret (thn_r ?_)
                    refine ⟨.inr rfl, [_], ⟨rfl, trivial⟩, [], List.nil_sublist _, ?_⟩
                    have hn : ∀ s : Str, s.b = ⟨#[]⟩ ↔ s = Str.nil := fun s => ⟨fun h => Str.ext' h, fun h => by rw [h]; rfl⟩
                    refine congrArg (Value.int .i64) ?_
                    rw [if_neg ?_]
                    simp only [Opr.R]
                    first | (simp_all; done) | (simp_all; omega) | grind
                  · have p69 := of_decide_eq_false h69
                    refine WC.region ?_
                    refine W.mv ?_
                    refine W.mv ?_
                    refine W.no (dj := 82) rfl rfl rfl ?_
                    refine W.no (dj := 82) rfl rfl rfl ?_
                    refine W.no (dj := 82) rfl rfl rfl ?_
                    refine W.ok (ok_pick_f rfl rfl) ?_
                    refine W.as ?_
                    refine W.nil (thn_n ?_)
                    refine WC.seq ?_
                    refine WC.seq ?_
                    refine WC.region ?_
                    refine W.mv ?_
                    refine W.ok (ok_not rfl) ?_
                    refine W.nil (thn_n ?_)
                    refine WC.cond_t rfl rfl ?_
                    refine WC.seq ?_
                    refine WC.region ?_
                    refine W.as ?_
                    refine W.nil (thn_n ?_)
                    refine WC.ret (thn_r ?_)
                    refine ⟨.inr rfl, [_], ⟨rfl, trivial⟩, [], List.nil_sublist _, ?_⟩
                    have hn : ∀ s : Str, s.b = ⟨#[]⟩ ↔ s = Str.nil := fun s => ⟨fun h => Str.ext' h, fun h => by rw [h]; rfl⟩
                    refine congrArg (Value.int .i64) ?_
                    rw [if_neg ?_]
                    simp only [Opr.R]
                    first | (simp_all; done) | (simp_all; omega) | grind
          · refine W.no (dj := 28) rfl rfl h25 ?_
            refine W.no (dj := 28) rfl rfl h25 ?_
            refine W.no (dj := 28) rfl rfl h25 ?_
            refine W.nou (dj := 31) rfl rfl ?_
            refine W.nou (dj := 31) rfl rfl ?_
            refine W.nou (dj := 31) rfl rfl ?_
            refine W.no (dj := 28) rfl rfl h25 ?_
            refine W.ok (ok_pick_f rfl h25) ?_
            refine W.mv ?_
            refine W.no (dj := 37) rfl rfl rfl ?_
            refine W.no (dj := 37) rfl rfl rfl ?_
            refine W.no (dj := 37) rfl rfl rfl ?_
            refine W.no (dj := 37) rfl rfl rfl ?_
            refine W.nou (dj := 41) rfl rfl ?_
            refine W.nou (dj := 41) rfl rfl ?_
            refine W.nou (dj := 41) rfl rfl ?_
            refine W.no (dj := 37) rfl rfl rfl ?_
            refine W.ok (ok_pick_f rfl rfl) ?_
            refine W.as ?_
            refine W.nil (thn_n ?_)
            refine WC.seq ?_
            refine WC.seq ?_
            refine WC.region ?_
            refine W.ok (ok_loadB (i := 0) (vs := [.int .i64 _, .string _, .string _, .bool _, .string _, .int .i64 _]) ty134 rfl rfl rfl rfl (by simp)) ?_
            refine W.qcall (ranged_fc _ _ _ _ _ _) rfl ?_
            refine W.nil (thn_n ?_)
            refine WC.cond (b := _) rfl (fun h48 => ?_) (fun h48 => ?_)
            · refine WC.region ?_
              refine W.mv ?_
              refine W.mv ?_
              refine W.no (dj := 50) rfl rfl rfl ?_
              refine W.no (dj := 50) rfl rfl rfl ?_
              refine W.no (dj := 50) rfl rfl rfl ?_
              refine W.no (dj := 50) rfl rfl rfl ?_
              refine W.ok (ok_pick_f rfl rfl) ?_
              refine W.as ?_
              refine W.nil (thn_n ?_)
              refine WC.seq ?_
              refine WC.seq ?_
              refine WC.region ?_
              refine W.ok (ok_fieldB fd134_0 rfl) ?_
              refine W.ok (ok_loadB (i := 0) (vs := [.int .i64 _]) ty3 rfl rfl rfl rfl (by simp)) ?_
              refine W.ok (ok_eql rfl rfl) ?_
              refine W.nil (thn_n ?_)
              refine WC.cond (b := _) rfl (fun h69 => ?_) (fun h69 => ?_)
              · have p69 := of_decide_eq_true h69
                refine WC.region ?_
                refine W.mv ?_
                refine W.mv ?_
                refine W.no (dj := 71) rfl rfl rfl ?_
                refine W.no (dj := 71) rfl rfl rfl ?_
                refine W.no (dj := 71) rfl rfl rfl ?_
                refine W.ok (ok_pick_f rfl rfl) ?_
                refine W.mv ?_
                refine W.no (dj := 76) rfl rfl rfl ?_
                refine W.no (dj := 76) rfl rfl rfl ?_
                refine W.no (dj := 76) rfl rfl rfl ?_
                refine W.ok (ok_pick_f rfl rfl) ?_
                refine W.as ?_
                refine W.nil (thn_n ?_)
                refine WC.seq ?_
                refine WC.seq ?_
                refine WC.region ?_
                refine W.mv ?_
                refine W.ok (ok_not rfl) ?_
                refine W.nil (thn_n ?_)
                refine WC.cond_t rfl rfl ?_
                refine WC.seq ?_
                refine WC.region ?_
                refine W.as ?_
                refine W.nil (thn_n ?_)
                refine WC.ret (thn_r ?_)
                refine ⟨.inr rfl, [_], ⟨rfl, trivial⟩, [], List.nil_sublist _, ?_⟩
                have hn : ∀ s : Str, s.b = ⟨#[]⟩ ↔ s = Str.nil := fun s => ⟨fun h => Str.ext' h, fun h => by rw [h]; rfl⟩
                refine congrArg (Value.int .i64) ?_
                rw [if_neg ?_]
                simp only [Opr.R]
                first | (simp_all; done) | (simp_all; omega) | grind
              · have p69 := of_decide_eq_false h69
                refine WC.region ?_
                refine W.mv ?_
                refine W.mv ?_
                refine W.no (dj := 82) rfl rfl rfl ?_
                refine W.no (dj := 82) rfl rfl rfl ?_
                refine W.no (dj := 82) rfl rfl rfl ?_
                refine W.ok (ok_pick_f rfl rfl) ?_
                refine W.as ?_
                refine W.nil (thn_n ?_)
                refine WC.seq ?_
                refine WC.seq ?_
                refine WC.region ?_
                refine W.mv ?_
                refine W.ok (ok_not rfl) ?_
                refine W.nil (thn_n ?_)
                refine WC.cond_t rfl rfl ?_
                refine WC.seq ?_
                refine WC.region ?_
                refine W.as ?_
                refine W.nil (thn_n ?_)
                refine WC.ret (thn_r ?_)
                refine ⟨.inr rfl, [_], ⟨rfl, trivial⟩, [], List.nil_sublist _, ?_⟩
                have hn : ∀ s : Str, s.b = ⟨#[]⟩ ↔ s = Str.nil := fun s => ⟨fun h => Str.ext' h, fun h => by rw [h]; rfl⟩
                refine congrArg (Value.int .i64) ?_
                rw [if_neg ?_]
                simp only [Opr.R]
                first | (simp_all; done) | (simp_all; omega) | grind
            · refine WC.region ?_
              refine W.mv ?_
              refine W.mv ?_
              refine W.no (dj := 57) rfl rfl rfl ?_
              refine W.no (dj := 57) rfl rfl rfl ?_
              refine W.no (dj := 57) rfl rfl rfl ?_
              refine W.ok (ok_pick_f rfl rfl) ?_
              refine W.mv ?_
              refine W.no (dj := 62) rfl rfl rfl ?_
              refine W.no (dj := 62) rfl rfl rfl ?_
              refine W.no (dj := 62) rfl rfl rfl ?_
              refine W.ok (ok_pick_f rfl rfl) ?_
              refine W.as ?_
              refine W.nil (thn_n ?_)
              refine WC.seq ?_
              refine WC.seq ?_
              refine WC.region ?_
              refine W.ok (ok_fieldB fd134_0 rfl) ?_
              refine W.ok (ok_loadB (i := 0) (vs := [.int .i64 _]) ty3 rfl rfl rfl rfl (by simp)) ?_
              refine W.ok (ok_eql rfl rfl) ?_
              refine W.nil (thn_n ?_)
              refine WC.cond (b := _) rfl (fun h69 => ?_) (fun h69 => ?_)
              · have p69 := of_decide_eq_true h69
                refine WC.region ?_
                refine W.mv ?_
                refine W.mv ?_
                refine W.no (dj := 71) rfl rfl rfl ?_
                refine W.no (dj := 71) rfl rfl rfl ?_
                refine W.no (dj := 71) rfl rfl rfl ?_
                refine W.ok (ok_pick_f rfl rfl) ?_
                refine W.mv ?_
                refine W.no (dj := 76) rfl rfl rfl ?_
                refine W.no (dj := 76) rfl rfl rfl ?_
                refine W.no (dj := 76) rfl rfl rfl ?_
                refine W.ok (ok_pick_f rfl rfl) ?_
                refine W.as ?_
                refine W.nil (thn_n ?_)
                refine WC.seq ?_
                refine WC.seq ?_
                refine WC.region ?_
                refine W.mv ?_
                refine W.ok (ok_not rfl) ?_
                refine W.nil (thn_n ?_)
                refine WC.cond_t rfl rfl ?_
                refine WC.seq ?_
                refine WC.region ?_
                refine W.as ?_
                refine W.nil (thn_n ?_)
                refine WC.ret (thn_r ?_)
                refine ⟨.inr rfl, [_], ⟨rfl, trivial⟩, [], List.nil_sublist _, ?_⟩
                have hn : ∀ s : Str, s.b = ⟨#[]⟩ ↔ s = Str.nil := fun s => ⟨fun h => Str.ext' h, fun h => by rw [h]; rfl⟩
                refine congrArg (Value.int .i64) ?_
                rw [if_neg ?_]
                simp only [Opr.R]
                first | (simp_all; done) | (simp_all; omega) | grind
              · have p69 := of_decide_eq_false h69
                refine WC.region ?_
                refine W.mv ?_
                refine W.mv ?_
                refine W.no (dj := 82) rfl rfl rfl ?_
                refine W.no (dj := 82) rfl rfl rfl ?_
                refine W.no (dj := 82) rfl rfl rfl ?_
                refine W.ok (ok_pick_f rfl rfl) ?_
                refine W.as ?_
                refine W.nil (thn_n ?_)
                refine WC.seq ?_
                refine WC.seq ?_
                refine WC.region ?_
                refine W.mv ?_
                refine W.ok (ok_not rfl) ?_
                refine W.nil (thn_n ?_)
                refine WC.cond_t rfl rfl ?_
                refine WC.seq ?_
                refine WC.region ?_
                refine W.as ?_
                refine W.nil (thn_n ?_)
                refine WC.ret (thn_r ?_)
                refine ⟨.inr rfl, [_], ⟨rfl, trivial⟩, [], List.nil_sublist _, ?_⟩
                have hn : ∀ s : Str, s.b = ⟨#[]⟩ ↔ s = Str.nil := fun s => ⟨fun h => Str.ext' h, fun h => by rw [h]; rfl⟩
                refine congrArg (Value.int .i64) ?_
                rw [if_neg ?_]
                simp only [Opr.R]
                first | (simp_all; done) | (simp_all; omega) | grind
        · refine W.no (dj := 22) rfl rfl h20 ?_
          refine W.no (dj := 22) rfl rfl h20 ?_
          refine W.no (dj := 22) rfl rfl h20 ?_
          refine W.ok (ok_pick_f rfl h20) ?_
          refine W.as ?_
          refine W.nil (thn_n ?_)
          refine WC.seq ?_
          refine WC.region ?_
          refine W.mv ?_
          refine W.mv ?_
          refine W.no (dj := 28) rfl rfl rfl ?_
          refine W.no (dj := 28) rfl rfl rfl ?_
          refine W.no (dj := 28) rfl rfl rfl ?_
          refine W.nou (dj := 31) rfl rfl ?_
          refine W.nou (dj := 31) rfl rfl ?_
          refine W.nou (dj := 31) rfl rfl ?_
          refine W.no (dj := 28) rfl rfl rfl ?_
          refine W.ok (ok_pick_f rfl rfl) ?_
          refine W.mv ?_
          refine W.no (dj := 37) rfl rfl rfl ?_
          refine W.no (dj := 37) rfl rfl rfl ?_
          refine W.no (dj := 37) rfl rfl rfl ?_
          refine W.no (dj := 37) rfl rfl rfl ?_
          refine W.nou (dj := 41) rfl rfl ?_
          refine W.nou (dj := 41) rfl rfl ?_
          refine W.nou (dj := 41) rfl rfl ?_
          refine W.no (dj := 37) rfl rfl rfl ?_
          refine W.ok (ok_pick_f rfl rfl) ?_
          refine W.as ?_
          refine W.nil (thn_n ?_)
          refine WC.seq ?_
          refine WC.seq ?_
          refine WC.region ?_
          refine W.ok (ok_loadB (i := 0) (vs := [.int .i64 _, .string _, .string _, .bool _, .string _, .int .i64 _]) ty134 rfl rfl rfl rfl (by simp)) ?_
          refine W.qcall (ranged_fc _ _ _ _ _ _) rfl ?_
          refine W.nil (thn_n ?_)
          refine WC.cond (b := _) rfl (fun h48 => ?_) (fun h48 => ?_)
          · refine WC.region ?_
            refine W.mv ?_
            refine W.mv ?_
            refine W.no (dj := 50) rfl rfl rfl ?_
            refine W.no (dj := 50) rfl rfl rfl ?_
            refine W.no (dj := 50) rfl rfl rfl ?_
            refine W.no (dj := 50) rfl rfl rfl ?_
            refine W.ok (ok_pick_f rfl rfl) ?_
            refine W.as ?_
            refine W.nil (thn_n ?_)
            refine WC.seq ?_
            refine WC.seq ?_
            refine WC.region ?_
            refine W.ok (ok_fieldB fd134_0 rfl) ?_
            refine W.ok (ok_loadB (i := 0) (vs := [.int .i64 _]) ty3 rfl rfl rfl rfl (by simp)) ?_
            refine W.ok (ok_eql rfl rfl) ?_
            refine W.nil (thn_n ?_)
            refine WC.cond (b := _) rfl (fun h69 => ?_) (fun h69 => ?_)
            · have p69 := of_decide_eq_true h69
              refine WC.region ?_
              refine W.mv ?_
              refine W.mv ?_
              refine W.no (dj := 71) rfl rfl rfl ?_
              refine W.no (dj := 71) rfl rfl rfl ?_
              refine W.no (dj := 71) rfl rfl rfl ?_
              refine W.ok (ok_pick_f rfl rfl) ?_
              refine W.mv ?_
              refine W.no (dj := 76) rfl rfl rfl ?_
              refine W.no (dj := 76) rfl rfl rfl ?_
              refine W.no (dj := 76) rfl rfl rfl ?_
              refine W.ok (ok_pick_f rfl rfl) ?_
              refine W.as ?_
              refine W.nil (thn_n ?_)
              refine WC.seq ?_
              refine WC.seq ?_
              refine WC.region ?_
              refine W.mv ?_
              refine W.ok (ok_not rfl) ?_
              refine W.nil (thn_n ?_)
              refine WC.cond_t rfl rfl ?_
              refine WC.seq ?_
              refine WC.region ?_
              refine W.as ?_
              refine W.nil (thn_n ?_)
              refine WC.ret (thn_r ?_)
              refine ⟨.inr rfl, [_], ⟨rfl, trivial⟩, [], List.nil_sublist _, ?_⟩
              have hn : ∀ s : Str, s.b = ⟨#[]⟩ ↔ s = Str.nil := fun s => ⟨fun h => Str.ext' h, fun h => by rw [h]; rfl⟩
              refine congrArg (Value.int .i64) ?_
              rw [if_neg ?_]
              simp only [Opr.R]
              first | (simp_all; done) | (simp_all; omega) | grind
            · have p69 := of_decide_eq_false h69
              refine WC.region ?_
              refine W.mv ?_
              refine W.mv ?_
              refine W.no (dj := 82) rfl rfl rfl ?_
              refine W.no (dj := 82) rfl rfl rfl ?_
              refine W.no (dj := 82) rfl rfl rfl ?_
              refine W.ok (ok_pick_f rfl rfl) ?_
              refine W.as ?_
              refine W.nil (thn_n ?_)
              refine WC.seq ?_
              refine WC.seq ?_
              refine WC.region ?_
              refine W.mv ?_
              refine W.ok (ok_not rfl) ?_
              refine W.nil (thn_n ?_)
              refine WC.cond_t rfl rfl ?_
              refine WC.seq ?_
              refine WC.region ?_
              refine W.as ?_
              refine W.nil (thn_n ?_)
              refine WC.ret (thn_r ?_)
              refine ⟨.inr rfl, [_], ⟨rfl, trivial⟩, [], List.nil_sublist _, ?_⟩
              have hn : ∀ s : Str, s.b = ⟨#[]⟩ ↔ s = Str.nil := fun s => ⟨fun h => Str.ext' h, fun h => by rw [h]; rfl⟩
              refine congrArg (Value.int .i64) ?_
              rw [if_neg ?_]
              simp only [Opr.R]
              first | (simp_all; done) | (simp_all; omega) | grind
          · refine WC.region ?_
            refine W.mv ?_
            refine W.mv ?_
            refine W.no (dj := 57) rfl rfl rfl ?_
            refine W.no (dj := 57) rfl rfl rfl ?_
            refine W.no (dj := 57) rfl rfl rfl ?_
            refine W.ok (ok_pick_f rfl rfl) ?_
            refine W.mv ?_
            refine W.no (dj := 62) rfl rfl rfl ?_
            refine W.no (dj := 62) rfl rfl rfl ?_
            refine W.no (dj := 62) rfl rfl rfl ?_
            refine W.ok (ok_pick_f rfl rfl) ?_
            refine W.as ?_
            refine W.nil (thn_n ?_)
            refine WC.seq ?_
            refine WC.seq ?_
            refine WC.region ?_
            refine W.ok (ok_fieldB fd134_0 rfl) ?_
            refine W.ok (ok_loadB (i := 0) (vs := [.int .i64 _]) ty3 rfl rfl rfl rfl (by simp)) ?_
            refine W.ok (ok_eql rfl rfl) ?_
            refine W.nil (thn_n ?_)
            refine WC.cond (b := _) rfl (fun h69 => ?_) (fun h69 => ?_)
            · have p69 := of_decide_eq_true h69
              refine WC.region ?_
              refine W.mv ?_
              refine W.mv ?_
              refine W.no (dj := 71) rfl rfl rfl ?_
              refine W.no (dj := 71) rfl rfl rfl ?_
              refine W.no (dj := 71) rfl rfl rfl ?_
              refine W.ok (ok_pick_f rfl rfl) ?_
              refine W.mv ?_
              refine W.no (dj := 76) rfl rfl rfl ?_
              refine W.no (dj := 76) rfl rfl rfl ?_
              refine W.no (dj := 76) rfl rfl rfl ?_
              refine W.ok (ok_pick_f rfl rfl) ?_
              refine W.as ?_
              refine W.nil (thn_n ?_)
              refine WC.seq ?_
              refine WC.seq ?_
              refine WC.region ?_
              refine W.mv ?_
              refine W.ok (ok_not rfl) ?_
              refine W.nil (thn_n ?_)
              refine WC.cond_t rfl rfl ?_
              refine WC.seq ?_
              refine WC.region ?_
              refine W.as ?_
              refine W.nil (thn_n ?_)
              refine WC.ret (thn_r ?_)
              refine ⟨.inr rfl, [_], ⟨rfl, trivial⟩, [], List.nil_sublist _, ?_⟩
              have hn : ∀ s : Str, s.b = ⟨#[]⟩ ↔ s = Str.nil := fun s => ⟨fun h => Str.ext' h, fun h => by rw [h]; rfl⟩
              refine congrArg (Value.int .i64) ?_
              rw [if_neg ?_]
              simp only [Opr.R]
              first | (simp_all; done) | (simp_all; omega) | grind
            · have p69 := of_decide_eq_false h69
              refine WC.region ?_
              refine W.mv ?_
              refine W.mv ?_
              refine W.no (dj := 82) rfl rfl rfl ?_
              refine W.no (dj := 82) rfl rfl rfl ?_
              refine W.no (dj := 82) rfl rfl rfl ?_
              refine W.ok (ok_pick_f rfl rfl) ?_
              refine W.as ?_
              refine W.nil (thn_n ?_)
              refine WC.seq ?_
              refine WC.seq ?_
              refine WC.region ?_
              refine W.mv ?_
              refine W.ok (ok_not rfl) ?_
              refine W.nil (thn_n ?_)
              refine WC.cond_t rfl rfl ?_
              refine WC.seq ?_
              refine WC.region ?_
              refine W.as ?_
              refine W.nil (thn_n ?_)
              refine WC.ret (thn_r ?_)
              refine ⟨.inr rfl, [_], ⟨rfl, trivial⟩, [], List.nil_sublist _, ?_⟩
              have hn : ∀ s : Str, s.b = ⟨#[]⟩ ↔ s = Str.nil := fun s => ⟨fun h => Str.ext' h, fun h => by rw [h]; rfl⟩
              refine congrArg (Value.int .i64) ?_
              rw [if_neg ?_]
              simp only [Opr.R]
              first | (simp_all; done) | (simp_all; omega) | grind
      · refine W.no (dj := 17) rfl rfl h15 ?_
        refine W.no (dj := 17) rfl rfl h15 ?_
        refine W.no (dj := 17) rfl rfl h15 ?_
        refine W.ok (ok_pick_f rfl h15) ?_
        refine W.mv ?_
        refine W.no (dj := 22) rfl rfl rfl ?_
        refine W.no (dj := 22) rfl rfl rfl ?_
        refine W.no (dj := 22) rfl rfl rfl ?_
        refine W.ok (ok_pick_f rfl rfl) ?_
        refine W.as ?_
        refine W.nil (thn_n ?_)
        refine WC.seq ?_
        refine WC.region ?_
        refine W.mv ?_
        refine W.mv ?_
        refine W.no (dj := 28) rfl rfl rfl ?_
        refine W.no (dj := 28) rfl rfl rfl ?_
        refine W.no (dj := 28) rfl rfl rfl ?_
        refine W.nou (dj := 31) rfl rfl ?_
        refine W.nou (dj := 31) rfl rfl ?_
        refine W.nou (dj := 31) rfl rfl ?_
        refine W.no (dj := 28) rfl rfl rfl ?_
        refine W.ok (ok_pick_f rfl rfl) ?_
        refine W.mv ?_
        refine W.no (dj := 37) rfl rfl rfl ?_
        refine W.no (dj := 37) rfl rfl rfl ?_
        refine W.no (dj := 37) rfl rfl rfl ?_
        refine W.no (dj := 37) rfl rfl rfl ?_
        refine W.nou (dj := 41) rfl rfl ?_
        refine W.nou (dj := 41) rfl rfl ?_
        refine W.nou (dj := 41) rfl rfl ?_
        refine W.no (dj := 37) rfl rfl rfl ?_
        refine W.ok (ok_pick_f rfl rfl) ?_
        refine W.as ?_
        refine W.nil (thn_n ?_)
        refine WC.seq ?_
        refine WC.seq ?_
        refine WC.region ?_
        refine W.ok (ok_loadB (i := 0) (vs := [.int .i64 _, .string _, .string _, .bool _, .string _, .int .i64 _]) ty134 rfl rfl rfl rfl (by simp)) ?_
        refine W.qcall (ranged_fc _ _ _ _ _ _) rfl ?_
        refine W.nil (thn_n ?_)
        refine WC.cond (b := _) rfl (fun h48 => ?_) (fun h48 => ?_)
        · refine WC.region ?_
          refine W.mv ?_
          refine W.mv ?_
          refine W.no (dj := 50) rfl rfl rfl ?_
          refine W.no (dj := 50) rfl rfl rfl ?_
          refine W.no (dj := 50) rfl rfl rfl ?_
          refine W.no (dj := 50) rfl rfl rfl ?_
          refine W.ok (ok_pick_f rfl rfl) ?_
          refine W.as ?_
          refine W.nil (thn_n ?_)
          refine WC.seq ?_
          refine WC.seq ?_
          refine WC.region ?_
          refine W.ok (ok_fieldB fd134_0 rfl) ?_
          refine W.ok (ok_loadB (i := 0) (vs := [.int .i64 _]) ty3 rfl rfl rfl rfl (by simp)) ?_
          refine W.ok (ok_eql rfl rfl) ?_
          refine W.nil (thn_n ?_)
          refine WC.cond (b := _) rfl (fun h69 => ?_) (fun h69 => ?_)
          · have p69 := of_decide_eq_true h69
            refine WC.region ?_
            refine W.mv ?_
            refine W.mv ?_
            refine W.no (dj := 71) rfl rfl rfl ?_
            refine W.no (dj := 71) rfl rfl rfl ?_
            refine W.no (dj := 71) rfl rfl rfl ?_
            refine W.ok (ok_pick_f rfl rfl) ?_
            refine W.mv ?_
            refine W.no (dj := 76) rfl rfl rfl ?_
            refine W.no (dj := 76) rfl rfl rfl ?_
            refine W.no (dj := 76) rfl rfl rfl ?_
            refine W.ok (ok_pick_f rfl rfl) ?_
            refine W.as ?_
            refine W.nil (thn_n ?_)
            refine WC.seq ?_
            refine WC.seq ?_
            refine WC.region ?_
            refine W.mv ?_
            refine W.ok (ok_not rfl) ?_
            refine W.nil (thn_n ?_)
            refine WC.cond_t rfl rfl ?_
            refine WC.seq ?_
            refine WC.region ?_
            refine W.as ?_
            refine W.nil (thn_n ?_)
            refine WC.ret (thn_r ?_)
            refine ⟨.inr rfl, [_], ⟨rfl, trivial⟩, [], List.nil_sublist _, ?_⟩
            have hn : ∀ s : Str, s.b = ⟨#[]⟩ ↔ s = Str.nil := fun s => ⟨fun h => Str.ext' h, fun h => by rw [h]; rfl⟩
            refine congrArg (Value.int .i64) ?_
            rw [if_neg ?_]
            simp only [Opr.R]
            first | (simp_all; done) | (simp_all; omega) | grind
          · have p69 := of_decide_eq_false h69
            refine WC.region ?_
            refine W.mv ?_
            refine W.mv ?_
            refine W.no (dj := 82) rfl rfl rfl ?_
            refine W.no (dj := 82) rfl rfl rfl ?_
            refine W.no (dj := 82) rfl rfl rfl ?_
            refine W.ok (ok_pick_f rfl rfl) ?_
            refine W.as ?_
            refine W.nil (thn_n ?_)
            refine WC.seq ?_
            refine WC.seq ?_
            refine WC.region ?_
            refine W.mv ?_
            refine W.ok (ok_not rfl) ?_
            refine W.nil (thn_n ?_)
            refine WC.cond_t rfl rfl ?_
            refine WC.seq ?_
            refine WC.region ?_
            refine W.as ?_
            refine W.nil (thn_n ?_)
            refine WC.ret (thn_r ?_)
            refine ⟨.inr rfl, [_], ⟨rfl, trivial⟩, [], List.nil_sublist _, ?_⟩
            have hn : ∀ s : Str, s.b = ⟨#[]⟩ ↔ s = Str.nil := fun s => ⟨fun h => Str.ext' h, fun h => by rw [h]; rfl⟩
            refine congrArg (Value.int .i64) ?_
            rw [if_neg ?_]
            simp only [Opr.R]
            first | (simp_all; done) | (simp_all; omega) | grind
        · refine WC.region ?_
          refine W.mv ?_
          refine W.mv ?_
          refine W.no (dj := 57) rfl rfl rfl ?_
          refine W.no (dj := 57) rfl rfl rfl ?_
          refine W.no (dj := 57) rfl rfl rfl ?_
          refine W.ok (ok_pick_f rfl rfl) ?_
          refine W.mv ?_
          refine W.no (dj := 62) rfl rfl rfl ?_
          refine W.no (dj := 62) rfl rfl rfl ?_
          refine W.no (dj := 62) rfl rfl rfl ?_
          refine W.ok (ok_pick_f rfl rfl) ?_
          refine W.as ?_
          refine W.nil (thn_n ?_)
          refine WC.seq ?_
          refine WC.seq ?_
          refine WC.region ?_
          refine W.ok (ok_fieldB fd134_0 rfl) ?_
          refine W.ok (ok_loadB (i := 0) (vs := [.int .i64 _]) ty3 rfl rfl rfl rfl (by simp)) ?_
          refine W.ok (ok_eql rfl rfl) ?_
          refine W.nil (thn_n ?_)
          refine WC.cond (b := _) rfl (fun h69 => ?_) (fun h69 => ?_)
          · have p69 := of_decide_eq_true h69
            refine WC.region ?_
            refine W.mv ?_
            refine W.mv ?_
            refine W.no (dj := 71) rfl rfl rfl ?_
            refine W.no (dj := 71) rfl rfl rfl ?_
            refine W.no (dj := 71) rfl rfl rfl ?_
            refine W.ok (ok_pick_f rfl rfl) ?_
            refine W.mv ?_
            refine W.no (dj := 76) rfl rfl rfl ?_
            refine W.no (dj := 76) rfl rfl rfl ?_
            refine W.no (dj := 76) rfl rfl rfl ?_
            refine W.ok (ok_pick_f rfl rfl) ?_
            refine W.as ?_
            refine W.nil (thn_n ?_)
            refine WC.seq ?_
            refine WC.seq ?_
            refine WC.region ?_
            refine W.mv ?_
            refine W.ok (ok_not rfl) ?_
            refine W.nil (thn_n ?_)
            refine WC.cond_t rfl rfl ?_
            refine WC.seq ?_
            refine WC.region ?_
            refine W.as ?_
            refine W.nil (thn_n ?_)
            refine WC.ret (thn_r ?_)
            refine ⟨.inr rfl, [_], ⟨rfl, trivial⟩, [], List.nil_sublist _, ?_⟩
            have hn : ∀ s : Str, s.b = ⟨#[]⟩ ↔ s = Str.nil := fun s => ⟨fun h => Str.ext' h, fun h => by rw [h]; rfl⟩
            refine congrArg (Value.int .i64) ?_
            rw [if_neg ?_]
            simp only [Opr.R]
            first | (simp_all; done) | (simp_all; omega) | grind
          · have p69 := of_decide_eq_false h69
            refine WC.region ?_
            refine W.mv ?_
            refine W.mv ?_
            refine W.no (dj := 82) rfl rfl rfl ?_
            refine W.no (dj := 82) rfl rfl rfl ?_
            refine W.no (dj := 82) rfl rfl rfl ?_
            refine W.ok (ok_pick_f rfl rfl) ?_
            refine W.as ?_
            refine W.nil (thn_n ?_)
            refine WC.seq ?_
            refine WC.seq ?_
            refine WC.region ?_
            refine W.mv ?_
            refine W.ok (ok_not rfl) ?_
            refine W.nil (thn_n ?_)
            refine WC.cond_t rfl rfl ?_
            refine WC.seq ?_
            refine WC.region ?_
            refine W.as ?_
            refine W.nil (thn_n ?_)
            refine WC.ret (thn_r ?_)
            refine ⟨.inr rfl, [_], ⟨rfl, trivial⟩, [], List.nil_sublist _, ?_⟩
            have hn : ∀ s : Str, s.b = ⟨#[]⟩ ↔ s = Str.nil := fun s => ⟨fun h => Str.ext' h, fun h => by rw [h]; rfl⟩
            refine congrArg (Value.int .i64) ?_
            rw [if_neg ?_]
            simp only [Opr.R]
            first | (simp_all; done) | (simp_all; omega) | grind
    · have p10 := of_decide_eq_false h10
      refine W.no (dj := 12) rfl rfl h10 ?_
      refine W.no (dj := 12) rfl rfl h10 ?_
      refine W.no (dj := 12) rfl rfl h10 ?_
      refine W.ok (ok_pick_f rfl h10) ?_
      refine W.mv ?_
      refine W.no (dj := 17) rfl rfl rfl ?_
      refine W.no (dj := 17) rfl rfl rfl ?_
      refine W.no (dj := 17) rfl rfl rfl ?_
      refine W.ok (ok_pick_f rfl rfl) ?_
      refine W.mv ?_
      refine W.no (dj := 22) rfl rfl rfl ?_
      refine W.no (dj := 22) rfl rfl rfl ?_
      refine W.no (dj := 22) rfl rfl rfl ?_
      refine W.ok (ok_pick_f rfl rfl) ?_
      refine W.as ?_
      refine W.nil (thn_n ?_)
      refine WC.seq ?_
      refine WC.region ?_
      refine W.mv ?_
      refine W.mv ?_
      refine W.no (dj := 28) rfl rfl rfl ?_
      refine W.no (dj := 28) rfl rfl rfl ?_
      refine W.no (dj := 28) rfl rfl rfl ?_
      refine W.nou (dj := 31) rfl rfl ?_
      refine W.nou (dj := 31) rfl rfl ?_
      refine W.nou (dj := 31) rfl rfl ?_
      refine W.no (dj := 28) rfl rfl rfl ?_
      refine W.ok (ok_pick_f rfl rfl) ?_
      refine W.mv ?_
      refine W.no (dj := 37) rfl rfl rfl ?_
      refine W.no (dj := 37) rfl rfl rfl ?_
      refine W.no (dj := 37) rfl rfl rfl ?_
      refine W.no (dj := 37) rfl rfl rfl ?_
      refine W.nou (dj := 41) rfl rfl ?_
      refine W.nou (dj := 41) rfl rfl ?_
      refine W.nou (dj := 41) rfl rfl ?_
      refine W.no (dj := 37) rfl rfl rfl ?_
      refine W.ok (ok_pick_f rfl rfl) ?_
      refine W.as ?_
      refine W.nil (thn_n ?_)
      refine WC.seq ?_
      refine WC.seq ?_
      refine WC.region ?_
      refine W.ok (ok_loadB (i := 0) (vs := [.int .i64 _, .string _, .string _, .bool _, .string _, .int .i64 _]) ty134 rfl rfl rfl rfl (by simp)) ?_
      refine W.qcall (ranged_fc _ _ _ _ _ _) rfl ?_
      refine W.nil (thn_n ?_)
      refine WC.cond (b := _) rfl (fun h48 => ?_) (fun h48 => ?_)
      · refine WC.region ?_
        refine W.mv ?_
        refine W.mv ?_
        refine W.no (dj := 50) rfl rfl rfl ?_
        refine W.no (dj := 50) rfl rfl rfl ?_
        refine W.no (dj := 50) rfl rfl rfl ?_
        refine W.no (dj := 50) rfl rfl rfl ?_
        refine W.ok (ok_pick_f rfl rfl) ?_
        refine W.as ?_
        refine W.nil (thn_n ?_)
        refine WC.seq ?_
        refine WC.seq ?_
        refine WC.region ?_
        refine W.ok (ok_fieldB fd134_0 rfl) ?_
        refine W.ok (ok_loadB (i := 0) (vs := [.int .i64 _]) ty3 rfl rfl rfl rfl (by simp)) ?_
        refine W.ok (ok_eql rfl rfl) ?_
        refine W.nil (thn_n ?_)
        refine WC.cond (b := _) rfl (fun h69 => ?_) (fun h69 => ?_)
        · have p69 := of_decide_eq_true h69
          refine WC.region ?_
          refine W.mv ?_
          refine W.mv ?_
          refine W.no (dj := 71) rfl rfl rfl ?_
          refine W.no (dj := 71) rfl rfl rfl ?_
          refine W.no (dj := 71) rfl rfl rfl ?_
          refine W.ok (ok_pick_f rfl rfl) ?_
          refine W.mv ?_
          refine W.no (dj := 76) rfl rfl rfl ?_
          refine W.no (dj := 76) rfl rfl rfl ?_
          refine W.no (dj := 76) rfl rfl rfl ?_
          refine W.ok (ok_pick_f rfl rfl) ?_
          refine W.as ?_
          refine W.nil (thn_n ?_)
          refine WC.seq ?_
          refine WC.seq ?_
          refine WC.region ?_
          refine W.mv ?_
          refine W.ok (ok_not rfl) ?_
          refine W.nil (thn_n ?_)
          refine WC.cond_t rfl rfl ?_
          refine WC.seq ?_
          refine WC.region ?_
          refine W.as ?_
          refine W.nil (thn_n ?_)
          refine WC.ret (thn_r ?_)
          refine ⟨.inr rfl, [_], ⟨rfl, trivial⟩, [], List.nil_sublist _, ?_⟩
          have hn : ∀ s : Str, s.b = ⟨#[]⟩ ↔ s = Str.nil := fun s => ⟨fun h => Str.ext' h, fun h => by rw [h]; rfl⟩
          refine congrArg (Value.int .i64) ?_
          rw [if_neg ?_]
          simp only [Opr.R]
          first | (simp_all; done) | (simp_all; omega) | grind
        · have p69 := of_decide_eq_false h69
          refine WC.region ?_
          refine W.mv ?_
          refine W.mv ?_
          refine W.no (dj := 82) rfl rfl rfl ?_
          refine W.no (dj := 82) rfl rfl rfl ?_
          refine W.no (dj := 82) rfl rfl rfl ?_
          refine W.ok (ok_pick_f rfl rfl) ?_
          refine W.as ?_
          refine W.nil (thn_n ?_)
          refine WC.seq ?_
          refine WC.seq ?_
          refine WC.region ?_
          refine W.mv ?_
          refine W.ok (ok_not rfl) ?_
          refine W.nil (thn_n ?_)
          refine WC.cond_t rfl rfl ?_
          refine WC.seq ?_
          refine WC.region ?_
          refine W.as ?_
          refine W.nil (thn_n ?_)
          refine WC.ret (thn_r ?_)
          refine ⟨.inr rfl, [_], ⟨rfl, trivial⟩, [], List.nil_sublist _, ?_⟩
          have hn : ∀ s : Str, s.b = ⟨#[]⟩ ↔ s = Str.nil := fun s => ⟨fun h => Str.ext' h, fun h => by rw [h]; rfl⟩
          refine congrArg (Value.int .i64) ?_
          rw [if_neg ?_]
          simp only [Opr.R]
          first | (simp_all; done) | (simp_all; omega) | grind
      · refine WC.region ?_
        refine W.mv ?_
        refine W.mv ?_
        refine W.no (dj := 57) rfl rfl rfl ?_
        refine W.no (dj := 57) rfl rfl rfl ?_
        refine W.no (dj := 57) rfl rfl rfl ?_
        refine W.ok (ok_pick_f rfl rfl) ?_
        refine W.mv ?_
        refine W.no (dj := 62) rfl rfl rfl ?_
        refine W.no (dj := 62) rfl rfl rfl ?_
        refine W.no (dj := 62) rfl rfl rfl ?_
        refine W.ok (ok_pick_f rfl rfl) ?_
        refine W.as ?_
        refine W.nil (thn_n ?_)
        refine WC.seq ?_
        refine WC.seq ?_
        refine WC.region ?_
        refine W.ok (ok_fieldB fd134_0 rfl) ?_
        refine W.ok (ok_loadB (i := 0) (vs := [.int .i64 _]) ty3 rfl rfl rfl rfl (by simp)) ?_
        refine W.ok (ok_eql rfl rfl) ?_
        refine W.nil (thn_n ?_)
        refine WC.cond (b := _) rfl (fun h69 => ?_) (fun h69 => ?_)
        · have p69 := of_decide_eq_true h69
          refine WC.region ?_
          refine W.mv ?_
          refine W.mv ?_
          refine W.no (dj := 71) rfl rfl rfl ?_
          refine W.no (dj := 71) rfl rfl rfl ?_
          refine W.no (dj := 71) rfl rfl rfl ?_
          refine W.ok (ok_pick_f rfl rfl) ?_
          refine W.mv ?_
          refine W.no (dj := 76) rfl rfl rfl ?_
          refine W.no (dj := 76) rfl rfl rfl ?_
          refine W.no (dj := 76) rfl rfl rfl ?_
          refine W.ok (ok_pick_f rfl rfl) ?_
          refine W.as ?_
          refine W.nil (thn_n ?_)
          refine WC.seq ?_
          refine WC.seq ?_
          refine WC.region ?_
          refine W.mv ?_
          refine W.ok (ok_not rfl) ?_
          refine W.nil (thn_n ?_)
          refine WC.cond_t rfl rfl ?_
          refine WC.seq ?_
          refine WC.region ?_
          refine W.as ?_
          refine W.nil (thn_n ?_)
          refine WC.ret (thn_r ?_)
          refine ⟨.inr rfl, [_], ⟨rfl, trivial⟩, [], List.nil_sublist _, ?_⟩
          have hn : ∀ s : Str, s.b = ⟨#[]⟩ ↔ s = Str.nil := fun s => ⟨fun h => Str.ext' h, fun h => by rw [h]; rfl⟩
          refine congrArg (Value.int .i64) ?_
          rw [if_neg ?_]
          simp only [Opr.R]
          first | (simp_all; done) | (simp_all; omega) | grind
        · have p69 := of_decide_eq_false h69
          refine WC.region ?_
          refine W.mv ?_
          refine W.mv ?_
          refine W.no (dj := 82) rfl rfl rfl ?_
          refine W.no (dj := 82) rfl rfl rfl ?_
          refine W.no (dj := 82) rfl rfl rfl ?_
          refine W.ok (ok_pick_f rfl rfl) ?_
          refine W.as ?_
          refine W.nil (thn_n ?_)
          refine WC.seq ?_
          refine WC.seq ?_
          refine WC.region ?_
          refine W.mv ?_
          refine W.ok (ok_not rfl) ?_
          refine W.nil (thn_n ?_)
          refine WC.cond_t rfl rfl ?_
          refine WC.seq ?_
          refine WC.region ?_
          refine W.as ?_
          refine W.nil (thn_n ?_)
          refine WC.ret (thn_r ?_)
          refine ⟨.inr rfl, [_], ⟨rfl, trivial⟩, [], List.nil_sublist _, ?_⟩
          have hn : ∀ s : Str, s.b = ⟨#[]⟩ ↔ s = Str.nil := fun s => ⟨fun h => Str.ext' h, fun h => by rw [h]; rfl⟩
          refine congrArg (Value.int .i64) ?_
          rw [if_neg ?_]
          simp only [Opr.R]
          first | (simp_all; done) | (simp_all; omega) | grind
  · have p6 := of_decide_eq_false h6
    refine W.no (dj := 7) rfl rfl h6 ?_
    refine W.no (dj := 7) rfl rfl h6 ?_
    refine W.no (dj := 7) rfl rfl h6 ?_
    refine W.ok (ok_pick_f rfl h6) ?_
    refine W.mv ?_
    refine W.no (dj := 12) rfl rfl rfl ?_
    refine W.no (dj := 12) rfl rfl rfl ?_
    refine W.no (dj := 12) rfl rfl rfl ?_
    refine W.ok (ok_pick_f rfl rfl) ?_
    refine W.mv ?_
    refine W.no (dj := 17) rfl rfl rfl ?_
    refine W.no (dj := 17) rfl rfl rfl ?_
    refine W.no (dj := 17) rfl rfl rfl ?_
    refine W.ok (ok_pick_f rfl rfl) ?_
    refine W.mv ?_
    refine W.no (dj := 22) rfl rfl rfl ?_
    refine W.no (dj := 22) rfl rfl rfl ?_
    refine W.no (dj := 22) rfl rfl rfl ?_
    refine W.ok (ok_pick_f rfl rfl) ?_
    refine W.as ?_
    refine W.nil (thn_n ?_)
    refine WC.seq ?_
    refine WC.region ?_
    refine W.mv ?_
    refine W.mv ?_
    refine W.no (dj := 28) rfl rfl rfl ?_
    refine W.no (dj := 28) rfl rfl rfl ?_
    refine W.no (dj := 28) rfl rfl rfl ?_
    refine W.nou (dj := 31) rfl rfl ?_
    refine W.nou (dj := 31) rfl rfl ?_
    refine W.nou (dj := 31) rfl rfl ?_
    refine W.no (dj := 28) rfl rfl rfl ?_
    refine W.ok (ok_pick_f rfl rfl) ?_
    refine W.mv ?_
    refine W.no (dj := 37) rfl rfl rfl ?_
    refine W.no (dj := 37) rfl rfl rfl ?_
    refine W.no (dj := 37) rfl rfl rfl ?_
    refine W.no (dj := 37) rfl rfl rfl ?_
    refine W.nou (dj := 41) rfl rfl ?_
    refine W.nou (dj := 41) rfl rfl ?_
    refine W.nou (dj := 41) rfl rfl ?_
    refine W.no (dj := 37) rfl rfl rfl ?_
    refine W.ok (ok_pick_f rfl rfl) ?_
    refine W.as ?_
    refine W.nil (thn_n ?_)
    refine WC.seq ?_
    refine WC.seq ?_
    refine WC.region ?_
    refine W.ok (ok_loadB (i := 0) (vs := [.int .i64 _, .string _, .string _, .bool _, .string _, .int .i64 _]) ty134 rfl rfl rfl rfl (by simp)) ?_
    refine W.qcall (ranged_fc _ _ _ _ _ _) rfl ?_
    refine W.nil (thn_n ?_)
    refine WC.cond (b := _) rfl (fun h48 => ?_) (fun h48 => ?_)
    · refine WC.region ?_
      refine W.mv ?_
      refine W.mv ?_
      refine W.no (dj := 50) rfl rfl rfl ?_
      refine W.no (dj := 50) rfl rfl rfl ?_
      refine W.no (dj := 50) rfl rfl rfl ?_
      refine W.no (dj := 50) rfl rfl rfl ?_
      refine W.ok (ok_pick_f rfl rfl) ?_
      refine W.as ?_
      refine W.nil (thn_n ?_)
      refine WC.seq ?_
      refine WC.seq ?_
      refine WC.region ?_
      refine W.ok (ok_fieldB fd134_0 rfl) ?_
      refine W.ok (ok_loadB (i := 0) (vs := [.int .i64 _]) ty3 rfl rfl rfl rfl (by simp)) ?_
      refine W.ok (ok_eql rfl rfl) ?_
      refine W.nil (thn_n ?_)
      refine WC.cond (b := _) rfl (fun h69 => ?_) (fun h69 => ?_)
      · have p69 := of_decide_eq_true h69
        refine WC.region ?_
        refine W.mv ?_
        refine W.mv ?_
        refine W.no (dj := 71) rfl rfl rfl ?_
        refine W.no (dj := 71) rfl rfl rfl ?_
        refine W.no (dj := 71) rfl rfl rfl ?_
        refine W.ok (ok_pick_f rfl rfl) ?_
        refine W.mv ?_
        refine W.no (dj := 76) rfl rfl rfl ?_
        refine W.no (dj := 76) rfl rfl rfl ?_
        refine W.no (dj := 76) rfl rfl rfl ?_
        refine W.ok (ok_pick_f rfl rfl) ?_
        refine W.as ?_
        refine W.nil (thn_n ?_)
        refine WC.seq ?_
        refine WC.seq ?_
        refine WC.region ?_
        refine W.mv ?_
        refine W.ok (ok_not rfl) ?_
        refine W.nil (thn_n ?_)
        refine WC.cond_t rfl rfl ?_
        refine WC.seq ?_
        refine WC.region ?_
        refine W.as ?_
        refine W.nil (thn_n ?_)
        refine WC.ret (thn_r ?_)
        refine ⟨.inr rfl, [_], ⟨rfl, trivial⟩, [], List.nil_sublist _, ?_⟩
        have hn : ∀ s : Str, s.b = ⟨#[]⟩ ↔ s = Str.nil := fun s => ⟨fun h => Str.ext' h, fun h => by rw [h]; rfl⟩
        refine congrArg (Value.int .i64) ?_
        rw [if_neg ?_]
        simp only [Opr.R]
        first | (simp_all; done) | (simp_all; omega) | grind
      · have p69 := of_decide_eq_false h69
        refine WC.region ?_
        refine W.mv ?_
        refine W.mv ?_
        refine W.no (dj := 82) rfl rfl rfl ?_
        refine W.no (dj := 82) rfl rfl rfl ?_
        refine W.no (dj := 82) rfl rfl rfl ?_
        refine W.ok (ok_pick_f rfl rfl) ?_
        refine W.as ?_
        refine W.nil (thn_n ?_)
        refine WC.seq ?_
        refine WC.seq ?_
        refine WC.region ?_
        refine W.mv ?_
        refine W.ok (ok_not rfl) ?_
        refine W.nil (thn_n ?_)
        refine WC.cond_t rfl rfl ?_
        refine WC.seq ?_
        refine WC.region ?_
        refine W.as ?_
        refine W.nil (thn_n ?_)
        refine WC.ret (thn_r ?_)
        refine ⟨.inr rfl, [_], ⟨rfl, trivial⟩, [], List.nil_sublist _, ?_⟩
        have hn : ∀ s : Str, s.b = ⟨#[]⟩ ↔ s = Str.nil := fun s => ⟨fun h => Str.ext' h, fun h => by rw [h]; rfl⟩
        refine congrArg (Value.int .i64) ?_
        rw [if_neg ?_]
        simp only [Opr.R]
        first | (simp_all; done) | (simp_all; omega) | grind
    · refine WC.region ?_
      refine W.mv ?_
      refine W.mv ?_
      refine W.no (dj := 57) rfl rfl rfl ?_
      refine W.no (dj := 57) rfl rfl rfl ?_
      refine W.no (dj := 57) rfl rfl rfl ?_
      refine W.ok (ok_pick_f rfl rfl) ?_
      refine W.mv ?_
      refine W.no (dj := 62) rfl rfl rfl ?_
      refine W.no (dj := 62) rfl rfl rfl ?_
      refine W.no (dj := 62) rfl rfl rfl ?_
      refine W.ok (ok_pick_f rfl rfl) ?_
      refine W.as ?_
      refine W.nil (thn_n ?_)
      refine WC.seq ?_
      refine WC.seq ?_
      refine WC.region ?_
      refine W.ok (ok_fieldB fd134_0 rfl) ?_
      refine W.ok (ok_loadB (i := 0) (vs := [.int .i64 _]) ty3 rfl rfl rfl rfl (by simp)) ?_
      refine W.ok (ok_eql rfl rfl) ?_
      refine W.nil (thn_n ?_)
      refine WC.cond (b := _) rfl (fun h69 => ?_) (fun h69 => ?_)
      · have p69 := of_decide_eq_true h69
        refine WC.region ?_
        refine W.mv ?_
        refine W.mv ?_
        refine W.no (dj := 71) rfl rfl rfl ?_
        refine W.no (dj := 71) rfl rfl rfl ?_
        refine W.no (dj := 71) rfl rfl rfl ?_
        refine W.ok (ok_pick_f rfl rfl) ?_
        refine W.mv ?_
        refine W.no (dj := 76) rfl rfl rfl ?_
        refine W.no (dj := 76) rfl rfl rfl ?_
        refine W.no (dj := 76) rfl rfl rfl ?_
        refine W.ok (ok_pick_f rfl rfl) ?_
        refine W.as ?_
        refine W.nil (thn_n ?_)
        refine WC.seq ?_
        refine WC.seq ?_
        refine WC.region ?_
        refine W.mv ?_
        refine W.ok (ok_not rfl) ?_
        refine W.nil (thn_n ?_)
        refine WC.cond_t rfl rfl ?_
        refine WC.seq ?_
        refine WC.region ?_
        refine W.as ?_
        refine W.nil (thn_n ?_)
        refine WC.ret (thn_r ?_)
        refine ⟨.inr rfl, [_], ⟨rfl, trivial⟩, [], List.nil_sublist _, ?_⟩
        have hn : ∀ s : Str, s.b = ⟨#[]⟩ ↔ s = Str.nil := fun s => ⟨fun h => Str.ext' h, fun h => by rw [h]; rfl⟩
        refine congrArg (Value.int .i64) ?_
        rw [if_neg ?_]
        simp only [Opr.R]
        first | (simp_all; done) | (simp_all; omega) | grind
      · have p69 := of_decide_eq_false h69
        refine WC.region ?_
        refine W.mv ?_
        refine W.mv ?_
        refine W.no (dj := 82) rfl rfl rfl ?_
        refine W.no (dj := 82) rfl rfl rfl ?_
        refine W.no (dj := 82) rfl rfl rfl ?_
        refine W.ok (ok_pick_f rfl rfl) ?_
        refine W.as ?_
        refine W.nil (thn_n ?_)
        refine WC.seq ?_
        refine WC.seq ?_
        refine WC.region ?_
        refine W.mv ?_
        refine W.ok (ok_not rfl) ?_
        refine W.nil (thn_n ?_)
        refine WC.cond_t rfl rfl ?_
        refine WC.seq ?_
        refine WC.region ?_
        refine W.as ?_
        refine W.nil (thn_n ?_)
        refine WC.ret (thn_r ?_)
        refine ⟨.inr rfl, [_], ⟨rfl, trivial⟩, [], List.nil_sublist _, ?_⟩
        have hn : ∀ s : Str, s.b = ⟨#[]⟩ ↔ s = Str.nil := fun s => ⟨fun h => Str.ext' h, fun h => by rw [h]; rfl⟩
        refine congrArg (Value.int .i64) ?_
        rw [if_neg ?_]
        simp only [Opr.R]
        first | (simp_all; done) | (simp_all; omega) | grind

theorem r7long_fc {G : GH} (pk : Int) (pkey : Str) (phi : Str) (po : Bool) (pv : Str) (pl : Int) (n : Int) :
    Fc Try.prog 180 [.agg #[.int .i64 pk, .string pkey.b, .string phi.b, .bool po, .string pv.b, .int .i64 pl], .int .i64 n] G [] (fun v _ _ => v = .bool (decide ((pkey.b.size : Int) ≤ n ∧ (phi.b.size : Int) ≤ n ∧ (pv.b.size : Int) ≤ n))) := by
  have h1 := pkey.le
  have h2 := phi.le
  have h3 := pv.le
  refine Fc.intro (rs := [.tmp 4]) cl180 Try.func180 rfl Try.ntmps180 rfl rfl (fun w0 => ?_)
  refine WC.seq ?_
  refine WC.region ?_
  refine W.box (L := [.int .i64 _, .string _, .string _, .bool _, .string _, .int .i64 _]) rfl rfl (fun b2 => ?_)
  refine W.as ?_
  refine W.nil (thn_n ?_)
  refine WC.seq ?_
  refine WC.region ?_
  refine W.ok (ok_fieldB fd134_1 rfl) ?_
  refine W.ok (ok_loadB (i := 0) (vs := [.string _]) ty9 rfl rfl rfl rfl (by simp)) ?_
  refine W.ok (ok_lenS st9 rfl) ?_
  refine W.mv ?_
  refine W.ok (ok_leq rfl rfl) ?_
  refine W.mv ?_
  refine W.sp 10 rfl (fun h9 => ?_) (fun h9 => ?_)
  · have p9 := of_decide_eq_true h9
    refine W.yes (dj := 10) rfl rfl h9 ?_
    refine W.ok (ok_fieldB fd134_2 rfl) ?_
    refine W.yes (dj := 10) rfl rfl h9 ?_
    refine W.ok (ok_loadB (i := 0) (vs := [.string _]) ty9 rfl rfl rfl rfl (by simp)) ?_
    refine W.yes (dj := 10) rfl rfl h9 ?_
    refine W.ok (ok_lenS st9 rfl) ?_
    refine W.yes (dj := 10) rfl rfl h9 ?_
    refine W.mv ?_
    refine W.yes (dj := 10) rfl rfl h9 ?_
    refine W.ok (ok_leq rfl rfl) ?_
    refine W.ok (ok_pick_t rfl h9) ?_
    refine W.mv ?_
    refine W.sp 17 rfl (fun h15 => ?_) (fun h15 => ?_)
    · have p15 := of_decide_eq_true h15
      refine W.yes (dj := 17) rfl rfl h15 ?_
      refine W.ok (ok_fieldB fd134_4 rfl) ?_
      refine W.yes (dj := 17) rfl rfl h15 ?_
      refine W.ok (ok_loadB (i := 0) (vs := [.string _]) ty9 rfl rfl rfl rfl (by simp)) ?_
      refine W.yes (dj := 17) rfl rfl h15 ?_
      refine W.ok (ok_lenS st9 rfl) ?_
      refine W.yes (dj := 17) rfl rfl h15 ?_
      refine W.mv ?_
      refine W.yes (dj := 17) rfl rfl h15 ?_
      refine W.ok (ok_leq rfl rfl) ?_
      refine W.ok (ok_pick_t rfl h15) ?_
      refine W.as ?_
      refine W.nil (thn_n ?_)
      refine WC.ret ?_
      refine ⟨.inr rfl, [_], ⟨rfl, trivial⟩, [], List.nil_sublist _, ?_⟩
      refine congrArg Value.bool ?_
      first | (simp_all; done) | (simp_all; omega) | (simp_all; intros; omega)
    · have p15 := of_decide_eq_false h15
      refine W.no (dj := 17) rfl rfl h15 ?_
      refine W.no (dj := 17) rfl rfl h15 ?_
      refine W.no (dj := 17) rfl rfl h15 ?_
      refine W.no (dj := 17) rfl rfl h15 ?_
      refine W.no (dj := 17) rfl rfl h15 ?_
      refine W.ok (ok_pick_f rfl h15) ?_
      refine W.as ?_
      refine W.nil (thn_n ?_)
      refine WC.ret ?_
      refine ⟨.inr rfl, [_], ⟨rfl, trivial⟩, [], List.nil_sublist _, ?_⟩
      refine congrArg Value.bool ?_
      first | (simp_all; done) | (simp_all; omega) | (simp_all; intros; omega)
  · have p9 := of_decide_eq_false h9
    refine W.no (dj := 10) rfl rfl h9 ?_
    refine W.no (dj := 10) rfl rfl h9 ?_
    refine W.no (dj := 10) rfl rfl h9 ?_
    refine W.no (dj := 10) rfl rfl h9 ?_
    refine W.no (dj := 10) rfl rfl h9 ?_
    refine W.ok (ok_pick_f rfl h9) ?_
    refine W.mv ?_
    refine W.no (dj := 17) rfl rfl rfl ?_
    refine W.no (dj := 17) rfl rfl rfl ?_
    refine W.no (dj := 17) rfl rfl rfl ?_
    refine W.no (dj := 17) rfl rfl rfl ?_
    refine W.no (dj := 17) rfl rfl rfl ?_
    refine W.ok (ok_pick_f rfl rfl) ?_
    refine W.as ?_
    refine W.nil (thn_n ?_)
    refine WC.ret ?_
    refine ⟨.inr rfl, [_], ⟨rfl, trivial⟩, [], List.nil_sublist _, ?_⟩
    refine congrArg Value.bool ?_
    first | (simp_all; done) | (simp_all; omega) | (simp_all; intros; omega)

end Go.Proofs.Ytipdjeemjiimbaa
