/- Walks of functions on operations, by definition. -/
import Derived.Test.YthmkpaoolhcibaaDoorWl
namespace Go.Proofs.YthmkpaoolhcibaaDoor
open Go Go.Fw Go.RowKit
set_option maxRecDepth 100000
set_option maxHeartbeats 1600000
set_option linter.unusedVariables false
set_option linter.unusedSimpArgs false
set_option linter.unnecessarySimpa false
theorem opright_fc {G : GH} (pk : Int) (pkey : Str) (phi : Str) (po : Bool) (pv : Str) (pl : Int) :
    Fc Tryd.prog 25 [.agg #[.int .i64 pk, .string pkey.b, .string phi.b, .bool po, .string pv.b, .int .i64 pl]] G [] (fun v _ _ => v = .int .i64 (if Opr.R (⟨pk, pkey, phi, po, pv, pl⟩ : Opr) then 0 else 3)) := by
 have h1 := pkey.le
 have h2 := phi.le
 have h3 := pv.le
 have hn : ∀ s : Str, s.b = ⟨#[]⟩ ↔ s = Str.nil := fun s => ⟨fun h => Str.ext' h, fun h => by rw [h]; rfl⟩
 refine Fc.intro (rs := [.tmp 2]) cl25 Tryd.func25 rfl Tryd.ntmps25 rfl rfl (fun w0 => ?_)
 refine WC.seq ?_
 refine WC.region ?_
 refine W.box (L := [.int .i64 _, .string _, .string _, .bool _, .string _, .int .i64 _]) rfl rfl (fun b1 => ?_)
 refine W.as ?_
 refine W.nil (thn_n ?_)
 refine WC.join (X := Bool) (fun ok => [(3, .bool ok), (1, .pointer (some ⟨b1, 0, none⟩))]) (fun ok _ Ml => Ml = [(b1, .cells (List.toArray [.int .i64 pk, .string pkey.b, .string phi.b, .bool po, .string pv.b, .int .i64 pl]) 23 (0, 0))] ∧ ok = decide (1 ≤ pk ∧ pk ≤ 6 ∧ pkey.b.size ≤ 16 ∧ phi.b.size ≤ 16 ∧ pv.b.size ≤ 16)) ?_ ?_
 ·refine WC.region ?_
  refine W.ok (ok_fieldB fd23_0 rfl) ?_
  refine W.ok (ok_loadB (i := 0) (vs := [.int .i64 _]) ty3 rfl rfl rfl rfl (by simp)) ?_
  refine W.ok (ok_geq rfl rfl) ?_
  refine W.mv ?_
  refine W.sp 7 rfl (fun h6 => ?_) (fun h6 => ?_)
  ·have p6 := of_decide_eq_true h6
   refine W.yes (dj := 7) rfl rfl h6 ?_
   refine W.ok (ok_fieldB fd23_0 rfl) ?_
   refine W.yes (dj := 7) rfl rfl h6 ?_
   refine W.ok (ok_loadB (i := 0) (vs := [.int .i64 _]) ty3 rfl rfl rfl rfl (by simp)) ?_
   refine W.yes (dj := 7) rfl rfl h6 ?_
   refine W.ok (ok_leq rfl rfl) ?_
   refine W.ok (ok_pick_t rfl h6) ?_
   refine W.mv ?_
   refine W.sp 12 rfl (fun h10 => ?_) (fun h10 => ?_)
   ·have p10 := of_decide_eq_true h10
    refine W.yes (dj := 12) rfl rfl h10 ?_
    refine W.ok (ok_fieldB fd23_1 rfl) ?_
    refine W.yes (dj := 12) rfl rfl h10 ?_
    refine W.ok (ok_loadB (i := 0) (vs := [.string _]) ty9 rfl rfl rfl rfl (by simp)) ?_
    refine W.yes (dj := 12) rfl rfl h10 ?_
    refine W.qcall (kright_fc _) rfl ?_
    refine W.ok (ok_pick_t rfl h10) ?_
    refine W.mv ?_
    refine W.sp 17 rfl (fun h15 => ?_) (fun h15 => ?_)
    ·have k15 := of_decide_eq_true h15
     refine W.yes (dj := 17) rfl rfl h15 ?_
     refine W.ok (ok_fieldB fd23_2 rfl) ?_
     refine W.yes (dj := 17) rfl rfl h15 ?_
     refine W.ok (ok_loadB (i := 0) (vs := [.string _]) ty9 rfl rfl rfl rfl (by simp)) ?_
     refine W.yes (dj := 17) rfl rfl h15 ?_
     refine W.qcall (kright_fc _) rfl ?_
     refine W.ok (ok_pick_t rfl h15) ?_
     refine W.mv ?_
     refine W.sp 22 rfl (fun h20 => ?_) (fun h20 => ?_)
     ·have k20 := of_decide_eq_true h20
      refine W.yes (dj := 22) rfl rfl h20 ?_
      refine W.ok (ok_fieldB fd23_4 rfl) ?_
      refine W.yes (dj := 22) rfl rfl h20 ?_
      refine W.ok (ok_loadB (i := 0) (vs := [.string _]) ty9 rfl rfl rfl rfl (by simp)) ?_
      refine W.yes (dj := 22) rfl rfl h20 ?_
      refine W.qcall (vright_fc _) rfl ?_
      refine W.ok (ok_pick_t rfl h20) ?_
      refine W.as ?_
      refine W.nil (thn_n ?_)
      exact ⟨Le.rfl, _, ⟨(by first | rfl | exact iv (by dsimp only; omega) | exact iv (by omega)), (by first | rfl | exact iv (by dsimp only; omega) | exact iv (by omega)), trivial⟩, ⟨rfl, (by rw [Bool.eq_iff_iff, decide_eq_true_iff]; first | (simp_all; done) | (simp_all; omega) | grind)⟩⟩
     ·refine W.no (dj := 22) rfl rfl h20 ?_
      refine W.no (dj := 22) rfl rfl h20 ?_
      refine W.no (dj := 22) rfl rfl h20 ?_
      refine W.ok (ok_pick_f rfl h20) ?_
      refine W.as ?_
      refine W.nil (thn_n ?_)
      exact ⟨Le.rfl, _, ⟨(by first | rfl | exact iv (by dsimp only; omega) | exact iv (by omega)), (by first | rfl | exact iv (by dsimp only; omega) | exact iv (by omega)), trivial⟩, ⟨rfl, (by rw [Bool.eq_iff_iff, decide_eq_true_iff]; first | (simp_all; done) | (simp_all; omega) | grind)⟩⟩
    ·refine W.no (dj := 17) rfl rfl h15 ?_
     refine W.no (dj := 17) rfl rfl h15 ?_
     refine W.no (dj := 17) rfl rfl h15 ?_
     refine W.ok (ok_pick_f rfl h15) ?_
     refine W.mv ?_
     refine W.no (dj := 22) rfl rfl rfl ?_
     refine W.no (dj := 22) rfl rfl rfl ?_
     refine W.no (dj := 22) rfl rfl rfl ?_
     refine W.ok (ok_pick_f rfl rfl) ?_
     refine W.as ?_
     refine W.nil (thn_n ?_)
     exact ⟨Le.rfl, _, ⟨(by first | rfl | exact iv (by dsimp only; omega) | exact iv (by omega)), (by first | rfl | exact iv (by dsimp only; omega) | exact iv (by omega)), trivial⟩, ⟨rfl, (by rw [Bool.eq_iff_iff, decide_eq_true_iff]; first | (simp_all; done) | (simp_all; omega) | grind)⟩⟩
   ·have p10 := of_decide_eq_false h10
    refine W.no (dj := 12) rfl rfl h10 ?_
    refine W.no (dj := 12) rfl rfl h10 ?_
    refine W.no (dj := 12) rfl rfl h10 ?_
    refine W.ok (ok_pick_f rfl h10) ?_
    refine W.mv ?_
    refine W.no (dj := 17) rfl rfl rfl ?_
    refine W.no (dj := 17) rfl rfl rfl ?_
    refine W.no (dj := 17) rfl rfl rfl ?_
    refine W.ok (ok_pick_f rfl rfl) ?_
    refine W.mv ?_
    refine W.no (dj := 22) rfl rfl rfl ?_
    refine W.no (dj := 22) rfl rfl rfl ?_
    refine W.no (dj := 22) rfl rfl rfl ?_
    refine W.ok (ok_pick_f rfl rfl) ?_
    refine W.as ?_
    refine W.nil (thn_n ?_)
    exact ⟨Le.rfl, _, ⟨(by first | rfl | exact iv (by dsimp only; omega) | exact iv (by omega)), (by first | rfl | exact iv (by dsimp only; omega) | exact iv (by omega)), trivial⟩, ⟨rfl, (by rw [Bool.eq_iff_iff, decide_eq_true_iff]; first | (simp_all; done) | (simp_all; omega) | grind)⟩⟩
  ·have p6 := of_decide_eq_false h6
   refine W.no (dj := 7) rfl rfl h6 ?_
   refine W.no (dj := 7) rfl rfl h6 ?_
   refine W.no (dj := 7) rfl rfl h6 ?_
   refine W.ok (ok_pick_f rfl h6) ?_
   refine W.mv ?_
   refine W.no (dj := 12) rfl rfl rfl ?_
   refine W.no (dj := 12) rfl rfl rfl ?_
   refine W.no (dj := 12) rfl rfl rfl ?_
   refine W.ok (ok_pick_f rfl rfl) ?_
   refine W.mv ?_
   refine W.no (dj := 17) rfl rfl rfl ?_
   refine W.no (dj := 17) rfl rfl rfl ?_
   refine W.no (dj := 17) rfl rfl rfl ?_
   refine W.ok (ok_pick_f rfl rfl) ?_
   refine W.mv ?_
   refine W.no (dj := 22) rfl rfl rfl ?_
   refine W.no (dj := 22) rfl rfl rfl ?_
   refine W.no (dj := 22) rfl rfl rfl ?_
   refine W.ok (ok_pick_f rfl rfl) ?_
   refine W.as ?_
   refine W.nil (thn_n ?_)
   exact ⟨Le.rfl, _, ⟨(by first | rfl | exact iv (by dsimp only; omega) | exact iv (by omega)), (by first | rfl | exact iv (by dsimp only; omega) | exact iv (by omega)), trivial⟩, ⟨rfl, (by rw [Bool.eq_iff_iff, decide_eq_true_iff]; first | (simp_all; done) | (simp_all; omega) | grind)⟩⟩
 ·rintro ok gG2 G2 _ hG2 ⟨rfl, hok⟩
  refine WC.join (X := Bool) (fun ok => [(3, .bool ok), (1, .pointer (some ⟨b1, 0, none⟩))]) (fun ok _ Ml => Ml = [(b1, .cells (List.toArray [.int .i64 pk, .string pkey.b, .string phi.b, .bool po, .string pv.b, .int .i64 pl]) 23 (0, 0))] ∧ ok = decide (1 ≤ pk ∧ pk ≤ 6 ∧ pkey.b.size ≤ 16 ∧ phi.b.size ≤ 16 ∧ pv.b.size ≤ 16 ∧ (2 < pk → pv = Str.nil) ∧ (po = false ∨ phi = Str.nil))) ?_ ?_
  ·refine WC.region ?_
   refine W.mv ?_
   refine W.mv ?_
   refine W.sp 28 rfl (fun hokb => ?_) (fun hokb => ?_)
   ·have hP := of_decide_eq_true (hok.symm.trans hokb)
    have hks : pkey.b.size < 140737488355328 := by omega
    refine W.yes (dj := 28) rfl rfl hokb ?_
    refine W.ok (ok_loadB (i := 0) (vs := [.int .i64 _, .string _, .string _, .bool _, .string _, .int .i64 _]) ty23 rfl rfl rfl rfl (by simp)) ?_
    refine W.yes (dj := 28) rfl rfl hokb ?_
    refine W.qcall (valued_fc _ _ _ _ _ _) rfl ?_
    refine W.yes (dj := 28) rfl rfl hokb ?_
    refine W.mv ?_
    refine W.sp 31 rfl (fun h30 => ?_) (fun h30 => ?_)
    ·refine W.no (dj := 31) rfl rfl h30 ?_
     refine W.no (dj := 31) rfl rfl h30 ?_
     refine W.no (dj := 31) rfl rfl h30 ?_
     refine W.yes (dj := 28) rfl rfl hokb ?_
     refine W.ok (ok_pick_t rfl h30) ?_
     refine W.ok (ok_pick_t rfl hokb) ?_
     refine W.mv ?_
     refine W.yes (dj := 37) rfl rfl rfl ?_
     refine W.ok (ok_fieldB fd23_3 rfl) ?_
     refine W.yes (dj := 37) rfl rfl rfl ?_
     refine W.ok (ok_loadB (i := 0) (vs := [.bool _]) ty4 rfl rfl rfl rfl (by simp)) ?_
     refine W.yes (dj := 37) rfl rfl rfl ?_
     refine W.ok (ok_not rfl) ?_
     refine W.yes (dj := 37) rfl rfl rfl ?_
     refine W.mv ?_
     refine W.sp 41 rfl (fun h40 => ?_) (fun h40 => ?_)
     ·refine W.no (dj := 41) rfl rfl h40 ?_
      refine W.no (dj := 41) rfl rfl h40 ?_
      refine W.no (dj := 41) rfl rfl h40 ?_
      refine W.yes (dj := 37) rfl rfl rfl ?_
      refine W.ok (ok_pick_t rfl h40) ?_
      refine W.ok (ok_pick_t rfl rfl) ?_
      refine W.as ?_
      refine W.nil (thn_n ?_)
      exact ⟨Le.rfl, _, ⟨(by first | rfl | exact iv (by dsimp only; omega) | exact iv (by omega)), (by first | rfl | exact iv (by dsimp only; omega) | exact iv (by omega)), trivial⟩, ⟨rfl, (by rw [Bool.eq_iff_iff, decide_eq_true_iff]; first | (simp_all; done) | (simp_all; omega) | grind)⟩⟩
     ·refine W.yes (dj := 41) rfl rfl h40 ?_
      refine W.ok (ok_fieldB fd23_2 rfl) ?_
      refine W.yes (dj := 41) rfl rfl h40 ?_
      refine W.ok (ok_loadB (i := 0) (vs := [.string _]) ty9 rfl rfl rfl rfl (by simp)) ?_
      refine W.yes (dj := 41) rfl rfl h40 ?_
      refine W.ok (ok_eqlS rfl rfl) ?_
      refine W.yes (dj := 37) rfl rfl rfl ?_
      refine W.ok (ok_pick_f rfl h40) ?_
      refine W.ok (ok_pick_t rfl rfl) ?_
      refine W.as ?_
      refine W.nil (thn_n ?_)
      exact ⟨Le.rfl, _, ⟨(by first | rfl | exact iv (by dsimp only; omega) | exact iv (by omega)), (by first | rfl | exact iv (by dsimp only; omega) | exact iv (by omega)), trivial⟩, ⟨rfl, (by rw [Bool.eq_iff_iff, decide_eq_true_iff]; first | (simp_all; done) | (simp_all; omega) | grind)⟩⟩
    ·refine W.yes (dj := 31) rfl rfl h30 ?_
     refine W.ok (ok_fieldB fd23_4 rfl) ?_
     refine W.yes (dj := 31) rfl rfl h30 ?_
     refine W.ok (ok_loadB (i := 0) (vs := [.string _]) ty9 rfl rfl rfl rfl (by simp)) ?_
     refine W.yes (dj := 31) rfl rfl h30 ?_
     refine W.ok (ok_eqlS rfl rfl) ?_
     refine W.yes (dj := 28) rfl rfl hokb ?_
     refine W.ok (ok_pick_f rfl h30) ?_
     refine W.ok (ok_pick_t rfl hokb) ?_
     refine W.mv ?_
     refine W.sp 37 rfl (fun h34 => ?_) (fun h34 => ?_)
     ·have p34 := of_decide_eq_true h34
      refine W.yes (dj := 37) rfl rfl h34 ?_
      refine W.ok (ok_fieldB fd23_3 rfl) ?_
      refine W.yes (dj := 37) rfl rfl h34 ?_
      refine W.ok (ok_loadB (i := 0) (vs := [.bool _]) ty4 rfl rfl rfl rfl (by simp)) ?_
      refine W.yes (dj := 37) rfl rfl h34 ?_
      refine W.ok (ok_not rfl) ?_
      refine W.yes (dj := 37) rfl rfl h34 ?_
      refine W.mv ?_
      refine W.sp 41 rfl (fun h40 => ?_) (fun h40 => ?_)
      ·refine W.no (dj := 41) rfl rfl h40 ?_
       refine W.no (dj := 41) rfl rfl h40 ?_
       refine W.no (dj := 41) rfl rfl h40 ?_
       refine W.yes (dj := 37) rfl rfl h34 ?_
       refine W.ok (ok_pick_t rfl h40) ?_
       refine W.ok (ok_pick_t rfl h34) ?_
       refine W.as ?_
       refine W.nil (thn_n ?_)
       exact ⟨Le.rfl, _, ⟨(by first | rfl | exact iv (by dsimp only; omega) | exact iv (by omega)), (by first | rfl | exact iv (by dsimp only; omega) | exact iv (by omega)), trivial⟩, ⟨rfl, (by rw [Bool.eq_iff_iff, decide_eq_true_iff]; first | (simp_all; done) | (simp_all; omega) | grind)⟩⟩
      ·refine W.yes (dj := 41) rfl rfl h40 ?_
       refine W.ok (ok_fieldB fd23_2 rfl) ?_
       refine W.yes (dj := 41) rfl rfl h40 ?_
       refine W.ok (ok_loadB (i := 0) (vs := [.string _]) ty9 rfl rfl rfl rfl (by simp)) ?_
       refine W.yes (dj := 41) rfl rfl h40 ?_
       refine W.ok (ok_eqlS rfl rfl) ?_
       refine W.yes (dj := 37) rfl rfl h34 ?_
       refine W.ok (ok_pick_f rfl h40) ?_
       refine W.ok (ok_pick_t rfl h34) ?_
       refine W.as ?_
       refine W.nil (thn_n ?_)
       exact ⟨Le.rfl, _, ⟨(by first | rfl | exact iv (by dsimp only; omega) | exact iv (by omega)), (by first | rfl | exact iv (by dsimp only; omega) | exact iv (by omega)), trivial⟩, ⟨rfl, (by rw [Bool.eq_iff_iff, decide_eq_true_iff]; first | (simp_all; done) | (simp_all; omega) | grind)⟩⟩
     ·have p34 := of_decide_eq_false h34
      refine W.no (dj := 37) rfl rfl h34 ?_
      refine W.no (dj := 37) rfl rfl h34 ?_
      refine W.no (dj := 37) rfl rfl h34 ?_
      refine W.no (dj := 37) rfl rfl h34 ?_
      refine W.nou (dj := 41) rfl rfl ?_
      refine W.nou (dj := 41) rfl rfl ?_
      refine W.nou (dj := 41) rfl rfl ?_
      refine W.no (dj := 37) rfl rfl h34 ?_
      refine W.ok (ok_pick_f rfl h34) ?_
      refine W.as ?_
      refine W.nil (thn_n ?_)
      exact ⟨Le.rfl, _, ⟨(by first | rfl | exact iv (by dsimp only; omega) | exact iv (by omega)), (by first | rfl | exact iv (by dsimp only; omega) | exact iv (by omega)), trivial⟩, ⟨rfl, (by rw [Bool.eq_iff_iff, decide_eq_true_iff]; first | (simp_all; done) | (simp_all; omega) | grind)⟩⟩
   ·refine W.no (dj := 28) rfl rfl hokb ?_
    refine W.no (dj := 28) rfl rfl hokb ?_
    refine W.no (dj := 28) rfl rfl hokb ?_
    refine W.nou (dj := 31) rfl rfl ?_
    refine W.nou (dj := 31) rfl rfl ?_
    refine W.nou (dj := 31) rfl rfl ?_
    refine W.no (dj := 28) rfl rfl hokb ?_
    refine W.ok (ok_pick_f rfl hokb) ?_
    refine W.mv ?_
    refine W.no (dj := 37) rfl rfl rfl ?_
    refine W.no (dj := 37) rfl rfl rfl ?_
    refine W.no (dj := 37) rfl rfl rfl ?_
    refine W.no (dj := 37) rfl rfl rfl ?_
    refine W.nou (dj := 41) rfl rfl ?_
    refine W.nou (dj := 41) rfl rfl ?_
    refine W.nou (dj := 41) rfl rfl ?_
    refine W.no (dj := 37) rfl rfl rfl ?_
    refine W.ok (ok_pick_f rfl rfl) ?_
    refine W.as ?_
    refine W.nil (thn_n ?_)
    exact ⟨Le.rfl, _, ⟨(by first | rfl | exact iv (by dsimp only; omega) | exact iv (by omega)), (by first | rfl | exact iv (by dsimp only; omega) | exact iv (by omega)), trivial⟩, ⟨rfl, (by rw [Bool.eq_iff_iff, decide_eq_true_iff]; first | (simp_all; done) | (simp_all; omega) | grind)⟩⟩
  ·rintro ok gG3 G3 _ hG3 ⟨rfl, hok⟩
   refine WC.join (X := Bool) (fun ok => [(3, .bool ok), (1, .pointer (some ⟨b1, 0, none⟩))]) (fun ok _ Ml => Ml = [(b1, .cells (List.toArray [.int .i64 pk, .string pkey.b, .string phi.b, .bool po, .string pv.b, .int .i64 pl]) 23 (0, 0))] ∧ ok = decide (1 ≤ pk ∧ pk ≤ 6 ∧ pkey.b.size ≤ 16 ∧ phi.b.size ≤ 16 ∧ pv.b.size ≤ 16 ∧ (2 < pk → pv = Str.nil) ∧ (po = false ∨ phi = Str.nil) ∧ if pk = 4 ∨ pk = 6 then (Opr.span (⟨pk, pkey, phi, po, pv, pl⟩ : Opr)).empty = false else phi = Str.nil ∧ po = false)) ?_ ?_
   ·refine WC.seq ?_
    refine WC.region ?_
    refine W.ok (ok_loadB (i := 0) (vs := [.int .i64 _, .string _, .string _, .bool _, .string _, .int .i64 _]) ty23 rfl rfl rfl rfl (by simp)) ?_
    refine W.qcall (ranged_fc _ _ _ _ _ _) rfl ?_
    refine W.nil (thn_n ?_)
    refine WC.cond (b := _) rfl (fun h48 => ?_) (fun h48 => ?_)
    ·refine WC.region ?_
     refine W.mv ?_
     refine W.mv ?_
     refine W.sp 50 rfl (fun hokb => ?_) (fun hokb => ?_)
     ·have hP := of_decide_eq_true (hok.symm.trans hokb)
      have hks : pkey.b.size < 140737488355328 := by omega
      refine W.yes (dj := 50) rfl rfl hokb ?_
      refine W.ok (ok_loadB (i := 0) (vs := [.int .i64 _, .string _, .string _, .bool _, .string _, .int .i64 _]) ty23 rfl rfl rfl rfl (by simp)) ?_
      refine W.yes (dj := 50) rfl rfl hokb ?_
      refine W.qcall (opspan_fc _ _ _ _ _ _ (by first | assumption | omega | (dsimp only; omega))) rfl ?_
      refine W.yes (dj := 50) rfl rfl hokb ?_
      refine W.qcall (spanempty_fc _ _ _) rfl ?_
      refine W.yes (dj := 50) rfl rfl hokb ?_
      refine W.ok (ok_not rfl) ?_
      refine W.ok (ok_pick_t rfl hokb) ?_
      refine W.as ?_
      refine W.nil (thn_n ?_)
      exact ⟨Le.rfl, _, ⟨(by first | rfl | exact iv (by dsimp only; omega) | exact iv (by omega)), (by first | rfl | exact iv (by dsimp only; omega) | exact iv (by omega)), trivial⟩, ⟨rfl, (by rw [Bool.eq_iff_iff, decide_eq_true_iff]; show (!(Opr.span (⟨pk, pkey, phi, po, pv, pl⟩ : Opr)).empty) = true ↔ _; rw [if_pos (of_decide_eq_true h48)]; first | (simp_all; done) | (simp_all; omega) | grind)⟩⟩
     ·refine W.no (dj := 50) rfl rfl hokb ?_
      refine W.no (dj := 50) rfl rfl hokb ?_
      refine W.no (dj := 50) rfl rfl hokb ?_
      refine W.no (dj := 50) rfl rfl hokb ?_
      refine W.ok (ok_pick_f rfl hokb) ?_
      refine W.as ?_
      refine W.nil (thn_n ?_)
      exact ⟨Le.rfl, _, ⟨(by first | rfl | exact iv (by dsimp only; omega) | exact iv (by omega)), (by first | rfl | exact iv (by dsimp only; omega) | exact iv (by omega)), trivial⟩, ⟨rfl, (by refine (decide_eq_false fun h => of_decide_eq_false (hok.symm.trans hokb) ?_).symm; obtain ⟨a, b, c, d, e, f, g, _⟩ := h; exact ⟨a, b, c, d, e, f, g⟩)⟩⟩
    ·refine WC.region ?_
     refine W.mv ?_
     refine W.mv ?_
     refine W.sp 57 rfl (fun hokb => ?_) (fun hokb => ?_)
     ·have hP := of_decide_eq_true (hok.symm.trans hokb)
      have hks : pkey.b.size < 140737488355328 := by omega
      refine W.yes (dj := 57) rfl rfl hokb ?_
      refine W.ok (ok_fieldB fd23_2 rfl) ?_
      refine W.yes (dj := 57) rfl rfl hokb ?_
      refine W.ok (ok_loadB (i := 0) (vs := [.string _]) ty9 rfl rfl rfl rfl (by simp)) ?_
      refine W.yes (dj := 57) rfl rfl hokb ?_
      refine W.ok (ok_eqlS rfl rfl) ?_
      refine W.ok (ok_pick_t rfl hokb) ?_
      refine W.mv ?_
      refine W.sp 62 rfl (fun h60 => ?_) (fun h60 => ?_)
      ·have p60 := of_decide_eq_true h60
       refine W.yes (dj := 62) rfl rfl h60 ?_
       refine W.ok (ok_fieldB fd23_3 rfl) ?_
       refine W.yes (dj := 62) rfl rfl h60 ?_
       refine W.ok (ok_loadB (i := 0) (vs := [.bool _]) ty4 rfl rfl rfl rfl (by simp)) ?_
       refine W.yes (dj := 62) rfl rfl h60 ?_
       refine W.ok (ok_not rfl) ?_
       refine W.ok (ok_pick_t rfl h60) ?_
       refine W.as ?_
       refine W.nil (thn_n ?_)
       exact ⟨Le.rfl, _, ⟨(by first | rfl | exact iv (by dsimp only; omega) | exact iv (by omega)), (by first | rfl | exact iv (by dsimp only; omega) | exact iv (by omega)), trivial⟩, ⟨rfl, (by rw [Bool.eq_iff_iff, decide_eq_true_iff]; rw [if_neg (of_decide_eq_false h48)]; first | (simp_all; done) | (simp_all; omega) | grind)⟩⟩
      ·have p60 := of_decide_eq_false h60
       refine W.no (dj := 62) rfl rfl h60 ?_
       refine W.no (dj := 62) rfl rfl h60 ?_
       refine W.no (dj := 62) rfl rfl h60 ?_
       refine W.ok (ok_pick_f rfl h60) ?_
       refine W.as ?_
       refine W.nil (thn_n ?_)
       exact ⟨Le.rfl, _, ⟨(by first | rfl | exact iv (by dsimp only; omega) | exact iv (by omega)), (by first | rfl | exact iv (by dsimp only; omega) | exact iv (by omega)), trivial⟩, ⟨rfl, (by rw [Bool.eq_iff_iff, decide_eq_true_iff]; rw [if_neg (of_decide_eq_false h48)]; first | (simp_all; done) | (simp_all; omega) | grind)⟩⟩
     ·refine W.no (dj := 57) rfl rfl hokb ?_
      refine W.no (dj := 57) rfl rfl hokb ?_
      refine W.no (dj := 57) rfl rfl hokb ?_
      refine W.ok (ok_pick_f rfl hokb) ?_
      refine W.mv ?_
      refine W.no (dj := 62) rfl rfl rfl ?_
      refine W.no (dj := 62) rfl rfl rfl ?_
      refine W.no (dj := 62) rfl rfl rfl ?_
      refine W.ok (ok_pick_f rfl rfl) ?_
      refine W.as ?_
      refine W.nil (thn_n ?_)
      exact ⟨Le.rfl, _, ⟨(by first | rfl | exact iv (by dsimp only; omega) | exact iv (by omega)), (by first | rfl | exact iv (by dsimp only; omega) | exact iv (by omega)), trivial⟩, ⟨rfl, (by rw [Bool.eq_iff_iff, decide_eq_true_iff]; rw [if_neg (of_decide_eq_false h48)]; first | (simp_all; done) | (simp_all; omega) | grind)⟩⟩
   ·rintro ok gG4 G4 _ hG4 ⟨rfl, hok⟩
    refine WC.join (X := Bool) (fun ok => [(3, .bool ok)]) (fun ok _ Ml => Ml = [(b1, .cells (List.toArray [.int .i64 pk, .string pkey.b, .string phi.b, .bool po, .string pv.b, .int .i64 pl]) 23 (0, 0))] ∧ ok = decide (Opr.R (⟨pk, pkey, phi, po, pv, pl⟩ : Opr))) ?_ ?_
    ·refine WC.seq ?_
     refine WC.region ?_
     refine W.ok (ok_fieldB fd23_0 rfl) ?_
     refine W.ok (ok_loadB (i := 0) (vs := [.int .i64 _]) ty3 rfl rfl rfl rfl (by simp)) ?_
     refine W.ok (ok_eql rfl rfl) ?_
     refine W.nil (thn_n ?_)
     refine WC.cond (b := _) rfl (fun h69 => ?_) (fun h69 => ?_)
     ·have p69 := of_decide_eq_true h69
      refine WC.region ?_
      refine W.mv ?_
      refine W.mv ?_
      refine W.sp 71 rfl (fun hokb => ?_) (fun hokb => ?_)
      ·have hP := of_decide_eq_true (hok.symm.trans hokb)
       have hks : pkey.b.size < 140737488355328 := by omega
       refine W.yes (dj := 71) rfl rfl hokb ?_
       refine W.ok (ok_fieldB fd23_5 rfl) ?_
       refine W.yes (dj := 71) rfl rfl hokb ?_
       refine W.ok (ok_loadB (i := 0) (vs := [.int .i64 _]) ty3 rfl rfl rfl rfl (by simp)) ?_
       refine W.yes (dj := 71) rfl rfl hokb ?_
       refine W.ok (ok_geq rfl rfl) ?_
       refine W.ok (ok_pick_t rfl hokb) ?_
       refine W.mv ?_
       refine W.sp 76 rfl (fun h74 => ?_) (fun h74 => ?_)
       ·have p74 := of_decide_eq_true h74
        refine W.yes (dj := 76) rfl rfl h74 ?_
        refine W.ok (ok_fieldB fd23_5 rfl) ?_
        refine W.yes (dj := 76) rfl rfl h74 ?_
        refine W.ok (ok_loadB (i := 0) (vs := [.int .i64 _]) ty3 rfl rfl rfl rfl (by simp)) ?_
        refine W.yes (dj := 76) rfl rfl h74 ?_
        refine W.ok (ok_leq rfl rfl) ?_
        refine W.ok (ok_pick_t rfl h74) ?_
        refine W.as ?_
        refine W.nil (thn_n ?_)
        exact ⟨Le.rfl, _, ⟨(by first | rfl | exact iv (by dsimp only; omega) | exact iv (by omega)), trivial⟩, ⟨rfl, (by rw [Bool.eq_iff_iff, decide_eq_true_iff]; simp only [Opr.R]; first | (simp_all; done) | (simp_all; omega) | grind)⟩⟩
       ·have p74 := of_decide_eq_false h74
        refine W.no (dj := 76) rfl rfl h74 ?_
        refine W.no (dj := 76) rfl rfl h74 ?_
        refine W.no (dj := 76) rfl rfl h74 ?_
        refine W.ok (ok_pick_f rfl h74) ?_
        refine W.as ?_
        refine W.nil (thn_n ?_)
        exact ⟨Le.rfl, _, ⟨(by first | rfl | exact iv (by dsimp only; omega) | exact iv (by omega)), trivial⟩, ⟨rfl, (by rw [Bool.eq_iff_iff, decide_eq_true_iff]; simp only [Opr.R]; first | (simp_all; done) | (simp_all; omega) | grind)⟩⟩
      ·refine W.no (dj := 71) rfl rfl hokb ?_
       refine W.no (dj := 71) rfl rfl hokb ?_
       refine W.no (dj := 71) rfl rfl hokb ?_
       refine W.ok (ok_pick_f rfl hokb) ?_
       refine W.mv ?_
       refine W.no (dj := 76) rfl rfl rfl ?_
       refine W.no (dj := 76) rfl rfl rfl ?_
       refine W.no (dj := 76) rfl rfl rfl ?_
       refine W.ok (ok_pick_f rfl rfl) ?_
       refine W.as ?_
       refine W.nil (thn_n ?_)
       exact ⟨Le.rfl, _, ⟨(by first | rfl | exact iv (by dsimp only; omega) | exact iv (by omega)), trivial⟩, ⟨rfl, (by rw [Bool.eq_iff_iff, decide_eq_true_iff]; simp only [Opr.R]; first | (simp_all; done) | (simp_all; omega) | grind)⟩⟩
     ·have p69 := of_decide_eq_false h69
      refine WC.region ?_
      refine W.mv ?_
      refine W.mv ?_
      refine W.sp 82 rfl (fun hokb => ?_) (fun hokb => ?_)
      ·have hP := of_decide_eq_true (hok.symm.trans hokb)
       have hks : pkey.b.size < 140737488355328 := by omega
       refine W.yes (dj := 82) rfl rfl hokb ?_
       refine W.ok (ok_fieldB fd23_5 rfl) ?_
       refine W.yes (dj := 82) rfl rfl hokb ?_
       refine W.ok (ok_loadB (i := 0) (vs := [.int .i64 _]) ty3 rfl rfl rfl rfl (by simp)) ?_
       refine W.yes (dj := 82) rfl rfl hokb ?_
       refine W.ok (ok_eql rfl rfl) ?_
       refine W.ok (ok_pick_t rfl hokb) ?_
       refine W.as ?_
       refine W.nil (thn_n ?_)
       exact ⟨Le.rfl, _, ⟨(by first | rfl | exact iv (by dsimp only; omega) | exact iv (by omega)), trivial⟩, ⟨rfl, (by rw [Bool.eq_iff_iff, decide_eq_true_iff]; simp only [Opr.R]; first | (simp_all; done) | (simp_all; omega) | grind)⟩⟩
      ·refine W.no (dj := 82) rfl rfl hokb ?_
       refine W.no (dj := 82) rfl rfl hokb ?_
       refine W.no (dj := 82) rfl rfl hokb ?_
       refine W.ok (ok_pick_f rfl hokb) ?_
       refine W.as ?_
       refine W.nil (thn_n ?_)
       exact ⟨Le.rfl, _, ⟨(by first | rfl | exact iv (by dsimp only; omega) | exact iv (by omega)), trivial⟩, ⟨rfl, (by rw [Bool.eq_iff_iff, decide_eq_true_iff]; simp only [Opr.R]; first | (simp_all; done) | (simp_all; omega) | grind)⟩⟩
    ·rintro ok gG5 G5 _ hG5 ⟨rfl, hok⟩
     refine WC.seq ?_
     refine WC.seq ?_
     refine WC.region ?_
     refine W.mv ?_
     refine W.ok (ok_not rfl) ?_
     refine W.nil (thn_n ?_)
     refine WC.cond (b := _) rfl (fun h88 => ?_) (fun h88 => ?_)
     ·refine WC.seq ?_
      refine WC.region ?_
      refine W.as ?_
      refine W.nil (thn_n ?_)
      refine WC.ret (thn_r ?_)
      refine ⟨.inr rfl, [_], ⟨rfl, trivial⟩, [], List.nil_sublist _, ?_⟩
      refine congrArg (Value.int .i64) ?_
      subst hok
      rw [if_neg (by simpa using h88)]
     ·refine WC.skip (thn_n ?_)
      refine WC.seq ?_
      refine WC.region ?_
      refine W.as ?_
      refine W.nil (thn_n ?_)
      refine WC.ret ?_
      refine ⟨.inr rfl, [_], ⟨rfl, trivial⟩, [], List.nil_sublist _, ?_⟩
      refine congrArg (Value.int .i64) ?_
      subst hok
      rw [if_pos (by simpa using h88)]

theorem r7long_fc {G : GH} (pk : Int) (pkey : Str) (phi : Str) (po : Bool) (pv : Str) (pl : Int) (n : Int) :
    Fc Tryd.prog 24 [.agg #[.int .i64 pk, .string pkey.b, .string phi.b, .bool po, .string pv.b, .int .i64 pl], .int .i64 n] G [] (fun v _ _ => v = .bool (decide ((pkey.b.size : Int) ≤ n ∧ (phi.b.size : Int) ≤ n ∧ (pv.b.size : Int) ≤ n))) := by
 have h1 := pkey.le
 have h2 := phi.le
 have h3 := pv.le
 refine Fc.intro (rs := [.tmp 4]) cl24 Tryd.func24 rfl Tryd.ntmps24 rfl rfl (fun w0 => ?_)
 refine WC.seq ?_
 refine WC.region ?_
 refine W.box (L := [.int .i64 _, .string _, .string _, .bool _, .string _, .int .i64 _]) rfl rfl (fun b6 => ?_)
 refine W.as ?_
 refine W.nil (thn_n ?_)
 refine WC.seq ?_
 refine WC.region ?_
 refine W.ok (ok_fieldB fd23_1 rfl) ?_
 refine W.ok (ok_loadB (i := 0) (vs := [.string _]) ty9 rfl rfl rfl rfl (by simp)) ?_
 refine W.ok (ok_lenS st9 rfl) ?_
 refine W.mv ?_
 refine W.ok (ok_leq rfl rfl) ?_
 refine W.mv ?_
 refine W.sp 10 rfl (fun h9 => ?_) (fun h9 => ?_)
 ·have p9 := of_decide_eq_true h9
  refine W.yes (dj := 10) rfl rfl h9 ?_
  refine W.ok (ok_fieldB fd23_2 rfl) ?_
  refine W.yes (dj := 10) rfl rfl h9 ?_
  refine W.ok (ok_loadB (i := 0) (vs := [.string _]) ty9 rfl rfl rfl rfl (by simp)) ?_
  refine W.yes (dj := 10) rfl rfl h9 ?_
  refine W.ok (ok_lenS st9 rfl) ?_
  refine W.yes (dj := 10) rfl rfl h9 ?_
  refine W.mv ?_
  refine W.yes (dj := 10) rfl rfl h9 ?_
  refine W.ok (ok_leq rfl rfl) ?_
  refine W.ok (ok_pick_t rfl h9) ?_
  refine W.mv ?_
  refine W.sp 17 rfl (fun h15 => ?_) (fun h15 => ?_)
  ·have p15 := of_decide_eq_true h15
   refine W.yes (dj := 17) rfl rfl h15 ?_
   refine W.ok (ok_fieldB fd23_4 rfl) ?_
   refine W.yes (dj := 17) rfl rfl h15 ?_
   refine W.ok (ok_loadB (i := 0) (vs := [.string _]) ty9 rfl rfl rfl rfl (by simp)) ?_
   refine W.yes (dj := 17) rfl rfl h15 ?_
   refine W.ok (ok_lenS st9 rfl) ?_
   refine W.yes (dj := 17) rfl rfl h15 ?_
   refine W.mv ?_
   refine W.yes (dj := 17) rfl rfl h15 ?_
   refine W.ok (ok_leq rfl rfl) ?_
   refine W.ok (ok_pick_t rfl h15) ?_
   refine W.as ?_
   refine W.nil (thn_n ?_)
   refine WC.ret ?_
   refine ⟨.inr rfl, [_], ⟨rfl, trivial⟩, [], List.nil_sublist _, ?_⟩
   refine congrArg Value.bool ?_
   first | (simp_all; done) | (simp_all; omega) | (simp_all; intros; omega)
  ·have p15 := of_decide_eq_false h15
   refine W.no (dj := 17) rfl rfl h15 ?_
   refine W.no (dj := 17) rfl rfl h15 ?_
   refine W.no (dj := 17) rfl rfl h15 ?_
   refine W.no (dj := 17) rfl rfl h15 ?_
   refine W.no (dj := 17) rfl rfl h15 ?_
   refine W.ok (ok_pick_f rfl h15) ?_
   refine W.as ?_
   refine W.nil (thn_n ?_)
   refine WC.ret ?_
   refine ⟨.inr rfl, [_], ⟨rfl, trivial⟩, [], List.nil_sublist _, ?_⟩
   refine congrArg Value.bool ?_
   first | (simp_all; done) | (simp_all; omega) | (simp_all; intros; omega)
 ·have p9 := of_decide_eq_false h9
  refine W.no (dj := 10) rfl rfl h9 ?_
  refine W.no (dj := 10) rfl rfl h9 ?_
  refine W.no (dj := 10) rfl rfl h9 ?_
  refine W.no (dj := 10) rfl rfl h9 ?_
  refine W.no (dj := 10) rfl rfl h9 ?_
  refine W.ok (ok_pick_f rfl h9) ?_
  refine W.mv ?_
  refine W.no (dj := 17) rfl rfl rfl ?_
  refine W.no (dj := 17) rfl rfl rfl ?_
  refine W.no (dj := 17) rfl rfl rfl ?_
  refine W.no (dj := 17) rfl rfl rfl ?_
  refine W.no (dj := 17) rfl rfl rfl ?_
  refine W.ok (ok_pick_f rfl rfl) ?_
  refine W.as ?_
  refine W.nil (thn_n ?_)
  refine WC.ret ?_
  refine ⟨.inr rfl, [_], ⟨rfl, trivial⟩, [], List.nil_sublist _, ?_⟩
  refine congrArg Value.bool ?_
  first | (simp_all; done) | (simp_all; omega) | (simp_all; intros; omega)

end Go.Proofs.YthmkpaoolhcibaaDoor
