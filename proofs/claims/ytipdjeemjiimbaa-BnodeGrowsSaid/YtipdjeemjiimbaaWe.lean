/- Walks of rows with a bound, and of leaves. -/
import Derived.Test.YtipdjeemjiimbaaWd
namespace Go.Proofs.Ytipdjeemjiimbaa
open Go Go.Fw Go.RowKit
set_option maxRecDepth 100000
set_option maxHeartbeats 1600000
set_option linter.unusedVariables false
set_option linter.unusedSimpArgs false
set_option linter.unnecessarySimpa false
theorem reffr_fc {G : GH} (ek : Int) (ev : Str) :
    Fc Try.prog 65 [.agg #[.int .i64 ek, .string ev.b]] G [] (fun v _ _ => v = .bool (effR (⟨ek, ev⟩ : Eff))) := by
  have h1 := ev.le
  refine Fc.intro (rs := [.tmp 2]) cl65 Try.func65 rfl Try.ntmps65 rfl rfl (fun w0 => ?_)
  refine WC.seq ?_
  refine WC.region ?_
  refine W.box (L := [.int .i64 _, .string _]) rfl rfl (fun b1 => ?_)
  refine W.as ?_
  refine W.nil (thn_n ?_)
  refine WC.seq ?_
  refine WC.seq ?_
  refine WC.region ?_
  refine W.ok (ok_fieldB fd88_0 rfl) ?_
  refine W.ok (ok_loadB (i := 0) (vs := [.int .i64 _]) ty3 rfl rfl rfl rfl (by simp)) ?_
  refine W.ok (ok_eql rfl rfl) ?_
  refine W.mv ?_
  refine W.sp 6 rfl (fun h5 => ?_) (fun h5 => ?_)
  · have p5 := of_decide_eq_true h5
    refine W.no (dj := 6) rfl rfl h5 ?_
    refine W.no (dj := 6) rfl rfl h5 ?_
    refine W.no (dj := 6) rfl rfl h5 ?_
    refine W.ok (ok_pick_t rfl h5) ?_
    refine W.nil (thn_n ?_)
    refine WC.cond_t rfl rfl ?_
    refine WC.seq ?_
    refine WC.region ?_
    refine W.ok (ok_fieldB fd88_1 rfl) ?_
    refine W.ok (ok_loadB (i := 0) (vs := [.string _]) ty9 rfl rfl rfl rfl (by simp)) ?_
    refine W.ok (ok_lenS st9 rfl) ?_
    refine W.ok (ok_leq rfl rfl) ?_
    refine W.as ?_
    refine W.nil (thn_n ?_)
    refine WC.ret (thn_r ?_)
    refine ⟨.inr rfl, [_], ⟨rfl, trivial⟩, [], List.nil_sublist _, ?_⟩
    refine congrArg Value.bool ?_
    first | (simp_all [effR]; done) | (simp_all [effR, ← Str.b_inj, Str.nil]; done) | (simp_all [effR, ← Str.b_inj, Str.nil]; omega)
  · have p5 := of_decide_eq_false h5
    refine W.yes (dj := 6) rfl rfl h5 ?_
    refine W.ok (ok_fieldB fd88_0 rfl) ?_
    refine W.yes (dj := 6) rfl rfl h5 ?_
    refine W.ok (ok_loadB (i := 0) (vs := [.int .i64 _]) ty3 rfl rfl rfl rfl (by simp)) ?_
    refine W.yes (dj := 6) rfl rfl h5 ?_
    refine W.ok (ok_eql rfl rfl) ?_
    refine W.ok (ok_pick_f rfl h5) ?_
    refine W.nil (thn_n ?_)
    refine WC.cond (b := _) rfl (fun h9 => ?_) (fun h9 => ?_)
    · have p9 := of_decide_eq_true h9
      refine WC.seq ?_
      refine WC.region ?_
      refine W.ok (ok_fieldB fd88_1 rfl) ?_
      refine W.ok (ok_loadB (i := 0) (vs := [.string _]) ty9 rfl rfl rfl rfl (by simp)) ?_
      refine W.ok (ok_lenS st9 rfl) ?_
      refine W.ok (ok_leq rfl rfl) ?_
      refine W.as ?_
      refine W.nil (thn_n ?_)
      refine WC.ret (thn_r ?_)
      refine ⟨.inr rfl, [_], ⟨rfl, trivial⟩, [], List.nil_sublist _, ?_⟩
      refine congrArg Value.bool ?_
      first | (simp_all [effR]; done) | (simp_all [effR, ← Str.b_inj, Str.nil]; done) | (simp_all [effR, ← Str.b_inj, Str.nil]; omega)
    · have p9 := of_decide_eq_false h9
      refine WC.skip (thn_n ?_)
      refine WC.seq ?_
      refine WC.region ?_
      refine W.ok (ok_fieldB fd88_0 rfl) ?_
      refine W.ok (ok_loadB (i := 0) (vs := [.int .i64 _]) ty3 rfl rfl rfl rfl (by simp)) ?_
      refine W.ok (ok_eql rfl rfl) ?_
      refine W.mv ?_
      refine W.sp 18 rfl (fun h17 => ?_) (fun h17 => ?_)
      · have p17 := of_decide_eq_true h17
        refine W.no (dj := 18) rfl rfl h17 ?_
        refine W.no (dj := 18) rfl rfl h17 ?_
        refine W.no (dj := 18) rfl rfl h17 ?_
        refine W.ok (ok_pick_t rfl h17) ?_
        refine W.mv ?_
        refine W.yes (dj := 23) rfl rfl rfl ?_
        refine W.ok (ok_fieldB fd88_1 rfl) ?_
        refine W.yes (dj := 23) rfl rfl rfl ?_
        refine W.ok (ok_loadB (i := 0) (vs := [.string _]) ty9 rfl rfl rfl rfl (by simp)) ?_
        refine W.yes (dj := 23) rfl rfl rfl ?_
        refine W.ok (ok_eqlS rfl rfl) ?_
        refine W.ok (ok_pick_t rfl rfl) ?_
        refine W.as ?_
        refine W.nil (thn_n ?_)
        refine WC.ret ?_
        refine ⟨.inr rfl, [_], ⟨rfl, trivial⟩, [], List.nil_sublist _, ?_⟩
        refine congrArg Value.bool ?_
        first | (simp_all [effR]; done) | (simp_all [effR, ← Str.b_inj, Str.nil]; done) | (simp_all [effR, ← Str.b_inj, Str.nil]; omega)
      · have p17 := of_decide_eq_false h17
        refine W.yes (dj := 18) rfl rfl h17 ?_
        refine W.ok (ok_fieldB fd88_0 rfl) ?_
        refine W.yes (dj := 18) rfl rfl h17 ?_
        refine W.ok (ok_loadB (i := 0) (vs := [.int .i64 _]) ty3 rfl rfl rfl rfl (by simp)) ?_
        refine W.yes (dj := 18) rfl rfl h17 ?_
        refine W.ok (ok_eql rfl rfl) ?_
        refine W.ok (ok_pick_f rfl h17) ?_
        refine W.mv ?_
        refine W.sp 23 rfl (fun h21 => ?_) (fun h21 => ?_)
        · have p21 := of_decide_eq_true h21
          refine W.yes (dj := 23) rfl rfl h21 ?_
          refine W.ok (ok_fieldB fd88_1 rfl) ?_
          refine W.yes (dj := 23) rfl rfl h21 ?_
          refine W.ok (ok_loadB (i := 0) (vs := [.string _]) ty9 rfl rfl rfl rfl (by simp)) ?_
          refine W.yes (dj := 23) rfl rfl h21 ?_
          refine W.ok (ok_eqlS rfl rfl) ?_
          refine W.ok (ok_pick_t rfl h21) ?_
          refine W.as ?_
          refine W.nil (thn_n ?_)
          refine WC.ret ?_
          refine ⟨.inr rfl, [_], ⟨rfl, trivial⟩, [], List.nil_sublist _, ?_⟩
          refine congrArg Value.bool ?_
          first | (simp_all [effR]; done) | (simp_all [effR, ← Str.b_inj, Str.nil]; done) | (simp_all [effR, ← Str.b_inj, Str.nil]; omega)
        · have p21 := of_decide_eq_false h21
          refine W.no (dj := 23) rfl rfl h21 ?_
          refine W.no (dj := 23) rfl rfl h21 ?_
          refine W.no (dj := 23) rfl rfl h21 ?_
          refine W.ok (ok_pick_f rfl h21) ?_
          refine W.as ?_
          refine W.nil (thn_n ?_)
          refine WC.ret ?_
          refine ⟨.inr rfl, [_], ⟨rfl, trivial⟩, [], List.nil_sublist _, ?_⟩
          refine congrArg Value.bool ?_
          first | (simp_all [effR]; done) | (simp_all [effR, ← Str.b_inj, Str.nil]; done) | (simp_all [effR, ← Str.b_inj, Str.nil]; omega)

theorem erows_fc {G : GH} (ek : Int) (ev : Str) :
    Fc Try.prog 154 [.agg #[.int .i64 ek, .string ev.b]] G [] (fun v _ _ => v = .bool (decide (ek = 1) || decide (ek = 2))) := by
  refine Fc.intro (rs := [.tmp 2]) cl154 Try.func154 rfl Try.ntmps154 rfl rfl (fun w0 => ?_)
  refine WC.seq ?_
  refine WC.region ?_
  refine W.box (L := [.int .i64 _, .string _]) rfl rfl (fun b2 => ?_)
  refine W.as ?_
  refine W.nil (thn_n ?_)
  refine WC.seq ?_
  refine WC.region ?_
  refine W.ok (ok_fieldB fd88_0 rfl) ?_
  refine W.ok (ok_loadB (i := 0) (vs := [.int .i64 _]) ty3 rfl rfl rfl rfl (by simp)) ?_
  refine W.ok (ok_eql rfl rfl) ?_
  refine W.mv ?_
  refine W.sp 6 rfl (fun h5 => ?_) (fun h5 => ?_)
  · have p5 := of_decide_eq_true h5
    refine W.no (dj := 6) rfl rfl h5 ?_
    refine W.no (dj := 6) rfl rfl h5 ?_
    refine W.no (dj := 6) rfl rfl h5 ?_
    refine W.ok (ok_pick_t rfl h5) ?_
    refine W.as ?_
    refine W.nil (thn_n ?_)
    refine WC.ret ?_
    refine ⟨.inr rfl, [_], ⟨rfl, trivial⟩, [], List.nil_sublist _, ?_⟩
    refine congrArg Value.bool ?_
    simp_all
  · have p5 := of_decide_eq_false h5
    refine W.yes (dj := 6) rfl rfl h5 ?_
    refine W.ok (ok_fieldB fd88_0 rfl) ?_
    refine W.yes (dj := 6) rfl rfl h5 ?_
    refine W.ok (ok_loadB (i := 0) (vs := [.int .i64 _]) ty3 rfl rfl rfl rfl (by simp)) ?_
    refine W.yes (dj := 6) rfl rfl h5 ?_
    refine W.ok (ok_eql rfl rfl) ?_
    refine W.ok (ok_pick_f rfl h5) ?_
    refine W.as ?_
    refine W.nil (thn_n ?_)
    refine WC.ret ?_
    refine ⟨.inr rfl, [_], ⟨rfl, trivial⟩, [], List.nil_sublist _, ?_⟩
    refine congrArg Value.bool ?_
    simp_all

theorem rowfits_fc {G : GH} {v_l : Value} {l : List Pair} (h_l : SlR ePair G v_l l) (k : Str) (ek : Int) (ev : Str) (n : Int) (hr : Srt l) :
    Fc Try.prog 71 [v_l, .string k.b, .agg #[.int .i64 ek, .string ev.b], .int .i64 n] G [] (fun v _ _ => v = .bool (fitsN l k (⟨ek, ev⟩ : Eff) n)) := by
  obtain ⟨sa_l, sc_l, rfl⟩ := h_l.form
  refine Fc.intro (rs := [.tmp 8]) cl71 Try.func71 rfl Try.ntmps71 rfl rfl (fun w0 => ?_)
  refine WC.seq ?_
  refine WC.region ?_
  refine W.box (L := [.int .i64 _, .string _]) rfl rfl (fun b3 => ?_)
  refine W.as ?_
  refine W.nil (thn_n ?_)
  refine WC.seq ?_
  refine WC.region ?_
  refine W.mv ?_
  refine W.mv ?_
  refine W.qcall (rfind_fc h_l _ (by assumption)) rfl ?_
  refine W.mv ?_
  refine W.ok (ok_extract rfl rfl) ?_
  refine W.ok (ok_extract rfl rfl) ?_
  refine W.as ?_
  refine W.as ?_
  refine W.nil (thn_n ?_)
  refine WC.seq ?_
  refine WC.region ?_
  refine W.mv ?_
  refine W.mv ?_
  refine W.sp 18 rfl (fun h14_1 => ?_) (fun h14_1 => ?_)
  · refine W.no (dj := 18) rfl rfl h14_1 ?_
    refine W.no (dj := 18) rfl rfl h14_1 ?_
    refine W.no (dj := 18) rfl rfl h14_1 ?_
    refine W.ok (ok_pick_t rfl h14_1) ?_
    refine W.mv ?_
    refine W.no (dj := 23) rfl rfl rfl ?_
    refine W.no (dj := 23) rfl rfl rfl ?_
    refine W.no (dj := 23) rfl rfl rfl ?_
    refine W.no (dj := 23) rfl rfl rfl ?_
    refine W.ok (ok_pick_t rfl rfl) ?_
    refine W.as ?_
    refine W.nil (thn_n ?_)
    refine WC.ret ?_
    refine ⟨.inr rfl, [_], ⟨rfl, trivial⟩, [], List.nil_sublist _, ?_⟩
    refine congrArg Value.bool ?_
    simp_all [fitsN]
  · refine W.yes (dj := 18) rfl rfl h14_1 ?_
    refine W.ok (ok_loadB (i := 0) (vs := [.int .i64 _, .string _]) ty88 rfl rfl rfl rfl (by simp)) ?_
    refine W.yes (dj := 18) rfl rfl h14_1 ?_
    refine W.qcall (erows_fc _ _) rfl ?_
    refine W.yes (dj := 18) rfl rfl h14_1 ?_
    refine W.ok (ok_not rfl) ?_
    refine W.ok (ok_pick_f rfl h14_1) ?_
    refine W.mv ?_
    refine W.sp 23 rfl (fun h21 => ?_) (fun h21 => ?_)
    · refine W.no (dj := 23) rfl rfl h21 ?_
      refine W.no (dj := 23) rfl rfl h21 ?_
      refine W.no (dj := 23) rfl rfl h21 ?_
      refine W.no (dj := 23) rfl rfl h21 ?_
      refine W.ok (ok_pick_t rfl h21) ?_
      refine W.as ?_
      refine W.nil (thn_n ?_)
      refine WC.ret ?_
      refine ⟨.inr rfl, [_], ⟨rfl, trivial⟩, [], List.nil_sublist _, ?_⟩
      refine congrArg Value.bool ?_
      simp_all [fitsN]
    · refine W.yes (dj := 23) rfl rfl h21 ?_
      refine W.mv ?_
      refine W.yes (dj := 23) rfl rfl h21 ?_
      refine W.ok (ok_len sl22 h_l rfl) ?_
      refine W.yes (dj := 23) rfl rfl h21 ?_
      refine W.mv ?_
      refine W.yes (dj := 23) rfl rfl h21 ?_
      refine W.ok (ok_lss rfl rfl) ?_
      refine W.ok (ok_pick_f rfl h21) ?_
      refine W.as ?_
      refine W.nil (thn_n ?_)
      refine WC.ret ?_
      refine ⟨.inr rfl, [_], ⟨rfl, trivial⟩, [], List.nil_sublist _, ?_⟩
      refine congrArg Value.bool ?_
      simp_all [fitsN]

theorem fits14_fc {G : GH} {v_l : Value} {l : List Pair} (h_l : SlR ePair G v_l l) (k : Str) (ek : Int) (ev : Str) (n : Int) :
    Fc Try.prog 69 [v_l, .string k.b, .agg #[.int .i64 ek, .string ev.b], .int .i64 n] G [] (fun v _ _ => v = .bool (fitsN l k (⟨ek, ev⟩ : Eff) n)) := by
  obtain ⟨sa_l, sc_l, rfl⟩ := h_l.form
  refine Fc.intro (rs := [.tmp 8]) cl69 Try.func69 rfl Try.ntmps69 rfl rfl (fun w0 => ?_)
  refine WC.seq ?_
  refine WC.region ?_
  refine W.box (L := [.int .i64 _, .string _]) rfl rfl (fun b4 => ?_)
  refine W.as ?_
  refine W.nil (thn_n ?_)
  refine WC.seq ?_
  refine WC.region ?_
  refine W.mv ?_
  refine W.mv ?_
  refine W.qcall (rget_fc h_l _) rfl ?_
  refine W.mv ?_
  refine W.ok (ok_extract rfl rfl) ?_
  refine W.ok (ok_extract rfl rfl) ?_
  refine W.as ?_
  refine W.as ?_
  refine W.nil (thn_n ?_)
  refine WC.seq ?_
  refine WC.region ?_
  refine W.mv ?_
  refine W.mv ?_
  refine W.sp 18 rfl (fun h14_1 => ?_) (fun h14_1 => ?_)
  · refine W.no (dj := 18) rfl rfl h14_1 ?_
    refine W.no (dj := 18) rfl rfl h14_1 ?_
    refine W.no (dj := 18) rfl rfl h14_1 ?_
    refine W.no (dj := 18) rfl rfl h14_1 ?_
    refine W.nou (dj := 22) rfl rfl ?_
    refine W.nou (dj := 22) rfl rfl ?_
    refine W.nou (dj := 22) rfl rfl ?_
    refine W.no (dj := 18) rfl rfl h14_1 ?_
    refine W.ok (ok_pick_t rfl h14_1) ?_
    refine W.mv ?_
    refine W.no (dj := 28) rfl rfl rfl ?_
    refine W.no (dj := 28) rfl rfl rfl ?_
    refine W.no (dj := 28) rfl rfl rfl ?_
    refine W.no (dj := 28) rfl rfl rfl ?_
    refine W.ok (ok_pick_t rfl rfl) ?_
    refine W.as ?_
    refine W.nil (thn_n ?_)
    refine WC.ret ?_
    refine ⟨.inr rfl, [_], ⟨rfl, trivial⟩, [], List.nil_sublist _, ?_⟩
    refine congrArg Value.bool ?_
    simp_all [fitsN]
  · refine W.yes (dj := 18) rfl rfl h14_1 ?_
    refine W.ok (ok_fieldB fd88_0 rfl) ?_
    refine W.yes (dj := 18) rfl rfl h14_1 ?_
    refine W.ok (ok_loadB (i := 0) (vs := [.int .i64 _]) ty3 rfl rfl rfl rfl (by simp)) ?_
    refine W.yes (dj := 18) rfl rfl h14_1 ?_
    refine W.ok (ok_neq rfl rfl) ?_
    refine W.yes (dj := 18) rfl rfl h14_1 ?_
    refine W.mv ?_
    refine W.sp 22 rfl (fun h21 => ?_) (fun h21 => ?_)
    · have p21 := nd_t h21
      refine W.yes (dj := 22) rfl rfl h21 ?_
      refine W.ok (ok_fieldB fd88_0 rfl) ?_
      refine W.yes (dj := 22) rfl rfl h21 ?_
      refine W.ok (ok_loadB (i := 0) (vs := [.int .i64 _]) ty3 rfl rfl rfl rfl (by simp)) ?_
      refine W.yes (dj := 22) rfl rfl h21 ?_
      refine W.ok (ok_neq rfl rfl) ?_
      refine W.yes (dj := 18) rfl rfl h14_1 ?_
      refine W.ok (ok_pick_t rfl h21) ?_
      refine W.ok (ok_pick_f rfl h14_1) ?_
      refine W.mv ?_
      refine W.sp 28 rfl (fun h25 => ?_) (fun h25 => ?_)
      · have p25 := nd_t h25
        refine W.no (dj := 28) rfl rfl h25 ?_
        refine W.no (dj := 28) rfl rfl h25 ?_
        refine W.no (dj := 28) rfl rfl h25 ?_
        refine W.no (dj := 28) rfl rfl h25 ?_
        refine W.ok (ok_pick_t rfl h25) ?_
        refine W.as ?_
        refine W.nil (thn_n ?_)
        refine WC.ret ?_
        refine ⟨.inr rfl, [_], ⟨rfl, trivial⟩, [], List.nil_sublist _, ?_⟩
        refine congrArg Value.bool ?_
        simp_all [fitsN]
      · have p25 := nd_f h25
        refine W.yes (dj := 28) rfl rfl h25 ?_
        refine W.mv ?_
        refine W.yes (dj := 28) rfl rfl h25 ?_
        refine W.ok (ok_len sl22 h_l rfl) ?_
        refine W.yes (dj := 28) rfl rfl h25 ?_
        refine W.mv ?_
        refine W.yes (dj := 28) rfl rfl h25 ?_
        refine W.ok (ok_lss rfl rfl) ?_
        refine W.ok (ok_pick_f rfl h25) ?_
        refine W.as ?_
        refine W.nil (thn_n ?_)
        refine WC.ret ?_
        refine ⟨.inr rfl, [_], ⟨rfl, trivial⟩, [], List.nil_sublist _, ?_⟩
        refine congrArg Value.bool ?_
        simp_all [fitsN]
    · have p21 := nd_f h21
      refine W.no (dj := 22) rfl rfl h21 ?_
      refine W.no (dj := 22) rfl rfl h21 ?_
      refine W.no (dj := 22) rfl rfl h21 ?_
      refine W.yes (dj := 18) rfl rfl h14_1 ?_
      refine W.ok (ok_pick_f rfl h21) ?_
      refine W.ok (ok_pick_f rfl h14_1) ?_
      refine W.mv ?_
      refine W.yes (dj := 28) rfl rfl rfl ?_
      refine W.mv ?_
      refine W.yes (dj := 28) rfl rfl rfl ?_
      refine W.ok (ok_len sl22 h_l rfl) ?_
      refine W.yes (dj := 28) rfl rfl rfl ?_
      refine W.mv ?_
      refine W.yes (dj := 28) rfl rfl rfl ?_
      refine W.ok (ok_lss rfl rfl) ?_
      refine W.ok (ok_pick_f rfl rfl) ?_
      refine W.as ?_
      refine W.nil (thn_n ?_)
      refine WC.ret ?_
      refine ⟨.inr rfl, [_], ⟨rfl, trivial⟩, [], List.nil_sublist _, ?_⟩
      refine congrArg Value.bool ?_
      simp_all [fitsN]

theorem less14_fc {G : GH} {v_l : Value} {l : List Pair} (h_l : SlR ePair G v_l l) (k : Str) :
    Fc Try.prog 70 [v_l, .string k.b] G [] (fun v _ _ => v = .int .i64 ((fndN l k : Nat) : Int)) := by
  obtain ⟨sa_l, sc_l, rfl⟩ := h_l.form
  have hl := h_l.len47
  refine Fc.intro (rs := [.tmp 4]) cl70 Try.func70 rfl Try.ntmps70 rfl rfl (fun w0 => ?_)
  refine WC.seq ?_
  refine WC.region ?_
  refine W.as ?_
  refine W.nil (thn_n ?_)
  refine WC.seq ?_
  refine WC.region ?_
  refine W.as ?_
  refine W.nil (thn_n ?_)
  refine WC.seq ?_
  refine WC.seq ?_
  refine WC.region ?_
  refine W.as ?_
  refine W.nil (thn_n ?_)
  refine WC.block ?_
  refine WC.loop (X := Nat) (fun i => [(5, .int .i64 ((fndN (l.take i) k : Nat) : Int)), (6, .int .i64 ((i : Nat) : Int)), (0, .slice sa_l l.length sc_l), (1, .string k.b)]) (fun i _ Ml => Ml = [] ∧ i ≤ l.length) (fun i => l.length - i) 0 ⟨(iv (by simp [fndN])), (by first | rfl | exact iv (by dsimp only; omega) | exact iv (by omega)), (by first | rfl | exact iv (by dsimp only; omega) | exact iv (by omega)), (by first | rfl | exact iv (by dsimp only; omega) | exact iv (by omega)), trivial⟩ ?_ ?_
  · exact ⟨rfl, by omega⟩
  · rintro i gG5 G5 _ hG5 ⟨rfl, hi⟩
    have hfl := fndN_le (l.take i) k
    have htl : (l.take i).length ≤ i := by simp; omega
    refine WC.seq ?_
    refine WC.seq ?_
    refine WC.region ?_
    refine W.mv ?_
    refine W.mv ?_
    refine W.ok (ok_len sl22 (h_l.mono hG5) rfl) ?_
    refine W.ok (ok_lss rfl rfl) ?_
    refine W.nil (thn_n ?_)
    refine WC.cond (b := _) rfl (fun h10 => ?_) (fun h10 => ?_)
    · have p10 := of_decide_eq_true h10
      refine WC.skip (thn_n ?_)
      refine WC.seq ?_
      refine WC.block ?_
      refine WC.seq ?_
      refine WC.region ?_
      refine W.mv ?_
      refine W.mv ?_
      have q8 := (h_l.mono hG5).at (i := i) (by omega)
      refine match q8 with | ⟨_, he6, e_7⟩ => ?_
      subst e_7
      refine W.ok (ok_indexAddr (i := i) sl22 ty112 (h_l.mono hG5) rfl rfl ⟨by omega, by omega⟩) ?_
      refine W.ok (ok_fieldE fd112_0 rfl he6.form) ?_
      refine W.ok (ok_loadE (vs := [.string _]) ty9 he6 rfl rfl rfl (by simp)) ?_
      refine W.mv ?_
      refine W.qcall (less_fc _ _) rfl ?_
      refine W.nil (thn_n ?_)
      refine WC.cond (b := _) rfl (fun h19 => ?_) (fun h19 => ?_)
      · refine WC.region ?_
        refine W.mv ?_
        refine W.ok (ok_add rfl rfl (by omega)) ?_
        refine W.as ?_
        refine W.nil (blk_n (thn_n ?_))
        refine WC.region ?_
        refine W.mv ?_
        refine W.ok (ok_add rfl rfl (by omega)) ?_
        refine W.as ?_
        refine W.nil (thn_n ?_)
        exact ⟨Le.rfl, i + 1, ⟨(iv (by unfold fndN; rw [filt_t (p := fun p : Pair => p.key.lt k) (by omega) (by simpa using h19)]; simp)), (by first | rfl | exact iv (by dsimp only; omega) | exact iv (by omega)), (by first | rfl | exact iv (by dsimp only; omega) | exact iv (by omega)), (by first | rfl | exact iv (by dsimp only; omega) | exact iv (by omega)), trivial⟩, ⟨rfl, by omega⟩, by omega⟩
      · refine WC.skip (blk_n (thn_n ?_))
        refine WC.region ?_
        refine W.mv ?_
        refine W.ok (ok_add rfl rfl (by omega)) ?_
        refine W.as ?_
        refine W.nil (thn_n ?_)
        exact ⟨Le.rfl, i + 1, ⟨(iv (by unfold fndN; rw [filt_f (p := fun p : Pair => p.key.lt k) (by omega) (by simpa using h19)])), (by first | rfl | exact iv (by dsimp only; omega) | exact iv (by omega)), (by first | rfl | exact iv (by dsimp only; omega) | exact iv (by omega)), (by first | rfl | exact iv (by dsimp only; omega) | exact iv (by omega)), trivial⟩, ⟨rfl, by omega⟩, by omega⟩
    · have p10 := of_decide_eq_false h10
      refine WC.exit (thn_x (thn_x (blk_h (thn_n ?_))))
      refine WC.seq ?_
      refine WC.region ?_
      refine W.mv ?_
      refine W.as ?_
      refine W.nil (thn_n ?_)
      refine WC.ret ?_
      refine ⟨.inr rfl, [_], ⟨rfl, trivial⟩, [], List.nil_sublist _, ?_⟩
      exact iv (by rw [List.take_of_length_le (by omega)])

theorem rowwith_fc {G : GH} {v_l : Value} {l : List Pair} (h_l : SlR ePair G v_l l) (k : Str) (ek : Int) (ev : Str) (n : Int) (hP : PairsR l) (hn : l.length ≤ 1000000) (he : ev.b.size ≤ 1048576) :
    Fc Try.prog 68 [v_l, .string k.b, .agg #[.int .i64 ek, .string ev.b], .int .i64 n] G [] (fun v G' M' => M' = [] ∧ ∃ r : List Pair × Bool, r = rowWithN l k (⟨ek, ev⟩ : Eff) n ∧ ∃ u0, v = .tuple #[u0, .bool (r.2)] ∧ SlR ePair G' u0 (r.1)) := by
  obtain ⟨sa_l, sc_l, rfl⟩ := h_l.form
  have hr := hP.srt
  refine Fc.intro (rs := [.tmp 8, .tmp 9]) cl68 Try.func68 rfl Try.ntmps68 rfl rfl (fun w0 => ?_)
  refine WC.seq ?_
  refine WC.region ?_
  refine W.box (L := [.int .i64 _, .string _]) rfl rfl (fun b9 => ?_)
  refine W.as ?_
  refine W.as ?_
  refine W.nil (thn_n ?_)
  refine WC.seq ?_
  refine WC.seq ?_
  refine WC.region ?_
  refine W.mv ?_
  refine W.mv ?_
  refine W.ok (ok_loadB (i := 0) (vs := [.int .i64 _, .string _]) ty88 rfl rfl rfl rfl (by simp)) ?_
  refine W.mv ?_
  refine W.qcall (rowfits_fc h_l _ _ _ _ (by assumption)) rfl ?_
  refine W.ok (ok_not rfl) ?_
  refine W.nil (thn_n ?_)
  refine WC.cond (b := _) rfl (fun h15 => ?_) (fun h15 => ?_)
  · refine WC.seq ?_
    refine WC.region ?_
    refine W.as ?_
    refine W.as ?_
    refine W.nil (thn_n ?_)
    refine WC.ret (thn_r ?_)
    refine ⟨.inr rfl, [_, _], ⟨rfl, rfl, trivial⟩, [], List.nil_sublist _, ?_⟩
    refine ⟨rfl, _, (rowWithN_f (by simpa using h15)).symm, _, rfl, ?_⟩
    · exact SlR.nil
  · refine WC.skip (thn_n ?_)
    refine WC.seq ?_
    refine WC.region ?_
    refine W.mv ?_
    refine W.mv ?_
    refine W.ok (ok_loadB (i := 0) (vs := [.int .i64 _, .string _]) ty88 rfl rfl rfl rfl (by simp)) ?_
    refine W.call (Mp := []) (mwith_fc h_l _ _ _ (by first | assumption | omega | (simp; omega) | (exact PairsR.fold (by assumption) (by assumption))) (by first | assumption | omega | (simp; omega) | (exact PairsR.fold (by assumption) (by assumption))) (by first | assumption | omega | (dsimp only; omega) | (simp; omega))) rfl (List.Perm.refl _) ?_
    intro _ G10 _ hG10 q12
    refine match q12 with | ⟨e_13, _, e_14, hv11⟩ => ?_
    subst e_13
    subst e_14
    have q16 := hv11.form
    refine match q16 with | ⟨sa_hv11, sc_hv11, e_15⟩ => ?_
    subst e_15
    refine W.as ?_
    refine W.as ?_
    refine W.nil (thn_n ?_)
    refine WC.ret ?_
    refine ⟨.inr rfl, [_, _], ⟨rfl, rfl, trivial⟩, [], List.nil_sublist _, ?_⟩
    refine ⟨rfl, _, (rowWithN_t (by simpa using h15)).symm, _, rfl, ?_⟩
    · exact hv11

theorem leaffits_fc {G : GH} {v_l : Value} {l : List Pair} (h_l : SlR ePair G v_l l) (ms : Int) (mk : Int) (mkey : Str) (mhi : Str) (mo : Bool) (mv : Str) (n : Int) (hP : PairsR l) (hk : Msg.fit (⟨ms, mk, mkey, mhi, mo, mv⟩ : Msg)) :
    Fc Try.prog 91 [v_l, .agg #[.int .i64 ms, .int .i64 mk, .string mkey.b, .string mhi.b, .bool mo, .string mv.b], .int .i64 n] G [] (fun v _ _ => v = .bool (lfitsN l (⟨ms, mk, mkey, mhi, mo, mv⟩ : Msg) n)) := by
  obtain ⟨sa_l, sc_l, rfl⟩ := h_l.form
  have hk1 := hk.1
  dsimp only at hk1
  have hr := hP.srt
  have hl := h_l.len47
  refine Fc.intro (rs := [.tmp 6]) cl91 Try.func91 rfl Try.ntmps91 rfl rfl (fun w0 => ?_)
  refine WC.seq ?_
  refine WC.region ?_
  refine W.box (L := [.int .i64 _, .int .i64 _, .string _, .string _, .bool _, .string _]) rfl rfl (fun b17 => ?_)
  refine W.as ?_
  refine W.nil (thn_n ?_)
  refine WC.seq ?_
  refine WC.draw mix (by kernel_rfl) ?_
  refine W.ok (ok_fieldB fd115_1 rfl) ?_
  refine W.ok (ok_loadB (i := 0) (vs := [.int .i64 _]) ty3 rfl rfl rfl rfl (by simp)) ?_
  refine W.ok (ok_eql rfl rfl) ?_
  refine W.mv ?_
  refine W.sp 10 rfl (fun h9 => ?_) (fun h9 => ?_)
  · have p9 := of_decide_eq_true h9
    refine W.no (dj := 10) rfl rfl h9 ?_
    refine W.no (dj := 10) rfl rfl h9 ?_
    refine W.no (dj := 10) rfl rfl h9 ?_
    refine W.no (dj := 10) rfl rfl h9 ?_
    refine W.no (dj := 10) rfl rfl h9 ?_
    refine W.no (dj := 10) rfl rfl h9 ?_
    refine W.no (dj := 10) rfl rfl h9 ?_
    refine W.no (dj := 10) rfl rfl h9 ?_
    refine W.no (dj := 10) rfl rfl h9 ?_
    refine W.ok (ok_pick_t rfl h9) ?_
    refine W.as ?_
    refine W.nil (thn_n ?_)
    refine WC.ret ?_
    refine ⟨.inr rfl, [_], ⟨rfl, trivial⟩, [], List.nil_sublist _, ?_⟩
    refine congrArg Value.bool ?_
    simp_all [lfitsN]
  · have p9 := of_decide_eq_false h9
    refine W.yes (dj := 10) rfl rfl h9 ?_
    refine W.mv ?_
    refine W.yes (dj := 10) rfl rfl h9 ?_
    refine W.ok (ok_fieldB fd115_2 rfl) ?_
    refine W.yes (dj := 10) rfl rfl h9 ?_
    refine W.ok (ok_loadB (i := 0) (vs := [.string _]) ty9 rfl rfl rfl rfl (by simp)) ?_
    refine W.yes (dj := 10) rfl rfl h9 ?_
    refine W.ok (ok_loadB (i := 0) (vs := [.int .i64 _, .int .i64 _, .string _, .string _, .bool _, .string _]) ty115 rfl rfl rfl rfl (by simp)) ?_
    refine W.yes (dj := 10) rfl rfl h9 ?_
    refine W.ok (ok_fieldB fd115_2 rfl) ?_
    refine W.yes (dj := 10) rfl rfl h9 ?_
    refine W.ok (ok_loadB (i := 0) (vs := [.string _]) ty9 rfl rfl rfl rfl (by simp)) ?_
    refine W.yes (dj := 10) rfl rfl h9 ?_
    refine W.qcall (mon_fc ms mk mkey mhi mo mv mkey (by omega)) rfl ?_
    refine W.yes (dj := 10) rfl rfl h9 ?_
    refine W.mv ?_
    refine W.yes (dj := 10) rfl rfl h9 ?_
    refine W.qcall (rowfits_fc h_l _ _ _ _ (by assumption)) rfl ?_
    refine W.ok (ok_pick_f rfl h9) ?_
    refine W.as ?_
    refine W.nil (thn_n ?_)
    refine WC.ret ?_
    refine ⟨.inr rfl, [_], ⟨rfl, trivial⟩, [], List.nil_sublist _, ?_⟩
    refine congrArg Value.bool ?_
    simp_all [lfitsN]

theorem fits20_fc {G : GH} {v_l : Value} {l : List Pair} (h_l : SlR ePair G v_l l) (ms : Int) (mk : Int) (mkey : Str) (mhi : Str) (mo : Bool) (mv : Str) (n : Int) :
    Fc Try.prog 90 [v_l, .agg #[.int .i64 ms, .int .i64 mk, .string mkey.b, .string mhi.b, .bool mo, .string mv.b], .int .i64 n] G [] (fun v _ _ => v = .bool (rfits20N l (⟨ms, mk, mkey, mhi, mo, mv⟩ : Msg) n)) := by
  obtain ⟨sa_l, sc_l, rfl⟩ := h_l.form
  refine Fc.intro (rs := [.tmp 6]) cl90 Try.func90 rfl Try.ntmps90 rfl rfl (fun w0 => ?_)
  refine WC.seq ?_
  refine WC.region ?_
  refine W.box (L := [.int .i64 _, .int .i64 _, .string _, .string _, .bool _, .string _]) rfl rfl (fun b18 => ?_)
  refine W.as ?_
  refine W.nil (thn_n ?_)
  refine WC.seq ?_
  refine WC.region ?_
  refine W.mv ?_
  refine W.ok (ok_fieldB fd115_2 rfl) ?_
  refine W.ok (ok_loadB (i := 0) (vs := [.string _]) ty9 rfl rfl rfl rfl (by simp)) ?_
  refine W.qcall (rget_fc h_l _) rfl ?_
  refine W.mv ?_
  refine W.ok (ok_extract rfl rfl) ?_
  refine W.ok (ok_extract rfl rfl) ?_
  refine W.as ?_
  refine W.as ?_
  refine W.nil (thn_n ?_)
  refine WC.seq ?_
  refine WC.region ?_
  refine W.ok (ok_fieldB fd115_1 rfl) ?_
  refine W.ok (ok_loadB (i := 0) (vs := [.int .i64 _]) ty3 rfl rfl rfl rfl (by simp)) ?_
  refine W.ok (ok_geq rfl rfl) ?_
  refine W.mv ?_
  refine W.sp 19 rfl (fun h18 => ?_) (fun h18 => ?_)
  · have p18 := of_decide_eq_true h18
    refine W.no (dj := 19) rfl rfl h18 ?_
    refine W.ok (ok_pick_t rfl h18) ?_
    refine W.mv ?_
    refine W.no (dj := 22) rfl rfl rfl ?_
    refine W.no (dj := 22) rfl rfl rfl ?_
    refine W.no (dj := 22) rfl rfl rfl ?_
    refine W.no (dj := 22) rfl rfl rfl ?_
    refine W.ok (ok_pick_t rfl rfl) ?_
    refine W.as ?_
    refine W.nil (thn_n ?_)
    refine WC.ret ?_
    refine ⟨.inr rfl, [_], ⟨rfl, trivial⟩, [], List.nil_sublist _, ?_⟩
    refine congrArg Value.bool ?_
    first | (simp_all [rfits20N]; done) | (simp_all [rfits20N]; omega)
  · have p18 := of_decide_eq_false h18
    refine W.yes (dj := 19) rfl rfl h18 ?_
    refine W.mv ?_
    refine W.ok (ok_pick_f rfl h18) ?_
    refine W.mv ?_
    refine W.sp 22 rfl (fun h13_1 => ?_) (fun h13_1 => ?_)
    · refine W.no (dj := 22) rfl rfl h13_1 ?_
      refine W.no (dj := 22) rfl rfl h13_1 ?_
      refine W.no (dj := 22) rfl rfl h13_1 ?_
      refine W.no (dj := 22) rfl rfl h13_1 ?_
      refine W.ok (ok_pick_t rfl h13_1) ?_
      refine W.as ?_
      refine W.nil (thn_n ?_)
      refine WC.ret ?_
      refine ⟨.inr rfl, [_], ⟨rfl, trivial⟩, [], List.nil_sublist _, ?_⟩
      refine congrArg Value.bool ?_
      first | (simp_all [rfits20N]; done) | (simp_all [rfits20N]; omega)
    · refine W.yes (dj := 22) rfl rfl h13_1 ?_
      refine W.mv ?_
      refine W.yes (dj := 22) rfl rfl h13_1 ?_
      refine W.ok (ok_len sl22 h_l rfl) ?_
      refine W.yes (dj := 22) rfl rfl h13_1 ?_
      refine W.mv ?_
      refine W.yes (dj := 22) rfl rfl h13_1 ?_
      refine W.ok (ok_lss rfl rfl) ?_
      refine W.ok (ok_pick_f rfl h13_1) ?_
      refine W.as ?_
      refine W.nil (thn_n ?_)
      refine WC.ret ?_
      refine ⟨.inr rfl, [_], ⟨rfl, trivial⟩, [], List.nil_sublist _, ?_⟩
      refine congrArg Value.bool ?_
      first | (simp_all [rfits20N]; done) | (simp_all [rfits20N]; omega)

theorem leaftake_fc {G : GH} {v_l : Value} {l : List Pair} (h_l : SlR ePair G v_l l) (ms : Int) (mk : Int) (mkey : Str) (mhi : Str) (mo : Bool) (mv : Str) (n : Int) (hP : PairsR l) (hn : l.length ≤ 1000000) (hk : Msg.fit (⟨ms, mk, mkey, mhi, mo, mv⟩ : Msg)) :
    Fc Try.prog 89 [v_l, .agg #[.int .i64 ms, .int .i64 mk, .string mkey.b, .string mhi.b, .bool mo, .string mv.b], .int .i64 n] G [] (fun v G' M' => M' = [] ∧ ∃ r : List Pair × Bool, r = leafTakeN l (⟨ms, mk, mkey, mhi, mo, mv⟩ : Msg) n ∧ ∃ u0, v = .tuple #[u0, .bool (r.2)] ∧ SlR ePair G' u0 (r.1)) := by
  obtain ⟨sa_l, sc_l, rfl⟩ := h_l.form
  refine Fc.intro (rs := [.tmp 6, .tmp 7]) cl89 Try.func89 rfl Try.ntmps89 rfl rfl (fun w0 => ?_)
  refine WC.seq ?_
  refine WC.region ?_
  refine W.box (L := [.int .i64 _, .int .i64 _, .string _, .string _, .bool _, .string _]) rfl rfl (fun b19 => ?_)
  refine W.as ?_
  refine W.as ?_
  refine W.nil (thn_n ?_)
  refine WC.seq ?_
  refine WC.seq ?_
  refine WC.region ?_
  refine W.mv ?_
  refine W.ok (ok_loadB (i := 0) (vs := [.int .i64 _, .int .i64 _, .string _, .string _, .bool _, .string _]) ty115 rfl rfl rfl rfl (by simp)) ?_
  refine W.mv ?_
  refine W.qcall (leaffits_fc h_l _ _ _ _ _ _ _ (by first | assumption | omega | (simp; omega) | (exact PairsR.fold (by assumption) (by assumption))) (by first | assumption | exact fit_of (by assumption))) rfl ?_
  refine W.ok (ok_not rfl) ?_
  refine W.nil (thn_n ?_)
  refine WC.cond (b := _) rfl (fun h12 => ?_) (fun h12 => ?_)
  · refine WC.seq ?_
    refine WC.region ?_
    refine W.as ?_
    refine W.as ?_
    refine W.nil (thn_n ?_)
    refine WC.ret (thn_r ?_)
    refine ⟨.inr rfl, [_, _], ⟨rfl, rfl, trivial⟩, [], List.nil_sublist _, ?_⟩
    refine ⟨rfl, _, (leafTakeN_f (by simpa using h12)).symm, _, rfl, ?_⟩
    · exact SlR.nil
  · refine WC.skip (thn_n ?_)
    refine WC.seq ?_
    refine WC.region ?_
    refine W.mv ?_
    refine W.ok (ok_loadB (i := 0) (vs := [.int .i64 _, .int .i64 _, .string _, .string _, .bool _, .string _]) ty115 rfl rfl rfl rfl (by simp)) ?_
    refine W.call (Mp := []) (mtake_fc h_l _ _ _ _ _ _ (by first | assumption | omega | (simp; omega) | (exact PairsR.fold (by assumption) (by assumption))) (by first | assumption | omega | (simp; omega) | (exact PairsR.fold (by assumption) (by assumption))) (by first | assumption | exact fit_of (by assumption))) rfl (List.Perm.refl _) ?_
    intro _ G20 _ hG20 q22
    refine match q22 with | ⟨e_23, _, e_24, hv21⟩ => ?_
    subst e_23
    subst e_24
    have q26 := hv21.form
    refine match q26 with | ⟨sa_hv21, sc_hv21, e_25⟩ => ?_
    subst e_25
    refine W.as ?_
    refine W.as ?_
    refine W.nil (thn_n ?_)
    refine WC.ret ?_
    refine ⟨.inr rfl, [_, _], ⟨rfl, rfl, trivial⟩, [], List.nil_sublist _, ?_⟩
    refine ⟨rfl, _, (leafTakeN_t (by simpa using h12)).symm, _, rfl, ?_⟩
    · exact hv21

end Go.Proofs.Ytipdjeemjiimbaa
