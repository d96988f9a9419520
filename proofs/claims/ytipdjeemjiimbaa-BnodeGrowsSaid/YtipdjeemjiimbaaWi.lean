/- Walks of rows in halves. -/
import Derived.Test.YtipdjeemjiimbaaWe
namespace Go.Proofs.Ytipdjeemjiimbaa
open Go Go.Fw Go.RowKit
set_option maxRecDepth 100000
set_option maxHeartbeats 1600000
set_option linter.unusedVariables false
set_option linter.unusedSimpArgs false
set_option linter.unnecessarySimpa false
theorem common_fc {G : GH} (a : Str) (b : Str) :
    Fc Try.prog 205 [.string a.b, .string b.b] G [] (fun v _ _ => v = .int .i64 ((commonN a b : Nat) : Int)) := by
  have ha := a.le
  have hb := b.le
  refine Fc.intro (rs := [.tmp 4]) cl205 Try.func205 rfl Try.ntmps205 rfl rfl (fun w0 => ?_)
  refine WC.seq ?_
  refine WC.region ?_
  refine W.as ?_
  refine W.nil (thn_n ?_)
  refine WC.seq ?_
  refine WC.region ?_
  refine W.as ?_
  refine W.nil (thn_n ?_)
  refine WC.seq ?_
  refine WC.block ?_
  refine WC.loop (X := Nat) (fun k => [(5, .int .i64 ((k : Nat) : Int)), (0, .string a.b), (1, .string b.b)]) (fun k _ Ml => Ml = [] ∧ k ≤ a.b.size ∧ k ≤ b.b.size ∧ ∀ i, i < k → a.b[i]? = b.b[i]?) (fun k => a.b.size - k) 0 ⟨(by first | rfl | exact iv (by dsimp only; omega) | exact iv (by omega)), (by first | rfl | exact iv (by dsimp only; omega) | exact iv (by omega)), (by first | rfl | exact iv (by dsimp only; omega) | exact iv (by omega)), trivial⟩ ?_ ?_
  · exact ⟨rfl, by omega, by omega, fun i hi => by omega⟩
  · rintro k gG1 G1 _ hG1 ⟨rfl, hk1, hk2, hk3⟩
    refine WC.seq ?_
    refine WC.seq ?_
    refine WC.draw mix (by kernel_rfl) ?_
    refine W.mv ?_
    refine W.mv ?_
    refine W.ok (ok_lenS st9 rfl) ?_
    refine W.mv ?_
    refine W.ok (ok_lenS st9 rfl) ?_
    refine W.ok (ok_mini rfl rfl) ?_
    refine W.ok (ok_lss rfl rfl) ?_
    refine W.mv ?_
    refine W.sp 13 rfl (fun h12 => ?_) (fun h12 => ?_)
    · have p12 := of_decide_eq_true h12
      refine W.yes (dj := 13) rfl rfl h12 ?_
      refine W.mv ?_
      refine W.yes (dj := 13) rfl rfl h12 ?_
      refine W.mv ?_
      refine W.yes (dj := 13) rfl rfl h12 ?_
      refine W.ok (ok_indexS (i := k) st9 rfl rfl ⟨by omega, by omega⟩) ?_
      refine W.yes (dj := 13) rfl rfl h12 ?_
      refine W.mv ?_
      refine W.yes (dj := 13) rfl rfl h12 ?_
      refine W.mv ?_
      refine W.yes (dj := 13) rfl rfl h12 ?_
      refine W.ok (ok_indexS (i := k) st9 rfl rfl ⟨by omega, by omega⟩) ?_
      refine W.yes (dj := 13) rfl rfl h12 ?_
      refine W.ok (ok_eql rfl rfl) ?_
      refine W.ok (ok_pick_t rfl h12) ?_
      refine W.nil (thn_n ?_)
      refine WC.cond (b := _) rfl (fun h20 => ?_) (fun h20 => ?_)
      · have p20 := of_decide_eq_true h20
        refine WC.skip (thn_n ?_)
        refine WC.block ?_
        refine WC.region ?_
        refine W.mv ?_
        refine W.ok (ok_add rfl rfl (by omega)) ?_
        refine W.as ?_
        refine W.nil (blk_n (thn_n ?_))
        exact ⟨Le.rfl, k + 1, ⟨(by first | rfl | exact iv (by dsimp only; omega) | exact iv (by omega)), (by first | rfl | exact iv (by dsimp only; omega) | exact iv (by omega)), (by first | rfl | exact iv (by dsimp only; omega) | exact iv (by omega)), trivial⟩, ⟨rfl, by omega, by omega, same_succ hk3 (by omega) (by omega) p20⟩, by omega⟩
      · have p20 := of_decide_eq_false h20
        refine WC.exit (thn_x (thn_x (blk_h (thn_n ?_))))
        refine WC.seq ?_
        refine WC.region ?_
        refine W.mv ?_
        refine W.as ?_
        refine W.nil (thn_n ?_)
        refine WC.ret ?_
        refine ⟨.inr rfl, [_], ⟨rfl, trivial⟩, [], List.nil_sublist _, ?_⟩
        refine congrArg (Value.int .i64) ?_
        exact congrArg Nat.cast (commonN_ne' hk3 (by omega) (by omega) p20).symm
    · have p12 := of_decide_eq_false h12
      refine W.no (dj := 13) rfl rfl h12 ?_
      refine W.no (dj := 13) rfl rfl h12 ?_
      refine W.no (dj := 13) rfl rfl h12 ?_
      refine W.no (dj := 13) rfl rfl h12 ?_
      refine W.no (dj := 13) rfl rfl h12 ?_
      refine W.no (dj := 13) rfl rfl h12 ?_
      refine W.no (dj := 13) rfl rfl h12 ?_
      refine W.ok (ok_pick_f rfl h12) ?_
      refine W.nil (thn_n ?_)
      refine WC.cond_f rfl rfl ?_
      refine WC.exit (thn_x (thn_x (blk_h (thn_n ?_))))
      refine WC.seq ?_
      refine WC.region ?_
      refine W.mv ?_
      refine W.as ?_
      refine W.nil (thn_n ?_)
      refine WC.ret ?_
      refine ⟨.inr rfl, [_], ⟨rfl, trivial⟩, [], List.nil_sublist _, ?_⟩
      refine congrArg (Value.int .i64) ?_
      exact congrArg Nat.cast (commonN_end hk1 hk2 hk3 (by omega)).symm

theorem between_fc {G : GH} (a : Str) (b : Str) :
    Fc Try.prog 162 [.string a.b, .string b.b] G [] (fun v _ _ => v = .tuple #[.string (Str.b ((betweenN a b).1)), .bool ((betweenN a b).2)]) := by
  have ha := a.le
  have hb := b.le
  refine Fc.intro (rs := [.tmp 4, .tmp 5]) cl162 Try.func162 rfl Try.ntmps162 rfl rfl (fun w0 => ?_)
  refine WC.seq ?_
  refine WC.region ?_
  refine W.as ?_
  refine W.as ?_
  refine W.nil (thn_n ?_)
  refine WC.seq ?_
  refine WC.seq ?_
  refine WC.region ?_
  refine W.mv ?_
  refine W.mv ?_
  refine W.ok (ok_geqS rfl rfl) ?_
  refine W.nil (thn_n ?_)
  refine WC.cond (b := _) rfl (fun h8 => ?_) (fun h8 => ?_)
  · refine WC.seq ?_
    refine WC.region ?_
    refine W.as ?_
    refine W.as ?_
    refine W.nil (thn_n ?_)
    refine WC.ret (thn_r ?_)
    refine ⟨.inr rfl, [_, _], ⟨rfl, rfl, trivial⟩, [], List.nil_sublist _, ?_⟩
    show Value.tuple #[Value.string _, Value.bool _] = _
    rw [betweenN_f (by simpa [Str.lt] using h8)]; rfl
  · have hlt : a.lt b = true := by simpa [Str.lt] using h8
    have hcm := common_lt hlt
    have hcl := commonN_le a b
    refine WC.skip (thn_n ?_)
    refine WC.seq ?_
    refine WC.region ?_
    refine W.mv ?_
    refine W.mv ?_
    refine W.mv ?_
    refine W.qcall (common_fc _ _) rfl ?_
    refine W.ok (ok_add rfl rfl (by omega)) ?_
    refine W.ok (ok_sliceS (0) (commonN a b + 1) st9 rfl rfl ⟨_, _, rfl, by omega⟩ ⟨by omega, by omega⟩) ?_
    refine W.as ?_
    refine W.as ?_
    refine W.nil (thn_n ?_)
    refine WC.ret ?_
    refine ⟨.inr rfl, [_, _], ⟨rfl, rfl, trivial⟩, [], List.nil_sublist _, ?_⟩
    show Value.tuple #[Value.string _, Value.bool _] = _
    rw [betweenN_t hlt]

theorem rbetween_fc {G : GH} (a : Str) (b : Str) :
    Fc Try.prog 83 [.string a.b, .string b.b] G [] (fun v _ _ => v = .tuple #[.string (Str.b ((betweenN a b).1)), .bool ((betweenN a b).2)]) := by
  have ha := a.le
  have hb := b.le
  refine Fc.intro (rs := [.tmp 4, .tmp 5]) cl83 Try.func83 rfl Try.ntmps83 rfl rfl (fun w0 => ?_)
  refine WC.seq ?_
  refine WC.region ?_
  refine W.as ?_
  refine W.as ?_
  refine W.nil (thn_n ?_)
  refine WC.seq ?_
  refine WC.seq ?_
  refine WC.region ?_
  refine W.as ?_
  refine W.nil (thn_n ?_)
  refine WC.block ?_
  refine WC.loop (X := Nat) (fun k => [(6, .int .i64 ((k : Nat) : Int)), (0, .string a.b), (1, .string b.b)]) (fun k _ Ml => Ml = [] ∧ ∀ j, j < k → a.lt (b.cut 0 j) = false) (fun k => b.b.size + 1 - k) 0 ⟨(by first | rfl | exact iv (by dsimp only; omega) | exact iv (by omega)), (by first | rfl | exact iv (by dsimp only; omega) | exact iv (by omega)), (by first | rfl | exact iv (by dsimp only; omega) | exact iv (by omega)), trivial⟩ ?_ ?_
  · exact ⟨rfl, fun j h => by omega⟩
  · rintro k gG2 G2 _ hG2 ⟨rfl, hk⟩
    refine WC.seq ?_
    refine WC.seq ?_
    refine WC.region ?_
    refine W.mv ?_
    refine W.mv ?_
    refine W.ok (ok_lenS st9 rfl) ?_
    refine W.ok (ok_leq rfl rfl) ?_
    refine W.nil (thn_n ?_)
    refine WC.cond (b := _) rfl (fun h10 => ?_) (fun h10 => ?_)
    · have p10 := of_decide_eq_true h10
      refine WC.skip (thn_n ?_)
      refine WC.seq ?_
      refine WC.block ?_
      refine WC.seq ?_
      refine WC.region ?_
      refine W.mv ?_
      refine W.mv ?_
      refine W.mv ?_
      refine W.ok (ok_sliceS (0) (k) st9 rfl rfl ⟨_, _, rfl, by omega⟩ ⟨by omega, by omega⟩) ?_
      refine W.qcall (less_fc _ _) rfl ?_
      refine W.nil (thn_n ?_)
      refine WC.cond (b := _) rfl (fun h17 => ?_) (fun h17 => ?_)
      · refine WC.seq ?_
        refine WC.region ?_
        refine W.mv ?_
        refine W.mv ?_
        refine W.ok (ok_sliceS (0) (k) st9 rfl rfl ⟨_, _, rfl, by omega⟩ ⟨by omega, by omega⟩) ?_
        refine W.as ?_
        refine W.as ?_
        refine W.nil (thn_n ?_)
        refine WC.ret (blk_r (thn_r (thn_r (blk_r (thn_r ?_)))))
        refine ⟨.inr rfl, [_, _], ⟨rfl, rfl, trivial⟩, [], List.nil_sublist _, ?_⟩
        show Value.tuple #[Value.string _, Value.bool _] = _
        rw [between_at (by omega) h17 hk]
      · refine WC.skip (blk_n (thn_n ?_))
        refine WC.region ?_
        refine W.mv ?_
        refine W.ok (ok_add rfl rfl (by omega)) ?_
        refine W.as ?_
        refine W.nil (thn_n ?_)
        exact ⟨Le.rfl, k + 1, ⟨(by first | rfl | exact iv (by dsimp only; omega) | exact iv (by omega)), (by first | rfl | exact iv (by dsimp only; omega) | exact iv (by omega)), (by first | rfl | exact iv (by dsimp only; omega) | exact iv (by omega)), trivial⟩, ⟨rfl, fun j h => by
      by_cases e : j = k
      · subst e; exact h17
      · exact hk j (by omega)⟩, by omega⟩
    · have p10 := of_decide_eq_false h10
      refine WC.exit (thn_x (thn_x (blk_h (thn_n ?_))))
      refine WC.seq ?_
      refine WC.region ?_
      refine W.as ?_
      refine W.as ?_
      refine W.nil (thn_n ?_)
      refine WC.ret ?_
      refine ⟨.inr rfl, [_, _], ⟨rfl, rfl, trivial⟩, [], List.nil_sublist _, ?_⟩
      show Value.tuple #[Value.string _, Value.bool _] = _
      rw [between_no (fun j h => hk j (by omega))]; rfl

theorem rowsh_fc {G : GH} {v_l : Value} {l : List Pair} (h_l : SlR ePair G v_l l) :
    Fc Try.prog 81 [v_l] G [] (fun v G' M' => M' = [] ∧ ∃ r : List Pair × List Pair × Str × Bool, r = rowsN l ∧ ∃ u0 u1, v = .tuple #[u0, u1, .string (Str.b (r.2.2.1)), .bool (r.2.2.2)] ∧ SlR ePair G' u0 (r.1) ∧ SlR ePair G' u1 (r.2.1)) := by
  obtain ⟨sa_l, sc_l, rfl⟩ := h_l.form
  have hl := h_l.len47
  have hlb : l.length * 32 ≤ 140737488355328 := h_l.bytes
  refine Fc.intro (rs := [.tmp 2, .tmp 3, .tmp 4, .tmp 5]) cl81 Try.func81 rfl Try.ntmps81 rfl rfl (fun w0 => ?_)
  refine WC.seq ?_
  refine WC.region ?_
  refine W.as ?_
  refine W.as ?_
  refine W.as ?_
  refine W.as ?_
  refine W.nil (thn_n ?_)
  refine WC.seq ?_
  refine WC.seq ?_
  refine WC.region ?_
  refine W.mv ?_
  refine W.ok (ok_len sl22 h_l rfl) ?_
  refine W.ok (ok_lss rfl rfl) ?_
  refine W.nil (thn_n ?_)
  refine WC.cond (b := _) rfl (fun h9 => ?_) (fun h9 => ?_)
  · have p9 := of_decide_eq_true h9
    refine WC.seq ?_
    refine WC.region ?_
    refine W.as ?_
    refine W.as ?_
    refine W.as ?_
    refine W.as ?_
    refine W.nil (thn_n ?_)
    refine WC.ret (thn_r ?_)
    refine ⟨.inr rfl, [_, _, _, _], ⟨rfl, rfl, rfl, rfl, trivial⟩, [], List.nil_sublist _, ?_⟩
    refine ⟨rfl, _, (rowsN_f (by omega)).symm, _, _, rfl, ?_, ?_⟩
    · exact SlR.nil
    · exact SlR.nil
  · have p9 := of_decide_eq_false h9
    refine WC.skip (thn_n ?_)
    refine WC.seq ?_
    refine WC.region ?_
    refine W.mv ?_
    refine W.ok (ok_len sl22 h_l rfl) ?_
    refine W.ok (ok_add rfl rfl (by omega)) ?_
    refine W.ok (ok_quo' rfl rfl (by omega) (by omega) (by omega)) ?_
    refine W.as ?_
    refine W.nil (thn_n ?_)
    refine WC.seq ?_
    refine WC.draw mix (by kernel_rfl) ?_
    refine W.mv ?_
    refine W.mv ?_
    refine W.ok (ok_sub rfl rfl (by omega)) ?_
    have q5 := h_l.at (i := (l.length + 1) / 2 - 1) (by omega)
    refine match q5 with | ⟨_, he3, e_4⟩ => ?_
    subst e_4
    refine W.ok (ok_indexAddr (i := (l.length + 1) / 2 - 1) sl22 ty112 h_l rfl rfl ⟨by omega, by omega⟩) ?_
    refine W.ok (ok_fieldE fd112_0 rfl he3.form) ?_
    refine W.ok (ok_loadE (vs := [.string _]) ty9 he3 rfl rfl rfl (by simp)) ?_
    refine W.mv ?_
    refine W.mv ?_
    have q8 := h_l.at (i := (l.length + 1) / 2) (by omega)
    refine match q8 with | ⟨_, he6, e_7⟩ => ?_
    subst e_7
    refine W.ok (ok_indexAddr (i := (l.length + 1) / 2) sl22 ty112 h_l rfl rfl ⟨by omega, by omega⟩) ?_
    refine W.ok (ok_fieldE fd112_0 rfl he6.form) ?_
    refine W.ok (ok_loadE (vs := [.string _]) ty9 he6 rfl rfl rfl (by simp)) ?_
    refine W.qcall (between_fc _ _) rfl ?_
    refine W.mv ?_
    refine W.ok (ok_extract rfl rfl) ?_
    refine W.ok (ok_extract rfl rfl) ?_
    refine W.as ?_
    refine W.nil (thn_n ?_)
    refine WC.seq ?_
    refine WC.drawW _ (List.Sublist.refl _) mix (by rintro _ _ _ _ ⟨h | h, _⟩ <;> cases h) ?_
    refine WD.take 0 rfl rfl rfl (by kernel_rfl) (by kernel_rfl) (by kernel_rfl) (ok_mv) ?_
    refine WD.take 1 rfl rfl rfl (by kernel_rfl) (by kernel_rfl) (by kernel_rfl) (ok_mv) ?_
    have hs9 := SlR.slice h_l (lo := 0) (hi := (l.length + 1) / 2) (by omega) (by omega)
    refine WD.take 2 rfl rfl rfl (by kernel_rfl) (by kernel_rfl) (by kernel_rfl) (ok_slice (0) ((l.length + 1) / 2) sl22 ty112 h_l rfl rfl ⟨_, _, rfl, by omega⟩ ⟨by omega, by omega⟩) ?_
    refine WD.take 4 rfl rfl rfl (by kernel_rfl) (by kernel_rfl) (by kernel_rfl) (ok_mv) ?_
    refine WD.take 5 rfl rfl rfl (by kernel_rfl) (by kernel_rfl) (by kernel_rfl) (ok_mv) ?_
    have hs10 := SlR.slice h_l (lo := (l.length + 1) / 2) (hi := l.length) (by omega) (by omega)
    refine WD.take 6 rfl rfl rfl (by kernel_rfl) (by kernel_rfl) (by kernel_rfl) (ok_slice ((l.length + 1) / 2) (l.length) sl22 ty112 h_l rfl ⟨_, _, rfl, by omega⟩ rfl ⟨by omega, by omega⟩) ?_
    refine WD.take 8 rfl rfl rfl (by kernel_rfl) (by kernel_rfl) (by kernel_rfl) (ok_mv) ?_
    refine WD.any [3] (by kernel_rfl) rfl ⟨⟨_, rfl, rfl, ?_⟩, trivial⟩
    refine W.call (Mp := []) (clonep_fc hs9) rfl (List.Perm.refl _) ?_
    intro _ G11 _ hG11 q13
    refine match q13 with | ⟨e_14, _, e_15, hv12⟩ => ?_
    subst e_14
    subst e_15
    have q17 := hv12.form
    refine match q17 with | ⟨sa_hv12, sc_hv12, e_16⟩ => ?_
    subst e_16
    refine W.nil ⟨hG11, List.Sublist.refl _, _, List.Sublist.refl _, List.Sublist.refl _, ?_⟩
    refine WD.any [7] (by kernel_rfl) rfl ⟨⟨_, rfl, rfl, ?_⟩, trivial⟩
    refine W.call (Mp := []) (clonep_fc (hs10.mono hG11)) rfl (List.Perm.refl _) ?_
    intro _ G18 _ hG18 q20
    refine match q20 with | ⟨e_21, _, e_22, hv19⟩ => ?_
    subst e_21
    subst e_22
    have q24 := hv19.form
    refine match q24 with | ⟨sa_hv19, sc_hv19, e_23⟩ => ?_
    subst e_23
    refine W.nil ⟨hG18, List.Sublist.refl _, _, List.Sublist.refl _, List.Sublist.refl _, ?_⟩
    refine WD.take 9 rfl rfl rfl (by kernel_rfl) (by kernel_rfl) (by kernel_rfl) (ok_as) ?_
    refine WD.take 10 rfl rfl rfl (by kernel_rfl) (by kernel_rfl) (by kernel_rfl) (ok_as) ?_
    refine WD.take 11 rfl rfl rfl (by kernel_rfl) (by kernel_rfl) (by kernel_rfl) (ok_as) ?_
    refine WD.take 12 rfl rfl rfl (by kernel_rfl) (by kernel_rfl) (by kernel_rfl) (ok_as) ?_
    refine WD.done (by kernel_rfl) (thn_n ?_)
    refine WC.ret ?_
    refine ⟨.inr rfl, [_, _, _, _], ⟨rfl, rfl, rfl, rfl, trivial⟩, [], List.nil_sublist _, ?_⟩
    refine ⟨rfl, _, (rowsN_t (by omega)).symm, _, _, rfl, ?_, ?_⟩
    · exact SlR.cast ((hv12.mono hG18)) (by simp)
    · exact SlR.cast (hv19) (by simp)

theorem growp_fc {G : GH} (n : Nat) (hb : n * 32 ≤ 140737488355328) :
    Fc Try.prog 206 [.slice none 0 0, .int .i64 ((n : Nat) : Int)] G [] (fun v G' M' => OwnR ePair 112 G' v ([]) M') := by
  refine Fc.intro (rs := [.tmp 4]) cl206 Try.func206 rfl Try.ntmps206 rfl rfl (fun w0 => ?_)
  refine WC.seq ?_
  refine WC.region ?_
  refine W.as ?_
  refine W.nil (thn_n ?_)
  refine WC.seq ?_
  refine WC.seq ?_
  refine WC.region ?_
  refine W.mv ?_
  refine W.ok (ok_lss rfl rfl) ?_
  refine W.nil (thn_n ?_)
  refine WC.cond (b := _) rfl (fun h6 => ?_) (fun h6 => ?_)
  · have p6 := of_decide_eq_true h6
    exact absurd p6 (by omega)
  · have p6 := of_decide_eq_false h6
    refine WC.skip (thn_n ?_)
    refine WC.seq ?_
    refine WC.seq ?_
    refine WC.region ?_
    refine W.mv ?_
    refine W.mv ?_
    refine W.ok (ok_capNil sl22 rfl) ?_
    refine W.mv ?_
    refine W.ok (ok_len (e := ePair) sl22 SlR.nil rfl) ?_
    refine W.ok (ok_sub rfl rfl (by simp)) ?_
    refine W.ok (ok_sub rfl rfl (by simp; omega)) ?_
    refine W.as ?_
    refine W.nil (thn_n ?_)
    refine WC.seq ?_
    refine WC.region ?_
    refine W.mv ?_
    refine W.ok (ok_gtr rfl rfl) ?_
    refine W.nil (thn_n ?_)
    refine WC.cond (b := _) rfl (fun h16 => ?_) (fun h16 => ?_)
    · have p16 := of_decide_eq_true h16
      refine WC.region ?_
      refine W.mv ?_
      refine W.mv ?_
      refine W.ok (ok_capNil sl22 rfl) ?_
      refine W.ok (ok_sliceNil sl22 ty112 rfl rfl) ?_
      refine W.mv ?_
      refine W.appMake (e := ePair) (n := n) sl22 ty112 zr112 rfl by112 Try.underlying3 rfl (iv (by simp)) (by simp at p16; omega) hb rfl (fun b_1 c_1 Ms_1 ho_1 => ?_)
      refine W.mv ?_
      refine W.ok (ok_len (e := ePair) sl22 SlR.nil rfl) ?_
      refine W.ok (ok_slice0 sl22 ty112 rfl rfl) ?_
      refine W.as ?_
      refine W.nil (thn_n ?_)
      refine WC.seq ?_
      refine WC.region ?_
      refine W.mv ?_
      refine W.as ?_
      refine W.nil (thn_n ?_)
      refine WC.ret ?_
      refine ⟨.inr rfl, [_], ⟨rfl, trivial⟩, Ms_1, List.sublist_append_left _ _, ?_⟩
      exact ho_1
    · have p16 := of_decide_eq_false h16
      refine WC.skip (thn_n ?_)
      refine WC.seq ?_
      refine WC.region ?_
      refine W.mv ?_
      refine W.as ?_
      refine W.nil (thn_n ?_)
      refine WC.ret ?_
      refine ⟨.inr rfl, [_], ⟨rfl, trivial⟩, [], List.nil_sublist _, ?_⟩
      exact OwnR.nil

theorem concatp_fc {G : GH} {v_l : Value} {l : List (List Pair)} (h_l : SlR (eSl ePair) G v_l l) (hb : l.flatten.length * 32 ≤ 140737488355328) :
    Fc Try.prog 164 [v_l] G [] (fun v G' M' => M' = [] ∧ ∃ u0, v = u0 ∧ SlR ePair G' u0 (l.flatten)) := by
  obtain ⟨sa_l, sc_l, rfl⟩ := h_l.form
  have hl := h_l.len47
  refine Fc.intro (rs := [.tmp 2]) cl164 Try.func164 rfl Try.ntmps164 rfl rfl (fun w0 => ?_)
  refine WC.seq ?_
  refine WC.region ?_
  refine W.as ?_
  refine W.nil (thn_n ?_)
  refine WC.seq ?_
  refine WC.region ?_
  refine W.as ?_
  refine W.nil (thn_n ?_)
  refine WC.seq ?_
  refine WC.seq ?_
  refine WC.region ?_
  refine W.mv ?_
  refine W.ok (ok_len sl239 h_l rfl) ?_
  refine W.mv ?_
  refine W.nil (thn_n ?_)
  refine WC.block ?_
  refine WC.loop (X := Nat) (fun j => [(3, .int .i64 (((l.take j).flatten.length : Nat) : Int)), (9, .slice sa_l l.length sc_l), (10, .int .i64 ((l.length : Nat) : Int)), (11, .int .i64 ((j : Nat) : Int)), (0, .slice sa_l l.length sc_l)]) (fun j _ Ml => Ml = [] ∧ j ≤ l.length) (fun j => l.length - j) 0 ⟨rfl, (by first | rfl | exact iv (by dsimp only; omega) | exact iv (by omega)), (by first | rfl | exact iv (by dsimp only; omega) | exact iv (by omega)), (by first | rfl | exact iv (by dsimp only; omega) | exact iv (by omega)), (by first | rfl | exact iv (by dsimp only; omega) | exact iv (by omega)), trivial⟩ ?_ ?_
  · exact ⟨rfl, by omega⟩
  · rintro j gG25 G25 _ hG25 ⟨rfl, hj⟩
    have hlj := flat_le l j
    have hlj2 := flat_le l (j + 1)
    refine WC.seq ?_
    refine WC.region ?_
    refine W.ok (ok_lss rfl rfl) ?_
    refine W.nil (thn_n ?_)
    refine WC.seq ?_
    refine WC.cond (b := _) rfl (fun h12 => ?_) (fun h12 => ?_)
    · have p12 := of_decide_eq_true h12
      have hjl := flat_len (l := l) (j := j) (by omega)
      refine WC.skip (thn_n ?_)
      refine WC.seq ?_
      refine WC.block ?_
      refine WC.seq ?_
      refine WC.region ?_
      have q29 := (h_l.mono hG25).at (i := j) (by omega)
      refine match q29 with | ⟨_, he26, ⟨_, e_28, hs27⟩⟩ => ?_
      subst e_28
      obtain ⟨_, _, rfl⟩ := hs27.form
      refine W.ok (ok_indexAddr (i := j) sl239 ty22 (h_l.mono hG25) rfl rfl ⟨by omega, by omega⟩) ?_
      refine W.ok (ok_loadE (vs := [.slice _ _ _]) ty22 he26 rfl rfl rfl (by simp)) ?_
      refine W.as ?_
      refine W.nil (thn_n ?_)
      refine WC.seq ?_
      refine WC.region ?_
      refine W.mv ?_
      refine W.mv ?_
      refine W.ok (ok_len sl22 hs27 rfl) ?_
      refine W.ok (ok_add rfl rfl (by omega)) ?_
      refine W.as ?_
      refine W.nil (thn_n ?_)
      refine WC.seq ?_
      refine WC.region ?_
      refine W.mv ?_
      refine W.ok (ok_lss rfl rfl) ?_
      refine W.nil (thn_n ?_)
      refine WC.cond (b := _) rfl (fun h20 => ?_) (fun h20 => ?_)
      · have p20 := of_decide_eq_true h20
        exact absurd p20 (by omega)
      · have p20 := of_decide_eq_false h20
        refine WC.skip (blk_n (thn_n ?_))
        refine WC.region ?_
        refine W.ok (ok_add rfl rfl (by omega)) ?_
        refine W.mv ?_
        refine W.nil (thn_n ?_)
        exact ⟨Le.rfl, j + 1, ⟨(iv (by rw [flat_len (by omega)]; omega)), (by first | rfl | exact iv (by dsimp only; omega) | exact iv (by omega)), (by first | rfl | exact iv (by dsimp only; omega) | exact iv (by omega)), (by first | rfl | exact iv (by dsimp only; omega) | exact iv (by omega)), (by first | rfl | exact iv (by dsimp only; omega) | exact iv (by omega)), trivial⟩, ⟨rfl, by omega⟩, by omega⟩
    · have p12 := of_decide_eq_false h12
      refine WC.exit (thn_x (thn_x (blk_h (thn_n ?_))))
      refine WC.seq ?_
      refine WC.region ?_
      refine W.mv ?_
      refine W.call (Mp := []) (growp_fc _ (by rw [flat_all (by omega)]; omega)) rfl (List.Perm.refl _) ?_
      rintro v31 G30 Ms32 hG30 ho33
      refine W.as ?_
      refine W.nil (thn_n ?_)
      refine WC.seq ?_
      refine WC.seq ?_
      refine WC.region ?_
      refine W.mv ?_
      refine W.ok (ok_len sl239 (h_l.mono (hG25.trans hG30)) rfl) ?_
      refine W.mv ?_
      refine W.nil (thn_n ?_)
      refine WC.block ?_
      refine WC.loop (X := (Nat) × Value × MH) (fun i => [(25, .slice sa_l l.length sc_l), (26, .int .i64 ((l.length : Nat) : Int)), (27, .int .i64 ((i.1 : Nat) : Int)), (6, i.2.1)]) (fun i G Ml => Ml = (i.2.2 ++ []) ∧ OwnR ePair 112 G i.2.1 ((l.take i.1).flatten) i.2.2 ∧ i.1 ≤ l.length) (fun i => l.length - i.1) (0, v31, Ms32) ⟨(by first | rfl | exact iv (by dsimp only; omega) | exact iv (by omega)), (by first | rfl | exact iv (by dsimp only; omega) | exact iv (by omega)), (by first | rfl | exact iv (by dsimp only; omega) | exact iv (by omega)), (by first | rfl | exact iv (by dsimp only; omega) | exact iv (by omega)), trivial⟩ ?_ ?_
      · exact ⟨rfl, (by simpa using ho33), by omega⟩
      · rintro ⟨i, v_6, M_6⟩ gG34 G34 _ hG34 ⟨rfl, ho_6, hi⟩
        try dsimp only at ho_6 hi
        have hli := flat_le l i
        have hli2 := flat_le l (i + 1)
        refine WC.seq ?_
        refine WC.region ?_
        refine W.ok (ok_lss rfl rfl) ?_
        refine W.nil (thn_n ?_)
        refine WC.seq ?_
        refine WC.cond (b := _) rfl (fun h28 => ?_) (fun h28 => ?_)
        · have p28 := of_decide_eq_true h28
          have hil := flat_len (l := l) (j := i) (by omega)
          refine WC.skip (thn_n ?_)
          refine WC.seq ?_
          refine WC.block ?_
          refine WC.seq ?_
          refine WC.region ?_
          have q38 := (h_l.mono ((hG25.trans hG30).trans hG34)).at (i := i) (by omega)
          refine match q38 with | ⟨_, he35, ⟨_, e_37, hs36⟩⟩ => ?_
          subst e_37
          obtain ⟨_, _, rfl⟩ := hs36.form
          refine W.ok (ok_indexAddr (i := i) sl239 ty22 (h_l.mono ((hG25.trans hG30).trans hG34)) rfl rfl ⟨by omega, by omega⟩) ?_
          refine W.ok (ok_loadE (vs := [.slice _ _ _]) ty22 he35 rfl rfl rfl (by simp)) ?_
          refine W.as ?_
          refine W.nil (thn_n ?_)
          refine WC.region ?_
          refine W.mv ?_
          refine W.mv ?_
          refine W.app (e := ePair) sl22 ty112 zr112 rfl by112 rfl rfl (ho_6) (hs36) (List.Perm.refl _) (by show ((l.take i).flatten.length + l[i].length) * 32 ≤ 140737488355328; omega) (fun v39 Ms40 ho41 => ?_)
          refine W.as ?_
          refine W.nil (blk_n (thn_n ?_))
          refine WC.region ?_
          refine W.ok (ok_add rfl rfl (by omega)) ?_
          refine W.mv ?_
          refine W.nil (thn_n ?_)
          exact ⟨Le.rfl, (i + 1, v39, Ms40), ⟨(by first | rfl | exact iv (by dsimp only; omega) | exact iv (by omega)), (by first | rfl | exact iv (by dsimp only; omega) | exact iv (by omega)), (by first | rfl | exact iv (by dsimp only; omega) | exact iv (by omega)), (by first | rfl | exact iv (by dsimp only; omega) | exact iv (by omega)), trivial⟩, ⟨rfl, (by have h := ho41; rw [flat_succ (by omega)]; exact h), by omega⟩, by omega⟩
        · have p28 := of_decide_eq_false h28
          refine WC.exit (thn_x (thn_x (blk_h (thn_n ?_))))
          refine WC.seq ?_
          refine WC.region ?_
          refine W.mv ?_
          refine W.as ?_
          refine W.nil (thn_n ?_)
          refine WC.giveO ho_6 (List.Perm.refl _) (fun G42 hG42 hv42 => ?_)
          refine WC.ret ?_
          refine ⟨.inr rfl, [_], ⟨rfl, trivial⟩, [], List.nil_sublist _, ?_⟩
          refine ⟨rfl, _, rfl, ?_⟩
          · have h := hv42; rw [flat_all (by omega)] at h; exact h

theorem rowsjoin_fc {G : GH} {v_a : Value} {a : List Pair} (h_a : SlR ePair G v_a a) {v_b : Value} {b : List Pair} (h_b : SlR ePair G v_b b) (hb : (a.length + b.length) * 32 ≤ 140737488355328) :
    Fc Try.prog 82 [v_a, v_b] G [] (fun v G' M' => M' = [] ∧ ∃ u0, v = u0 ∧ SlR ePair G' u0 (a ++ b)) := by
  obtain ⟨sa_a, sc_a, rfl⟩ := h_a.form
  obtain ⟨sa_b, sc_b, rfl⟩ := h_b.form
  refine Fc.intro (rs := [.tmp 4]) cl82 Try.func82 rfl Try.ntmps82 rfl rfl (fun w0 => ?_)
  refine WC.seq ?_
  refine WC.region ?_
  refine W.as ?_
  refine W.nil (thn_n ?_)
  refine WC.seq ?_
  refine WC.region ?_
  refine W.mv ?_
  refine W.mv ?_
  refine W.lit (e := (eSl ePair)) (l := [_, _]) (css := [[.slice _ _ _], [.slice _ _ _]]) sl239 ty22 zr22 rfl rfl rfl rfl rfl rfl ⟨⟨_, rfl, h_a⟩, ⟨_, rfl, h_b⟩, trivial⟩ (fun bl43 G43 hG43 hv43 => ?_)
  refine W.call (Mp := []) (concatp_fc hv43 (by simp; omega)) rfl (List.Perm.refl _) ?_
  intro _ G44 _ hG44 q46
  refine match q46 with | ⟨e_47, _, e_48, hv45⟩ => ?_
  subst e_47
  subst e_48
  have q50 := hv45.form
  refine match q50 with | ⟨sa_hv45, sc_hv45, e_49⟩ => ?_
  subst e_49
  refine W.as ?_
  refine W.nil (thn_n ?_)
  refine WC.ret ?_
  refine ⟨.inr rfl, [_], ⟨rfl, trivial⟩, [], List.nil_sublist _, ?_⟩
  refine ⟨rfl, _, rfl, ?_⟩
  · exact SlR.cast (hv45) (by simp)

end Go.Proofs.Ytipdjeemjiimbaa
