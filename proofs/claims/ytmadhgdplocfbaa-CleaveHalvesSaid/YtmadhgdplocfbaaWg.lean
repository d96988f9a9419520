/- Walks of functions on texts and pieces of lists. -/
import Derived.Test.YtmadhgdplocfbaaWf
import Derived.Test.YtmadhgdplocfbaaKb
namespace Go.Proofs.Ytmadhgdplocfbaa
open Go Go.Fw Go.RowKit
set_option maxRecDepth 100000
set_option maxHeartbeats 1600000
set_option linter.unusedVariables false
theorem common_fc {G : GH} (a : Str) (b : Str) :
    Fc Try.prog 233 [.string a.b, .string b.b] G [] (fun v _ _ => v = .int .i64 ((commonN a b : Nat) : Int)) := by
  have ha := a.le
  have hb := b.le
  refine Fc.intro (rs := [.tmp 4]) cl233 Try.func233 rfl Try.ntmps233 rfl rfl (fun w0 => ?_)
  refine WC.seq ?_
  refine WC.region ?_
  refine W.as ?_
  refine W.nil (thn_n ?_)
  refine WC.seq ?_
  refine WC.region ?_
  refine W.as ?_
  refine W.nil (thn_n ?_)
  refine WC.seq ?_
  refine WC.block ?_
  refine WC.loop (X := Nat) (fun k => [(5, .int .i64 ((k : Nat) : Int)), (0, .string a.b), (1, .string b.b)]) (fun k _ Ml => Ml = [] ∧ k ≤ a.b.size ∧ k ≤ b.b.size ∧ ∀ i, i < k → a.b[i]? = b.b[i]?) (fun k => a.b.size - k) 0 ⟨(by first | rfl | exact iv (by dsimp only; omega) | exact iv (by omega)), (by first | rfl | exact iv (by dsimp only; omega) | exact iv (by omega)), (by first | rfl | exact iv (by dsimp only; omega) | exact iv (by omega)), trivial⟩ ?_ ?_
  · exact ⟨rfl, by omega, by omega, fun i hi => by omega⟩
  · rintro k gG196 G196 _ hG196 ⟨rfl, hk1, hk2, hk3⟩
    refine WC.seq ?_
    refine WC.seq ?_
    refine WC.draw mix (by kernel_rfl) ?_
    refine W.mv ?_
    refine W.mv ?_
    refine W.ok (ok_lenS st9 rfl) ?_
    refine W.mv ?_
    refine W.ok (ok_lenS st9 rfl) ?_
    refine W.ok (ok_mini rfl rfl) ?_
    refine W.ok (ok_lss rfl rfl) ?_
    refine W.mv ?_
    refine W.sp 13 rfl (fun h12 => ?_) (fun h12 => ?_)
    · have p12 := of_decide_eq_true h12
      refine W.yes (dj := 13) rfl rfl h12 ?_
      refine W.mv ?_
      refine W.yes (dj := 13) rfl rfl h12 ?_
      refine W.mv ?_
      refine W.yes (dj := 13) rfl rfl h12 ?_
      refine W.ok (ok_indexS (i := k) st9 rfl rfl ⟨by omega, by omega⟩) ?_
      refine W.yes (dj := 13) rfl rfl h12 ?_
      refine W.mv ?_
      refine W.yes (dj := 13) rfl rfl h12 ?_
      refine W.mv ?_
      refine W.yes (dj := 13) rfl rfl h12 ?_
      refine W.ok (ok_indexS (i := k) st9 rfl rfl ⟨by omega, by omega⟩) ?_
      refine W.yes (dj := 13) rfl rfl h12 ?_
      refine W.ok (ok_eql rfl rfl) ?_
      refine W.ok (ok_pick_t rfl h12) ?_
      refine W.nil (thn_n ?_)
      refine WC.cond (b := _) rfl (fun h20 => ?_) (fun h20 => ?_)
      · have p20 := of_decide_eq_true h20
        refine WC.skip (thn_n ?_)
        refine WC.block ?_
        refine WC.region ?_
        refine W.mv ?_
        refine W.ok (ok_add rfl rfl (by omega)) ?_
        refine W.as ?_
        refine W.nil (blk_n (thn_n ?_))
        exact ⟨Le.rfl, k + 1, ⟨(by first | rfl | exact iv (by dsimp only; omega) | exact iv (by omega)), (by first | rfl | exact iv (by dsimp only; omega) | exact iv (by omega)), (by first | rfl | exact iv (by dsimp only; omega) | exact iv (by omega)), trivial⟩, ⟨rfl, by omega, by omega, same_succ hk3 (by omega) (by omega) p20⟩, by omega⟩
      · have p20 := of_decide_eq_false h20
        refine WC.exit (thn_x (thn_x (blk_h (thn_n ?_))))
        refine WC.seq ?_
        refine WC.region ?_
        refine W.mv ?_
        refine W.as ?_
        refine W.nil (thn_n ?_)
        refine WC.ret ?_
        refine ⟨.inr rfl, [_], ⟨rfl, trivial⟩, [], List.nil_sublist _, ?_⟩
        refine congrArg (Value.int .i64) ?_
        exact congrArg Nat.cast (commonN_ne' hk3 (by omega) (by omega) p20).symm
    · have p12 := of_decide_eq_false h12
      refine W.no (dj := 13) rfl rfl h12 ?_
      refine W.no (dj := 13) rfl rfl h12 ?_
      refine W.no (dj := 13) rfl rfl h12 ?_
      refine W.no (dj := 13) rfl rfl h12 ?_
      refine W.no (dj := 13) rfl rfl h12 ?_
      refine W.no (dj := 13) rfl rfl h12 ?_
      refine W.no (dj := 13) rfl rfl h12 ?_
      refine W.ok (ok_pick_f rfl h12) ?_
      refine W.nil (thn_n ?_)
      refine WC.cond_f rfl rfl ?_
      refine WC.exit (thn_x (thn_x (blk_h (thn_n ?_))))
      refine WC.seq ?_
      refine WC.region ?_
      refine W.mv ?_
      refine W.as ?_
      refine W.nil (thn_n ?_)
      refine WC.ret ?_
      refine ⟨.inr rfl, [_], ⟨rfl, trivial⟩, [], List.nil_sublist _, ?_⟩
      refine congrArg (Value.int .i64) ?_
      exact congrArg Nat.cast (commonN_end hk1 hk2 hk3 (by omega)).symm

theorem between_fc {G : GH} (a : Str) (b : Str) :
    Fc Try.prog 218 [.string a.b, .string b.b] G [] (fun v _ _ => v = .tuple #[.string (Str.b ((betweenN a b).1)), .bool ((betweenN a b).2)]) := by
  have ha := a.le
  have hb := b.le
  refine Fc.intro (rs := [.tmp 4, .tmp 5]) cl218 Try.func218 rfl Try.ntmps218 rfl rfl (fun w0 => ?_)
  refine WC.seq ?_
  refine WC.region ?_
  refine W.as ?_
  refine W.as ?_
  refine W.nil (thn_n ?_)
  refine WC.seq ?_
  refine WC.seq ?_
  refine WC.region ?_
  refine W.mv ?_
  refine W.mv ?_
  refine W.ok (ok_geqS rfl rfl) ?_
  refine W.nil (thn_n ?_)
  refine WC.cond (b := _) rfl (fun h8 => ?_) (fun h8 => ?_)
  · refine WC.seq ?_
    refine WC.region ?_
    refine W.as ?_
    refine W.as ?_
    refine W.nil (thn_n ?_)
    refine WC.ret (thn_r ?_)
    refine ⟨.inr rfl, [_, _], ⟨rfl, rfl, trivial⟩, [], List.nil_sublist _, ?_⟩
    show Value.tuple #[Value.string _, Value.bool _] = _
    rw [betweenN_f (by simpa [Str.lt] using h8)]; rfl
  · have hlt : a.lt b = true := by simpa [Str.lt] using h8
    have hcm := common_lt hlt
    have hcl := commonN_le a b
    refine WC.skip (thn_n ?_)
    refine WC.seq ?_
    refine WC.region ?_
    refine W.mv ?_
    refine W.mv ?_
    refine W.mv ?_
    refine W.qcall (common_fc _ _) rfl ?_
    refine W.ok (ok_add rfl rfl (by omega)) ?_
    refine W.ok (ok_sliceS (0) (commonN a b + 1) st9 rfl rfl ⟨_, _, rfl, by omega⟩ ⟨by omega, by omega⟩) ?_
    refine W.as ?_
    refine W.as ?_
    refine W.nil (thn_n ?_)
    refine WC.ret ?_
    refine ⟨.inr rfl, [_, _], ⟨rfl, rfl, trivial⟩, [], List.nil_sublist _, ?_⟩
    show Value.tuple #[Value.string _, Value.bool _] = _
    rw [betweenN_t hlt]

theorem rbetween_fc {G : GH} (a : Str) (b : Str) :
    Fc Try.prog 140 [.string a.b, .string b.b] G [] (fun v _ _ => v = .tuple #[.string (Str.b ((betweenN a b).1)), .bool ((betweenN a b).2)]) := by
  have ha := a.le
  have hb := b.le
  refine Fc.intro (rs := [.tmp 4, .tmp 5]) cl140 Try.func140 rfl Try.ntmps140 rfl rfl (fun w0 => ?_)
  refine WC.seq ?_
  refine WC.region ?_
  refine W.as ?_
  refine W.as ?_
  refine W.nil (thn_n ?_)
  refine WC.seq ?_
  refine WC.seq ?_
  refine WC.region ?_
  refine W.as ?_
  refine W.nil (thn_n ?_)
  refine WC.block ?_
  refine WC.loop (X := Nat) (fun k => [(6, .int .i64 ((k : Nat) : Int)), (0, .string a.b), (1, .string b.b)]) (fun k _ Ml => Ml = [] ∧ ∀ j, j < k → a.lt (b.cut 0 j) = false) (fun k => b.b.size + 1 - k) 0 ⟨(by first | rfl | exact iv (by dsimp only; omega) | exact iv (by omega)), (by first | rfl | exact iv (by dsimp only; omega) | exact iv (by omega)), (by first | rfl | exact iv (by dsimp only; omega) | exact iv (by omega)), trivial⟩ ?_ ?_
  · exact ⟨rfl, fun j h => by omega⟩
  · rintro k gG197 G197 _ hG197 ⟨rfl, hk⟩
    refine WC.seq ?_
    refine WC.seq ?_
    refine WC.region ?_
    refine W.mv ?_
    refine W.mv ?_
    refine W.ok (ok_lenS st9 rfl) ?_
    refine W.ok (ok_leq rfl rfl) ?_
    refine W.nil (thn_n ?_)
    refine WC.cond (b := _) rfl (fun h10 => ?_) (fun h10 => ?_)
    · have p10 := of_decide_eq_true h10
      refine WC.skip (thn_n ?_)
      refine WC.seq ?_
      refine WC.block ?_
      refine WC.seq ?_
      refine WC.region ?_
      refine W.mv ?_
      refine W.mv ?_
      refine W.mv ?_
      refine W.ok (ok_sliceS (0) (k) st9 rfl rfl ⟨_, _, rfl, by omega⟩ ⟨by omega, by omega⟩) ?_
      refine W.qcall (less_fc _ _) rfl ?_
      refine W.nil (thn_n ?_)
      refine WC.cond (b := _) rfl (fun h17 => ?_) (fun h17 => ?_)
      · refine WC.seq ?_
        refine WC.region ?_
        refine W.mv ?_
        refine W.mv ?_
        refine W.ok (ok_sliceS (0) (k) st9 rfl rfl ⟨_, _, rfl, by omega⟩ ⟨by omega, by omega⟩) ?_
        refine W.as ?_
        refine W.as ?_
        refine W.nil (thn_n ?_)
        refine WC.ret (blk_r (thn_r (thn_r (blk_r (thn_r ?_)))))
        refine ⟨.inr rfl, [_, _], ⟨rfl, rfl, trivial⟩, [], List.nil_sublist _, ?_⟩
        show Value.tuple #[Value.string _, Value.bool _] = _
        rw [between_at (by omega) h17 hk]
      · refine WC.skip (blk_n (thn_n ?_))
        refine WC.region ?_
        refine W.mv ?_
        refine W.ok (ok_add rfl rfl (by omega)) ?_
        refine W.as ?_
        refine W.nil (thn_n ?_)
        exact ⟨Le.rfl, k + 1, ⟨(by first | rfl | exact iv (by dsimp only; omega) | exact iv (by omega)), (by first | rfl | exact iv (by dsimp only; omega) | exact iv (by omega)), (by first | rfl | exact iv (by dsimp only; omega) | exact iv (by omega)), trivial⟩, ⟨rfl, fun j h => by
      by_cases e : j = k
      · subst e; exact h17
      · exact hk j (by omega)⟩, by omega⟩
    · have p10 := of_decide_eq_false h10
      refine WC.exit (thn_x (thn_x (blk_h (thn_n ?_))))
      refine WC.seq ?_
      refine WC.region ?_
      refine W.as ?_
      refine W.as ?_
      refine W.nil (thn_n ?_)
      refine WC.ret ?_
      refine ⟨.inr rfl, [_, _], ⟨rfl, rfl, trivial⟩, [], List.nil_sublist _, ?_⟩
      show Value.tuple #[Value.string _, Value.bool _] = _
      rw [between_no (fun j h => hk j (by omega))]; rfl

theorem cut_fc {G : GH} {v_l : Value} {l : List Str} (h_l : SlR eStr G v_l l) (i : Nat) (j : Nat) (hij : i ≤ j ∧ j ≤ l.length) :
    Fc Try.prog 105 [v_l, .int .i64 ((i : Nat) : Int), .int .i64 ((j : Nat) : Int)] G [] (fun v G' M' => M' = [] ∧ ∃ u0, v = u0 ∧ SlR eStr G' u0 ((l.take j).drop i)) := by
  obtain ⟨sa_l, sc_l, rfl⟩ := h_l.form
  have hl := h_l.len47
  have hlb : l.length * 16 ≤ 140737488355328 := h_l.bytes
  obtain ⟨hi, hj⟩ := hij
  refine Fc.intro (rs := [.tmp 6]) cl105 Try.func105 rfl Try.ntmps105 rfl rfl (fun w0 => ?_)
  refine WC.seq ?_
  refine WC.region ?_
  refine W.as ?_
  refine W.nil (thn_n ?_)
  refine WC.seq ?_
  refine WC.region ?_
  refine W.lit0 (e := eStr) sl25 ty9 zr9 rfl (fun v198 Ms199 ho200 => ?_)
  refine W.mv ?_
  refine W.mv ?_
  refine W.mv ?_
  have hs201 := SlR.slice h_l (lo := i) (hi := j) (by omega) (by omega)
  refine W.ok (ok_slice (i) (j) sl25 ty9 h_l rfl ⟨_, _, rfl, by omega⟩ ⟨_, _, rfl, by omega⟩ ⟨by omega, by omega⟩) ?_
  refine W.app (e := eStr) sl25 ty9 zr9 rfl by9 rfl rfl (ho200) (hs201) (List.Perm.refl _) (by show (0 + ((l.take j).drop i).length) * 16 ≤ _; simp; omega) (fun v202 Ms203 ho204 => ?_)
  refine W.as ?_
  refine W.nil (thn_n ?_)
  refine WC.giveO ho204 (List.Perm.refl _) (fun G205 hG205 hv205 => ?_)
  refine WC.ret ?_
  refine ⟨.inr rfl, [_], ⟨rfl, trivial⟩, [], List.nil_sublist _, ?_⟩
  refine ⟨rfl, _, rfl, ?_⟩
  · exact hv205

theorem part_fc {G : GH} {v_l : Value} {l : List Int} (h_l : SlR eInt G v_l l) (i : Nat) (j : Nat) (hij : i ≤ j ∧ j ≤ l.length) :
    Fc Try.prog 106 [v_l, .int .i64 ((i : Nat) : Int), .int .i64 ((j : Nat) : Int)] G [] (fun v G' M' => M' = [] ∧ ∃ u0, v = u0 ∧ SlR eInt G' u0 ((l.take j).drop i)) := by
  obtain ⟨sa_l, sc_l, rfl⟩ := h_l.form
  have hl := h_l.len47
  have hlb : l.length * 8 ≤ 140737488355328 := h_l.bytes
  obtain ⟨hi, hj⟩ := hij
  refine Fc.intro (rs := [.tmp 6]) cl106 Try.func106 rfl Try.ntmps106 rfl rfl (fun w0 => ?_)
  refine WC.seq ?_
  refine WC.region ?_
  refine W.as ?_
  refine W.nil (thn_n ?_)
  refine WC.seq ?_
  refine WC.region ?_
  refine W.lit0 (e := eInt) sl26 ty3 zr3 rfl (fun v206 Ms207 ho208 => ?_)
  refine W.mv ?_
  refine W.mv ?_
  refine W.mv ?_
  have hs209 := SlR.slice h_l (lo := i) (hi := j) (by omega) (by omega)
  refine W.ok (ok_slice (i) (j) sl26 ty3 h_l rfl ⟨_, _, rfl, by omega⟩ ⟨_, _, rfl, by omega⟩ ⟨by omega, by omega⟩) ?_
  refine W.app (e := eInt) sl26 ty3 zr3 rfl by3 rfl rfl (ho208) (hs209) (List.Perm.refl _) (by show (0 + ((l.take j).drop i).length) * 8 ≤ _; simp; omega) (fun v210 Ms211 ho212 => ?_)
  refine W.as ?_
  refine W.nil (thn_n ?_)
  refine WC.giveO ho212 (List.Perm.refl _) (fun G213 hG213 hv213 => ?_)
  refine WC.ret ?_
  refine ⟨.inr rfl, [_], ⟨rfl, trivial⟩, [], List.nil_sublist _, ?_⟩
  refine ⟨rfl, _, rfl, ?_⟩
  · exact hv213

theorem rowsh_fc {G : GH} {v_l : Value} {l : List Pair} (h_l : SlR ePair G v_l l) :
    Fc Try.prog 192 [v_l] G [] (fun v G' M' => M' = [] ∧ ∃ r : List Pair × List Pair × Str × Bool, r = rowsN l ∧ ∃ u0 u1, v = .tuple #[u0, u1, .string (Str.b (r.2.2.1)), .bool (r.2.2.2)] ∧ SlR ePair G' u0 (r.1) ∧ SlR ePair G' u1 (r.2.1)) := by
  obtain ⟨sa_l, sc_l, rfl⟩ := h_l.form
  have hl := h_l.len47
  have hlb : l.length * 32 ≤ 140737488355328 := h_l.bytes
  refine Fc.intro (rs := [.tmp 2, .tmp 3, .tmp 4, .tmp 5]) cl192 Try.func192 rfl Try.ntmps192 rfl rfl (fun w0 => ?_)
  refine WC.seq ?_
  refine WC.region ?_
  refine W.as ?_
  refine W.as ?_
  refine W.as ?_
  refine W.as ?_
  refine W.nil (thn_n ?_)
  refine WC.seq ?_
  refine WC.seq ?_
  refine WC.region ?_
  refine W.mv ?_
  refine W.ok (ok_len sl42 h_l rfl) ?_
  refine W.ok (ok_lss rfl rfl) ?_
  refine W.nil (thn_n ?_)
  refine WC.cond (b := _) rfl (fun h9 => ?_) (fun h9 => ?_)
  · have p9 := of_decide_eq_true h9
    refine WC.seq ?_
    refine WC.region ?_
    refine W.as ?_
    refine W.as ?_
    refine W.as ?_
    refine W.as ?_
    refine W.nil (thn_n ?_)
    refine WC.ret (thn_r ?_)
    refine ⟨.inr rfl, [_, _, _, _], ⟨rfl, rfl, rfl, rfl, trivial⟩, [], List.nil_sublist _, ?_⟩
    refine ⟨rfl, _, (rowsN_f (by omega)).symm, _, _, rfl, ?_, ?_⟩
    · exact SlR.nil
    · exact SlR.nil
  · have p9 := of_decide_eq_false h9
    refine WC.skip (thn_n ?_)
    refine WC.seq ?_
    refine WC.region ?_
    refine W.mv ?_
    refine W.ok (ok_len sl42 h_l rfl) ?_
    refine W.ok (ok_add rfl rfl (by omega)) ?_
    refine W.ok (ok_quo' rfl rfl (by omega) (by omega) (by omega)) ?_
    refine W.as ?_
    refine W.nil (thn_n ?_)
    refine WC.seq ?_
    refine WC.draw mix (by kernel_rfl) ?_
    refine W.mv ?_
    refine W.mv ?_
    refine W.ok (ok_sub rfl rfl (by omega)) ?_
    have q216 := h_l.at (i := (l.length + 1) / 2 - 1) (by omega)
    refine match q216 with | ⟨_, he214, e_215⟩ => ?_
    subst e_215
    refine W.ok (ok_indexAddr (i := (l.length + 1) / 2 - 1) sl42 ty127 h_l rfl rfl ⟨by omega, by omega⟩) ?_
    refine W.ok (ok_fieldE fd127_0 rfl he214.form) ?_
    refine W.ok (ok_loadE (vs := [.string _]) ty9 he214 rfl rfl rfl (by simp)) ?_
    refine W.mv ?_
    refine W.mv ?_
    have q219 := h_l.at (i := (l.length + 1) / 2) (by omega)
    refine match q219 with | ⟨_, he217, e_218⟩ => ?_
    subst e_218
    refine W.ok (ok_indexAddr (i := (l.length + 1) / 2) sl42 ty127 h_l rfl rfl ⟨by omega, by omega⟩) ?_
    refine W.ok (ok_fieldE fd127_0 rfl he217.form) ?_
    refine W.ok (ok_loadE (vs := [.string _]) ty9 he217 rfl rfl rfl (by simp)) ?_
    refine W.qcall (between_fc _ _) rfl ?_
    refine W.mv ?_
    refine W.ok (ok_extract rfl rfl) ?_
    refine W.ok (ok_extract rfl rfl) ?_
    refine W.as ?_
    refine W.nil (thn_n ?_)
    refine WC.seq ?_
    refine WC.drawW _ (List.Sublist.refl _) mix (by rintro _ _ _ _ ⟨h | h, _⟩ <;> cases h) ?_
    refine WD.take 0 rfl rfl rfl (by kernel_rfl) (by kernel_rfl) (by kernel_rfl) (ok_mv) ?_
    refine WD.take 1 rfl rfl rfl (by kernel_rfl) (by kernel_rfl) (by kernel_rfl) (ok_mv) ?_
    have hs220 := SlR.slice h_l (lo := 0) (hi := (l.length + 1) / 2) (by omega) (by omega)
    refine WD.take 2 rfl rfl rfl (by kernel_rfl) (by kernel_rfl) (by kernel_rfl) (ok_slice (0) ((l.length + 1) / 2) sl42 ty127 h_l rfl rfl ⟨_, _, rfl, by omega⟩ ⟨by omega, by omega⟩) ?_
    refine WD.take 4 rfl rfl rfl (by kernel_rfl) (by kernel_rfl) (by kernel_rfl) (ok_mv) ?_
    refine WD.take 5 rfl rfl rfl (by kernel_rfl) (by kernel_rfl) (by kernel_rfl) (ok_mv) ?_
    have hs221 := SlR.slice h_l (lo := (l.length + 1) / 2) (hi := l.length) (by omega) (by omega)
    refine WD.take 6 rfl rfl rfl (by kernel_rfl) (by kernel_rfl) (by kernel_rfl) (ok_slice ((l.length + 1) / 2) (l.length) sl42 ty127 h_l rfl ⟨_, _, rfl, by omega⟩ rfl ⟨by omega, by omega⟩) ?_
    refine WD.take 8 rfl rfl rfl (by kernel_rfl) (by kernel_rfl) (by kernel_rfl) (ok_mv) ?_
    refine WD.any [3] (by kernel_rfl) rfl ⟨⟨_, rfl, rfl, ?_⟩, trivial⟩
    refine W.call (Mp := []) (clonep_fc hs220) rfl (List.Perm.refl _) ?_
    intro _ G222 _ hG222 q224
    refine match q224 with | ⟨e_225, _, e_226, hv223⟩ => ?_
    subst e_225
    subst e_226
    refine W.nil ⟨hG222, List.Sublist.refl _, _, List.Sublist.refl _, List.Sublist.refl _, ?_⟩
    refine WD.any [7] (by kernel_rfl) rfl ⟨⟨_, rfl, rfl, ?_⟩, trivial⟩
    refine W.call (Mp := []) (clonep_fc (hs221.mono hG222)) rfl (List.Perm.refl _) ?_
    intro _ G227 _ hG227 q229
    refine match q229 with | ⟨e_230, _, e_231, hv228⟩ => ?_
    subst e_230
    subst e_231
    refine W.nil ⟨hG227, List.Sublist.refl _, _, List.Sublist.refl _, List.Sublist.refl _, ?_⟩
    refine WD.take 9 rfl rfl rfl (by kernel_rfl) (by kernel_rfl) (by kernel_rfl) (ok_as) ?_
    refine WD.take 10 rfl rfl rfl (by kernel_rfl) (by kernel_rfl) (by kernel_rfl) (ok_as) ?_
    refine WD.take 11 rfl rfl rfl (by kernel_rfl) (by kernel_rfl) (by kernel_rfl) (ok_as) ?_
    refine WD.take 12 rfl rfl rfl (by kernel_rfl) (by kernel_rfl) (by kernel_rfl) (ok_as) ?_
    refine WD.done (by kernel_rfl) (thn_n ?_)
    refine WC.ret ?_
    refine ⟨.inr rfl, [_, _, _, _], ⟨rfl, rfl, rfl, rfl, trivial⟩, [], List.nil_sublist _, ?_⟩
    refine ⟨rfl, _, (rowsN_t (by omega)).symm, _, _, rfl, ?_, ?_⟩
    · exact SlR.cast ((hv223.mono hG227)) (by simp)
    · exact SlR.cast (hv228) (by simp)

end Go.Proofs.Ytmadhgdplocfbaa
