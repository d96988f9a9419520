/- The law DiffApplies is walked. -/
import Derived.Test.YtipdjeemjiimbaaWo
import Derived.Test.YtipdjeemjiimbaaA53
namespace Go.Proofs.Ytipdjeemjiimbaa
open Go Go.Fw Go.RowKit
set_option maxRecDepth 100000
set_option maxHeartbeats 1600000
set_option linter.unusedVariables false
set_option linter.unusedSimpArgs false
set_option linter.unnecessarySimpa false
theorem diffApplies_fc {G : GH} {v_a : Value} {a : List Pair} (h_a : SlR ePair G v_a a) {v_b : Value} {b : List Pair} (h_b : SlR ePair G v_b b) {v_ops : Value} {ops : List Opr} (h_ops : SlR eOp G v_ops ops) :
    Fc Try.prog 16 [v_a, v_b, v_ops] G [] (fun v _ _ => v = .bool (true)) := by
  obtain ⟨sa_a, sc_a, rfl⟩ := h_a.form
  obtain ⟨sa_b, sc_b, rfl⟩ := h_b.form
  obtain ⟨sa_ops, sc_ops, rfl⟩ := h_ops.form
  have hla := h_a.len47
  have hlb := h_b.len47
  have hlo := h_ops.len47
  refine Fc.intro (rs := [.tmp 6]) cl16 Try.func16 rfl Try.ntmps16 rfl rfl (fun w0 => ?_)
  refine WC.seq ?_
  refine WC.region ?_
  refine W.as ?_
  refine W.nil (thn_n ?_)
  refine WC.seq ?_
  refine WC.seq ?_
  refine WC.region ?_
  refine W.mv ?_
  refine W.qcall (longp_fc h_a _ (by omega)) rfl ?_
  refine W.ok (ok_not rfl) ?_
  refine W.mv ?_
  refine W.sp 21 rfl (fun h20 => ?_) (fun h20 => ?_)
  · refine W.no (dj := 21) rfl rfl h20 ?_
    refine W.no (dj := 21) rfl rfl h20 ?_
    refine W.no (dj := 21) rfl rfl h20 ?_
    refine W.ok (ok_pick_t rfl h20) ?_
    refine W.mv ?_
    refine W.no (dj := 26) rfl rfl rfl ?_
    refine W.no (dj := 26) rfl rfl rfl ?_
    refine W.no (dj := 26) rfl rfl rfl ?_
    refine W.ok (ok_pick_t rfl rfl) ?_
    refine W.mv ?_
    refine W.no (dj := 31) rfl rfl rfl ?_
    refine W.no (dj := 31) rfl rfl rfl ?_
    refine W.no (dj := 31) rfl rfl rfl ?_
    refine W.ok (ok_pick_t rfl rfl) ?_
    refine W.mv ?_
    refine W.no (dj := 36) rfl rfl rfl ?_
    refine W.no (dj := 36) rfl rfl rfl ?_
    refine W.no (dj := 36) rfl rfl rfl ?_
    refine W.ok (ok_pick_t rfl rfl) ?_
    refine W.mv ?_
    refine W.no (dj := 41) rfl rfl rfl ?_
    refine W.no (dj := 41) rfl rfl rfl ?_
    refine W.no (dj := 41) rfl rfl rfl ?_
    refine W.ok (ok_pick_t rfl rfl) ?_
    refine W.nil (thn_n ?_)
    refine WC.cond_t rfl rfl ?_
    refine WC.seq ?_
    refine WC.region ?_
    refine W.qcall (awake53_fc) rfl ?_
    refine W.as ?_
    refine W.nil (thn_n ?_)
    refine WC.ret (thn_r ?_)
    refine ⟨.inr rfl, [_], ⟨rfl, trivial⟩, [], List.nil_sublist _, ?_⟩
    rfl
  · refine W.yes (dj := 21) rfl rfl h20 ?_
    refine W.mv ?_
    refine W.yes (dj := 21) rfl rfl h20 ?_
    refine W.qcall (rightp_fc h_a) rfl ?_
    refine W.yes (dj := 21) rfl rfl h20 ?_
    refine W.ok (ok_not rfl) ?_
    refine W.ok (ok_pick_f rfl h20) ?_
    refine W.mv ?_
    refine W.sp 26 rfl (fun h24 => ?_) (fun h24 => ?_)
    · refine W.no (dj := 26) rfl rfl h24 ?_
      refine W.no (dj := 26) rfl rfl h24 ?_
      refine W.no (dj := 26) rfl rfl h24 ?_
      refine W.ok (ok_pick_t rfl h24) ?_
      refine W.mv ?_
      refine W.no (dj := 31) rfl rfl rfl ?_
      refine W.no (dj := 31) rfl rfl rfl ?_
      refine W.no (dj := 31) rfl rfl rfl ?_
      refine W.ok (ok_pick_t rfl rfl) ?_
      refine W.mv ?_
      refine W.no (dj := 36) rfl rfl rfl ?_
      refine W.no (dj := 36) rfl rfl rfl ?_
      refine W.no (dj := 36) rfl rfl rfl ?_
      refine W.ok (ok_pick_t rfl rfl) ?_
      refine W.mv ?_
      refine W.no (dj := 41) rfl rfl rfl ?_
      refine W.no (dj := 41) rfl rfl rfl ?_
      refine W.no (dj := 41) rfl rfl rfl ?_
      refine W.ok (ok_pick_t rfl rfl) ?_
      refine W.nil (thn_n ?_)
      refine WC.cond_t rfl rfl ?_
      refine WC.seq ?_
      refine WC.region ?_
      refine W.qcall (awake53_fc) rfl ?_
      refine W.as ?_
      refine W.nil (thn_n ?_)
      refine WC.ret (thn_r ?_)
      refine ⟨.inr rfl, [_], ⟨rfl, trivial⟩, [], List.nil_sublist _, ?_⟩
      rfl
    · refine W.yes (dj := 26) rfl rfl h24 ?_
      refine W.mv ?_
      refine W.yes (dj := 26) rfl rfl h24 ?_
      refine W.qcall (longp_fc h_b _ (by omega)) rfl ?_
      refine W.yes (dj := 26) rfl rfl h24 ?_
      refine W.ok (ok_not rfl) ?_
      refine W.ok (ok_pick_f rfl h24) ?_
      refine W.mv ?_
      refine W.sp 31 rfl (fun h29 => ?_) (fun h29 => ?_)
      · refine W.no (dj := 31) rfl rfl h29 ?_
        refine W.no (dj := 31) rfl rfl h29 ?_
        refine W.no (dj := 31) rfl rfl h29 ?_
        refine W.ok (ok_pick_t rfl h29) ?_
        refine W.mv ?_
        refine W.no (dj := 36) rfl rfl rfl ?_
        refine W.no (dj := 36) rfl rfl rfl ?_
        refine W.no (dj := 36) rfl rfl rfl ?_
        refine W.ok (ok_pick_t rfl rfl) ?_
        refine W.mv ?_
        refine W.no (dj := 41) rfl rfl rfl ?_
        refine W.no (dj := 41) rfl rfl rfl ?_
        refine W.no (dj := 41) rfl rfl rfl ?_
        refine W.ok (ok_pick_t rfl rfl) ?_
        refine W.nil (thn_n ?_)
        refine WC.cond_t rfl rfl ?_
        refine WC.seq ?_
        refine WC.region ?_
        refine W.qcall (awake53_fc) rfl ?_
        refine W.as ?_
        refine W.nil (thn_n ?_)
        refine WC.ret (thn_r ?_)
        refine ⟨.inr rfl, [_], ⟨rfl, trivial⟩, [], List.nil_sublist _, ?_⟩
        rfl
      · refine W.yes (dj := 31) rfl rfl h29 ?_
        refine W.mv ?_
        refine W.yes (dj := 31) rfl rfl h29 ?_
        refine W.qcall (rightp_fc h_b) rfl ?_
        refine W.yes (dj := 31) rfl rfl h29 ?_
        refine W.ok (ok_not rfl) ?_
        refine W.ok (ok_pick_f rfl h29) ?_
        refine W.mv ?_
        refine W.sp 36 rfl (fun h34 => ?_) (fun h34 => ?_)
        · refine W.no (dj := 36) rfl rfl h34 ?_
          refine W.no (dj := 36) rfl rfl h34 ?_
          refine W.no (dj := 36) rfl rfl h34 ?_
          refine W.ok (ok_pick_t rfl h34) ?_
          refine W.mv ?_
          refine W.no (dj := 41) rfl rfl rfl ?_
          refine W.no (dj := 41) rfl rfl rfl ?_
          refine W.no (dj := 41) rfl rfl rfl ?_
          refine W.ok (ok_pick_t rfl rfl) ?_
          refine W.nil (thn_n ?_)
          refine WC.cond_t rfl rfl ?_
          refine WC.seq ?_
          refine WC.region ?_
          refine W.qcall (awake53_fc) rfl ?_
          refine W.as ?_
          refine W.nil (thn_n ?_)
          refine WC.ret (thn_r ?_)
          refine ⟨.inr rfl, [_], ⟨rfl, trivial⟩, [], List.nil_sublist _, ?_⟩
          rfl
        · refine W.yes (dj := 36) rfl rfl h34 ?_
          refine W.mv ?_
          refine W.yes (dj := 36) rfl rfl h34 ?_
          refine W.ok (ok_len sl126 h_ops rfl) ?_
          refine W.yes (dj := 36) rfl rfl h34 ?_
          refine W.ok (ok_gtr rfl rfl) ?_
          refine W.ok (ok_pick_f rfl h34) ?_
          refine W.mv ?_
          refine W.sp 41 rfl (fun h39 => ?_) (fun h39 => ?_)
          · have p39 := of_decide_eq_true h39
            refine W.no (dj := 41) rfl rfl h39 ?_
            refine W.no (dj := 41) rfl rfl h39 ?_
            refine W.no (dj := 41) rfl rfl h39 ?_
            refine W.ok (ok_pick_t rfl h39) ?_
            refine W.nil (thn_n ?_)
            refine WC.cond_t rfl rfl ?_
            refine WC.seq ?_
            refine WC.region ?_
            refine W.qcall (awake53_fc) rfl ?_
            refine W.as ?_
            refine W.nil (thn_n ?_)
            refine WC.ret (thn_r ?_)
            refine ⟨.inr rfl, [_], ⟨rfl, trivial⟩, [], List.nil_sublist _, ?_⟩
            rfl
          · have p39 := of_decide_eq_false h39
            refine W.yes (dj := 41) rfl rfl h39 ?_
            refine W.mv ?_
            refine W.yes (dj := 41) rfl rfl h39 ?_
            refine W.qcall (r7all_fc h_ops _) rfl ?_
            refine W.yes (dj := 41) rfl rfl h39 ?_
            refine W.ok (ok_not rfl) ?_
            refine W.ok (ok_pick_f rfl h39) ?_
            refine W.nil (thn_n ?_)
            refine WC.cond (b := _) rfl (fun h44 => ?_) (fun h44 => ?_)
            · refine WC.seq ?_
              refine WC.region ?_
              refine W.qcall (awake53_fc) rfl ?_
              refine W.as ?_
              refine W.nil (thn_n ?_)
              refine WC.ret (thn_r ?_)
              refine ⟨.inr rfl, [_], ⟨rfl, trivial⟩, [], List.nil_sublist _, ?_⟩
              rfl
            · have hP : PairsR a := by simpa using h24
              have hPb : PairsR b := by simpa using h34
              have n1 : longG Pair.w a 0 1000 ≤ 1000 := by simpa using h20
              have n2 : longG Pair.w b 0 1000 ≤ 1000 := by simpa using h29
              have q1 := longG_len Pair.w_pos (l := a) (n := 0) (m := 1000) (by simpa using h20)
              have q2 := longG_len Pair.w_pos (l := b) (n := 0) (m := 1000) (by simpa using h29)
              have hn : a.length ≤ 1000 := by omega
              have hnb : b.length ≤ 1000 := by omega
              have hno : ops.length ≤ 40 := by omega
              refine WC.skip (thn_n ?_)
              refine WC.seq ?_
              refine WC.region ?_
              refine W.mv ?_
              refine W.as ?_
              refine W.nil (thn_n ?_)
              refine WC.seq ?_
              refine WC.region ?_
              refine W.as ?_
              refine W.nil (thn_n ?_)
              refine WC.seq ?_
              refine WC.seq ?_
              refine WC.region ?_
              refine W.mv ?_
              refine W.ok (ok_len sl126 h_ops rfl) ?_
              refine W.mv ?_
              refine W.nil (thn_n ?_)
              refine WC.block ?_
              refine WC.loop (X := (Nat) × Value) (fun k => [(8, .bool (allW (ops.take k.1))), (50, .int .i64 ((k.1 : Nat) : Int)), (0, .slice sa_a a.length sc_a), (1, .slice sa_b b.length sc_b), (2, .slice sa_ops ops.length sc_ops), (48, .slice sa_ops ops.length sc_ops), (49, .int .i64 (((ops).length : Nat) : Int)), (7, k.2)]) (fun k G Ml => Ml = [] ∧ SlR ePair G k.2 ((opsN a (ops.take k.1)).1) ∧ k.1 ≤ ops.length) (fun k => ops.length - k.1) (0, .slice sa_a a.length sc_a) ⟨(by first | rfl | exact iv (by dsimp only; omega) | exact iv (by omega)), (by first | rfl | exact iv (by dsimp only; omega) | exact iv (by omega)), (by first | rfl | exact iv (by dsimp only; omega) | exact iv (by omega)), (by first | rfl | exact iv (by dsimp only; omega) | exact iv (by omega)), (by first | rfl | exact iv (by dsimp only; omega) | exact iv (by omega)), (by first | rfl | exact iv (by dsimp only; omega) | exact iv (by omega)), (by first | rfl | exact iv (by dsimp only; omega) | exact iv (by omega)), (by first | rfl | exact iv (by dsimp only; omega) | exact iv (by omega)), trivial⟩ ?_ ?_
              · exact ⟨rfl, (by simpa [opsN] using h_a), by omega⟩
              · rintro ⟨k, v_7⟩ gG1 G1 _ hG1 ⟨rfl, ho_7, hk9⟩
                try dsimp only at ho_7 hk9
                obtain ⟨hPk, hnk, hak⟩ := opsN_R (l := a) (ops := ops) hP k hk9
                refine WC.seq ?_
                refine WC.region ?_
                refine W.ok (ok_lss rfl rfl) ?_
                refine W.nil (thn_n ?_)
                refine WC.seq ?_
                refine WC.cond (b := _) rfl (fun h51 => ?_) (fun h51 => ?_)
                · have p51 := of_decide_eq_true h51
                  refine WC.skip (thn_n ?_)
                  refine WC.seq ?_
                  refine WC.block ?_
                  refine WC.seq ?_
                  refine WC.region ?_
                  have q6 := (h_ops.mono hG1).at (i := k) (by omega)
                  refine match q6 with | ⟨_, he2, ⟨e_5, hm3⟩⟩ => ?_
                  subst e_5
                  refine W.ok (ok_indexAddr (i := k) sl126 ty134 (h_ops.mono hG1) rfl rfl ⟨by omega, by omega⟩) ?_
                  refine W.ok (ok_loadE (vs := [.int .i64 _, .string _, .string _, .bool _, .string _, .int .i64 _]) ty134 he2 rfl rfl rfl (by simp)) ?_
                  refine W.alloc zr134 (fun b7 => ?_)
                  refine W.store (i := 0) (vs := [.int .i64 _, .string _, .string _, .bool _, .string _, .int .i64 _]) (L' := [.int .i64 _, .string _, .string _, .bool _, .string _, .int .i64 _]) ty134 rfl rfl rfl rfl rfl rfl rfl rfl ?_
                  refine W.nil (thn_n ?_)
                  refine WC.seq ?_
                  refine WC.region ?_
                  refine W.mv ?_
                  refine W.mv ?_
                  refine W.sp 55 rfl (fun hw8 => ?_) (fun hw8 => ?_)
                  · refine W.yes (dj := 55) rfl rfl hw8 ?_
                    refine W.ok (ok_loadB (i := 0) (vs := [.int .i64 _, .string _, .string _, .bool _, .string _, .int .i64 _]) ty134 rfl rfl rfl rfl (by simp)) ?_
                    refine W.yes (dj := 55) rfl rfl hw8 ?_
                    refine W.qcall (r7right_fc _ _ _ _ _ _) rfl ?_
                    refine W.ok (ok_pick_t rfl hw8) ?_
                    refine W.mv ?_
                    refine W.sp 59 rfl (fun h57 => ?_) (fun h57 => ?_)
                    · refine W.yes (dj := 59) rfl rfl h57 ?_
                      refine W.ok (ok_fieldB fd134_0 rfl) ?_
                      refine W.yes (dj := 59) rfl rfl h57 ?_
                      refine W.ok (ok_loadB (i := 0) (vs := [.int .i64 _]) ty3 rfl rfl rfl rfl (by simp)) ?_
                      refine W.yes (dj := 59) rfl rfl h57 ?_
                      refine W.ok (ok_leq rfl rfl) ?_
                      refine W.ok (ok_pick_t rfl h57) ?_
                      refine W.as ?_
                      refine W.nil (thn_n ?_)
                      refine WC.region ?_
                      refine W.mv ?_
                      refine W.ok (ok_loadB (i := 0) (vs := [.int .i64 _, .string _, .string _, .bool _, .string _, .int .i64 _]) ty134 rfl rfl rfl rfl (by simp)) ?_
                      refine W.call (Mp := []) (rdo_fc ho_7 ops[k].kind ops[k].key ops[k].hi ops[k].opn ops[k].val ops[k].lim hPk (by omega)) rfl (List.Perm.refl _) ?_
                      intro _ G8 _ hG8 q11
                      refine match q11 with | ⟨e_12, _, e_13, _, _, e_14, hv9, hv10⟩ => ?_
                      subst e_12
                      subst e_13
                      subst e_14
                      have q16 := hv9.form
                      refine match q16 with | ⟨sa_hv9, sc_hv9, e_15⟩ => ?_
                      subst e_15
                      refine match hv10 with | ⟨pa_hv10, pc_hv10, e_17, hw_hv10, hok_hv10⟩ => ?_
                      subst e_17
                      refine W.mv ?_
                      refine W.ok (ok_extract rfl rfl) ?_
                      refine W.ok (ok_extract rfl rfl) ?_
                      refine W.as ?_
                      refine W.nil (blk_n (thn_n ?_))
                      refine WC.region ?_
                      refine W.ok (ok_add rfl rfl (by omega)) ?_
                      refine W.mv ?_
                      refine W.sub ((List.Sublist.refl _).cons _) ?_
                      refine W.nil (thn_n ?_)
                      exact ⟨hG8, (k + 1, .slice sa_hv9 ((doN (opsN a (ops.take k)).1 ops[k]).1).length sc_hv9), ⟨(congrArg Value.bool (by rw [allW_succ (by omega)]; simp_all)), (by first | rfl | exact iv (by dsimp only; omega) | exact iv (by omega)), (by first | rfl | exact iv (by dsimp only; omega) | exact iv (by omega)), (by first | rfl | exact iv (by dsimp only; omega) | exact iv (by omega)), (by first | rfl | exact iv (by dsimp only; omega) | exact iv (by omega)), (by first | rfl | exact iv (by dsimp only; omega) | exact iv (by omega)), (by first | rfl | exact iv (by dsimp only; omega) | exact iv (by omega)), (by first | rfl | exact iv (by dsimp only; omega) | exact iv (by omega)), trivial⟩, ⟨rfl, (by have h := hv9; rw [opsN_succ (by omega)]; exact h), by omega⟩, by omega⟩
                    · refine W.no (dj := 59) rfl rfl h57 ?_
                      refine W.no (dj := 59) rfl rfl h57 ?_
                      refine W.no (dj := 59) rfl rfl h57 ?_
                      refine W.ok (ok_pick_f rfl h57) ?_
                      refine W.as ?_
                      refine W.nil (thn_n ?_)
                      refine WC.region ?_
                      refine W.mv ?_
                      refine W.ok (ok_loadB (i := 0) (vs := [.int .i64 _, .string _, .string _, .bool _, .string _, .int .i64 _]) ty134 rfl rfl rfl rfl (by simp)) ?_
                      refine W.call (Mp := []) (rdo_fc ho_7 ops[k].kind ops[k].key ops[k].hi ops[k].opn ops[k].val ops[k].lim hPk (by omega)) rfl (List.Perm.refl _) ?_
                      intro _ G18 _ hG18 q21
                      refine match q21 with | ⟨e_22, _, e_23, _, _, e_24, hv19, hv20⟩ => ?_
                      subst e_22
                      subst e_23
                      subst e_24
                      have q26 := hv19.form
                      refine match q26 with | ⟨sa_hv19, sc_hv19, e_25⟩ => ?_
                      subst e_25
                      refine match hv20 with | ⟨pa_hv20, pc_hv20, e_27, hw_hv20, hok_hv20⟩ => ?_
                      subst e_27
                      refine W.mv ?_
                      refine W.ok (ok_extract rfl rfl) ?_
                      refine W.ok (ok_extract rfl rfl) ?_
                      refine W.as ?_
                      refine W.nil (blk_n (thn_n ?_))
                      refine WC.region ?_
                      refine W.ok (ok_add rfl rfl (by omega)) ?_
                      refine W.mv ?_
                      refine W.sub ((List.Sublist.refl _).cons _) ?_
                      refine W.nil (thn_n ?_)
                      exact ⟨hG18, (k + 1, .slice sa_hv19 ((doN (opsN a (ops.take k)).1 ops[k]).1).length sc_hv19), ⟨(congrArg Value.bool (by rw [allW_succ (by omega)]; simp_all)), (by first | rfl | exact iv (by dsimp only; omega) | exact iv (by omega)), (by first | rfl | exact iv (by dsimp only; omega) | exact iv (by omega)), (by first | rfl | exact iv (by dsimp only; omega) | exact iv (by omega)), (by first | rfl | exact iv (by dsimp only; omega) | exact iv (by omega)), (by first | rfl | exact iv (by dsimp only; omega) | exact iv (by omega)), (by first | rfl | exact iv (by dsimp only; omega) | exact iv (by omega)), (by first | rfl | exact iv (by dsimp only; omega) | exact iv (by omega)), trivial⟩, ⟨rfl, (by have h := hv19; rw [opsN_succ (by omega)]; exact h), by omega⟩, by omega⟩
                  · refine W.no (dj := 55) rfl rfl hw8 ?_
                    refine W.no (dj := 55) rfl rfl hw8 ?_
                    refine W.ok (ok_pick_f rfl hw8) ?_
                    refine W.mv ?_
                    refine W.no (dj := 59) rfl rfl rfl ?_
                    refine W.no (dj := 59) rfl rfl rfl ?_
                    refine W.no (dj := 59) rfl rfl rfl ?_
                    refine W.ok (ok_pick_f rfl rfl) ?_
                    refine W.as ?_
                    refine W.nil (thn_n ?_)
                    refine WC.region ?_
                    refine W.mv ?_
                    refine W.ok (ok_loadB (i := 0) (vs := [.int .i64 _, .string _, .string _, .bool _, .string _, .int .i64 _]) ty134 rfl rfl rfl rfl (by simp)) ?_
                    refine W.call (Mp := []) (rdo_fc ho_7 ops[k].kind ops[k].key ops[k].hi ops[k].opn ops[k].val ops[k].lim hPk (by omega)) rfl (List.Perm.refl _) ?_
                    intro _ G28 _ hG28 q31
                    refine match q31 with | ⟨e_32, _, e_33, _, _, e_34, hv29, hv30⟩ => ?_
                    subst e_32
                    subst e_33
                    subst e_34
                    have q36 := hv29.form
                    refine match q36 with | ⟨sa_hv29, sc_hv29, e_35⟩ => ?_
                    subst e_35
                    refine match hv30 with | ⟨pa_hv30, pc_hv30, e_37, hw_hv30, hok_hv30⟩ => ?_
                    subst e_37
                    refine W.mv ?_
                    refine W.ok (ok_extract rfl rfl) ?_
                    refine W.ok (ok_extract rfl rfl) ?_
                    refine W.as ?_
                    refine W.nil (blk_n (thn_n ?_))
                    refine WC.region ?_
                    refine W.ok (ok_add rfl rfl (by omega)) ?_
                    refine W.mv ?_
                    refine W.sub ((List.Sublist.refl _).cons _) ?_
                    refine W.nil (thn_n ?_)
                    exact ⟨hG28, (k + 1, .slice sa_hv29 ((doN (opsN a (ops.take k)).1 ops[k]).1).length sc_hv29), ⟨(congrArg Value.bool (by rw [allW_succ (by omega)]; simp_all)), (by first | rfl | exact iv (by dsimp only; omega) | exact iv (by omega)), (by first | rfl | exact iv (by dsimp only; omega) | exact iv (by omega)), (by first | rfl | exact iv (by dsimp only; omega) | exact iv (by omega)), (by first | rfl | exact iv (by dsimp only; omega) | exact iv (by omega)), (by first | rfl | exact iv (by dsimp only; omega) | exact iv (by omega)), (by first | rfl | exact iv (by dsimp only; omega) | exact iv (by omega)), (by first | rfl | exact iv (by dsimp only; omega) | exact iv (by omega)), trivial⟩, ⟨rfl, (by have h := hv29; rw [opsN_succ (by omega)]; exact h), by omega⟩, by omega⟩
                · have p51 := of_decide_eq_false h51
                  have hwk : ops.take k = ops := List.take_of_length_le (by omega)
                  have hap2 : (applyN a ops).2 = allW ops := by unfold applyN; split <;> simp_all
                  have hap1 : (applyN a ops).2 = true → (applyN a ops).1 = (opsN a ops).1 := fun h => by unfold applyN at h ⊢; split <;> simp_all
                  have hap0 : (applyN a ops).2 = false → (applyN a ops).1 = [] := fun h => by unfold applyN at h ⊢; split <;> simp_all
                  refine WC.exit (thn_x (thn_x (blk_h (thn_n ?_))))
                  refine WC.seq ?_
                  refine WC.region ?_
                  refine W.as ?_
                  refine W.nil (thn_n ?_)
                  refine WC.seq ?_
                  refine WC.seq ?_
                  refine WC.region ?_
                  refine W.mv ?_
                  refine W.ok (ok_len sl22 (h_a.mono hG1) rfl) ?_
                  refine W.mv ?_
                  refine W.nil (thn_n ?_)
                  refine WC.block ?_
                  refine WC.loop (X := (Nat) × Value × MH) (fun i => [(73, .int .i64 ((i.1 : Nat) : Int)), (0, .slice sa_a a.length sc_a), (1, .slice sa_b b.length sc_b), (2, .slice sa_ops ops.length sc_ops), (7, v_7), (8, .bool (allW (ops.take k))), (71, .slice sa_a a.length sc_a), (72, .int .i64 (((a).length : Nat) : Int)), (11, i.2.1)]) (fun i G Ml => Ml = (i.2.2 ++ []) ∧ OwnR ePair 112 G i.2.1 (List.filter (fun p : Pair => (getN b p.key).isSome && decide ((getN b p.key).getD Str.nil = p.val)) (a.take i.1)) i.2.2 ∧ i.1 ≤ a.length) (fun i => a.length - i.1) (0, .slice none 0 0, ([] : MH)) ⟨(by first | rfl | exact iv (by dsimp only; omega) | exact iv (by omega)), (by first | rfl | exact iv (by dsimp only; omega) | exact iv (by omega)), (by first | rfl | exact iv (by dsimp only; omega) | exact iv (by omega)), (by first | rfl | exact iv (by dsimp only; omega) | exact iv (by omega)), (by first | rfl | exact iv (by dsimp only; omega) | exact iv (by omega)), (by first | rfl | exact iv (by dsimp only; omega) | exact iv (by omega)), (by first | rfl | exact iv (by dsimp only; omega) | exact iv (by omega)), (by first | rfl | exact iv (by dsimp only; omega) | exact iv (by omega)), (by first | rfl | exact iv (by dsimp only; omega) | exact iv (by omega)), trivial⟩ ?_ ?_
                  · exact ⟨rfl, (by simpa using OwnR.nil), by omega⟩
                  · rintro ⟨i, v_11, M_11⟩ gG38 G38 _ hG38 ⟨rfl, ho_11, hi9⟩
                    try dsimp only at ho_11 hi9
                    have hfl := filt_lt (fun p : Pair => (getN b p.key).isSome && decide ((getN b p.key).getD Str.nil = p.val)) a i
                    refine WC.seq ?_
                    refine WC.region ?_
                    refine W.ok (ok_lss rfl rfl) ?_
                    refine W.nil (thn_n ?_)
                    refine WC.seq ?_
                    refine WC.cond (b := _) rfl (fun h74 => ?_) (fun h74 => ?_)
                    · have p74 := of_decide_eq_true h74
                      refine WC.skip (thn_n ?_)
                      refine WC.seq ?_
                      refine WC.block ?_
                      refine WC.seq ?_
                      refine WC.region ?_
                      have q41 := (h_a.mono (hG1.trans hG38)).at (i := i) (by omega)
                      refine match q41 with | ⟨_, he39, e_40⟩ => ?_
                      subst e_40
                      refine W.ok (ok_indexAddr (i := i) sl22 ty112 (h_a.mono (hG1.trans hG38)) rfl rfl ⟨by omega, by omega⟩) ?_
                      refine W.ok (ok_loadE (vs := [.string _, .string _]) ty112 he39 rfl rfl rfl (by simp)) ?_
                      refine W.alloc zr112 (fun b42 => ?_)
                      refine W.store (i := 0) (vs := [.string _, .string _]) (L' := [.string _, .string _]) ty112 rfl rfl rfl rfl rfl rfl rfl rfl ?_
                      refine W.nil (thn_n ?_)
                      refine WC.seq ?_
                      refine WC.region ?_
                      refine W.mv ?_
                      refine W.ok (ok_fieldB fd112_0 rfl) ?_
                      refine W.ok (ok_loadB (i := 0) (vs := [.string _]) ty9 rfl rfl rfl rfl (by simp)) ?_
                      refine W.qcall (rget_fc (h_b.mono (hG1.trans hG38)) _) rfl ?_
                      refine W.mv ?_
                      refine W.ok (ok_extract rfl rfl) ?_
                      refine W.ok (ok_extract rfl rfl) ?_
                      refine W.as ?_
                      refine W.as ?_
                      refine W.nil (thn_n ?_)
                      refine WC.seq ?_
                      refine WC.region ?_
                      refine W.mv ?_
                      refine W.mv ?_
                      refine W.sp 85 rfl (fun h81_1 => ?_) (fun h81_1 => ?_)
                      · refine W.yes (dj := 85) rfl rfl h81_1 ?_
                        refine W.mv ?_
                        refine W.yes (dj := 85) rfl rfl h81_1 ?_
                        refine W.ok (ok_fieldB fd112_1 rfl) ?_
                        refine W.yes (dj := 85) rfl rfl h81_1 ?_
                        refine W.ok (ok_loadB (i := 0) (vs := [.string _]) ty9 rfl rfl rfl rfl (by simp)) ?_
                        refine W.yes (dj := 85) rfl rfl h81_1 ?_
                        refine W.ok (ok_eqlS rfl rfl) ?_
                        refine W.ok (ok_pick_t rfl h81_1) ?_
                        refine W.nil (thn_n ?_)
                        refine WC.cond (b := _) rfl (fun h89 => ?_) (fun h89 => ?_)
                        · have p89 := of_decide_eq_true h89
                          refine WC.region ?_
                          refine W.mv ?_
                          refine W.ok (ok_loadB (i := 0) (vs := [.string _, .string _]) ty112 rfl rfl rfl rfl (by simp)) ?_
                          refine W.lit (e := ePair) (l := [⟨((a)[i]).key, ((a)[i]).val⟩]) (css := [[.string _, .string _]]) sl22 ty112 zr112 rfl rfl rfl rfl rfl rfl ⟨rfl, trivial⟩ (fun bl43 G43 hG43 hv43 => ?_)
                          refine W.app (e := ePair) sl22 ty112 zr112 rfl by112 rfl rfl ((ho_11.mono hG43)) (hv43) (pmC (List.Perm.refl _)) (by show (_ + 1) * 32 ≤ _; omega) (fun v44 Ms45 ho46 => ?_)
                          refine W.perm (pmC (List.Perm.refl _)).symm ?_
                          refine W.as ?_
                          refine W.nil (blk_n (thn_n ?_))
                          refine WC.region ?_
                          refine W.ok (ok_add rfl rfl (by omega)) ?_
                          refine W.mv ?_
                          refine W.sub ((List.Sublist.refl _).cons _) ?_
                          refine W.nil (thn_n ?_)
                          exact ⟨hG43, (i + 1, v44, Ms45), ⟨(by first | rfl | exact iv (by dsimp only; omega) | exact iv (by omega)), (by first | rfl | exact iv (by dsimp only; omega) | exact iv (by omega)), (by first | rfl | exact iv (by dsimp only; omega) | exact iv (by omega)), (by first | rfl | exact iv (by dsimp only; omega) | exact iv (by omega)), (by first | rfl | exact iv (by dsimp only; omega) | exact iv (by omega)), (by first | rfl | exact iv (by dsimp only; omega) | exact iv (by omega)), (by first | rfl | exact iv (by dsimp only; omega) | exact iv (by omega)), (by first | rfl | exact iv (by dsimp only; omega) | exact iv (by omega)), (by first | rfl | exact iv (by dsimp only; omega) | exact iv (by omega)), trivial⟩, ⟨rfl, (by have h := ho46; rw [filt_t (p := (fun p : Pair => (getN b p.key).isSome && decide ((getN b p.key).getD Str.nil = p.val))) (by omega) (by simp_all [Str.b_inj])]; exact h), by omega⟩, by omega⟩
                        · have p89 := of_decide_eq_false h89
                          refine WC.skip (blk_n (thn_n ?_))
                          refine WC.region ?_
                          refine W.ok (ok_add rfl rfl (by omega)) ?_
                          refine W.mv ?_
                          refine W.sub ((List.Sublist.refl _).cons _) ?_
                          refine W.nil (thn_n ?_)
                          exact ⟨Le.rfl, (i + 1, v_11, M_11), ⟨(by first | rfl | exact iv (by dsimp only; omega) | exact iv (by omega)), (by first | rfl | exact iv (by dsimp only; omega) | exact iv (by omega)), (by first | rfl | exact iv (by dsimp only; omega) | exact iv (by omega)), (by first | rfl | exact iv (by dsimp only; omega) | exact iv (by omega)), (by first | rfl | exact iv (by dsimp only; omega) | exact iv (by omega)), (by first | rfl | exact iv (by dsimp only; omega) | exact iv (by omega)), (by first | rfl | exact iv (by dsimp only; omega) | exact iv (by omega)), (by first | rfl | exact iv (by dsimp only; omega) | exact iv (by omega)), (by first | rfl | exact iv (by dsimp only; omega) | exact iv (by omega)), trivial⟩, ⟨rfl, (by have h := ho_11; rw [filt_f (p := (fun p : Pair => (getN b p.key).isSome && decide ((getN b p.key).getD Str.nil = p.val))) (by omega) (by simp_all [Str.b_inj])]; exact h), by omega⟩, by omega⟩
                      · refine W.no (dj := 85) rfl rfl h81_1 ?_
                        refine W.no (dj := 85) rfl rfl h81_1 ?_
                        refine W.no (dj := 85) rfl rfl h81_1 ?_
                        refine W.no (dj := 85) rfl rfl h81_1 ?_
                        refine W.ok (ok_pick_f rfl h81_1) ?_
                        refine W.nil (thn_n ?_)
                        refine WC.cond_f rfl rfl ?_
                        refine WC.skip (blk_n (thn_n ?_))
                        refine WC.region ?_
                        refine W.ok (ok_add rfl rfl (by omega)) ?_
                        refine W.mv ?_
                        refine W.sub ((List.Sublist.refl _).cons _) ?_
                        refine W.nil (thn_n ?_)
                        exact ⟨Le.rfl, (i + 1, v_11, M_11), ⟨(by first | rfl | exact iv (by dsimp only; omega) | exact iv (by omega)), (by first | rfl | exact iv (by dsimp only; omega) | exact iv (by omega)), (by first | rfl | exact iv (by dsimp only; omega) | exact iv (by omega)), (by first | rfl | exact iv (by dsimp only; omega) | exact iv (by omega)), (by first | rfl | exact iv (by dsimp only; omega) | exact iv (by omega)), (by first | rfl | exact iv (by dsimp only; omega) | exact iv (by omega)), (by first | rfl | exact iv (by dsimp only; omega) | exact iv (by omega)), (by first | rfl | exact iv (by dsimp only; omega) | exact iv (by omega)), (by first | rfl | exact iv (by dsimp only; omega) | exact iv (by omega)), trivial⟩, ⟨rfl, (by have h := ho_11; rw [filt_f (p := (fun p : Pair => (getN b p.key).isSome && decide ((getN b p.key).getD Str.nil = p.val))) (by omega) (by simp_all [Str.b_inj])]; exact h), by omega⟩, by omega⟩
                    · have p74 := of_decide_eq_false h74
                      refine WC.exit (thn_x (thn_x (blk_h (thn_n ?_))))
                      refine WC.seq ?_
                      refine WC.region ?_
                      refine W.mv ?_
                      refine W.mv ?_
                      refine W.call (Mp := []) (dapply_fc (h_a.mono (hG1.trans hG38)) (h_ops.mono (hG1.trans hG38)) (by first | assumption | omega | (simp; omega) | (exact PairsR.fold (by assumption) (by assumption))) (by first | assumption | omega | (simp; omega) | (exact PairsR.fold (by assumption) (by assumption)))) rfl (List.Perm.refl _) ?_
                      intro _ G47 _ hG47 q49
                      refine match q49 with | ⟨e_50, _, e_51, _, e_52, hv48⟩ => ?_
                      subst e_50
                      subst e_51
                      subst e_52
                      have q54 := hv48.form
                      refine match q54 with | ⟨sa_hv48, sc_hv48, e_53⟩ => ?_
                      subst e_53
                      refine W.mv ?_
                      refine W.ok (ok_extract rfl rfl) ?_
                      refine W.ok (ok_extract rfl rfl) ?_
                      refine W.as ?_
                      refine W.as ?_
                      refine W.nil (thn_n ?_)
                      refine WC.seq ?_
                      refine WC.region ?_
                      refine W.mv ?_
                      refine W.mv ?_
                      refine W.ok (ok_eqlB bo4 rfl rfl) ?_
                      refine W.mv ?_
                      refine W.sp 105 rfl (fun h104 => ?_) (fun h104 => ?_)
                      · refine W.yes (dj := 105) rfl rfl h104 ?_
                        refine W.mv ?_
                        refine W.yes (dj := 105) rfl rfl h104 ?_
                        refine W.mv ?_
                        refine W.sp 107 rfl (fun h99_1 => ?_) (fun h99_1 => ?_)
                        · refine W.yes (dj := 107) rfl rfl h99_1 ?_
                          refine W.mv ?_
                          refine W.yes (dj := 107) rfl rfl h99_1 ?_
                          refine W.mv ?_
                          refine W.yes (dj := 107) rfl rfl h99_1 ?_
                          refine W.qcall ((samep_fc hv48 (ho_7.mono (hG38.trans hG47))).mono (fun v _ _ _ hv => hv.trans (congrArg Value.bool (decide_eq_true (by rw [hwk]; exact hap1 (by assumption)))))) rfl ?_
                          refine W.yes (dj := 105) rfl rfl h104 ?_
                          refine W.ok (ok_pick_t rfl h99_1) ?_
                          refine W.yes (dj := 105) rfl rfl h104 ?_
                          refine W.mv ?_
                          refine W.no (dj := 112) rfl rfl rfl ?_
                          refine W.no (dj := 112) rfl rfl rfl ?_
                          refine W.no (dj := 112) rfl rfl rfl ?_
                          refine W.nou (dj := 115) rfl rfl ?_
                          refine W.nou (dj := 115) rfl rfl ?_
                          refine W.nou (dj := 115) rfl rfl ?_
                          refine W.no (dj := 112) rfl rfl rfl ?_
                          refine W.yes (dj := 105) rfl rfl h104 ?_
                          refine W.ok (ok_pick_t rfl rfl) ?_
                          refine W.ok (ok_pick_t rfl h104) ?_
                          refine W.mv ?_
                          refine W.yes (dj := 122) rfl rfl rfl ?_
                          refine W.mv ?_
                          refine W.yes (dj := 122) rfl rfl rfl ?_
                          refine W.mv ?_
                          refine W.yes (dj := 122) rfl rfl rfl ?_
                          refine W.call (Mp := []) (common9_fc (h_a.mono ((hG1.trans hG38).trans hG47)) (h_b.mono ((hG1.trans hG38).trans hG47)) (by first | assumption | omega | (simp; omega) | (exact PairsR.fold (by assumption) (by assumption)))) rfl (List.Perm.refl _) ?_
                          intro _ G55 _ hG55 q57
                          refine match q57 with | ⟨e_58, _, e_59, hv56⟩ => ?_
                          subst e_58
                          subst e_59
                          have q61 := hv56.form
                          refine match q61 with | ⟨sa_hv56, sc_hv56, e_60⟩ => ?_
                          subst e_60
                          refine W.yes (dj := 122) rfl rfl rfl ?_
                          refine W.mv ?_
                          refine W.yes (dj := 122) rfl rfl rfl ?_
                          refine W.giveO (ho_11.mono (hG47.trans hG55)) (List.Perm.refl _) (fun G62 hG62 hv62 => ?_)
                          have q64 := hv62.form
                          refine match q64 with | ⟨_, _, e_63⟩ => ?_
                          subst e_63
                          refine W.qcall ((samep_fc (hv56.mono hG62) hv62).mono (fun v _ _ _ hv => hv.trans (congrArg Value.bool (decide_eq_true ((com_filter _ _ hP.srt hPb.srt).trans (by rw [List.take_of_length_le (by omega)])))))) rfl ?_
                          refine W.ok (ok_pick_t rfl rfl) ?_
                          refine W.mv ?_
                          refine W.yes (dj := 129) rfl rfl rfl ?_
                          refine W.qcall (awake53_fc) rfl ?_
                          refine W.ok (ok_pick_t rfl rfl) ?_
                          refine W.as ?_
                          refine W.nil (thn_n ?_)
                          refine WC.ret ?_
                          refine ⟨.inr rfl, [_], ⟨rfl, trivial⟩, [], List.nil_sublist _, ?_⟩
                          rfl
                        · refine W.no (dj := 107) rfl rfl h99_1 ?_
                          refine W.no (dj := 107) rfl rfl h99_1 ?_
                          refine W.no (dj := 107) rfl rfl h99_1 ?_
                          refine W.yes (dj := 105) rfl rfl h104 ?_
                          refine W.ok (ok_pick_f rfl h99_1) ?_
                          refine W.yes (dj := 105) rfl rfl h104 ?_
                          refine W.mv ?_
                          refine W.yes (dj := 112) rfl rfl rfl ?_
                          refine W.mv ?_
                          refine W.yes (dj := 112) rfl rfl rfl ?_
                          refine W.ok (ok_not rfl) ?_
                          refine W.yes (dj := 112) rfl rfl rfl ?_
                          refine W.mv ?_
                          refine W.yes (dj := 115) rfl rfl (congrArg not h99_1) ?_
                          refine W.mv ?_
                          refine W.yes (dj := 115) rfl rfl (congrArg not h99_1) ?_
                          refine W.ok (ok_len sl22 hv48 rfl) ?_
                          refine W.yes (dj := 115) rfl rfl (congrArg not h99_1) ?_
                          refine W.ok (ok_eql rfl rfl) ?_
                          refine W.yes (dj := 112) rfl rfl rfl ?_
                          refine W.ok (ok_pick_t rfl (congrArg not h99_1)) ?_
                          refine W.yes (dj := 105) rfl rfl h104 ?_
                          refine W.ok (ok_pick_f rfl rfl) ?_
                          refine W.ok (ok_pick_t rfl h104) ?_
                          refine W.mv ?_
                          refine W.sp 122 rfl (fun h118 => ?_) (fun h118 => ?_)
                          · have p118 := of_decide_eq_true h118
                            refine W.yes (dj := 122) rfl rfl h118 ?_
                            refine W.mv ?_
                            refine W.yes (dj := 122) rfl rfl h118 ?_
                            refine W.mv ?_
                            refine W.yes (dj := 122) rfl rfl h118 ?_
                            refine W.call (Mp := []) (common9_fc (h_a.mono ((hG1.trans hG38).trans hG47)) (h_b.mono ((hG1.trans hG38).trans hG47)) (by first | assumption | omega | (simp; omega) | (exact PairsR.fold (by assumption) (by assumption)))) rfl (List.Perm.refl _) ?_
                            intro _ G65 _ hG65 q67
                            refine match q67 with | ⟨e_68, _, e_69, hv66⟩ => ?_
                            subst e_68
                            subst e_69
                            have q71 := hv66.form
                            refine match q71 with | ⟨sa_hv66, sc_hv66, e_70⟩ => ?_
                            subst e_70
                            refine W.yes (dj := 122) rfl rfl h118 ?_
                            refine W.mv ?_
                            refine W.yes (dj := 122) rfl rfl h118 ?_
                            refine W.giveO (ho_11.mono (hG47.trans hG65)) (List.Perm.refl _) (fun G72 hG72 hv72 => ?_)
                            have q74 := hv72.form
                            refine match q74 with | ⟨_, _, e_73⟩ => ?_
                            subst e_73
                            refine W.qcall ((samep_fc (hv66.mono hG72) hv72).mono (fun v _ _ _ hv => hv.trans (congrArg Value.bool (decide_eq_true ((com_filter _ _ hP.srt hPb.srt).trans (by rw [List.take_of_length_le (by omega)])))))) rfl ?_
                            refine W.ok (ok_pick_t rfl h118) ?_
                            refine W.mv ?_
                            refine W.yes (dj := 129) rfl rfl rfl ?_
                            refine W.qcall (awake53_fc) rfl ?_
                            refine W.ok (ok_pick_t rfl rfl) ?_
                            refine W.as ?_
                            refine W.nil (thn_n ?_)
                            refine WC.ret ?_
                            refine ⟨.inr rfl, [_], ⟨rfl, trivial⟩, [], List.nil_sublist _, ?_⟩
                            rfl
                          · have p118 := of_decide_eq_false h118
                            refine absurd ?_ p118
                            rw [hap0 (by assumption)]; rfl
                      · rw [hwk, hap2] at h104; simp at h104

end Go.Proofs.Ytipdjeemjiimbaa
