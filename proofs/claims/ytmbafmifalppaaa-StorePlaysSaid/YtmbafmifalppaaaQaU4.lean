/- Walks of stores. -/
import Derived.Test.YtmbafmifalppaaaQaU3
import Derived.Test.YtmbafmifalppaaaQaNi
set_option maxRecDepth 100000
set_option maxHeartbeats 1600000
set_option linter.unusedVariables false
set_option linter.unusedSimpArgs false
set_option linter.unnecessarySimpa false
namespace Go.Proofs.Ytmbafmifalppaaa
open Go Go.Fw Go.RowKit
theorem pset_fc {G : GH} {b : Nat} {c : Cfg} {l : List Nd} {M : MH} (h : StR 35 4 3 179 132 b c G l M) {cs : List Value} {x : Nd} (hx : NodeC G cs x) : Fc Try.prog 33 [.pointer (some ⟨b, 0, none⟩), .agg (List.toArray cs)] G M (fun v G' M' => v = .int .i64 (putL l x).1 ∧ StR 35 4 3 179 132 b c G' (putL l x).2 M') := by
  obtain ⟨hc, hl, b2, Ma, rfl, hA⟩ := h
  exact (tset_fc hA hx).mono fun v G' M' hle ⟨e1, e2⟩ => ⟨by rw [e1, ar_set hl], hc, by rw [putL_len]; exact hl, e2.cast (congrArg Prod.snd (ar_set hl x))⟩
theorem ptake_fc {G : GH} {b : Nat} {c : Cfg} {l : List Nd} {M : MH} (h : StR 35 4 3 179 132 b c G l M) {cs : List Value} {x : Nd} (hx : NodeC G cs x) : Fc Try.prog 35 [.pointer (some ⟨b, 0, none⟩), .agg (List.toArray cs)] G M (fun v G' M' => v = .tuple #[.int .i64 (takeL c.slots.toNat l x).1.1, .int .i64 (takeL c.slots.toNat l x).1.2] ∧ StR 35 4 3 179 132 b c G' (takeL c.slots.toNat l x).2 M') := by
  obtain ⟨hc, hl, b2, Ma, rfl, hA⟩ := h
  exact (ttake_fc hA hx).mono fun v G' M' hle ⟨e1, e2⟩ => ⟨by rw [e1, ar_take hl], hc, takeL_len hl, e2.cast (congrArg Prod.snd (ar_take hl x))⟩
theorem pnode_fc {G : GH} {b : Nat} {c : Cfg} {l : List Nd} {M : MH} (h : StR 35 4 3 179 132 b c G l M) (i : Int) : Fc Try.prog 37 [.pointer (some ⟨b, 0, none⟩), .int .i64 i] G M (fun v G' M' => (∃ cs, v = .tuple #[.agg (List.toArray cs), .bool (decide (0 ≤ i ∧ i < l.length))] ∧ NodeC G' cs (getL l i)) ∧ M' = M) := by
  obtain ⟨hc, hl, b2, Ma, rfl, hA⟩ := h
  exact (tnode_fc (c := c) hA i).mono fun v G' M' hle ⟨⟨cs, e1, e2⟩, e3⟩ => ⟨⟨cs, by rw [e1, ar_has hl], e2.of (ar_get hl i)⟩, e3⟩
theorem pnodes_fc {G : GH} {b : Nat} {c : Cfg} {l : List Nd} {M : MH} (h : StR 35 4 3 179 132 b c G l M) : Fc Try.prog 41 [.pointer (some ⟨b, 0, none⟩)] G M (fun v G' M' => SlR eNode G' v l ∧ M' = M) := by
  obtain ⟨hc, hl, b2, Ma, rfl, hA⟩ := h
  exact (tnodes_fc (c := c) hA).mono fun v G' M' hle ⟨e1, e2⟩ => ⟨SlR.cast e1 (nodes_all hl), e2⟩
theorem pused_fc {G : GH} {b : Nat} {c : Cfg} {l : List Nd} {M : MH} (h : StR 35 4 3 179 132 b c G l M) : Fc Try.prog 42 [.pointer (some ⟨b, 0, none⟩)] G M (fun v G' M' => v = .int .i64 (l.length : Int) ∧ M' = M) := by
  obtain ⟨hc, hl, b2, Ma, rfl, hA⟩ := h
  exact (tused_fc (c := c) hA).mono fun v G' M' hle ⟨e1, e2⟩ => ⟨by rw [e1, ar_used hl, iota_len], e2⟩
theorem proom_fc {G : GH} {b : Nat} {c : Cfg} {l : List Nd} {M : MH} (h : StR 35 4 3 179 132 b c G l M) : Fc Try.prog 43 [.pointer (some ⟨b, 0, none⟩)] G M (fun v G' M' => v = .int .i64 ((c.slots.toNat - l.length : Nat) : Int) ∧ M' = M) := by
  obtain ⟨hc, hl, b2, Ma, rfl, hA⟩ := h
  exact (troom_fc (c := c) hA).mono fun v G' M' hle ⟨e1, e2⟩ => ⟨by rw [e1]; have h1 := free_used (arOf c.slots.toNat l).2; rw [ar_used hl, iota_len, ar_len hl] at h1; exact congrArg (fun n : Nat => Value.int .i64 (n : Int)) (by omega), e2⟩
theorem among_fc {G : GH} (n : Int) (a : Int) (b : Int) :
    Fc Try.prog 83 [.int .i64 n, .int .i64 a, .int .i64 b] G [] (fun v _ _ => v = .bool (decide (a ≤ n ∧ n ≤ b))) := by
 refine Fc.intro (rs := [.tmp 6]) cl83 Try.func83 rfl Try.ntmps83 rfl rfl (fun w0 => ?_)
 refine WC.seq (WC.region (W.as (W.nil (thn_n (WC.seq (WC.region (W.mv (W.mv (W.ok (ok_geq rfl rfl) (W.mv ?_))))))))))
 refine W.sp 10 rfl (fun h9 => ?_) (fun h9 => ?_)
 ·have p9 := of_decide_eq_true h9
  refine W.yes (dj := 10) rfl rfl h9 (W.mv (W.yes (dj := 10) rfl rfl h9 (W.mv (W.yes (dj := 10) rfl rfl h9 (W.ok (ok_leq rfl rfl) (W.ok (ok_pick_t rfl h9) (W.as (W.nil (thn_n (WC.ret ?_))))))))))
  refine ⟨.inr rfl, [_], ⟨rfl, trivial⟩, [], sn9, ?_⟩
  refine congrArg Value.bool ?_
  first | (simp_all; done) | (simp_all; omega) | (simp_all; intros; omega)
 have p9 := of_decide_eq_false h9
 refine W.no (dj := 10) rfl rfl h9 (W.no (dj := 10) rfl rfl h9 (W.no (dj := 10) rfl rfl h9 (W.ok (ok_pick_f rfl h9) (W.as (W.nil (thn_n (WC.ret ?_)))))))
 refine ⟨.inr rfl, [_], ⟨rfl, trivial⟩, [], sn9, ?_⟩
 refine congrArg Value.bool ?_
 first | (simp_all; done) | (simp_all; omega) | (simp_all; intros; omega)

theorem stright_fc {G : GH} (cfan : Int) (cleaf : Int) (cbud : Int) (cslots : Int) (crest : Int) :
    Fc Try.prog 30 [.agg #[.int .i64 cfan, .int .i64 cleaf, .int .i64 cbud, .int .i64 cslots, .int .i64 crest]] G [] (fun v _ _ => v = .bool (decide (CfgR (⟨cfan, cleaf, cbud, cslots, crest⟩ : Cfg)))) := by
 refine Fc.intro (rs := [.tmp 2]) cl30 Try.func30 rfl Try.ntmps30 rfl rfl (fun w0 => ?_)
 refine WC.seq (WC.region (W.box (L := [.int .i64 _, .int .i64 _, .int .i64 _, .int .i64 _, .int .i64 _]) rfl rfl (fun b1 => (W.as (W.nil (thn_n (WC.seq (WC.region (W.ok (ok_fieldB fd23_0 rfl) (W.ok (ok_loadB (i := 0) (vs := [.int .i64 _]) ty3 rfl rfl rfl rfl (by simp)) (W.qcall (among_fc _ _ _) rfl (W.mv ?_))))))))))))
 refine W.sp 6 rfl (fun h5 => ?_) (fun h5 => ?_)
 ·refine W.yes (dj := 6) rfl rfl h5 (W.ok (ok_fieldB fd23_1 rfl) (W.yes (dj := 6) rfl rfl h5 (W.ok (ok_loadB (i := 0) (vs := [.int .i64 _]) ty3 rfl rfl rfl rfl (by simp)) (W.yes (dj := 6) rfl rfl h5 (W.qcall (among_fc _ _ _) rfl (W.ok (ok_pick_t rfl h5) (W.mv ?_)))))))
  refine W.sp 11 rfl (fun h9 => ?_) (fun h9 => ?_)
  ·refine W.yes (dj := 11) rfl rfl h9 (W.ok (ok_fieldB fd23_2 rfl) (W.yes (dj := 11) rfl rfl h9 (W.ok (ok_loadB (i := 0) (vs := [.int .i64 _]) ty3 rfl rfl rfl rfl (by simp)) (W.yes (dj := 11) rfl rfl h9 (W.qcall (among_fc _ _ _) rfl (W.ok (ok_pick_t rfl h9) (W.mv ?_)))))))
   refine W.sp 16 rfl (fun h14 => ?_) (fun h14 => ?_)
   ·refine W.yes (dj := 16) rfl rfl h14 (W.ok (ok_fieldB fd23_3 rfl) (W.yes (dj := 16) rfl rfl h14 (W.ok (ok_loadB (i := 0) (vs := [.int .i64 _]) ty3 rfl rfl rfl rfl (by simp)) (W.yes (dj := 16) rfl rfl h14 (W.qcall (among_fc _ _ _) rfl (W.ok (ok_pick_t rfl h14) (W.mv ?_)))))))
    refine W.sp 21 rfl (fun h19 => ?_) (fun h19 => ?_)
    ·refine W.yes (dj := 21) rfl rfl h19 (W.ok (ok_fieldB fd23_4 rfl) (W.yes (dj := 21) rfl rfl h19 (W.ok (ok_loadB (i := 0) (vs := [.int .i64 _]) ty3 rfl rfl rfl rfl (by simp)) (W.yes (dj := 21) rfl rfl h19 (W.qcall (among_fc _ _ _) rfl (W.ok (ok_pick_t rfl h19) (W.as (W.nil (thn_n (WC.ret ?_))))))))))
     refine ⟨.inr rfl, [_], ⟨rfl, trivial⟩, [], sn9, ?_⟩
     refine congrArg Value.bool ?_
     rw [Bool.eq_iff_iff, decide_eq_true_iff]
     simp only [CfgR]
     first | (simp_all; done) | (simp_all; omega) | (simp_all; intros; omega)
    refine W.no (dj := 21) rfl rfl h19 (W.no (dj := 21) rfl rfl h19 (W.no (dj := 21) rfl rfl h19 (W.ok (ok_pick_f rfl h19) (W.as (W.nil (thn_n (WC.ret ?_)))))))
    refine ⟨.inr rfl, [_], ⟨rfl, trivial⟩, [], sn9, ?_⟩
    refine congrArg Value.bool ?_
    rw [Bool.eq_iff_iff, decide_eq_true_iff]
    simp only [CfgR]
    first | (simp_all; done) | (simp_all; omega) | (simp_all; intros; omega)
   refine W.no (dj := 16) rfl rfl h14 (W.no (dj := 16) rfl rfl h14 (W.no (dj := 16) rfl rfl h14 (W.ok (ok_pick_f rfl h14) (W.mv (W.no (dj := 21) rfl rfl rfl (W.no (dj := 21) rfl rfl rfl (W.no (dj := 21) rfl rfl rfl (W.ok (ok_pick_f rfl rfl) (W.as (W.nil (thn_n (WC.ret ?_))))))))))))
   refine ⟨.inr rfl, [_], ⟨rfl, trivial⟩, [], sn9, ?_⟩
   refine congrArg Value.bool ?_
   rw [Bool.eq_iff_iff, decide_eq_true_iff]
   simp only [CfgR]
   first | (simp_all; done) | (simp_all; omega) | (simp_all; intros; omega)
  refine W.no (dj := 11) rfl rfl h9 (W.no (dj := 11) rfl rfl h9 (W.no (dj := 11) rfl rfl h9 (W.ok (ok_pick_f rfl h9) (W.mv (W.no (dj := 16) rfl rfl rfl (W.no (dj := 16) rfl rfl rfl (W.no (dj := 16) rfl rfl rfl (W.ok (ok_pick_f rfl rfl) (W.mv (W.no (dj := 21) rfl rfl rfl (W.no (dj := 21) rfl rfl rfl (W.no (dj := 21) rfl rfl rfl (W.ok (ok_pick_f rfl rfl) ?_)))))))))))))
  refine W.as (W.nil (thn_n (WC.ret ?_)))
  refine ⟨.inr rfl, [_], ⟨rfl, trivial⟩, [], sn9, ?_⟩
  refine congrArg Value.bool ?_
  rw [Bool.eq_iff_iff, decide_eq_true_iff]
  simp only [CfgR]
  first | (simp_all; done) | (simp_all; omega) | (simp_all; intros; omega)
 refine W.no (dj := 6) rfl rfl h5 (W.no (dj := 6) rfl rfl h5 (W.no (dj := 6) rfl rfl h5 (W.ok (ok_pick_f rfl h5) (W.mv (W.no (dj := 11) rfl rfl rfl (W.no (dj := 11) rfl rfl rfl (W.no (dj := 11) rfl rfl rfl (W.ok (ok_pick_f rfl rfl) (W.mv (W.no (dj := 16) rfl rfl rfl (W.no (dj := 16) rfl rfl rfl (W.no (dj := 16) rfl rfl rfl (W.ok (ok_pick_f rfl rfl) ?_)))))))))))))
 refine W.mv (W.no (dj := 21) rfl rfl rfl (W.no (dj := 21) rfl rfl rfl (W.no (dj := 21) rfl rfl rfl (W.ok (ok_pick_f rfl rfl) (W.as (W.nil (thn_n (WC.ret ?_))))))))
 refine ⟨.inr rfl, [_], ⟨rfl, trivial⟩, [], sn9, ?_⟩
 refine congrArg Value.bool ?_
 rw [Bool.eq_iff_iff, decide_eq_true_iff]
 simp only [CfgR]
 first | (simp_all; done) | (simp_all; omega) | (simp_all; intros; omega)

theorem rright25_fc {G : GH} (cfan : Int) (cleaf : Int) (cbud : Int) (cslots : Int) (crest : Int) :
    Fc Try.prog 29 [.agg #[.int .i64 cfan, .int .i64 cleaf, .int .i64 cbud, .int .i64 cslots, .int .i64 crest]] G [] (fun v _ _ => v = .bool (decide (CfgR (⟨cfan, cleaf, cbud, cslots, crest⟩ : Cfg)))) := by
 refine Fc.intro (rs := [.tmp 2]) cl29 Try.func29 rfl Try.ntmps29 rfl rfl (fun w0 => ?_)
 refine WC.seq (WC.region (W.box (L := [.int .i64 _, .int .i64 _, .int .i64 _, .int .i64 _, .int .i64 _]) rfl rfl (fun b2 => (W.as (W.nil (thn_n (WC.seq (WC.region (W.ok (ok_fieldB fd23_0 rfl) (W.ok (ok_loadB (i := 0) (vs := [.int .i64 _]) ty3 rfl rfl rfl rfl (by simp)) (W.ok (ok_geq rfl rfl) (W.mv ?_))))))))))))
 refine W.sp 6 rfl (fun h5 => ?_) (fun h5 => ?_)
 ·have p5 := of_decide_eq_true h5
  refine W.yes (dj := 6) rfl rfl h5 (W.ok (ok_fieldB fd23_0 rfl) (W.yes (dj := 6) rfl rfl h5 (W.ok (ok_loadB (i := 0) (vs := [.int .i64 _]) ty3 rfl rfl rfl rfl (by simp)) (W.yes (dj := 6) rfl rfl h5 (W.ok (ok_leq rfl rfl) (W.ok (ok_pick_t rfl h5) (W.mv ?_)))))))
  refine W.sp 11 rfl (fun h9 => ?_) (fun h9 => ?_)
  ·have p9 := of_decide_eq_true h9
   refine W.yes (dj := 11) rfl rfl h9 (W.ok (ok_fieldB fd23_1 rfl) (W.yes (dj := 11) rfl rfl h9 (W.ok (ok_loadB (i := 0) (vs := [.int .i64 _]) ty3 rfl rfl rfl rfl (by simp)) (W.yes (dj := 11) rfl rfl h9 (W.ok (ok_geq rfl rfl) (W.ok (ok_pick_t rfl h9) (W.mv ?_)))))))
   refine W.sp 16 rfl (fun h14 => ?_) (fun h14 => ?_)
   ·have p14 := of_decide_eq_true h14
    refine W.yes (dj := 16) rfl rfl h14 (W.ok (ok_fieldB fd23_1 rfl) (W.yes (dj := 16) rfl rfl h14 (W.ok (ok_loadB (i := 0) (vs := [.int .i64 _]) ty3 rfl rfl rfl rfl (by simp)) (W.yes (dj := 16) rfl rfl h14 (W.ok (ok_leq rfl rfl) (W.ok (ok_pick_t rfl h14) (W.mv ?_)))))))
    refine W.sp 21 rfl (fun h19 => ?_) (fun h19 => ?_)
    ·have p19 := of_decide_eq_true h19
     refine W.yes (dj := 21) rfl rfl h19 (W.ok (ok_fieldB fd23_2 rfl) (W.yes (dj := 21) rfl rfl h19 (W.ok (ok_loadB (i := 0) (vs := [.int .i64 _]) ty3 rfl rfl rfl rfl (by simp)) (W.yes (dj := 21) rfl rfl h19 (W.ok (ok_geq rfl rfl) (W.ok (ok_pick_t rfl h19) (W.mv ?_)))))))
     refine W.sp 26 rfl (fun h24 => ?_) (fun h24 => ?_)
     ·have p24 := of_decide_eq_true h24
      refine W.yes (dj := 26) rfl rfl h24 (W.ok (ok_fieldB fd23_2 rfl) (W.yes (dj := 26) rfl rfl h24 (W.ok (ok_loadB (i := 0) (vs := [.int .i64 _]) ty3 rfl rfl rfl rfl (by simp)) (W.yes (dj := 26) rfl rfl h24 (W.ok (ok_leq rfl rfl) (W.ok (ok_pick_t rfl h24) (W.mv ?_)))))))
      refine W.sp 31 rfl (fun h29 => ?_) (fun h29 => ?_)
      ·have p29 := of_decide_eq_true h29
       refine W.yes (dj := 31) rfl rfl h29 (W.ok (ok_fieldB fd23_3 rfl) (W.yes (dj := 31) rfl rfl h29 (W.ok (ok_loadB (i := 0) (vs := [.int .i64 _]) ty3 rfl rfl rfl rfl (by simp)) (W.yes (dj := 31) rfl rfl h29 (W.ok (ok_geq rfl rfl) (W.ok (ok_pick_t rfl h29) (W.mv ?_)))))))
       refine W.sp 36 rfl (fun h34 => ?_) (fun h34 => ?_)
       ·have p34 := of_decide_eq_true h34
        refine W.yes (dj := 36) rfl rfl h34 (W.ok (ok_fieldB fd23_3 rfl) (W.yes (dj := 36) rfl rfl h34 (W.ok (ok_loadB (i := 0) (vs := [.int .i64 _]) ty3 rfl rfl rfl rfl (by simp)) (W.yes (dj := 36) rfl rfl h34 (W.ok (ok_leq rfl rfl) (W.ok (ok_pick_t rfl h34) (W.mv ?_)))))))
        refine W.sp 41 rfl (fun h39 => ?_) (fun h39 => ?_)
        ·have p39 := of_decide_eq_true h39
         refine W.yes (dj := 41) rfl rfl h39 (W.ok (ok_fieldB fd23_4 rfl) (W.yes (dj := 41) rfl rfl h39 (W.ok (ok_loadB (i := 0) (vs := [.int .i64 _]) ty3 rfl rfl rfl rfl (by simp)) (W.yes (dj := 41) rfl rfl h39 (W.ok (ok_geq rfl rfl) (W.ok (ok_pick_t rfl h39) (W.mv ?_)))))))
         refine W.sp 46 rfl (fun h44 => ?_) (fun h44 => ?_)
         ·have p44 := of_decide_eq_true h44
          refine W.yes (dj := 46) rfl rfl h44 (W.ok (ok_fieldB fd23_4 rfl) (W.yes (dj := 46) rfl rfl h44 (W.ok (ok_loadB (i := 0) (vs := [.int .i64 _]) ty3 rfl rfl rfl rfl (by simp)) (W.yes (dj := 46) rfl rfl h44 (W.ok (ok_leq rfl rfl) (W.ok (ok_pick_t rfl h44) (W.as (W.nil (thn_n (WC.ret ?_))))))))))
          refine ⟨.inr rfl, [_], ⟨rfl, trivial⟩, [], sn9, ?_⟩
          refine congrArg Value.bool ?_
          rw [Bool.eq_iff_iff, decide_eq_true_iff]
          simp only [CfgR]
          first | (simp_all; done) | (simp_all; omega)
         have p44 := of_decide_eq_false h44
         refine W.no (dj := 46) rfl rfl h44 (W.no (dj := 46) rfl rfl h44 (W.no (dj := 46) rfl rfl h44 (W.ok (ok_pick_f rfl h44) (W.as (W.nil (thn_n (WC.ret ?_)))))))
         refine ⟨.inr rfl, [_], ⟨rfl, trivial⟩, [], sn9, ?_⟩
         refine congrArg Value.bool ?_
         rw [Bool.eq_iff_iff, decide_eq_true_iff]
         simp only [CfgR]
         first | (simp_all; done) | (simp_all; omega)
        have p39 := of_decide_eq_false h39
        refine W.no (dj := 41) rfl rfl h39 (W.no (dj := 41) rfl rfl h39 (W.no (dj := 41) rfl rfl h39 (W.ok (ok_pick_f rfl h39) (W.mv (W.no (dj := 46) rfl rfl rfl (W.no (dj := 46) rfl rfl rfl (W.no (dj := 46) rfl rfl rfl (W.ok (ok_pick_f rfl rfl) (W.as (W.nil (thn_n (WC.ret ?_))))))))))))
        refine ⟨.inr rfl, [_], ⟨rfl, trivial⟩, [], sn9, ?_⟩
        refine congrArg Value.bool ?_
        rw [Bool.eq_iff_iff, decide_eq_true_iff]
        simp only [CfgR]
        first | (simp_all; done) | (simp_all; omega)
       have p34 := of_decide_eq_false h34
       refine W.no (dj := 36) rfl rfl h34 (W.no (dj := 36) rfl rfl h34 (W.no (dj := 36) rfl rfl h34 (W.ok (ok_pick_f rfl h34) (W.mv (W.no (dj := 41) rfl rfl rfl (W.no (dj := 41) rfl rfl rfl (W.no (dj := 41) rfl rfl rfl (W.ok (ok_pick_f rfl rfl) (W.mv (W.no (dj := 46) rfl rfl rfl (W.no (dj := 46) rfl rfl rfl (W.no (dj := 46) rfl rfl rfl (W.ok (ok_pick_f rfl rfl) ?_)))))))))))))
       refine W.as (W.nil (thn_n (WC.ret ?_)))
       refine ⟨.inr rfl, [_], ⟨rfl, trivial⟩, [], sn9, ?_⟩
       refine congrArg Value.bool ?_
       rw [Bool.eq_iff_iff, decide_eq_true_iff]
       simp only [CfgR]
       first | (simp_all; done) | (simp_all; omega)
      have p29 := of_decide_eq_false h29
      refine W.no (dj := 31) rfl rfl h29 (W.no (dj := 31) rfl rfl h29 (W.no (dj := 31) rfl rfl h29 (W.ok (ok_pick_f rfl h29) (W.mv (W.no (dj := 36) rfl rfl rfl (W.no (dj := 36) rfl rfl rfl (W.no (dj := 36) rfl rfl rfl (W.ok (ok_pick_f rfl rfl) (W.mv (W.no (dj := 41) rfl rfl rfl (W.no (dj := 41) rfl rfl rfl (W.no (dj := 41) rfl rfl rfl (W.ok (ok_pick_f rfl rfl) ?_)))))))))))))
      refine W.mv (W.no (dj := 46) rfl rfl rfl (W.no (dj := 46) rfl rfl rfl (W.no (dj := 46) rfl rfl rfl (W.ok (ok_pick_f rfl rfl) (W.as (W.nil (thn_n (WC.ret ?_))))))))
      refine ⟨.inr rfl, [_], ⟨rfl, trivial⟩, [], sn9, ?_⟩
      refine congrArg Value.bool ?_
      rw [Bool.eq_iff_iff, decide_eq_true_iff]
      simp only [CfgR]
      first | (simp_all; done) | (simp_all; omega)
     have p24 := of_decide_eq_false h24
     refine W.no (dj := 26) rfl rfl h24 (W.no (dj := 26) rfl rfl h24 (W.no (dj := 26) rfl rfl h24 (W.ok (ok_pick_f rfl h24) (W.mv (W.no (dj := 31) rfl rfl rfl (W.no (dj := 31) rfl rfl rfl (W.no (dj := 31) rfl rfl rfl (W.ok (ok_pick_f rfl rfl) (W.mv (W.no (dj := 36) rfl rfl rfl (W.no (dj := 36) rfl rfl rfl (W.no (dj := 36) rfl rfl rfl (W.ok (ok_pick_f rfl rfl) ?_)))))))))))))
     refine W.mv (W.no (dj := 41) rfl rfl rfl (W.no (dj := 41) rfl rfl rfl (W.no (dj := 41) rfl rfl rfl (W.ok (ok_pick_f rfl rfl) (W.mv (W.no (dj := 46) rfl rfl rfl (W.no (dj := 46) rfl rfl rfl (W.no (dj := 46) rfl rfl rfl (W.ok (ok_pick_f rfl rfl) (W.as (W.nil (thn_n (WC.ret ?_)))))))))))))
     refine ⟨.inr rfl, [_], ⟨rfl, trivial⟩, [], sn9, ?_⟩
     refine congrArg Value.bool ?_
     rw [Bool.eq_iff_iff, decide_eq_true_iff]
     simp only [CfgR]
     first | (simp_all; done) | (simp_all; omega)
    have p19 := of_decide_eq_false h19
    refine W.no (dj := 21) rfl rfl h19 (W.no (dj := 21) rfl rfl h19 (W.no (dj := 21) rfl rfl h19 (W.ok (ok_pick_f rfl h19) (W.mv (W.no (dj := 26) rfl rfl rfl (W.no (dj := 26) rfl rfl rfl (W.no (dj := 26) rfl rfl rfl (W.ok (ok_pick_f rfl rfl) (W.mv (W.no (dj := 31) rfl rfl rfl (W.no (dj := 31) rfl rfl rfl (W.no (dj := 31) rfl rfl rfl (W.ok (ok_pick_f rfl rfl) ?_)))))))))))))
    refine W.mv (W.no (dj := 36) rfl rfl rfl (W.no (dj := 36) rfl rfl rfl (W.no (dj := 36) rfl rfl rfl (W.ok (ok_pick_f rfl rfl) (W.mv (W.no (dj := 41) rfl rfl rfl (W.no (dj := 41) rfl rfl rfl (W.no (dj := 41) rfl rfl rfl (W.ok (ok_pick_f rfl rfl) (W.mv (W.no (dj := 46) rfl rfl rfl (W.no (dj := 46) rfl rfl rfl (W.no (dj := 46) rfl rfl rfl ?_)))))))))))))
    refine W.ok (ok_pick_f rfl rfl) (W.as (W.nil (thn_n (WC.ret ?_))))
    refine ⟨.inr rfl, [_], ⟨rfl, trivial⟩, [], sn9, ?_⟩
    refine congrArg Value.bool ?_
    rw [Bool.eq_iff_iff, decide_eq_true_iff]
    simp only [CfgR]
    first | (simp_all; done) | (simp_all; omega)
   have p14 := of_decide_eq_false h14
   refine W.no (dj := 16) rfl rfl h14 (W.no (dj := 16) rfl rfl h14 (W.no (dj := 16) rfl rfl h14 (W.ok (ok_pick_f rfl h14) (W.mv (W.no (dj := 21) rfl rfl rfl (W.no (dj := 21) rfl rfl rfl (W.no (dj := 21) rfl rfl rfl (W.ok (ok_pick_f rfl rfl) (W.mv (W.no (dj := 26) rfl rfl rfl (W.no (dj := 26) rfl rfl rfl (W.no (dj := 26) rfl rfl rfl (W.ok (ok_pick_f rfl rfl) ?_)))))))))))))
   refine W.mv (W.no (dj := 31) rfl rfl rfl (W.no (dj := 31) rfl rfl rfl (W.no (dj := 31) rfl rfl rfl (W.ok (ok_pick_f rfl rfl) (W.mv (W.no (dj := 36) rfl rfl rfl (W.no (dj := 36) rfl rfl rfl (W.no (dj := 36) rfl rfl rfl (W.ok (ok_pick_f rfl rfl) (W.mv (W.no (dj := 41) rfl rfl rfl (W.no (dj := 41) rfl rfl rfl (W.no (dj := 41) rfl rfl rfl ?_)))))))))))))
   refine W.ok (ok_pick_f rfl rfl) (W.mv (W.no (dj := 46) rfl rfl rfl (W.no (dj := 46) rfl rfl rfl (W.no (dj := 46) rfl rfl rfl (W.ok (ok_pick_f rfl rfl) (W.as (W.nil (thn_n (WC.ret ?_)))))))))
   refine ⟨.inr rfl, [_], ⟨rfl, trivial⟩, [], sn9, ?_⟩
   refine congrArg Value.bool ?_
   rw [Bool.eq_iff_iff, decide_eq_true_iff]
   simp only [CfgR]
   first | (simp_all; done) | (simp_all; omega)
  have p9 := of_decide_eq_false h9
  refine W.no (dj := 11) rfl rfl h9 (W.no (dj := 11) rfl rfl h9 (W.no (dj := 11) rfl rfl h9 (W.ok (ok_pick_f rfl h9) (W.mv (W.no (dj := 16) rfl rfl rfl (W.no (dj := 16) rfl rfl rfl (W.no (dj := 16) rfl rfl rfl (W.ok (ok_pick_f rfl rfl) (W.mv (W.no (dj := 21) rfl rfl rfl (W.no (dj := 21) rfl rfl rfl (W.no (dj := 21) rfl rfl rfl (W.ok (ok_pick_f rfl rfl) ?_)))))))))))))
  refine W.mv (W.no (dj := 26) rfl rfl rfl (W.no (dj := 26) rfl rfl rfl (W.no (dj := 26) rfl rfl rfl (W.ok (ok_pick_f rfl rfl) (W.mv (W.no (dj := 31) rfl rfl rfl (W.no (dj := 31) rfl rfl rfl (W.no (dj := 31) rfl rfl rfl (W.ok (ok_pick_f rfl rfl) (W.mv (W.no (dj := 36) rfl rfl rfl (W.no (dj := 36) rfl rfl rfl (W.no (dj := 36) rfl rfl rfl ?_)))))))))))))
  refine W.ok (ok_pick_f rfl rfl) (W.mv (W.no (dj := 41) rfl rfl rfl (W.no (dj := 41) rfl rfl rfl (W.no (dj := 41) rfl rfl rfl (W.ok (ok_pick_f rfl rfl) (W.mv (W.no (dj := 46) rfl rfl rfl (W.no (dj := 46) rfl rfl rfl (W.no (dj := 46) rfl rfl rfl (W.ok (ok_pick_f rfl rfl) (W.as (W.nil (thn_n (WC.ret ?_))))))))))))))
  refine ⟨.inr rfl, [_], ⟨rfl, trivial⟩, [], sn9, ?_⟩
  refine congrArg Value.bool ?_
  rw [Bool.eq_iff_iff, decide_eq_true_iff]
  simp only [CfgR]
  first | (simp_all; done) | (simp_all; omega)
 have p5 := of_decide_eq_false h5
 refine W.no (dj := 6) rfl rfl h5 (W.no (dj := 6) rfl rfl h5 (W.no (dj := 6) rfl rfl h5 (W.ok (ok_pick_f rfl h5) (W.mv (W.no (dj := 11) rfl rfl rfl (W.no (dj := 11) rfl rfl rfl (W.no (dj := 11) rfl rfl rfl (W.ok (ok_pick_f rfl rfl) (W.mv (W.no (dj := 16) rfl rfl rfl (W.no (dj := 16) rfl rfl rfl (W.no (dj := 16) rfl rfl rfl (W.ok (ok_pick_f rfl rfl) ?_)))))))))))))
 refine W.mv (W.no (dj := 21) rfl rfl rfl (W.no (dj := 21) rfl rfl rfl (W.no (dj := 21) rfl rfl rfl (W.ok (ok_pick_f rfl rfl) (W.mv (W.no (dj := 26) rfl rfl rfl (W.no (dj := 26) rfl rfl rfl (W.no (dj := 26) rfl rfl rfl (W.ok (ok_pick_f rfl rfl) (W.mv (W.no (dj := 31) rfl rfl rfl (W.no (dj := 31) rfl rfl rfl (W.no (dj := 31) rfl rfl rfl ?_)))))))))))))
 refine W.ok (ok_pick_f rfl rfl) (W.mv (W.no (dj := 36) rfl rfl rfl (W.no (dj := 36) rfl rfl rfl (W.no (dj := 36) rfl rfl rfl (W.ok (ok_pick_f rfl rfl) (W.mv (W.no (dj := 41) rfl rfl rfl (W.no (dj := 41) rfl rfl rfl (W.no (dj := 41) rfl rfl rfl (W.ok (ok_pick_f rfl rfl) (W.mv (W.no (dj := 46) rfl rfl rfl (W.no (dj := 46) rfl rfl rfl ?_)))))))))))))
 refine W.no (dj := 46) rfl rfl rfl (W.ok (ok_pick_f rfl rfl) (W.as (W.nil (thn_n (WC.ret ?_)))))
 refine ⟨.inr rfl, [_], ⟨rfl, trivial⟩, [], sn9, ?_⟩
 refine congrArg Value.bool ?_
 rw [Bool.eq_iff_iff, decide_eq_true_iff]
 simp only [CfgR]
 first | (simp_all; done) | (simp_all; omega)

theorem nleaf3_fc {G : GH} (s : Int) (hs : i64 s) :
    Fc Try.prog 82 [.int .i64 s] G [] (fun v G' M' => M' = [] ∧ ∃ u0, v = .agg (List.toArray u0) ∧ NodeC G' u0 (leafN s)) := by
 refine Fc.intro (rs := [.cell 2 35]) cl82 Try.func82 rfl Try.ntmps82 rfl rfl (fun w0 => ?_)
 refine WC.seq (WC.region (W.alloc zr35 (fun b3 => (W.nil (thn_n (WC.seq (WC.region (W.mv (W.ok (ok_build (L := (nd9 _ _ _ _ _ _ _ _ _ _ _ _ _ _ _ _ _ _)) pl35 zr35 rfl rfl rfl) (W.store (i := 0) (vs := (nd9 _ _ _ _ _ _ _ _ _ _ _ _ _ _ _ _ _ _)) (L' := (nd9 _ _ _ _ _ _ _ _ _ _ _ _ _ _ _ _ _ _)) ty35 rfl rfl rfl rfl rfl rfl rfl rfl (W.nil (thn_n (WC.ret ?_)))))))))))))
 refine ⟨.inr rfl, [_], ⟨⟨_, _, _, _, _, rfl, nthM_mem (i := 0) rfl, ty35, (by simp), rfl, rfl⟩, trivial⟩, [], sn9, ?_⟩
 refine ⟨rfl, _, rfl, ?_⟩
 · exact ⟨_, _, _, _, _, _, _, _, rfl, SlR.nil, SlR.nil, SlR.nil, SlR.nil, (leafN_ok hs)⟩

theorem stnew_fc {G : GH} (cfan : Int) (cleaf : Int) (cbud : Int) (cslots : Int) (crest : Int) :
    Fc Try.prog 28 [.agg #[.int .i64 cfan, .int .i64 cleaf, .int .i64 cbud, .int .i64 cslots, .int .i64 crest]] G [] (fun v G' M' => (¬ CfgR (⟨cfan, cleaf, cbud, cslots, crest⟩ : Cfg) ∧ v = .tuple #[.pointer none, .int .i64 2] ∧ M' = []) ∨ (CfgR (⟨cfan, cleaf, cbud, cslots, crest⟩ : Cfg) ∧ ∃ b, v = .tuple #[.pointer (some ⟨b, 0, none⟩), .int .i64 0] ∧ StR 35 4 3 179 132 b (⟨cfan, cleaf, cbud, cslots, crest⟩ : Cfg) G' [leafN 0] M')) := by
 refine Fc.intro (rs := [.tmp 2, .tmp 3]) cl28 Try.func28 rfl Try.ntmps28 rfl rfl (fun w0 => ?_)
 refine WC.seq (WC.region (W.box (L := [.int .i64 _, .int .i64 _, .int .i64 _, .int .i64 _, .int .i64 _]) rfl rfl (fun b4 => (W.as (W.as (W.nil (thn_n (WC.seq (WC.seq (WC.region (W.ok (ok_loadB (i := 0) (vs := [.int .i64 _, .int .i64 _, .int .i64 _, .int .i64 _, .int .i64 _]) ty23 rfl rfl rfl rfl (by simp)) (W.qcall (stright_fc _ _ _ _ _) rfl (W.ok (ok_not rfl) (W.nil (thn_n ?_)))))))))))))))
 refine WC.cond (b := _) rfl (fun h9 => ?_) (fun h9 => ?_)
 ·refine WC.seq (WC.region (W.as (W.as (W.nil (thn_n (WC.ret (thn_r ?_)))))))
  refine ⟨.inr rfl, [_, _], ⟨rfl, rfl, trivial⟩, [], sn9, ?_⟩
  exact .inl ⟨by simpa using h9, rfl, rfl⟩
 refine WC.skip (thn_n (WC.seq (WC.region (W.ok (ok_fieldB fd23_3 rfl) (W.ok (ok_loadB (i := 0) (vs := [.int .i64 _]) ty3 rfl rfl rfl rfl (by simp)) (W.call (Mp := []) (snewn_fc (cslots)) rfl pr9 ?_))))))
 intro v8 G5 Ms7 hG5 q6
 obtain ⟨bAr, eV9, hA9⟩ : ∃ b, v8 = .tuple #[.pointer (some ⟨b, 0, none⟩), .int .i64 0] ∧ ArR eNode 35 4 3 179 b G5 (List.replicate (cslots).toNat Nd.zero, List.replicate (cslots).toNat false) Ms7 := Or.elim q6 (fun hz => absurd (by have h8 : CfgR (⟨cfan, cleaf, cbud, cslots, crest⟩ : Cfg) := (by simpa using h9); unfold CfgR at h8; dsimp only at h8; omega) hz.1) (fun hz => hz.2)
 subst eV9
 refine W.perm (pmC pr9).symm (W.mv (W.ok (ok_extract rfl rfl) (W.ok (ok_extract rfl rfl) (W.as (W.as (W.nil (thn_n (WC.seq (WC.seq (WC.region (W.mv (W.ok (ok_neq rfl rfl) (W.nil (thn_n (WC.cond_f rfl rfl ?_)))))))))))))))
 refine WC.skip (thn_n (WC.seq (WC.region (W.ok (ok_loadB (i := 0) (vs := [.int .i64 _, .int .i64 _, .int .i64 _, .int .i64 _, .int .i64 _]) ty23 rfl rfl rfl rfl (by simp)) (W.mv (W.ok (ok_build (L := [.int .i64 _, .int .i64 _, .int .i64 _, .int .i64 _, .int .i64 _, .pointer _]) pl132 zr132 rfl rfl rfl) (W.box (L := [.int .i64 _, .int .i64 _, .int .i64 _, .int .i64 _, .int .i64 _, .pointer _]) rfl rfl (fun b9 => (W.as (W.nil (thn_n (WC.seq (WC.region (W.mv (W.call (Mp := []) (nleaf3_fc _ ⟨by decide, by decide⟩) rfl pr9 ?_)))))))))))))))
 intro _ G10 _ hG10 q12
 refine match q12 with | ⟨e_13, _, e_14, hv11⟩ => ?_
 subst e_13
 subst e_14
 refine match hv11 with | ⟨pa_hv11, pc_hv11, ka_hv11, kc_hv11, ma_hv11, mc_hv11, ra_hv11, rc_hv11, e_15, hp_hv11, hk_hv11, hm_hv11, hr_hv11, hok_hv11⟩ => ?_
 subst e_15
 refine W.call (Mp := ((b9, .cells (List.toArray [.int .i64 cfan, .int .i64 cleaf, .int .i64 cbud, .int .i64 cslots, .int .i64 crest, .pointer (some ⟨bAr, 0, none⟩)]) 132 (0, 0)) :: Ms7)) (Mr := ((b4, .cells (List.toArray [.int .i64 cfan, .int .i64 cleaf, .int .i64 cbud, .int .i64 cslots, .int .i64 crest]) 23 (0, 0)) :: [])) (ttake_fc (c := (⟨cfan, cleaf, cbud, cslots, crest⟩ : Cfg)) (ArR.mono hG10 hA9) ⟨_, _, _, _, _, _, _, _, rfl, hp_hv11, hk_hv11, hm_hv11, hr_hv11, hok_hv11⟩) rfl (((pmC pr9).cons _).trans pr9) ?_
 intro v19 G16 Ms18 hG16 q17
 refine match q17 with | ⟨e_21, hS20⟩ => ?_
 subst e_21
 refine W.perm (pmC pr9).symm (W.mv (W.ok (ok_extract rfl rfl) (W.ok (ok_extract rfl rfl) (W.as (W.nil (thn_n (WC.seq (WC.region (W.mv (W.mv (W.as (W.as (W.nil (thn_n (WC.ret ?_)))))))))))))))
 refine ⟨.inr rfl, [_, _], ⟨rfl, rfl, trivial⟩, (Ms18 ++ []), sr9.cons _, ?_⟩
 have hC : CfgR (⟨cfan, cleaf, cbud, cslots, crest⟩ : Cfg) := by simpa using h9
 have hE := ar_take (n := cslots.toNat) (l := []) (by simp) (leafN 0)
 rw [(pick_first (n := cslots.toNat) (by unfold CfgR at hC; dsimp only at hC; omega)).2, arOf_nil] at hE
 have hS := hS20
 rw [hE] at hS
 exact .inr ⟨hC, _, by rw [hE]; rfl, hC, by show 1 ≤ cslots.toNat; unfold CfgR at hC; dsimp only at hC; omega, by rw [List.append_nil]; exact hS⟩

end Go.Proofs.Ytmbafmifalppaaa
