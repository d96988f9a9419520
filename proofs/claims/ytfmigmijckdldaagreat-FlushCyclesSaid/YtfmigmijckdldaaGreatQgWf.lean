/- Walks of leaves behind messages. -/
import Derived.Test.YtfmigmijckdldaaGreatQgNl
set_option maxRecDepth 100000
set_option maxHeartbeats 1600000
set_option linter.unusedVariables false
set_option linter.unusedSimpArgs false
set_option linter.unnecessarySimpa false
namespace Go.Proofs.YtfmigmijckdldaaGreat
open Go Go.Fw Go.RowKit
attribute [local irreducible] Ok W WC
theorem ldrain_fc {G : GH} {v_l : Value} {l : List Pair} (h_l : SlR ePair G v_l l) {v_ms : Value} {ms : List Msg} (h_ms : SlR eMsg G v_ms ms) (n : Int) (hP : PairsR l) (hn : l.length + ms.length ≤ 1000000) (hR : ∀ m ∈ ms, m.R) :
    Fc Tryz.prog 133 [v_l, v_ms, iV n] G [] (fun v G' M' => M' = [] ∧ ∃ r : List Pair × Nat, r = drainN n l ms ∧ ∃ u0, v = .tuple #[u0, nt9 r.2] ∧ SlR ePair G' u0 (r.1)) := by
 obtain ⟨sa_l, sc_l, rfl⟩ := h_l.form
 obtain ⟨sa_ms, sc_ms, rfl⟩ := h_ms.form
 have hl := h_l.len47
 have hlm := h_ms.len47
 refine Fc.go [.tmp 6, .tmp 7] Tryz.func133 Tryz.ntmps133 rfl (fun w0 => (g9 9 ?_))
 refine W.cS (clonep_fc h_l) rfl (fun sa_hv2 sc_hv2 G1 hG1 hv2 => (g9 12 ?_))
 refine WC.loop (X := (Nat) × Value) (fun k => [(17, nt9 k.1), (1, lV sa_ms ms.length sc_ms), (2, iV n), (15, lV sa_ms ms.length sc_ms), (16, nt9 ((ms).length)), (8, k.2)]) (fun k G Ml => Ml = [] ∧ SlR ePair G k.2 (foldN l (ms.take k.1)) ∧ k.1 ≤ ms.length ∧ DrainAt n l ms k.1) (fun k => ms.length - k.1) (0, lV sa_hv2 ((l)).length sc_hv2) hs9 ?_ ?_
 ·exact ⟨rfl, (by simpa [foldN] using hv2), om9, DrainAt.zero n l ms⟩
 rintro ⟨k, v_8⟩ gG8 G8 _ hG8 ⟨rfl, ho_8, hk, hd⟩
 try dsimp only at ho_8 hk hd
 have hm : ∀ m ∈ ms, m.fit := fun m h => fit_of (msgR_sizes (hR m h))
 have hPk := PairsR.foldF (ms := ms.take k) hP (fun m h => hm m (List.mem_of_mem_take h))
 have hnk := fold_lenF (ms := ms.take k) hP (fun m h => hm m (List.mem_of_mem_take h))
 have hkl : (ms.take k).length ≤ k := by simp; omega
 refine WC.fr (f := setL gG8 [(17, nt9 k), (1, lV sa_ms ms.length sc_ms), (2, iV n), (15, lV sa_ms ms.length sc_ms), (16, nt9 ((ms).length)), (8, v_8)]) rfl (g9 6 ?_)
 refine WC.cd (fun h18 p18 => ?_) (fun h18 p18 => ?_)
 ·refine g9 7 ?_
  refine (h_ms.mono (hG1.trans hG8)).a2 (i := k) om9 (fun he9 hm10 => (g9 2 ?_))
  refine W.alloc zr90 (fun b14 => (g9 9 ?_))
  refine W.call (Mp := []) (leaftake_fc ho_8 ms[k].stamp ms[k].kind ms[k].key ms[k].hi ms[k].opn ms[k].val _ hPk om9 (hm _ (List.getElem_mem _))) rfl pr9 ?_
  intro _ G15 _ hG15 q17
  refine match q17 with | ⟨e_18, _, e_19, _, e_20, hv16⟩ => ?_
  subst e_18
  subst e_19
  subst e_20
  have q22 := hv16.form
  refine match q22 with | ⟨sa_hv16, sc_hv16, e_21⟩ => ?_
  subst e_21
  refine g9 14 ?_
  refine WC.cond rfl (fun h30 => ?_) (fun h30 => ?_)
  ·have hlf : lfitsN (foldN l (ms.take k)) ms[k] n = false := by
     cases h : lfitsN (foldN l (ms.take k)) ms[k] n
     · rfl
     exfalso; rw [leafTakeN_t h] at h30; simp at h30
   refine g9 16 ?_
   refine ⟨rfl, _, (hd.stop om9 hlf).symm, _, rfl, ?_⟩
   · exact (ho_8.mono hG15)
  have hlf : lfitsN (foldN l (ms.take k)) ms[k] n = true := by
    by_cases h : lfitsN (foldN l (ms.take k)) ms[k] n = true
    · exact h
    exfalso; rw [leafTakeN_f (by simpa using h)] at h30; simp at h30
  refine g9 11 ?_
  refine W.sub (sr9.cons _) (g9 2 ?_)
  exact ⟨hG15, (k + 1, lV sa_hv16 ((leafTakeN (foldN l (ms.take k)) ms[k] n).1).length sc_hv16), hs9, ⟨rfl, (by exact SlR.cast hv16 (by rw [leafTakeN_t hlf, foldN_succ om9])), om9, hd.succ om9 hlf⟩, om9⟩
 refine g9 16 ?_
 refine ⟨rfl, _, ((hd.all om9).trans (by rw [show k = ms.length from by omega])).symm, _, rfl, ?_⟩
 · have h := ho_8; rw [List.take_of_length_le om9] at h; exact h

theorem rdrain_fc {G : GH} {v_l : Value} {l : List Pair} (h_l : SlR ePair G v_l l) {v_ms : Value} {ms : List Msg} (h_ms : SlR eMsg G v_ms ms) (n : Int) (hP : PairsR l) (hn : l.length + ms.length ≤ 1000000) (hR : ∀ m ∈ ms, m.R) :
    Fc Tryz.prog 115 [v_l, v_ms, iV n] G [] (fun v G' M' => M' = [] ∧ ∃ r : List Pair × Nat, r = drainN n l ms ∧ ∃ u0, v = .tuple #[u0, nt9 r.2] ∧ SlR ePair G' u0 (r.1)) := by
 obtain ⟨sa_l, sc_l, rfl⟩ := h_l.form
 obtain ⟨sa_ms, sc_ms, rfl⟩ := h_ms.form
 have hl := h_l.len47
 have hlm := h_ms.len47
 refine Fc.go [.tmp 6, .tmp 7] Tryz.func115 Tryz.ntmps115 rfl (fun w0 => (g9 13 ?_))
 refine WC.loop (X := (Nat) × Value) (fun k => [(8, nt9 k.1), (1, lV sa_ms ms.length sc_ms), (2, iV n), (0, k.2)]) (fun k G Ml => Ml = [] ∧ SlR ePair G k.2 (foldN l (ms.take k.1)) ∧ k.1 ≤ ms.length ∧ DrainAt n l ms k.1) (fun k => ms.length - k.1) (0, lV sa_l l.length sc_l) hs9 ?_ ?_
 ·exact ⟨rfl, (by simpa [foldN] using h_l), om9, DrainAt.zero n l ms⟩
 rintro ⟨k, v_0⟩ gG23 G23 _ hG23 ⟨rfl, ho_0, hk, hd⟩
 try dsimp only at ho_0 hk hd
 have hm : ∀ m ∈ ms, m.fit := fun m h => fit_of (msgR_sizes (hR m h))
 have hPk := PairsR.foldF (ms := ms.take k) hP (fun m h => hm m (List.mem_of_mem_take h))
 have hnk := fold_lenF (ms := ms.take k) hP (fun m h => hm m (List.mem_of_mem_take h))
 have hkl : (ms.take k).length ≤ k := by simp; omega
 refine WC.fr (f := setL gG23 [(8, nt9 k), (1, lV sa_ms ms.length sc_ms), (2, iV n), (0, v_0)]) rfl (g9 9 ?_)
 refine WC.cd (fun h12 p12 => ?_) (fun h12 p12 => ?_)
 ·have hRk := hR _ (List.getElem_mem (by omega : k < ms.length))
  refine g9 10 ?_
  refine (h_ms.mono hG23).a2 (i := k) om9 (fun he24 hm25 => (g9 3 ?_))
  refine W.qcall (fits20_fc ho_0 ms[k].stamp ms[k].kind ms[k].key ms[k].hi ms[k].opn ms[k].val _) rfl (g9 3 ?_)
  refine WC.cond rfl (fun h22 => ?_) (fun h22 => ?_)
  ·refine g9 16 ?_
   refine ⟨rfl, _, (hd.stop om9 (by rw [lfits_eq hRk]; simpa using h22)).symm, _, rfl, ?_⟩
   · exact ho_0
  refine g9 6 ?_
  refine (h_ms.mono hG23).a2 (i := k) om9 (fun he29 hm30 => (g9 2 ?_))
  refine W.cS (rtakeF_fc ho_0 ms[k].stamp ms[k].kind ms[k].key ms[k].hi ms[k].opn ms[k].val hPk om9 (hm _ (List.getElem_mem _))) rfl (fun sa_hv35 sc_hv35 G34 hG34 hv35 => (g9 10 ?_))
  exact ⟨hG34, (k + 1, lV sa_hv35 (takeN (foldN l (ms.take k)) ms[k]).length sc_hv35), hs9, ⟨rfl, (by have h := hv35; rw [foldN_succ om9]; exact h), om9, hd.succ om9 (by rw [lfits_eq hRk]; simpa using h22)⟩, om9⟩
 refine g9 16 ?_
 refine ⟨rfl, _, ((hd.all om9).trans (by rw [show k = ms.length from by omega])).symm, _, rfl, ?_⟩
 · have h := ho_0; rw [List.take_of_length_le om9] at h; exact h

theorem pset_fc {G : GH} {b : Nat} {c : Cfg} {l : List Nd} {M : MH} (h : StR 53 4 3 125 78 b c G l M) {cs : List Value} {x : Nd} (hx : NodeC G cs x) : Fc Tryz.prog 27 [pt9 b, .agg (List.toArray cs)] G M (fun v G' M' => v = iV (putL l x).1 ∧ StR 53 4 3 125 78 b c G' (putL l x).2 M') := by
  obtain ⟨hc, hl, b2, Ma, rfl, hA⟩ := h
  exact (tset_fc hA hx).mono fun v G' M' hle ⟨e1, e2⟩ => ⟨by rw [e1, ar_set hl], hc, by rw [putL_len]; exact hl, e2.cast (congrArg Prod.snd (ar_set hl x))⟩
theorem ptake_fc {G : GH} {b : Nat} {c : Cfg} {l : List Nd} {M : MH} (h : StR 53 4 3 125 78 b c G l M) {cs : List Value} {x : Nd} (hx : NodeC G cs x) : Fc Tryz.prog 26 [pt9 b, .agg (List.toArray cs)] G M (fun v G' M' => v = .tuple #[iV (takeL c.slots.toNat l x).1.1, iV (takeL c.slots.toNat l x).1.2] ∧ StR 53 4 3 125 78 b c G' (takeL c.slots.toNat l x).2 M') := by
  obtain ⟨hc, hl, b2, Ma, rfl, hA⟩ := h
  exact (ttake_fc hA hx).mono fun v G' M' hle ⟨e1, e2⟩ => ⟨by rw [e1, ar_take hl], hc, takeL_len hl, e2.cast (congrArg Prod.snd (ar_take hl x))⟩
theorem pnode_fc {G : GH} {b : Nat} {c : Cfg} {l : List Nd} {M : MH} (h : StR 53 4 3 125 78 b c G l M) (i : Int) : Fc Tryz.prog 28 [pt9 b, iV i] G M (fun v G' M' => (∃ cs, v = .tuple #[.agg (List.toArray cs), .bool (decide (0 ≤ i ∧ i < l.length))] ∧ NodeC G' cs (getL l i)) ∧ M' = M) := by
  obtain ⟨hc, hl, b2, Ma, rfl, hA⟩ := h
  exact (tnode_fc (c := c) hA i).mono fun v G' M' hle ⟨⟨cs, e1, e2⟩, e3⟩ => ⟨⟨cs, by rw [e1, ar_has hl], e2.of (ar_get hl i)⟩, e3⟩
theorem pnodes_fc {G : GH} {b : Nat} {c : Cfg} {l : List Nd} {M : MH} (h : StR 53 4 3 125 78 b c G l M) : Fc Tryz.prog 11 [pt9 b] G M (fun v G' M' => SlR eNode G' v l ∧ M' = M) := by
  obtain ⟨hc, hl, b2, Ma, rfl, hA⟩ := h
  exact (tnodes_fc (c := c) hA).mono fun v G' M' hle ⟨e1, e2⟩ => ⟨SlR.cast e1 (nodes_all hl), e2⟩
theorem proom_fc {G : GH} {b : Nat} {c : Cfg} {l : List Nd} {M : MH} (h : StR 53 4 3 125 78 b c G l M) : Fc Tryz.prog 65 [pt9 b] G M (fun v G' M' => v = nt9 (c.slots.toNat - l.length) ∧ M' = M) := by
  obtain ⟨hc, hl, b2, Ma, rfl, hA⟩ := h
  exact (troom_fc (c := c) hA).mono fun v G' M' hle ⟨e1, e2⟩ => ⟨by rw [e1]; have h1 := free_used (arOf c.slots.toNat l).2; rw [ar_used hl, iota_len, ar_len hl] at h1; exact congrArg (fun n : Nat => Value.int .i64 (n : Int)) om9, e2⟩
theorem among_fc {G : GH} (n : Int) (a : Int) (b : Int) :
    Fc Tryz.prog 90 [iV n, iV a, iV b] G [] (fun v _ _ => v = .bool (decide (a ≤ n ∧ n ≤ b))) := by
 refine Fc.go [.tmp 6] Tryz.func90 Tryz.ntmps90 rfl (fun w0 => (g9 11 ?_))
 refine W.sd 10 (fun h9 p9 => ?_) (fun h9 p9 => ?_)
 ·refine g9 12 ?_
  refine congrArg Value.bool ?_
  first | (simp_all; done) | (simp_all; omega) | (simp_all; intros; omega)
 refine g9 9 ?_
 refine congrArg Value.bool ?_
 first | (simp_all; done) | (simp_all; omega) | (simp_all; intros; omega)

theorem stright_fc {G : GH} (cfan : Int) (cleaf : Int) (cbud : Int) (cslots : Int) (crest : Int) :
    Fc Tryz.prog 54 [.agg #[iV cfan, iV cleaf, iV cbud, iV cslots, iV crest]] G [] (fun v _ _ => v = .bool (decide (CfgR (⟨cfan, cleaf, cbud, cslots, crest⟩ : Cfg)))) := by
 refine Fc.go [.tmp 2] Tryz.func54 Tryz.ntmps54 rfl (fun w0 => (g9 2 ?_))
 refine W.box (L := [iV _, iV _, iV _, iV _, iV _]) rfl rfl (fun b1 => (g9 7 ?_))
 refine W.qcall (among_fc _ _ _) rfl (W.mv ?_)
 refine W.sp 6 rfl (fun h5 => ?_) (fun h5 => ?_)
 ·refine g9 5 ?_
  refine W.qcall (among_fc _ _ _) rfl (g9 2 ?_)
  refine W.sp 11 rfl (fun h9 => ?_) (fun h9 => ?_)
  ·refine g9 5 ?_
   refine W.qcall (among_fc _ _ _) rfl (g9 2 ?_)
   refine W.sp 16 rfl (fun h14 => ?_) (fun h14 => ?_)
   ·refine g9 5 ?_
    refine W.qcall (among_fc _ _ _) rfl (g9 2 ?_)
    refine W.sp 21 rfl (fun h19 => ?_) (fun h19 => ?_)
    ·refine g9 5 ?_
     refine W.qcall (among_fc _ _ _) rfl (g9 6 ?_)
     refine congrArg Value.bool ?_
     rw [Bool.eq_iff_iff, decide_eq_true_iff]
     simp only [CfgR]
     first | (simp_all; done) | (simp_all; omega) | (simp_all; intros; omega)
    refine g9 9 ?_
    refine congrArg Value.bool ?_
    rw [Bool.eq_iff_iff, decide_eq_true_iff]
    simp only [CfgR]
    first | (simp_all; done) | (simp_all; omega) | (simp_all; intros; omega)
   refine g9 14 ?_
   refine congrArg Value.bool ?_
   rw [Bool.eq_iff_iff, decide_eq_true_iff]
   simp only [CfgR]
   first | (simp_all; done) | (simp_all; omega) | (simp_all; intros; omega)
  refine g9 19 ?_
  refine congrArg Value.bool ?_
  rw [Bool.eq_iff_iff, decide_eq_true_iff]
  simp only [CfgR]
  first | (simp_all; done) | (simp_all; omega) | (simp_all; intros; omega)
 refine g9 24 ?_
 refine congrArg Value.bool ?_
 rw [Bool.eq_iff_iff, decide_eq_true_iff]
 simp only [CfgR]
 first | (simp_all; done) | (simp_all; omega) | (simp_all; intros; omega)

theorem rright25_fc {G : GH} (cfan : Int) (cleaf : Int) (cbud : Int) (cslots : Int) (crest : Int) :
    Fc Tryz.prog 21 [.agg #[iV cfan, iV cleaf, iV cbud, iV cslots, iV crest]] G [] (fun v _ _ => v = .bool (decide (CfgR (⟨cfan, cleaf, cbud, cslots, crest⟩ : Cfg)))) := by
 refine Fc.go [.tmp 2] Tryz.func21 Tryz.ntmps21 rfl (fun w0 => (g9 2 ?_))
 refine W.box (L := [iV _, iV _, iV _, iV _, iV _]) rfl rfl (fun b2 => (g9 9 ?_))
 refine W.sd 6 (fun h5 p5 => ?_) (fun h5 p5 => ?_)
 ·refine g9 8 ?_
  refine W.sd 11 (fun h9 p9 => ?_) (fun h9 p9 => ?_)
  ·refine g9 8 ?_
   refine W.sd 16 (fun h14 p14 => ?_) (fun h14 p14 => ?_)
   ·refine g9 8 ?_
    refine W.sd 21 (fun h19 p19 => ?_) (fun h19 p19 => ?_)
    ·refine g9 8 ?_
     refine W.sd 26 (fun h24 p24 => ?_) (fun h24 p24 => ?_)
     ·refine g9 8 ?_
      refine W.sd 31 (fun h29 p29 => ?_) (fun h29 p29 => ?_)
      ·refine g9 8 ?_
       refine W.sd 36 (fun h34 p34 => ?_) (fun h34 p34 => ?_)
       ·refine g9 8 ?_
        refine W.sd 41 (fun h39 p39 => ?_) (fun h39 p39 => ?_)
        ·refine g9 8 ?_
         refine W.sd 46 (fun h44 p44 => ?_) (fun h44 p44 => ?_)
         ·refine g9 12 ?_
          refine congrArg Value.bool ?_
          rw [Bool.eq_iff_iff, decide_eq_true_iff]
          simp only [CfgR]
          first | (simp_all; done) | (simp_all; omega)
         refine g9 9 ?_
         refine congrArg Value.bool ?_
         rw [Bool.eq_iff_iff, decide_eq_true_iff]
         simp only [CfgR]
         first | (simp_all; done) | (simp_all; omega)
        refine g9 14 ?_
        refine congrArg Value.bool ?_
        rw [Bool.eq_iff_iff, decide_eq_true_iff]
        simp only [CfgR]
        first | (simp_all; done) | (simp_all; omega)
       refine g9 19 ?_
       refine congrArg Value.bool ?_
       rw [Bool.eq_iff_iff, decide_eq_true_iff]
       simp only [CfgR]
       first | (simp_all; done) | (simp_all; omega)
      refine g9 24 ?_
      refine congrArg Value.bool ?_
      rw [Bool.eq_iff_iff, decide_eq_true_iff]
      simp only [CfgR]
      first | (simp_all; done) | (simp_all; omega)
     refine g9 29 ?_
     refine congrArg Value.bool ?_
     rw [Bool.eq_iff_iff, decide_eq_true_iff]
     simp only [CfgR]
     first | (simp_all; done) | (simp_all; omega)
    refine g9 34 ?_
    refine congrArg Value.bool ?_
    rw [Bool.eq_iff_iff, decide_eq_true_iff]
    simp only [CfgR]
    first | (simp_all; done) | (simp_all; omega)
   refine g9 39 ?_
   refine congrArg Value.bool ?_
   rw [Bool.eq_iff_iff, decide_eq_true_iff]
   simp only [CfgR]
   first | (simp_all; done) | (simp_all; omega)
  refine g9 44 ?_
  refine congrArg Value.bool ?_
  rw [Bool.eq_iff_iff, decide_eq_true_iff]
  simp only [CfgR]
  first | (simp_all; done) | (simp_all; omega)
 refine g9 49 ?_
 refine congrArg Value.bool ?_
 rw [Bool.eq_iff_iff, decide_eq_true_iff]
 simp only [CfgR]
 first | (simp_all; done) | (simp_all; omega)

theorem nleaf3_fc {G : GH} (s : Int) (hs : i64 s) :
    Fc Tryz.prog 56 [iV s] G [] (fun v G' M' => M' = [] ∧ ∃ u0, v = .agg (List.toArray u0) ∧ NodeC G' u0 (leafN s)) := by
 refine Fc.go [.cell 2 53] Tryz.func56 Tryz.ntmps56 rfl (fun w0 => (g9 2 ?_))
 refine W.alloc zr53 (fun b3 => (g9 5 ?_))
 refine W.ok (ok_build (L := [iV _, iV _, lV _ _ _, lV _ _ _, sV _, .bool _, iV _, iV _, lV _ _ _, lV _ _ _]) pl53 zr53 rfl rfl rfl) (g9 5 ?_)
 refine ⟨rfl, _, rfl, ?_⟩
 · exact ⟨_, _, _, _, _, _, _, _, rfl, SlR.nil, SlR.nil, SlR.nil, SlR.nil, (leafN_ok hs)⟩

theorem stnew_fc {G : GH} (cfan : Int) (cleaf : Int) (cbud : Int) (cslots : Int) (crest : Int) :
    Fc Tryz.prog 23 [.agg #[iV cfan, iV cleaf, iV cbud, iV cslots, iV crest]] G [] (fun v G' M' => (¬ CfgR (⟨cfan, cleaf, cbud, cslots, crest⟩ : Cfg) ∧ v = .tuple #[.pointer none, iV 2] ∧ M' = []) ∨ (CfgR (⟨cfan, cleaf, cbud, cslots, crest⟩ : Cfg) ∧ ∃ b, v = .tuple #[pt9 b, iV 0] ∧ StR 53 4 3 125 78 b (⟨cfan, cleaf, cbud, cslots, crest⟩ : Cfg) G' [leafN 0] M')) := by
 refine Fc.go [.tmp 2, .tmp 3] Tryz.func23 Tryz.ntmps23 rfl (fun w0 => (g9 2 ?_))
 refine W.box (L := [iV _, iV _, iV _, iV _, iV _]) rfl rfl (fun b4 => (g9 8 ?_))
 refine W.qcall (stright_fc _ _ _ _ _) rfl (g9 3 ?_)
 refine WC.cond rfl (fun h9 => ?_) (fun h9 => ?_)
 ·refine g9 9 ?_
  exact .inl ⟨by simpa using h9, rfl, rfl⟩
 refine g9 6 ?_
 refine W.call (Mp := []) (snewn_fc (cslots)) rfl pr9 ?_
 intro v8 G5 Ms7 hG5 q6
 obtain ⟨bAr, eV9, hA9⟩ : ∃ b, v8 = .tuple #[pt9 b, iV 0] ∧ ArR eNode 53 4 3 125 b G5 (List.replicate (cslots).toNat Nd.zero, List.replicate (cslots).toNat false) Ms7 := Or.elim q6 (fun hz => absurd (by have h8 : CfgR (⟨cfan, cleaf, cbud, cslots, crest⟩ : Cfg) := (by simpa using h9); unfold CfgR at h8; dsimp only at h8; omega) hz.1) (fun hz => hz.2)
 subst eV9
 refine W.perm (pmC pr9).symm (g9 21 ?_)
 refine W.ok (ok_build (L := [iV _, iV _, iV _, iV _, iV _, .pointer _]) pl78 zr78 rfl rfl rfl) (W.box (L := [iV _, iV _, iV _, iV _, iV _, .pointer _]) rfl rfl (fun b9 => (g9 6 ?_)))
 refine W.cN (nleaf3_fc _ ⟨by decide, by decide⟩) rfl (fun _ _ _ _ _ _ _ _ G10 hG10 hp_hv11 hk_hv11 hm_hv11 hr_hv11 hok_hv11 => (W.call (Mp := ((b9, ce9 78 [iV cfan, iV cleaf, iV cbud, iV cslots, iV crest, pt9 bAr]) :: Ms7)) (Mr := ((b4, ce9 23 [iV cfan, iV cleaf, iV cbud, iV cslots, iV crest]) :: [])) (ttake_fc (c := (⟨cfan, cleaf, cbud, cslots, crest⟩ : Cfg)) (ArR.mono hG10 hA9) (nk9 hp_hv11 hk_hv11 hm_hv11 hr_hv11 hok_hv11)) rfl (((pmC pr9).cons _).trans pr9) ?_))
 intro v19 G16 Ms18 hG16 q17
 refine match q17 with | ⟨e_21, hS20⟩ => ?_
 subst e_21
 refine W.perm (pmC pr9).symm (g9 15 ?_)
 refine ⟨.inr rfl, [_, _], ⟨rfl, rfl, trivial⟩, (Ms18 ++ []), sr9.cons _, ?_⟩
 have hC : CfgR (⟨cfan, cleaf, cbud, cslots, crest⟩ : Cfg) := by simpa using h9
 have hE := ar_take (n := cslots.toNat) (l := []) (by simp) (leafN 0)
 rw [(pick_first (n := cslots.toNat) (by unfold CfgR at hC; dsimp only at hC; omega)).2, arOf_nil] at hE
 have hS := hS20
 rw [hE] at hS
 exact .inr ⟨hC, _, by rw [hE]; rfl, hC, by show 1 ≤ cslots.toNat; unfold CfgR at hC; dsimp only at hC; omega, by rw [List.append_nil]; exact hS⟩

theorem nsame3_fc {G : GH} {cs_a : List Value} {a : Nd} (h_a : NodeC G cs_a a) {cs_b : List Value} {b : Nd} (h_b : NodeC G cs_b b) :
    Fc Tryz.prog 31 [.agg (List.toArray cs_a), .agg (List.toArray cs_b)] G [] (fun v _ _ => v = .bool (decide (a = b))) := by
 obtain ⟨_, _, _, _, _, _, _, _, rfl, hp_a, hk_a, hm_a, hr_a, hok_a⟩ := h_a
 obtain ⟨_, _, _, _, _, _, _, _, rfl, hp_b, hk_b, hm_b, hr_b, hok_b⟩ := h_b
 refine Fc.go [.tmp 4] Tryz.func31 Tryz.ntmps31 rfl (fun w0 => (g9 2 ?_))
 refine W.box (L := [iV _, iV _, lV _ _ _, lV _ _ _, sV _, .bool _, iV _, iV _, lV _ _ _, lV _ _ _]) rfl rfl (fun b1 => (W.box (L := [iV _, iV _, lV _ _ _, lV _ _ _, sV _, .bool _, iV _, iV _, lV _ _ _, lV _ _ _]) rfl rfl (fun b2 => (g9 12 ?_))))
 refine W.sm 10 (fun h9 p9 => ?_) (fun h9 p9 => ?_)
 ·refine g9 45 ?_
  refine congrArg Value.bool ?_
  rw [Bool.eq_iff_iff, decide_eq_true_iff]
  clear hp_a hk_a hm_a hr_a hok_a hp_b hk_b hm_b hr_b hok_b
  cases a; cases b
  simp_all [Str.b_inj]
 refine g9 12 ?_
 refine W.sm 17 (fun h15 p15 => ?_) (fun h15 p15 => ?_)
 ·refine g9 38 ?_
  refine congrArg Value.bool ?_
  rw [Bool.eq_iff_iff, decide_eq_true_iff]
  clear hp_a hk_a hm_a hr_a hok_a hp_b hk_b hm_b hr_b hok_b
  cases a; cases b
  simp_all [Str.b_inj]
 refine g9 12 ?_
 refine W.sm 24 (fun h22 p22 => ?_) (fun h22 p22 => ?_)
 ·refine g9 31 ?_
  refine congrArg Value.bool ?_
  rw [Bool.eq_iff_iff, decide_eq_true_iff]
  clear hp_a hk_a hm_a hr_a hok_a hp_b hk_b hm_b hr_b hok_b
  cases a; cases b
  simp_all [Str.b_inj]
 refine g9 9 ?_
 refine W.ok (ok_neqB bo4 rfl rfl) (g9 2 ?_)
 refine W.sp 31 rfl (fun h29 => ?_) (fun h29 => ?_)
 ·refine g9 24 ?_
  refine congrArg Value.bool ?_
  rw [Bool.eq_iff_iff, decide_eq_true_iff]
  clear hp_a hk_a hm_a hr_a hok_a hp_b hk_b hm_b hr_b hok_b
  cases a; cases b
  simp_all [Str.b_inj]
 refine g9 12 ?_
 refine W.sm 38 (fun h36 p36 => ?_) (fun h36 p36 => ?_)
 ·refine g9 17 ?_
  refine congrArg Value.bool ?_
  rw [Bool.eq_iff_iff, decide_eq_true_iff]
  clear hp_a hk_a hm_a hr_a hok_a hp_b hk_b hm_b hr_b hok_b
  cases a; cases b
  simp_all [Str.b_inj]
 refine g9 13 ?_
 refine WC.cn (fun h43 p43 => ?_) (fun h43 p43 => ?_)
 ·refine g9 8 ?_
  refine congrArg Value.bool ?_
  rw [Bool.eq_iff_iff, decide_eq_true_iff]
  clear hp_a hk_a hm_a hr_a hok_a hp_b hk_b hm_b hr_b hok_b
  cases a; cases b
  simp_all [Str.b_inj]
 refine g9 8 ?_
 refine W.qcall (same_fc hp_a hp_b) rfl (W.mv ?_)
 refine W.sp 50 rfl (fun h49 => ?_) (fun h49 => ?_)
 ·refine g9 9 ?_
  refine W.qcall (ints_fc hk_a hk_b) rfl (g9 2 ?_)
  refine W.sp 57 rfl (fun h55 => ?_) (fun h55 => ?_)
  ·refine g9 9 ?_
   refine W.qcall (samem_fc hm_a hm_b) rfl (g9 2 ?_)
   refine W.sp 64 rfl (fun h62 => ?_) (fun h62 => ?_)
   ·refine g9 9 ?_
    refine W.qcall (samep_fc hr_a hr_b) rfl (g9 6 ?_)
    refine congrArg Value.bool ?_
    rw [Bool.eq_iff_iff, decide_eq_true_iff]
    clear hp_a hk_a hm_a hr_a hok_a hp_b hk_b hm_b hr_b hok_b
    cases a; cases b
    simp_all [Str.b_inj]
   refine g9 11 ?_
   refine congrArg Value.bool ?_
   rw [Bool.eq_iff_iff, decide_eq_true_iff]
   clear hp_a hk_a hm_a hr_a hok_a hp_b hk_b hm_b hr_b hok_b
   cases a; cases b
   simp_all [Str.b_inj]
  refine g9 18 ?_
  refine congrArg Value.bool ?_
  rw [Bool.eq_iff_iff, decide_eq_true_iff]
  clear hp_a hk_a hm_a hr_a hok_a hp_b hk_b hm_b hr_b hok_b
  cases a; cases b
  simp_all [Str.b_inj]
 refine g9 25 ?_
 refine congrArg Value.bool ?_
 rw [Bool.eq_iff_iff, decide_eq_true_iff]
 clear hp_a hk_a hm_a hr_a hok_a hp_b hk_b hm_b hr_b hok_b
 cases a; cases b
 simp_all [Str.b_inj]

theorem all21_fc {G : GH} {v_a : Value} {a : List Nd} (h_a : SlR eNode G v_a a) {v_b : Value} {b : List Nd} (h_b : SlR eNode G v_b b) :
    Fc Tryz.prog 10 [v_a, v_b] G [] (fun v _ _ => v = .bool (decide (a = b))) := by
 obtain ⟨sa_a, sc_a, rfl⟩ := h_a.form
 obtain ⟨sa_b, sc_b, rfl⟩ := h_b.form
 have ha := h_a.len47
 have hb := h_b.len47
 refine Fc.go [.tmp 4] Tryz.func10 Tryz.ntmps10 rfl (fun w0 => (g9 15 ?_))
 refine WC.cn (fun h10 p10 => ?_) (fun h10 p10 => ?_)
 ·refine g9 8 ?_
  refine congrArg Value.bool ?_
  exact (decide_eq_false fun e => by subst e; omega).symm
 have hab : a.length = b.length := by omega
 refine g9 9 ?_
 refine WC.loop (X := Nat) (fun k => [(5, nt9 k), (0, lV sa_a a.length sc_a), (1, lV sa_b b.length sc_b)]) (fun k _ Ml => Ml = [] ∧ k ≤ a.length ∧ ∀ i (h : i < a.length) (h2 : i < b.length), i < k → a[i] = b[i]) (fun k => a.length - k) 0 hs9 ?_ ?_
 ·exact ⟨rfl, om9, fun i _ _ h => by omega⟩
 rintro k gG3 G3 _ hG3 ⟨rfl, hk0, hk⟩
 refine g9 9 ?_
 refine WC.cd (fun h14 p14 => ?_) (fun h14 p14 => ?_)
 ·refine g9 8 ?_
  refine (h_a.mono hG3).aN (i := k) om9 (fun _ _ _ _ _ _ _ _ he4 hp_n5 hk_n5 hm_n5 hr_n5 hok_n5 => (g9 4 ?_))
  refine (h_b.mono hG3).aN (i := k) om9 (fun _ _ _ _ _ _ _ _ he8 hp_n9 hk_n9 hm_n9 hr_n9 hok_n9 => (g9 2 ?_))
  refine W.qcall (nsame3_fc (a := a[k]'om9) (b := b[k]'om9) (nk9 hp_n5 hk_n5 hm_n5 hr_n5 hok_n5) (nk9 hp_n9 hk_n9 hm_n9 hr_n9 hok_n9)) rfl (g9 3 ?_)
  refine WC.cond rfl (fun h26 => ?_) (fun h26 => ?_)
  ·refine g9 12 ?_
   refine congrArg Value.bool ?_
   exact (decide_eq_false fun e => by subst e; simp at h26).symm
  refine g9 9 ?_
  exact ⟨Le.rfl, k + 1, hs9, ⟨rfl, om9, fun i h h2 hi => by
      by_cases e : i = k
      · subst e; simpa using h26
      · exact hk i h h2 om9⟩, om9⟩
 refine g9 12 ?_
 refine congrArg Value.bool ?_
 exact (decide_eq_true (List.ext_getElem om9 fun i h h2 => hk i h h2 om9)).symm

theorem light_fc {G : GH} {v_l : Value} {l : List Nd} (h_l : SlR eNode G v_l l) (n : Int) (m : Int) (hm : 0 ≤ m ∧ m ≤ 1073741824) :
    Fc Tryz.prog 22 [v_l, iV n, iV m] G [] (fun v _ _ => v = .bool (decide (Light l n m))) := by
 obtain ⟨sa_l, sc_l, rfl⟩ := h_l.form
 have hl := h_l.len47
 refine Fc.go [.tmp 6] Tryz.func22 Tryz.ntmps22 rfl (fun w0 => (g9 14 ?_))
 refine WC.cd (fun h11 p11 => ?_) (fun h11 p11 => ?_)
 ·refine g9 8 ?_
  refine congrArg Value.bool ?_
  exact (decide_eq_false fun h => by have := h.1; omega).symm
 refine g9 9 ?_
 refine WC.loop (X := Nat) (fun k => [(7, nt9 k), (0, lV sa_l l.length sc_l), (1, iV n), (2, iV m)]) (fun k _ Ml => Ml = [] ∧ ∀ i (h : i < l.length), i < k → l[i].light m) (fun k => l.length - k) 0 hs9 ?_ ?_
 ·exact ⟨rfl, fun i _ h => by omega⟩
 rintro k gG12 G12 _ hG12 ⟨rfl, hk⟩
 refine g9 9 ?_
 refine WC.cd (fun h15 p15 => ?_) (fun h15 p15 => ?_)
 ·refine g9 8 ?_
  refine (h_l.mono hG12).aN (i := k) om9 (fun _ _ _ _ _ _ _ _ he13 hp_n14 hk_n14 hm_n14 hr_n14 hok_n14 => (g9 4 ?_))
  refine W.qcall (longp_fc hr_n14 _ om9) rfl (g9 2 ?_)
  refine W.sp 26 rfl (fun h25 => ?_) (fun h25 => ?_)
  ·refine g9 55 ?_
   refine congrArg Value.bool ?_
   exact (decide_eq_false fun h => by obtain ⟨q1, q2, q3, q4, q5⟩ := h.2 k om9; first | omega | (simp at h25; omega) | (simp at h55; omega)).symm
  refine g9 5 ?_
  refine (h_l.mono hG12).aN (i := k) om9 (fun _ _ _ _ _ _ _ _ he17 hp_n18 hk_n18 hm_n18 hr_n18 hok_n18 => (g9 8 ?_))
  refine W.qcall (rlong_fc hp_n18 _ om9) rfl (g9 6 ?_)
  refine W.sd 37 (fun h35 p35 => ?_) (fun h35 p35 => ?_)
  ·refine g9 44 ?_
   refine congrArg Value.bool ?_
   exact (decide_eq_false fun h => by obtain ⟨q1, q2, q3, q4, q5⟩ := h.2 k om9; first | omega | (simp at h25; omega) | (simp at h55; omega)).symm
  refine g9 5 ?_
  refine (h_l.mono hG12).aN (i := k) om9 (fun _ _ _ _ _ _ _ _ he21 hp_n22 hk_n22 hm_n22 hr_n22 hok_n22 => (g9 13 ?_))
  refine W.sd 47 (fun h45 p45 => ?_) (fun h45 p45 => ?_)
  ·refine g9 34 ?_
   refine congrArg Value.bool ?_
   exact (decide_eq_false fun h => by obtain ⟨q1, q2, q3, q4, q5⟩ := h.2 k om9; first | omega | (simp at h25; omega) | (simp at h55; omega)).symm
  refine g9 5 ?_
  refine (h_l.mono hG12).aN (i := k) om9 (fun _ _ _ _ _ _ _ _ he25 hp_n26 hk_n26 hm_n26 hr_n26 hok_n26 => (g9 8 ?_))
  refine W.qcall (few_fc hm_n26 _ om9) rfl (g9 4 ?_)
  refine W.sp 57 rfl (fun h55 => ?_) (fun h55 => ?_)
  ·refine g9 24 ?_
   refine congrArg Value.bool ?_
   exact (decide_eq_false fun h => by obtain ⟨q1, q2, q3, q4, q5⟩ := h.2 k om9; first | omega | (simp at h25; omega) | (simp at h55; omega)).symm
  refine g9 5 ?_
  refine (h_l.mono hG12).aN (i := k) om9 (fun _ _ _ _ _ _ _ _ he29 hp_n30 hk_n30 hm_n30 hr_n30 hok_n30 => (g9 14 ?_))
  refine WC.cd (fun h65 p65 => ?_) (fun h65 p65 => ?_)
  ·refine g9 12 ?_
   refine congrArg Value.bool ?_
   exact (decide_eq_false fun h => by obtain ⟨q1, q2, q3, q4, q5⟩ := h.2 k om9; first | omega | (simp at h25; omega) | (simp at h55; omega)).symm
  refine g9 9 ?_
  exact ⟨Le.rfl, k + 1, hs9, ⟨rfl, fun i h hi => by
      by_cases e : i = k
      · subst e; exact ⟨by simpa using h25, om9, om9, by simpa using h55, om9⟩
      · exact hk i h om9⟩, om9⟩
 refine g9 12 ?_
 refine congrArg Value.bool ?_
 exact (decide_eq_true ⟨om9, fun i h => hk i h om9⟩).symm

theorem gload_fc {G : GH} (cfan : Int) (cleaf : Int) (cbud : Int) (cslots : Int) (crest : Int) {v_l : Value} {l : List Nd} (h_l : SlR eNode G v_l l) :
    Fc Tryz.prog 7 [.agg #[iV cfan, iV cleaf, iV cbud, iV cslots, iV crest], v_l] G [] (fun v G' M' => (¬ (CfgR (⟨cfan, cleaf, cbud, cslots, crest⟩ : Cfg) ∧ 0 < l.length ∧ placedF 0 l = true) ∧ v = .tuple #[.pointer none, iV 2] ∧ M' = []) ∨ ((CfgR (⟨cfan, cleaf, cbud, cslots, crest⟩ : Cfg) ∧ 0 < l.length ∧ placedF 0 l = true) ∧ ((¬ (l.length : Int) ≤ cslots ∧ v = .tuple #[.pointer none, iV 4] ∧ M' = []) ∨ ((l.length : Int) ≤ cslots ∧ ∃ b, v = .tuple #[pt9 b, iV 0] ∧ StR 53 4 3 125 78 b (⟨cfan, cleaf, cbud, cslots, crest⟩ : Cfg) G' l M')))) := by
 obtain ⟨sa_l, sc_l, rfl⟩ := h_l.form
 have hl := h_l.len47
 refine Fc.go [.tmp 4, .tmp 5] Tryz.func7 Tryz.ntmps7 rfl (fun w0 => (g9 2 ?_))
 refine W.box (L := [iV _, iV _, iV _, iV _, iV _]) rfl rfl (fun b33 => (g9 7 ?_))
 refine W.call (Mp := []) (stnew_fc (cfan) (cleaf) (cbud) (cslots) (crest)) rfl pr9 ?_
 intro v37 G34 Ms36 hG34 q35
 refine Or.elim q35 (fun q38 => ?_) (fun q39 => ?_)
 ·refine match q38 with | ⟨hnc, e_40, e_41⟩ => ?_
  subst e_40
  subst e_41
  refine g9 29 ?_
  exact .inl ⟨fun h => hnc h.1, rfl, rfl⟩
 refine match q39 with | ⟨hC, bSt, e_42, hS9⟩ => ?_
 subst e_42
 refine W.perm (pmC pr9).symm (g9 22 ?_)
 refine WC.cd (fun h24 p24 => ?_) (fun h24 p24 => ?_)
 ·refine g9 9 ?_
  exact .inl ⟨fun h => by have := h.2.1; omega, rfl, rfl⟩
 refine g9 11 ?_
 refine WC.loop (X := Nat) (fun k => [(28, nt9 k), (6, pt9 bSt), (1, lV sa_l l.length sc_l), (26, lV sa_l l.length sc_l), (27, nt9 ((l).length))]) (fun k _ Ml => Ml = ((b33, ce9 23 [iV cfan, iV cleaf, iV cbud, iV cslots, iV crest]) :: (Ms36 ++ [])) ∧ k ≤ l.length ∧ placedF 0 (l.take k) = true) (fun k => l.length - k) 0 hs9 ?_ ?_
 ·exact ⟨rfl, om9, rfl⟩
 rintro k gG43 G43 _ hG43 ⟨rfl, hk, hpk⟩
 refine g9 6 ?_
 refine WC.cd (fun h29 p29 => ?_) (fun h29 p29 => ?_)
 ·refine g9 7 ?_
  refine (h_l.mono (hG34.trans hG43)).aN (i := k) om9 (fun _ _ _ _ _ _ _ _ he44 hp_n45 hk_n45 hm_n45 hr_n45 hok_n45 => (g9 2 ?_))
  refine W.alloc zr53 (fun b48 => (g9 12 ?_))
  refine WC.cn (fun h36 p36 => ?_) (fun h36 p36 => ?_)
  ·refine g9 13 ?_
   exact .inl ⟨(fun h => by have := placed_not (l := l) (k := k) om9 p36; rw [this] at h; cases h.2.2), rfl, rfl⟩
  refine g9 6 ?_
  refine W.sub (sr9.cons _) (g9 2 ?_)
  exact ⟨Le.rfl, k + 1, hs9, ⟨rfl, om9, placed_step om9 hpk om9⟩, om9⟩
 have hpl : placedF 0 l = true := by rw [List.take_of_length_le om9] at hpk; exact hpk
 refine g9 14 ?_
 refine WC.loop (X := (Nat) × MH) (fun k2 => [(40, nt9 k2.1), (38, lV sa_l l.length sc_l), (39, nt9 ((l).length)), (6, pt9 bSt)]) (fun k2 G Ml => Ml = ((b33, ce9 23 [iV cfan, iV cleaf, iV cbud, iV cslots, iV crest]) :: (k2.2 ++ [])) ∧ StR 53 4 3 125 78 bSt (⟨cfan, cleaf, cbud, cslots, crest⟩ : Cfg) G (ldN l k2.1) k2.2 ∧ k2.1 ≤ l.length) (fun k2 => l.length - k2.1) (0, Ms36) hs9 ?_ ?_
 ·exact ⟨rfl, (by exact (StR.mono hG43 hS9)), om9⟩
 rintro ⟨k2, M_6⟩ gG49 G49 _ hG49 ⟨rfl, ho_6, hk2⟩
 try dsimp only at ho_6 hk2
 refine WC.fr (f := setL gG49 [(40, nt9 k2), (38, lV sa_l l.length sc_l), (39, nt9 ((l).length)), (6, pt9 bSt)]) rfl (g9 6 ?_)
 refine WC.cd (fun h41 p41 => ?_) (fun h41 p41 => ?_)
 ·have hsk : (l[k2]'om9).slot = ((k2 : Nat) : Int) := placed_at hpl om9
  refine g9 7 ?_
  refine (h_l.mono ((hG34.trans hG43).trans hG49)).aN (i := k2) om9 (fun _ _ _ _ _ _ _ _ he50 hp_n51 hk_n51 hm_n51 hr_n51 hok_n51 => (g9 2 ?_))
  refine W.alloc zr53 (fun b54 => (g9 11 ?_))
  refine WC.cd (fun h46 p46 => ?_) (fun h46 p46 => ?_)
  ·refine g9 4 ?_
   refine W.call (Mp := M_6) (ptake_fc ho_6 (nk9 hp_n51 hk_n51 hm_n51 hr_n51 hok_n51)) rfl (pmC (pmC pr9)) ?_
   intro v58 G55 Ms57 hG55 q56
   refine match q56 with | ⟨e_60, hR59⟩ => ?_
   subst e_60
   refine W.perm (pmC (pmC pr9)).symm (g9 13 ?_)
   refine WC.cn (fun h54 p54 => ?_) (fun h54 p54 => ?_)
   ·have hns : ¬ k2 < cslots.toNat := fun hh => p54 (by rw [ld_take om9 om9 hh hsk])
    have hE := ld_full (l := l) (k := k2) om9 om9 hns (l[k2]'om9)
    refine g9 15 ?_
    exact .inr ⟨⟨hC, om9, hpl⟩, .inl ⟨om9, by rw [hE]; rfl, rfl⟩⟩
   have hns : k2 < cslots.toNat := by
     by_cases hh : k2 < cslots.toNat
     · exact hh
     rw [ld_full om9 om9 hh] at p54; exact absurd p54 (by show ¬ (4 : Int) = 0; omega)
   have hE := ld_take (l := l) (k := k2) om9 om9 hns hsk
   refine g9 5 ?_
   refine W.call (Mp := Ms57) (pset_fc hR59 (nm9 hG55 hp_n51 hk_n51 hm_n51 hr_n51 hok_n51)) rfl (pmC (pmC pr9)) ?_
   intro v64 G61 Ms63 hG61 q62
   refine match q62 with | ⟨e_66, hR65⟩ => ?_
   subst e_66
   refine W.perm (pmC (pmC pr9)).symm (g9 6 ?_)
   refine W.sub (sr9.cons _) (g9 2 ?_)
   exact ⟨lec, (k2 + 1, Ms63), hs9, ⟨rfl, (by have h := hR65; rw [hE] at h; dsimp only at h; rw [ld_put om9 hsk] at h; exact h), om9⟩, om9⟩
  refine g9 5 ?_
  refine W.call (Mp := M_6) (pset_fc ho_6 (nk9 hp_n51 hk_n51 hm_n51 hr_n51 hok_n51)) rfl (pmC (pmC pr9)) ?_
  intro v70 G67 Ms69 hG67 q68
  refine match q68 with | ⟨e_72, hR71⟩ => ?_
  subst e_72
  refine W.perm (pmC (pmC pr9)).symm (g9 6 ?_)
  refine W.sub (sr9.cons _) (g9 2 ?_)
  exact ⟨hG67, (k2 + 1, Ms69), hs9, ⟨rfl, (by have h := hR71; have hk0 : k2 = 0 := om9; subst hk0; rw [ld_0 om9 hsk] at h; exact h), om9⟩, om9⟩
 refine g9 13 ?_
 refine ⟨.inr rfl, [_, _], ⟨rfl, rfl, trivial⟩, (M_6 ++ []), sr9.cons _, ?_⟩
 have hS := ho_6
 have hkl : k2 = l.length := by omega
 subst hkl
 rw [ld_all om9] at hS
 have hle := hS.2.1
 dsimp only at hle
 exact .inr ⟨⟨hC, om9, hpl⟩, .inr ⟨by unfold CfgR at hC; dsimp only at hC; omega, _, rfl, by rw [List.append_nil]; exact hS⟩⟩

theorem rlists_fc {G : GH} {v_ls : Value} {ls : List (List Msg)} (h_ls : SlR (eSl eMsg) G v_ls ls) (ht : totN ls ≤ 100000000) (hln : ls.length ≤ 100000) :
    Fc Tryz.prog 48 [v_ls] G [] (fun v G' M' => M' = [] ∧ ∃ u0, v = u0 ∧ SlR eMsg G' u0 (mergeN ls)) := by
 obtain ⟨sa_ls, sc_ls, rfl⟩ := h_ls.form
 have hl := h_ls.len47
 refine Fc.go [.tmp 2] Tryz.func48 Tryz.ntmps48 rfl (fun w0 => (g9 9 ?_))
 refine W.mkSl (e := eInt) (a0 := (0 : Int)) (n := (ls).length) sl50 ty3 zr3 rfl by3 (⟨rfl, by decide, by decide⟩) rfl rfl (by first | (show _ * 8 ≤ 140737488355328; omega) | (show _ * 1 ≤ 16777216; omega)) (by first | (show _ * 8 ≤ 140737488355328; omega) | (show _ * 1 ≤ 16777216; omega)) (fun v1 Ms2 ho3 => (g9 9 ?_))
 refine WC.loop (X := (List Nat × List Msg) × Value × MH × Value × MH) (fun x => [(0, lV sa_ls ls.length sc_ls), (3, x.2.1), (4, x.2.2.2.1)]) (fun x G Ml => Ml = (x.2.2.1 ++ (x.2.2.2.2 ++ [])) ∧ OwnR eInt 3 G x.2.1 (nats x.1.1) x.2.2.1 ∧ OwnR eMsg 90 G x.2.2.2.1 (x.1.2) x.2.2.2.2 ∧ x.1.1.length = ls.length ∧ x.1.2 ++ mergeN (curN ls x.1.1) = mergeN ls) (fun x => totN (curN ls x.1.1)) (((List.replicate ls.length 0, []) : List Nat × List Msg), v1, Ms2, lV none 0 0, ([] : MH)) hs9 ?_ ?_
 ·exact ⟨rfl, (by simpa [nats] using ho3), (by simpa using OwnR.nil), by simp, by rw [curN_zero]; rfl⟩
 rintro ⟨⟨ps, out⟩, v_3, M_3, v_4, M_4⟩ gG4 G4 _ hG4 ⟨rfl, ho_3, ho_4, hpl, hm⟩
 try dsimp only at ho_3 ho_4 hpl hm
 have hcl := curN_len hpl
 have hml := congrArg List.length hm
 rw [List.length_append] at hml
 have hml2 := merge_len ls
 have hnl : (nats ps).length = ps.length := List.length_map ..
 refine WC.fr (f := setL gG4 [(0, lV sa_ls ls.length sc_ls), (3, v_3), (4, v_4)]) rfl (g9 13 ?_)
 refine WC.loop (X := Nat × Int) (fun y => [(5, iV y.2), (6, nt9 y.1), (3, v_3), (4, v_4), (0, lV sa_ls ls.length sc_ls)]) (fun y _ Ml => Ml = (M_3 ++ (M_4 ++ [])) ∧ y.1 ≤ ls.length ∧ BI (curN ls ps) y.1 y.2) (fun y => ls.length - y.1) ((0, -1) : Nat × Int) hs9 ?_ ?_
 ·exact ⟨rfl, Nat.zero_le _, BI_nil _⟩
 rintro ⟨j, c⟩ gG5 G5 _ hG5 ⟨rfl, hj, hbi⟩
 dsimp only at hj hbi
 refine WC.fr (f := setL gG5 [(5, iV c), (6, nt9 j), (3, v_3), (4, v_4), (0, lV sa_ls ls.length sc_ls)]) rfl (g9 9 ?_)
 refine WC.cd (fun h13 p13 => ?_) (fun h13 p13 => ?_)
 ·try dsimp only at p13
  refine g9 8 ?_
  refine (ho_3.mono hG5).a2 (i := j) om9 (fun he6 hi7 => (W.ok (ok_indexAddrO (i := j) sl50 ty3 (ho_3.mono hG5) rfl rfl ⟨om9, om9⟩) (W.ok (ok_loadO (vs := ic9) ty3 he6 pr9 rfl rfl rfl (by simp)) (g9 2 ?_))))
  have q13 := (h_ls.mono (hG4.trans hG5)).at (i := j) om9
  refine match q13 with | ⟨_, he10, ⟨_, e_12, hs11⟩⟩ => ?_
  subst e_12
  obtain ⟨sa_hs11, sc_hs11, rfl⟩ := hs11.form
  refine g9 5 ?_
  refine W.sd 26 (fun h25 p25 => ?_) (fun h25 p25 => ?_)
  ·try dsimp only at p25
   have hpj : (nats ps)[j]'om9 = ((ps[j]'om9 : Nat) : Int) := by simp
   refine g9 6 ?_
   refine W.sd 29 (fun h28 p28 => ?_) (fun h28 p28 => ?_)
   ·try dsimp only at p28
    refine g9 41 ?_
    exact ⟨Le.rfl, ((j + 1, (j : Int)) : Nat × Int), hs9, ⟨rfl, by dsimp only; omega, BI_first hbi p28 om9 (by rw [curN_atlen om9 om9]; omega)⟩, by dsimp only; omega⟩
   try dsimp only at p28
   obtain ⟨b, hbC, rfl, hbj, hbn⟩ := BI_best hbi p28
   have hpb : (nats ps)[b]'(by simp; omega) = ((ps[b]'om9 : Nat) : Int) := by simp
   rw [curN_atlen om9 om9] at hbn
   refine g9 5 ?_
   have q17 := (h_ls.mono (hG4.trans hG5)).at (i := j) om9
   refine match q17 with | ⟨_, he14, ⟨_, e_16, hs15⟩⟩ => ?_
   subst e_16
   obtain ⟨sa_hs15, sc_hs15, rfl⟩ := hs15.form
   refine g9 8 ?_
   refine (ho_3.mono hG5).a2 (i := j) om9 (fun he18 hi19 => (W.ok (ok_indexAddrO (i := j) sl50 ty3 (ho_3.mono hG5) rfl rfl ⟨om9, om9⟩) (g9 1 ?_)))
   refine W.ok (ok_loadO (vs := ic9) ty3 he18 pr9 rfl rfl rfl (by simp)) (g9 1 ?_)
   refine hs15.a2 (i := ps[j]) om9 (fun he22 hm23 => (W.ok (ok_indexAddr (i := ps[j]) sl51 ty90 hs15 rfl rfl ⟨om9, om9⟩) (g9 9 ?_)))
   have q30 := (h_ls.mono (hG4.trans hG5)).at (i := b) om9
   refine match q30 with | ⟨_, he27, ⟨_, e_29, hs28⟩⟩ => ?_
   subst e_29
   obtain ⟨sa_hs28, sc_hs28, rfl⟩ := hs28.form
   refine g9 8 ?_
   refine (ho_3.mono hG5).a2 (i := b) om9 (fun he31 hi32 => (W.ok (ok_indexAddrO (i := b) sl50 ty3 (ho_3.mono hG5) rfl rfl ⟨om9, om9⟩) (g9 1 ?_)))
   refine W.ok (ok_loadO (vs := ic9) ty3 he31 pr9 rfl rfl rfl (by simp)) (g9 1 ?_)
   refine hs28.a2 (i := ps[b]) om9 (fun he35 hm36 => (W.ok (ok_indexAddr (i := ps[b]) sl51 ty90 hs28 rfl rfl ⟨om9, om9⟩) (g9 11 ?_)))
   refine WC.cd (fun h52 p52 => ?_) (fun h52 p52 => ?_)
   ·try dsimp only at p52
    refine g9 12 ?_
    exact ⟨Le.rfl, ((j + 1, (j : Int)) : Nat × Int), hs9, ⟨rfl, by dsimp only; omega, BI_less hbi om9 om9 (by rw [curN_atlen om9 om9]; omega) (by rw [curN_st om9 om9 om9 om9, curN_st om9 om9 om9 om9]; exact p52)⟩, by dsimp only; omega⟩
   try dsimp only at p52
   refine g9 9 ?_
   exact ⟨Le.rfl, ((j + 1, (b : Int)) : Nat × Int), hs9, ⟨rfl, by dsimp only; omega, BI_keep hbi om9 om9 (by rw [curN_st om9 om9 om9 om9, curN_st om9 om9 om9 om9]; exact p52)⟩, by dsimp only; omega⟩
  try dsimp only at p25
  have hpj : (nats ps)[j]'om9 = ((ps[j]'om9 : Nat) : Int) := by simp
  refine g9 40 ?_
  exact ⟨Le.rfl, ((j + 1, c) : Nat × Int), hs9, ⟨rfl, by dsimp only; omega, BI_skip hbi om9 (by rw [curN_atlen om9 om9]; omega)⟩, by dsimp only; omega⟩
 try dsimp only at p13
 refine g9 12 ?_
 refine WC.cd (fun h57 p57 => ?_) (fun h57 p57 => ?_)
 ·try dsimp only at p57
  refine g9 6 ?_
  refine WC.giveO (ho_4.mono hG5) (pmA pr9) (fun G40 hG40 hv40 => (g9 6 ?_))
  refine ⟨rfl, _, rfl, ?_⟩
  · exact SlR.cast hv40 (by rw [← hm, BI_end hbi om9 p57, List.append_nil])
 try dsimp only at p57
 obtain ⟨b, hbC, rfl, hbj, hbn⟩ := BI_best hbi p57
 have hpb : (nats ps)[b]'(by simp; omega) = ((ps[b]'om9 : Nat) : Int) := by simp
 rw [curN_atlen om9 om9] at hbn
 have hlb := len_tot (ls := ls) (i := b) om9
 have hB : Best (curN ls ps) b := BI_done hbi om9
 refine g9 3 ?_
 refine WC.dw sn9 (d9 [0, 1, 2] ?_)
 have q44 := (h_ls.mono (hG4.trans hG5)).at (i := b) om9
 refine match q44 with | ⟨_, he41, ⟨_, e_43, hs42⟩⟩ => ?_
 subst e_43
 obtain ⟨sa_hs42, sc_hs42, rfl⟩ := hs42.form
 refine d9 [3, 4, 5, 6] ?_
 refine (ho_3.mono hG5).a2 (i := b) om9 (fun he45 hi46 => (WD.tk 7 rfl (ok_indexAddrO (i := b) sl50 ty3 (ho_3.mono hG5) rfl rfl ⟨om9, om9⟩) (WD.a1 8 rfl (W.ok (ok_loadO (vs := ic9) ty3 he45 pr9 rfl rfl rfl (by simp)) (W.nn (hs42.a2 (i := ps[b]) om9 (fun he49 hm50 => (WD.tk 9 rfl (ok_indexAddr (i := ps[b]) sl51 ty90 hs42 rfl rfl ⟨om9, om9⟩) (d9 [10] ?_)))))))))
 refine WD.a1 11 rfl (W.lit (e := eMsg) (l := [(((ls[b]))[ps[b]])]) (css := [[iV _, iV _, sV _, sV _, .bool _, sV _]]) sl51 ty90 zr90 rfl rfl rfl rfl rfl rfl ⟨⟨rfl, hm50⟩, trivial⟩ (fun bl54 G54 hG54 hv54 => (W.nn (WD.a1 12 rfl (W.app (e := eMsg) sl51 ty90 zr90 rfl by90 rfl rfl ((ho_4.mono lec)) (hv54) (pmA pr9) (by show (_ + 1) * 72 ≤ _; omega) (fun v55 Ms56 ho57 => (W.nn (d9 [13] ?_))))))))
 refine g9 5 ?_
 refine (ho_3.mono (hG5.trans hG54)).a2 (i := b) om9 (fun he58 hi59 => (W.ok (ok_indexAddrO (i := b) sl50 ty3 (ho_3.mono lec) rfl rfl ⟨om9, om9⟩) (W.ok (ok_loadO (vs := ic9) ty3 he58 (pmA pr9) rfl rfl rfl (by simp)) (W.ok (Ok.int (n := ((ps[b] + 1 : Nat) : Int)) (ok_add rfl rfl om9) om9) ((ho_3.mono (hG5.trans hG54)).a2 (i := b) om9 (fun he62 hi63 => (W.ok (ok_indexAddrO (i := b) sl50 ty3 (ho_3.mono lec) rfl rfl ⟨om9, om9⟩) (W.storeO (i := b) (o := 0) (vs := ic9) (a' := ((ps[b] + 1 : Nat) : Int)) ty3 rfl rfl rfl rfl rfl ((ho_3.mono lec)) (pmA pr9) om9 (by decide) (fun cs h => by rw [h.1]; exact ⟨rfl, om9, om9⟩) (fun Ms66 ho67 => (g9 3 ?_))))))))))
 exact ⟨lec, (((ps.set b (ps[b] + 1), out ++ [(ls[b])[ps[b]]]) : List Nat × List Msg), v_3, Ms66, v55, Ms56), hs9, ⟨rfl, (by have h := ho67; rw [show ((nats ps).set b ((ps[b] + 1 : Nat) : Int)) = nats (ps.set b (ps[b] + 1)) from (List.map_set ..).symm] at h; exact h), (by exact ho57), by dsimp only; rw [List.length_set]; exact hpl, by dsimp only; rw [← hm, merge_step hB, curN_set hpl om9 om9, curN_hd om9 om9 om9 om9, List.append_assoc]; rfl⟩, by dsimp only; rw [← curN_set hpl om9 om9 om9]; have := totN_set hB; omega⟩

theorem rclips_fc {G : GH} {v_l : Value} {l : List Msg} (h_l : SlR eMsg G v_l l) (alo : Str) (ahi : Str) (ao : Bool) (hks : ∀ m ∈ l, m.key.b.size < 140737488355328) :
    Fc Tryz.prog 49 [v_l, .agg #[sV alo.b, sV ahi.b, .bool ao]] G [] (fun v G' M' => M' = [] ∧ ∃ u0, v = u0 ∧ SlR eMsg G' u0 (clips ⟨alo, ahi, ao⟩ l)) := by
 obtain ⟨sa_l, sc_l, rfl⟩ := h_l.form
 have hl := h_l.len47
 have hlb : l.length * 72 ≤ 140737488355328 := h_l.bytes
 refine Fc.go [.tmp 4] Tryz.func49 Tryz.ntmps49 rfl (fun w0 => (g9 2 ?_))
 refine W.box (L := [sV _, sV _, .bool _]) rfl rfl (fun b1 => (g9 15 ?_))
 refine WC.loop (X := (Nat) × Value × MH) (fun i => [(6, nt9 i.1), (3, pt9 b1), (0, lV sa_l l.length sc_l), (5, i.2.1)]) (fun i G Ml => Ml = ((b1, ce9 55 [sV alo.b, sV ahi.b, .bool ao]) :: (i.2.2 ++ [])) ∧ OwnR eMsg 90 G i.2.1 (clips ⟨alo, ahi, ao⟩ (l.take i.1)) i.2.2 ∧ i.1 ≤ l.length) (fun i => l.length - i.1) (0, lV none 0 0, ([] : MH)) hs9 ?_ ?_
 ·exact ⟨rfl, (by exact OwnR.nil), om9⟩
 rintro ⟨i, v_5, M_5⟩ gG2 G2 _ hG2 ⟨rfl, ho_5, hi⟩
 try dsimp only at ho_5 hi
 have hcl := clips_le (s := ⟨alo, ahi, ao⟩) (l := l.take i)
 have htl : (l.take i).length ≤ i := by simp; omega
 refine WC.fr (f := setL gG2 [(6, nt9 i), (3, pt9 b1), (0, lV sa_l l.length sc_l), (5, v_5)]) rfl (g9 9 ?_)
 refine WC.cd (fun h12 p12 => ?_) (fun h12 p12 => ?_)
 ·refine g9 5 ?_
  refine WC.dw sr9.k9 (d9 [0, 1] ?_)
  refine (h_l.mono hG2).a2 (i := i) om9 (fun he3 hm4 => (d9 [2, 3, 4] ?_))
  refine WD.any [5, 9] (by kernel_rfl) rfl ⟨WD.ap ?_, WD.ap ?_, trivial⟩
  ·refine W.qcall (rclip_fc _ _ _ _ _ _ _ _ _ (hks _ (List.getElem_mem _))) rfl (W.nn (d9 [6, 7, 8] ?_))
   refine WD.a1 9 rfl (W.alloc zr90 (fun b8 => (W.nn (d9 [10, 11] ?_))))
   refine g9 7 ?_
   refine WC.cond rfl (fun h21_1 => ?_) (fun h21_1 => ?_)
   ·refine g9 3 ?_
    refine W.lit (e := eMsg) (l := [(Msg.clip l[i] ⟨alo, ahi, ao⟩).1]) (css := [[iV _, iV _, sV _, sV _, .bool _, sV _]]) sl51 ty90 zr90 rfl rfl rfl rfl rfl rfl ⟨⟨rfl, clip_ok (by assumption)⟩, trivial⟩ (fun bl9 G9 hG9 hv9 => (W.app (e := eMsg) sl51 ty90 zr90 rfl by90 rfl rfl ((ho_5.mono hG9)) (hv9) (pmC (pmC pr9)) (by show ((clips ⟨alo, ahi, ao⟩ (l.take i)).length + 1) * 72 ≤ _; omega) (fun v10 Ms11 ho12 => (W.perm (pmC (pmC pr9)).symm (g9 8 ?_)))))
    refine W.sub (sr9.cons _) (g9 2 ?_)
    exact ⟨hG9, (i + 1, v10, Ms11), hs9, ⟨rfl, (by have h := ho12; rw [clips_t om9 h21_1]; exact h), om9⟩, om9⟩
   refine g9 7 ?_
   refine W.sub (sr9.cons _) (g9 2 ?_)
   exact ⟨Le.rfl, (i + 1, v_5, M_5), hs9, ⟨rfl, (by have h := ho_5; rw [clips_f om9 h21_1]; exact h), om9⟩, om9⟩
  refine W.alloc zr90 (fun b13 => (W.nn (WD.a1 5 rfl (W.qcall (rclip_fc _ _ _ _ _ _ _ _ _ (hks _ (List.getElem_mem _))) rfl (W.nn (d9 [6, 7, 8, 10, 11] ?_))))))
  refine g9 7 ?_
  refine WC.cond rfl (fun h21_1 => ?_) (fun h21_1 => ?_)
  ·refine g9 3 ?_
   refine W.lit (e := eMsg) (l := [(Msg.clip l[i] ⟨alo, ahi, ao⟩).1]) (css := [[iV _, iV _, sV _, sV _, .bool _, sV _]]) sl51 ty90 zr90 rfl rfl rfl rfl rfl rfl ⟨⟨rfl, clip_ok (by assumption)⟩, trivial⟩ (fun bl14 G14 hG14 hv14 => (W.app (e := eMsg) sl51 ty90 zr90 rfl by90 rfl rfl ((ho_5.mono hG14)) (hv14) (pmC (pmC pr9)) (by show ((clips ⟨alo, ahi, ao⟩ (l.take i)).length + 1) * 72 ≤ _; omega) (fun v15 Ms16 ho17 => (W.perm (pmC (pmC pr9)).symm (g9 8 ?_)))))
   refine W.sub (sr9.cons _) (g9 2 ?_)
   exact ⟨hG14, (i + 1, v15, Ms16), hs9, ⟨rfl, (by have h := ho17; rw [clips_t om9 h21_1]; exact h), om9⟩, om9⟩
  refine g9 7 ?_
  refine W.sub (sr9.cons _) (g9 2 ?_)
  exact ⟨Le.rfl, (i + 1, v_5, M_5), hs9, ⟨rfl, (by have h := ho_5; rw [clips_f om9 h21_1]; exact h), om9⟩, om9⟩
 refine g9 11 ?_
 refine WC.giveO ho_5 (pmC pr9) (fun G18 hG18 hv18 => (g9 2 ?_))
 refine ⟨rfl, _, rfl, ?_⟩
 · have h := hv18; rw [List.take_of_length_le om9] at h; exact h

theorem bclips_fc {G : GH} {v_l : Value} {l : List Msg} (h_l : SlR eMsg G v_l l) (alo : Str) (ahi : Str) (ao : Bool) (hks : ∀ m ∈ l, m.key.b.size < 140737488355328) :
    Fc Tryz.prog 144 [v_l, .agg #[sV alo.b, sV ahi.b, .bool ao]] G [] (fun v G' M' => M' = [] ∧ ∃ u0, v = u0 ∧ SlR eMsg G' u0 (clips ⟨alo, ahi, ao⟩ l)) := by
 obtain ⟨sa_l, sc_l, rfl⟩ := h_l.form
 have hl := h_l.len47
 have hlb : l.length * 72 ≤ 140737488355328 := h_l.bytes
 refine Fc.go [.tmp 4] Tryz.func144 Tryz.ntmps144 rfl (fun w0 => (g9 2 ?_))
 refine W.box (L := [sV _, sV _, .bool _]) rfl rfl (fun b19 => (g9 17 ?_))
 refine WC.loop (X := (Nat) × Value × MH) (fun i => [(10, lV sa_l l.length sc_l), (11, nt9 l.length), (12, nt9 i.1), (3, pt9 b19), (5, i.2.1)]) (fun i G Ml => Ml = ((b19, ce9 55 [sV alo.b, sV ahi.b, .bool ao]) :: (i.2.2 ++ [])) ∧ OwnR eMsg 90 G i.2.1 (clips ⟨alo, ahi, ao⟩ (l.take i.1)) i.2.2 ∧ i.1 ≤ l.length) (fun i => l.length - i.1) (0, lV none 0 0, ([] : MH)) hs9 ?_ ?_
 ·exact ⟨rfl, (by exact OwnR.nil), om9⟩
 rintro ⟨i, v_5, M_5⟩ gG20 G20 _ hG20 ⟨rfl, ho_5, hi⟩
 try dsimp only at ho_5 hi
 have hcl := clips_le (s := ⟨alo, ahi, ao⟩) (l := l.take i)
 have htl : (l.take i).length ≤ i := by simp; omega
 refine WC.fr (f := setL gG20 [(10, lV sa_l l.length sc_l), (11, nt9 l.length), (12, nt9 i), (3, pt9 b19), (5, v_5)]) rfl (g9 6 ?_)
 refine WC.cd (fun h13 p13 => ?_) (fun h13 p13 => ?_)
 ·refine g9 6 ?_
  refine (h_l.mono hG20).a2 (i := i) om9 (fun he21 hm22 => (g9 2 ?_))
  refine W.alloc zr90 (fun b26 => (g9 7 ?_))
  refine W.qcall (mclip_fc _ _ _ _ _ _ _ _ _ (hks _ (List.getElem_mem _))) rfl (g9 3 ?_)
  refine W.alloc zr90 (fun b27 => (g9 9 ?_))
  refine WC.cond rfl (fun h19_1 => ?_) (fun h19_1 => ?_)
  ·refine g9 3 ?_
   refine W.lit (e := eMsg) (l := [(Msg.clip l[i] ⟨alo, ahi, ao⟩).1]) (css := [[iV _, iV _, sV _, sV _, .bool _, sV _]]) sl51 ty90 zr90 rfl rfl rfl rfl rfl rfl ⟨⟨rfl, clip_ok (by assumption)⟩, trivial⟩ (fun bl28 G28 hG28 hv28 => (W.app (e := eMsg) sl51 ty90 zr90 rfl by90 rfl rfl ((ho_5.mono hG28)) (hv28) (pmC (pmC (pmC pr9))) (by show ((clips ⟨alo, ahi, ao⟩ (l.take i)).length + 1) * 72 ≤ _; omega) (fun v29 Ms30 ho31 => (W.perm (pmC (pmC (pmC pr9))).symm (g9 7 ?_)))))
   refine W.sub ((sr9.cons _).cons _) (g9 2 ?_)
   exact ⟨hG28, (i + 1, v29, Ms30), hs9, ⟨rfl, (by have h := ho31; rw [clips_t om9 h19_1]; exact h), om9⟩, om9⟩
  refine g9 6 ?_
  refine W.sub ((sr9.cons _).cons _) (g9 2 ?_)
  exact ⟨Le.rfl, (i + 1, v_5, M_5), hs9, ⟨rfl, (by have h := ho_5; rw [clips_f om9 h19_1]; exact h), om9⟩, om9⟩
 refine g9 11 ?_
 refine WC.giveO ho_5 (pmC pr9) (fun G32 hG32 hv32 => (g9 2 ?_))
 refine ⟨rfl, _, rfl, ?_⟩
 · have h := hv32; rw [List.take_of_length_le om9] at h; exact h

theorem findnd_fc {G : GH} {v_l : Value} {l : List Nd} (h_l : SlR eNode G v_l l) (i : Int) :
    Fc Tryz.prog 44 [v_l, iV i] G [] (fun v G' M' => M' = [] ∧ ∃ u0, v = .tuple #[.agg (List.toArray u0), .bool ((findN l i).2)] ∧ NodeC G' u0 ((findN l i).1)) := by
 obtain ⟨sa_l, sc_l, rfl⟩ := h_l.form
 have hl := h_l.len47
 have hok : ∀ n ∈ l, n.Ok := h_l.nok
 refine Fc.go [.cell 4 53, .tmp 5] Tryz.func44 Tryz.ntmps44 rfl (fun w0 => (g9 2 ?_))
 refine W.alloc zr53 (fun b1 => (g9 5 ?_))
 refine W.ok (ok_build (L := [iV _, iV _, lV _ _ _, lV _ _ _, sV _, .bool _, iV _, iV _, lV _ _ _, lV _ _ _]) pl53 zr53 rfl rfl rfl) (W.alloc zr53 (fun b2 => (g9 15 ?_)))
 refine WC.loop (X := (Nat) × List Value) (fun k => [(7, nt9 ((atS (l.take k.1) i).length)), (8, nt9 k.1), (4, pt9 b1), (6, pt9 b2), (0, lV sa_l l.length sc_l), (1, iV i)]) (fun k G Ml => Ml = [(b2, .cells (List.toArray k.2) 53 (0, 0)), (b1, ce9 53 nz9)] ∧ NodeC G k.2 ((atS (l.take k.1) i).getLast?.getD Nd.zero) ∧ k.1 ≤ l.length) (fun k => l.length - k.1) (0, (nz9 : List Value)) hs9 ?_ ?_
 ·exact ⟨rfl, (by exact ⟨_, _, _, _, _, _, _, _, rfl, SlR.nil, SlR.nil, SlR.nil, SlR.nil, Nd.zero_ok⟩), om9⟩
 rintro ⟨k, C_6⟩ gG3 G3 _ hG3 ⟨rfl, ho_6, hk⟩
 try dsimp only at ho_6 hk
 have hal := atS_len l i k
 refine match ho_6 with | ⟨pa_nb4, pc_nb4, ka_nb4, kc_nb4, ma_nb4, mc_nb4, ra_nb4, rc_nb4, e_5, hp_nb4, hk_nb4, hm_nb4, hr_nb4, hok_nb4⟩ => ?_
 subst e_5
 refine WC.fr (f := setL gG3 [(7, nt9 ((atS (l.take k) i).length)), (8, nt9 k), (4, pt9 b1), (6, pt9 b2), (0, lV sa_l l.length sc_l), (1, iV i)]) rfl (g9 9 ?_)
 refine WC.cd (fun h13 p13 => ?_) (fun h13 p13 => ?_)
 ·refine g9 8 ?_
  refine (h_l.mono hG3).aN (i := k) om9 (fun _ _ _ _ _ _ _ _ he6 hp_n7 hk_n7 hm_n7 hr_n7 hok_n7 => (g9 7 ?_))
  refine WC.cd (fun h22 p22 => ?_) (fun h22 p22 => ?_)
  ·refine g9 4 ?_
   refine (h_l.mono hG3).aN (i := k) om9 (fun pa_n11 pc_n11 ka_n11 kc_n11 ma_n11 mc_n11 ra_n11 rc_n11 he10 hp_n11 hk_n11 hm_n11 hr_n11 hok_n11 => (g9 18 ?_))
   exact ⟨Le.rfl, (k + 1, (ndl ((l)[k]) pa_n11 pc_n11 ka_n11 kc_n11 ma_n11 mc_n11 ra_n11 rc_n11)), ⟨(congrArg (fun n : Nat => Value.int .i64 (n : Int)) (by rw [atS_t om9 p22]; simp)), eqv, eqv, eqv, eqv, eqv, trivial⟩, ⟨rfl, (by have h0 : NodeC _ _ (l[k]'om9) := (nk9 hp_n11 hk_n11 hm_n11 hr_n11 hok_n11); rw [atS_t om9 p22, last_snoc]; exact h0), om9⟩, om9⟩
  refine g9 9 ?_
  exact ⟨Le.rfl, (k + 1, (ndl ((atS (l.take k) i).getLast?.getD Nd.zero) pa_nb4 pc_nb4 ka_nb4 kc_nb4 ma_nb4 mc_nb4 ra_nb4 rc_nb4)), ⟨(congrArg (fun n : Nat => Value.int .i64 (n : Int)) (by rw [atS_f om9 p22])), eqv, eqv, eqv, eqv, eqv, trivial⟩, ⟨rfl, (by have h0 : NodeC _ _ ((atS (l.take k) i).getLast?.getD Nd.zero) := (nk9 hp_nb4 hk_nb4 hm_nb4 hr_nb4 hok_nb4); rw [atS_f om9 p22]; exact h0), om9⟩, om9⟩
 refine g9 16 ?_
 exact ⟨rfl, _, congrArg (fun b : Bool => Value.tuple #[.agg (List.toArray _), .bool b]) (find_b om9), NodeC.of (nk9 hp_nb4 hk_nb4 hm_nb4 hr_nb4 hok_nb4) (find_n om9)⟩

theorem seats_fc {G : GH} {v_l : Value} {l : List Nd} (h_l : SlR eNode G v_l l) (i : Int) (hS : Sml l) :
    Fc Tryz.prog 17 [v_l, iV i] G [] (fun v G' M' => M' = [] ∧ ((∃ u ss, seatsN l i = some ss ∧ v = .tuple #[u, .bool true] ∧ SlR eSeat G' u ss ∧ QS l ss) ∨ (∃ u ss, seatsN l i = none ∧ v = .tuple #[u, .bool false] ∧ SlR eSeat G' u ss))) := by
 obtain ⟨sa_l, sc_l, rfl⟩ := h_l.form
 have hl := h_l.len47
 have hl100 := hS.1
 refine Fc.go [.tmp 4, .tmp 5] Tryz.func17 Tryz.ntmps17 rfl (fun w0 => (g9 10 ?_))
 refine W.cN (findnd_fc h_l _) rfl (fun _ _ _ _ _ _ _ _ G14 hG14 hp_hv15 hk_hv15 hm_hv15 hr_hv15 hok_hv15 => (g9 3 ?_))
 refine W.alloc zr53 (fun b20 => (g9 11 ?_))
 refine WC.cond rfl (fun h23 => ?_) (fun h23 => ?_)
 ·refine g9 9 ?_
  exact ⟨rfl, .inr ⟨_, [], seats_none (by simpa using h23), rfl, SlR.nil⟩⟩
 have hq0 := QOk.init (l := l) (root := i) (by simpa using h23)
 refine g9 5 ?_
 refine W.ok (ok_build (L := [sV _, sV _, .bool _]) pl55 zr55 rfl rfl rfl) (W.ok (ok_build (L := [iV _, iV _, lV _ _ _, lV _ _ _, sV _, .bool _, iV _, iV _, lV _ _ _, lV _ _ _, sV _, sV _, .bool _, lV _ _ _]) pl57 zr57 rfl rfl rfl) (W.litO (e := eSeat) (l := [(rootS l i)]) (css := [[iV _, iV _, lV _ _ _, lV _ _ _, sV _, .bool _, iV _, iV _, lV _ _ _, lV _ _ _, sV _, sV _, .bool _, lV _ _ _]]) sl46 ty57 zr57 rfl rfl rfl rfl rfl rfl ⟨⟨_, _, _, _, _, _, _, _, _, _, rfl, hp_hv15, hk_hv15, hm_hv15, hr_hv15, SlR.nil, hok_hv15⟩, trivial⟩ (fun v21 Ms22 ho23 => (W.perm (pmC pr9).symm (g9 5 ?_)))))
 refine WC.sub (sr9.cons _) (g9 5 ?_)
 refine WC.loop (X := (Nat × List Seat) × Value × MH) (fun x => [(9, nt9 x.1.1), (0, lV sa_l l.length sc_l), (8, x.2.1)]) (fun x G Ml => Ml = (x.2.2 ++ []) ∧ OwnR eSeat 57 G x.2.1 (x.1.2) x.2.2 ∧ QOk l i x.1.1 x.1.2 ∧ QS l x.1.2) (fun x => l.length + 1 - x.1.1) (((0, [rootS l i]) : Nat × List Seat), v21, Ms22) hs9 ?_ ?_
 ·exact ⟨rfl, (by exact ho23), hq0, QS.init hS i⟩
 rintro ⟨⟨q, out⟩, v_8, M_8⟩ gG24 G24 _ hG24 ⟨rfl, ho_8, hq, hqs⟩
 try dsimp only at ho_8 hq hqs
 have hq1 := hq.le
 have hq2 := hq.len
 have hq3 := hq.pos
 refine WC.fr (f := setL gG24 [(9, nt9 q), (0, lV sa_l l.length sc_l), (8, v_8)]) rfl (g9 9 ?_)
 refine WC.cd (fun h31 p31 => ?_) (fun h31 p31 => ?_)
 ·refine g9 8 ?_
  have q28 := ho_8.at (i := q) om9
  refine match q28 with | ⟨_, he25, ⟨pa_t26, pc_t26, ka_t26, kc_t26, ma_t26, mc_t26, ra_t26, rc_t26, qa_t26, qc_t26, e_27, hp_t26, hk_t26, hm_t26, hr_t26, hq_t26, hok_t26⟩⟩ => ?_
  subst e_27
  obtain ⟨sx, hssx⟩ : ∃ y, y = ((out)[q]) := ⟨_, rfl⟩
  rw [← hssx] at he25 hp_t26 hk_t26 hm_t26 hr_t26 hq_t26 hok_t26
  refine W.ok (ok_indexAddrO (i := q) sl46 ty57 ho_8 rfl rfl ⟨om9, om9⟩) (W.ok (ok_loadO (vs := [iV _, iV _, lV _ _ _, lV _ _ _, sV _, .bool _, iV _, iV _, lV _ _ _, lV _ _ _, sV _, sV _, .bool _, lV _ _ _]) ty57 he25 pr9 rfl rfl rfl (by simp)) (W.alloc zr57 (fun b29 => (g9 13 ?_))))
  refine WC.cd (fun h42 p42 => ?_) (fun h42 p42 => ?_)
  ·refine g9 7 ?_
   refine WC.giveO ho_8 (pmC pr9) (fun G30 hG30 hv30 => (g9 8 ?_))
   exact ⟨rfl, .inr ⟨_, _, hq.long om9 om9, rfl, hv30⟩⟩
  refine g9 4 ?_
  obtain ⟨hlv1, hlv2⟩ := hok_t26.2.1
  have hsx := hqs q om9
  rw [← hssx] at hsx
  have hnd := hS.at hsx.nd
  have hnk : sx.n.kids.length ≤ 4000 := hnd.1
  have hk1 : ∀ m ∈ sx.n.msgs, m.key.b.size < 140737488355328 := fun m hm => by have := hnd.2.2.2.2.2.1 m hm; omega
  have hk2 : ∀ m ∈ sx.ms, m.key.b.size < 140737488355328 := fun m hm => by have := hsx.key m hm; omega
  refine g9 7 ?_
  refine WC.cd (fun h47 p47 => ?_) (fun h47 p47 => ?_)
  ·refine g9 8 ?_
   refine W.sub (sr9.cons _) (g9 2 ?_)
   exact ⟨Le.rfl, (((q + 1, out ++ []) : Nat × List Seat), v_8, M_8), hs9, ⟨rfl, (by rw [List.append_nil]; exact ho_8), hq.next om9 om9 (by rw [← hssx]; exact kidsO_0 p47), by dsimp only; rw [List.append_nil]; exact hqs⟩, by dsimp only; omega⟩
  refine g9 10 ?_
  refine W.sd 52 (fun h51 p51 => ?_) (fun h51 p51 => ?_)
  ·refine g9 19 ?_
   refine WC.giveO ho_8 (pmC pr9) (fun G31 hG31 hv31 => (g9 8 ?_))
   exact ⟨rfl, .inr ⟨_, _, hq.none om9 (by rw [← hssx]; exact kidsO_n p47 (.inl p51)), rfl, hv31⟩⟩
  refine g9 13 ?_
  refine W.qcall (rright_fc hp_t26 hk_t26) rfl (g9 5 ?_)
  refine WC.cond rfl (fun h60 => ?_) (fun h60 => ?_)
  ·refine g9 7 ?_
   refine WC.giveO ho_8 (pmC pr9) (fun G32 hG32 hv32 => (g9 8 ?_))
   exact ⟨rfl, .inr ⟨_, _, hq.none om9 (by rw [← hssx]; exact kidsO_n p47 (.inr (by simpa using h60))), rfl, hv32⟩⟩
  refine g9 8 ?_
  refine WC.loop (X := (Nat) × Value × MH) (fun j => [(11, nt9 j.1), (10, pt9 b29), (0, lV sa_l l.length sc_l), (9, nt9 q), (8, j.2.1)]) (fun j G Ml => Ml = ((b29, ce9 57 [iV sx.n.slot, iV sx.n.level, lV pa_t26 (sx.n.pivots).length pc_t26, lV ka_t26 (sx.n.kids).length kc_t26, sV sx.n.high.b, .bool sx.n.top, iV sx.n.right, iV sx.n.seen, lV ma_t26 (sx.n.msgs).length mc_t26, lV ra_t26 (sx.n.rows).length rc_t26, sV (sx.s).lo.b, sV (sx.s).hi.b, .bool (sx.s).opn, lV qa_t26 (sx.ms).length qc_t26]) :: (j.2.2 ++ [])) ∧ OwnR eSeat 57 G j.2.1 (out ++ kidsF l sx j.1) j.2.2 ∧ j.1 ≤ sx.n.kids.length ∧ (∀ j2, j2 < j.1 → kidOk l sx j2 = true) ∧ QS l (out ++ kidsF l sx j.1)) (fun j => sx.n.kids.length - j.1) (0, v_8, M_8) hs9 ?_ ?_
  ·exact ⟨rfl, (by rw [show kidsF l sx 0 = [] from rfl, List.append_nil]; exact ho_8), om9, (fun j2 h => by omega), by rw [show kidsF l sx 0 = [] from rfl, List.append_nil]; exact hqs⟩
  rintro ⟨j, v_8, M_8⟩ gG33 G33 _ hG33 ⟨rfl, ho_8, hj, hjk, hqj⟩
  try dsimp only at ho_8 hj hjk hqj
  have hkl := kidsF_len l sx j
  refine WC.fr (f := setL gG33 [(11, nt9 j), (10, pt9 b29), (0, lV sa_l l.length sc_l), (9, nt9 q), (8, v_8)]) rfl (g9 11 ?_)
  refine WC.cd (fun h68 p68 => ?_) (fun h68 p68 => ?_)
  ·refine g9 11 ?_
   refine (hk_t26.mono hG33).a2 (i := j) om9 (fun he34 hi35 => (g9 2 ?_))
   refine W.cN (findnd_fc (h_l.mono lec) (sx.n.kids[j]'om9)) rfl (fun pa_hv39 pc_hv39 ka_hv39 kc_hv39 ma_hv39 mc_hv39 ra_hv39 rc_hv39 G38 hG38 hp_hv39 hk_hv39 hm_hv39 hr_hv39 hok_hv39 => (g9 3 ?_))
   refine W.alloc zr53 (fun b44 => (g9 10 ?_))
   refine W.sp 84 rfl (fun h83 => ?_) (fun h83 => ?_)
   ·refine g9 18 ?_
    refine WC.giveO (ho_8.mono hG38) (pmC (pmC pr9)) (fun G45 hG45 hv45 => (g9 12 ?_))
    exact ⟨rfl, .inr ⟨_, _, hq.none om9 (by rw [← hssx]; exact kidsO_f (j := j) p47 om9 (kidOk_a om9 (by simpa using h83))), rfl, hv45⟩⟩
   refine g9 17 ?_
   refine WC.cn (fun h91 p91 => ?_) (fun h91 p91 => ?_)
   ·refine g9 7 ?_
    refine WC.giveO (ho_8.mono hG38) (pmC (pmC pr9)) (fun G46 hG46 hv46 => (g9 12 ?_))
    exact ⟨rfl, .inr ⟨_, _, hq.none om9 (by rw [← hssx]; exact kidsO_f (j := j) p47 om9 (kidOk_b om9 p91)), rfl, hv46⟩⟩
   refine g9 2 ?_
   refine WC.join (X := (Unit) × Nat) (fun u21 => [(8, v_8), (10, pt9 b29), (12, pt9 b44), (0, lV sa_l l.length sc_l), (9, nt9 q), (11, nt9 j), (14, .pointer (some ⟨u21.2, 0, none⟩))]) (fun u21 G Ml => Ml = ((u21.2, ce9 55 [sV ((sx.s.meet (rangeN sx.n.pivots (j : Int)))).lo.b, sV ((sx.s.meet (rangeN sx.n.pivots (j : Int)))).hi.b, .bool ((sx.s.meet (rangeN sx.n.pivots (j : Int)))).opn]) :: ((b44, ce9 53 (ndl ((findN l (sx.n.kids[j])).1) pa_hv39 pc_hv39 ka_hv39 kc_hv39 ma_hv39 mc_hv39 ra_hv39 rc_hv39)) :: ((b29, ce9 57 [iV sx.n.slot, iV sx.n.level, lV pa_t26 (sx.n.pivots).length pc_t26, lV ka_t26 (sx.n.kids).length kc_t26, sV sx.n.high.b, .bool sx.n.top, iV sx.n.right, iV sx.n.seen, lV ma_t26 (sx.n.msgs).length mc_t26, lV ra_t26 (sx.n.rows).length rc_t26, sV (sx.s).lo.b, sV (sx.s).hi.b, .bool (sx.s).opn, lV qa_t26 (sx.ms).length qc_t26]) :: (M_8 ++ []))))) ?_ ?_
   ·refine WC.dw (sr9.k9.k9) (d9 [0, 1, 2, 3, 4, 5] ?_)
    refine WD.any [6, 8] (by kernel_rfl) rfl ⟨WD.ap ?_, WD.ap ?_, trivial⟩
    ·refine W.qcall (rrange_fc (hp_t26.mono lec) _ ⟨om9, om9⟩) rfl (W.nn ?_)
     refine WD.any [7, 8] (by kernel_rfl) rfl ⟨WD.ap ?_, WD.ap ?_, trivial⟩
     ·refine W.qcall (rmeet_fc _ _ _ _ _ _) rfl (W.nn (WD.a1 8 rfl (W.alloc zr55 (fun b47 => (W.nn (d9 [9] ?_))))))
      refine g9 2 ?_
      exact ⟨Le.rfl, ((), b47), hs9, rfl⟩
     refine W.alloc zr55 (fun b48 => (W.nn (WD.a1 7 rfl (W.qcall (rmeet_fc _ _ _ _ _ _) rfl (W.nn (d9 [9] ?_))))))
     refine g9 2 ?_
     exact ⟨Le.rfl, ((), b48), hs9, rfl⟩
    refine W.alloc zr55 (fun b49 => (W.nn (WD.a1 6 rfl (W.qcall (rrange_fc (hp_t26.mono lec) _ ⟨om9, om9⟩) rfl (W.nn (WD.a1 7 rfl (W.qcall (rmeet_fc _ _ _ _ _ _) rfl (W.nn (d9 [9] ?_)))))))))
    refine g9 2 ?_
    exact ⟨Le.rfl, ((), b49), hs9, rfl⟩
   rintro ⟨u21, B_14⟩ gG50 G50 _ hG50 rfl
   refine WC.seq (WC.dw ((sn9.k9.k9).k9) (d9 [0, 1, 2, 3, 5, 6, 7] ?_))
   refine WD.a1 4 rfl (W.cS (rclips_fc (hm_t26.mono lec) _ _ _ hk1) rfl (fun sa_hv52 sc_hv52 G51 hG51 hv52 => (W.nn (WD.a1 8 rfl (W.cS (rclips_fc (hq_t26.mono lec) _ _ _ hk2) rfl (fun sa_hv59 sc_hv59 G58 hG58 hv59 => (W.nn (WD.a1 9 rfl (W.lit (e := (eSl eMsg)) (l := [(clips (sx.s.meet (rangeN sx.n.pivots (j : Int))) sx.n.msgs), (clips (sx.s.meet (rangeN sx.n.pivots (j : Int))) sx.ms)]) (css := [[lV _ _ _], [lV _ _ _]]) sl102 ty51 zr51 rfl rfl rfl rfl rfl rfl ⟨⟨_, rfl, (hv52.mono hG58)⟩, ⟨_, rfl, hv59⟩, trivial⟩ (fun bl65 G65 hG65 hv65 => (W.nn (WD.a1 10 rfl (W.cS (rlists_fc hv65 (by first | omega | exact Nat.le_trans (kid_tot hS hsx _) om9) (by show 2 ≤ 100000; omega)) rfl (fun sa_hv67 sc_hv67 G66 hG66 hv67 => (W.nn (d9 [11] ?_))))))))))))))))
   refine g9 7 ?_
   refine W.ok (ok_build (L := [iV _, iV _, lV _ _ _, lV _ _ _, sV _, .bool _, iV _, iV _, lV _ _ _, lV _ _ _, sV _, sV _, .bool _, lV _ _ _]) pl57 zr57 rfl rfl rfl) (W.lit (e := eSeat) (l := [(kidSt l sx j)]) (css := [[iV _, iV _, lV _ _ _, lV _ _ _, sV _, .bool _, iV _, iV _, lV _ _ _, lV _ _ _, sV _, sV _, .bool _, lV _ _ _]]) sl46 ty57 zr57 rfl rfl rfl rfl rfl rfl ⟨kid_rel om9 ⟨_, _, _, _, _, _, _, _, _, _, rfl, (hp_hv39.mono lec), (hk_hv39.mono lec), (hm_hv39.mono lec), (hr_hv39.mono lec), hv67, hok_hv39⟩, trivial⟩ (fun bl73 G73 hG73 hv73 => (W.app (e := eSeat) sl46 ty57 zr57 rfl by57 rfl rfl ((ho_8.mono lec)) (hv73) (pmC (pmC (pmC pr9))) (by show (List.length _ + 1) * 216 ≤ _; rw [List.length_append]; omega) (fun v74 Ms75 ho76 => (W.perm (pmC (pmC (pmC pr9))).symm (g9 8 ?_))))))
   refine W.sub ((sr9.cons _).cons _) (g9 2 ?_)
   exact ⟨lec, (j + 1, v74, Ms75), hs9, ⟨rfl, (by have h0 := ho76; rw [kidsF_succ, ← List.append_assoc]; exact h0), om9, kidOk_all om9 hjk (by simpa using h83) p91, (by rw [kidsF_succ, ← List.append_assoc]; exact hqj.snoc hS hsx (by rw [List.length_append]; omega) j)⟩, om9⟩
  refine g9 10 ?_
  refine W.sub (sr9.cons _) (g9 2 ?_)
  exact ⟨hG33, (((q + 1, out ++ kidsF l sx sx.n.kids.length) : Nat × List Seat), v_8, M_8), hs9, ⟨rfl, (by have h0 := ho_8; rw [show j = sx.n.kids.length by omega] at h0; exact h0), hq.next om9 om9 (by rw [← hssx]; exact kidsO_t p47 p51 (by simpa using h60) (fun j2 h2 => hjk j2 om9)), by dsimp only; rw [show sx.n.kids.length = j by omega]; exact hqj⟩, by dsimp only; omega⟩
 refine g9 12 ?_
 refine WC.giveO ho_8 pr9 (fun G77 hG77 hv77 => (g9 2 ?_))
 exact ⟨rfl, .inl ⟨_, _, hq.done om9, rfl, hv77, hqs⟩⟩

end Go.Proofs.YtfmigmijckdldaaGreat
