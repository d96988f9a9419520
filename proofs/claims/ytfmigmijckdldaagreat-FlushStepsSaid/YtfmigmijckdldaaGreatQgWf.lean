/- Walks of leaves behind messages. -/
import Derived.Test.YtfmigmijckdldaaGreatQgU3
set_option maxRecDepth 100000
set_option maxHeartbeats 1600000
set_option linter.unusedVariables false
set_option linter.unusedSimpArgs false
set_option linter.unnecessarySimpa false
namespace Go.Proofs.YtfmigmijckdldaaGreat
open Go Go.Fw Go.RowKit
attribute [local irreducible] Ok W WC
theorem ldrain_fc {G : GH} {v_l : Value} {l : List Pair} (h_l : SlR ePair G v_l l) {v_ms : Value} {ms : List Msg} (h_ms : SlR eMsg G v_ms ms) (n : Int) (hP : PairsR l) (hn : l.length + ms.length ≤ 1000000) (hR : ∀ m ∈ ms, m.R) :
    Fc Tryz.prog 133 [v_l, v_ms, iV n] G [] (fun v G' M' => M' = [] ∧ ∃ r : List Pair × Nat, r = drainN n l ms ∧ ∃ u0, v = .tuple #[u0, nt9 r.2] ∧ SlR ePair G' u0 (r.1)) := by
 obtain ⟨sa_l, sc_l, rfl⟩ := h_l.form
 obtain ⟨sa_ms, sc_ms, rfl⟩ := h_ms.form
 have hl := h_l.len47
 have hlm := h_ms.len47
 refine Fc.go [.tmp 6, .tmp 7] Tryz.func133 Tryz.ntmps133 rfl (fun w0 => (g9 9 ?_))
 refine W.cS (clonep_fc h_l) rfl (fun sa_hv2 sc_hv2 G1 hG1 hv2 => (g9 12 ?_))
 refine WC.loop (X := (Nat) × Value) (fun k => [(17, nt9 k.1), (1, lV sa_ms ms.length sc_ms), (2, iV n), (15, lV sa_ms ms.length sc_ms), (16, nt9 ((ms).length)), (8, k.2)]) (fun k G Ml => Ml = [] ∧ SlR ePair G k.2 (foldN l (ms.take k.1)) ∧ k.1 ≤ ms.length ∧ DrainAt n l ms k.1) (fun k => ms.length - k.1) (0, lV sa_hv2 ((l)).length sc_hv2) hs9 ?_ ?_
 ·exact ⟨rfl, (by simpa [foldN] using hv2), om9, DrainAt.zero n l ms⟩
 rintro ⟨k, v_8⟩ gG8 G8 _ hG8 ⟨rfl, ho_8, hk, hd⟩
 try dsimp only at ho_8 hk hd
 have hm : ∀ m ∈ ms, m.fit := fun m h => fit_of (msgR_sizes (hR m h))
 have hPk := PairsR.foldF (ms := ms.take k) hP (fun m h => hm m (List.mem_of_mem_take h))
 have hnk := fold_lenF (ms := ms.take k) hP (fun m h => hm m (List.mem_of_mem_take h))
 have hkl : (ms.take k).length ≤ k := by simp; omega
 refine WC.fr (f := setL gG8 [(17, nt9 k), (1, lV sa_ms ms.length sc_ms), (2, iV n), (15, lV sa_ms ms.length sc_ms), (16, nt9 ((ms).length)), (8, v_8)]) rfl (g9 6 ?_)
 refine WC.cd (fun h18 p18 => ?_) (fun h18 p18 => ?_)
 ·refine g9 7 ?_
  refine (h_ms.mono (hG1.trans hG8)).a2 (i := k) om9 (fun he9 hm10 => (g9 2 ?_))
  refine W.alloc zr90 (fun b14 => (g9 9 ?_))
  refine W.call (Mp := []) (leaftake_fc ho_8 ms[k].stamp ms[k].kind ms[k].key ms[k].hi ms[k].opn ms[k].val _ hPk om9 (hm _ (List.getElem_mem _))) rfl pr9 ?_
  intro _ G15 _ hG15 q17
  refine match q17 with | ⟨e_18, _, e_19, _, e_20, hv16⟩ => ?_
  subst e_18
  subst e_19
  subst e_20
  have q22 := hv16.form
  refine match q22 with | ⟨sa_hv16, sc_hv16, e_21⟩ => ?_
  subst e_21
  refine g9 14 ?_
  refine WC.cond rfl (fun h30 => ?_) (fun h30 => ?_)
  ·have hlf : lfitsN (foldN l (ms.take k)) ms[k] n = false := by
     cases h : lfitsN (foldN l (ms.take k)) ms[k] n
     · rfl
     exfalso; rw [leafTakeN_t h] at h30; simp at h30
   refine g9 16 ?_
   refine ⟨rfl, _, (hd.stop om9 hlf).symm, _, rfl, ?_⟩
   · exact (ho_8.mono hG15)
  have hlf : lfitsN (foldN l (ms.take k)) ms[k] n = true := by
    by_cases h : lfitsN (foldN l (ms.take k)) ms[k] n = true
    · exact h
    exfalso; rw [leafTakeN_f (by simpa using h)] at h30; simp at h30
  refine g9 11 ?_
  refine W.sub (sr9.cons _) (g9 2 ?_)
  exact ⟨hG15, (k + 1, lV sa_hv16 ((leafTakeN (foldN l (ms.take k)) ms[k] n).1).length sc_hv16), hs9, ⟨rfl, (by exact SlR.cast hv16 (by rw [leafTakeN_t hlf, foldN_succ om9])), om9, hd.succ om9 hlf⟩, om9⟩
 refine g9 16 ?_
 refine ⟨rfl, _, ((hd.all om9).trans (by rw [show k = ms.length from by omega])).symm, _, rfl, ?_⟩
 · have h := ho_8; rw [List.take_of_length_le om9] at h; exact h

theorem rdrain_fc {G : GH} {v_l : Value} {l : List Pair} (h_l : SlR ePair G v_l l) {v_ms : Value} {ms : List Msg} (h_ms : SlR eMsg G v_ms ms) (n : Int) (hP : PairsR l) (hn : l.length + ms.length ≤ 1000000) (hR : ∀ m ∈ ms, m.R) :
    Fc Tryz.prog 115 [v_l, v_ms, iV n] G [] (fun v G' M' => M' = [] ∧ ∃ r : List Pair × Nat, r = drainN n l ms ∧ ∃ u0, v = .tuple #[u0, nt9 r.2] ∧ SlR ePair G' u0 (r.1)) := by
 obtain ⟨sa_l, sc_l, rfl⟩ := h_l.form
 obtain ⟨sa_ms, sc_ms, rfl⟩ := h_ms.form
 have hl := h_l.len47
 have hlm := h_ms.len47
 refine Fc.go [.tmp 6, .tmp 7] Tryz.func115 Tryz.ntmps115 rfl (fun w0 => (g9 13 ?_))
 refine WC.loop (X := (Nat) × Value) (fun k => [(8, nt9 k.1), (1, lV sa_ms ms.length sc_ms), (2, iV n), (0, k.2)]) (fun k G Ml => Ml = [] ∧ SlR ePair G k.2 (foldN l (ms.take k.1)) ∧ k.1 ≤ ms.length ∧ DrainAt n l ms k.1) (fun k => ms.length - k.1) (0, lV sa_l l.length sc_l) hs9 ?_ ?_
 ·exact ⟨rfl, (by simpa [foldN] using h_l), om9, DrainAt.zero n l ms⟩
 rintro ⟨k, v_0⟩ gG23 G23 _ hG23 ⟨rfl, ho_0, hk, hd⟩
 try dsimp only at ho_0 hk hd
 have hm : ∀ m ∈ ms, m.fit := fun m h => fit_of (msgR_sizes (hR m h))
 have hPk := PairsR.foldF (ms := ms.take k) hP (fun m h => hm m (List.mem_of_mem_take h))
 have hnk := fold_lenF (ms := ms.take k) hP (fun m h => hm m (List.mem_of_mem_take h))
 have hkl : (ms.take k).length ≤ k := by simp; omega
 refine WC.fr (f := setL gG23 [(8, nt9 k), (1, lV sa_ms ms.length sc_ms), (2, iV n), (0, v_0)]) rfl (g9 9 ?_)
 refine WC.cd (fun h12 p12 => ?_) (fun h12 p12 => ?_)
 ·have hRk := hR _ (List.getElem_mem (by omega : k < ms.length))
  refine g9 10 ?_
  refine (h_ms.mono hG23).a2 (i := k) om9 (fun he24 hm25 => (g9 3 ?_))
  refine W.qcall (fits20_fc ho_0 ms[k].stamp ms[k].kind ms[k].key ms[k].hi ms[k].opn ms[k].val _) rfl (g9 3 ?_)
  refine WC.cond rfl (fun h22 => ?_) (fun h22 => ?_)
  ·refine g9 16 ?_
   refine ⟨rfl, _, (hd.stop om9 (by rw [lfits_eq hRk]; simpa using h22)).symm, _, rfl, ?_⟩
   · exact ho_0
  refine g9 6 ?_
  refine (h_ms.mono hG23).a2 (i := k) om9 (fun he29 hm30 => (g9 2 ?_))
  refine W.cS (rtakeF_fc ho_0 ms[k].stamp ms[k].kind ms[k].key ms[k].hi ms[k].opn ms[k].val hPk om9 (hm _ (List.getElem_mem _))) rfl (fun sa_hv35 sc_hv35 G34 hG34 hv35 => (g9 10 ?_))
  exact ⟨hG34, (k + 1, lV sa_hv35 (takeN (foldN l (ms.take k)) ms[k]).length sc_hv35), hs9, ⟨rfl, (by have h := hv35; rw [foldN_succ om9]; exact h), om9, hd.succ om9 (by rw [lfits_eq hRk]; simpa using h22)⟩, om9⟩
 refine g9 16 ?_
 refine ⟨rfl, _, ((hd.all om9).trans (by rw [show k = ms.length from by omega])).symm, _, rfl, ?_⟩
 · have h := ho_0; rw [List.take_of_length_le om9] at h; exact h

end Go.Proofs.YtfmigmijckdldaaGreat
namespace Go.Proofs.YtfmigmijckdldaaGreat
open Go Go.Fw Go.RowKit
attribute [local irreducible] Ok W WC
theorem pset_fc {G : GH} {b : Nat} {c : Cfg} {l : List Nd} {M : MH} (h : StR 53 4 3 125 78 b c G l M) {cs : List Value} {x : Nd} (hx : NodeC G cs x) : Fc Tryz.prog 27 [pt9 b, .agg (List.toArray cs)] G M (fun v G' M' => v = iV (putL l x).1 ∧ StR 53 4 3 125 78 b c G' (putL l x).2 M') := by
  obtain ⟨hc, hl, b2, Ma, rfl, hA⟩ := h
  exact (tset_fc hA hx).mono fun v G' M' hle ⟨e1, e2⟩ => ⟨by rw [e1, ar_set hl], hc, by rw [putL_len]; exact hl, e2.cast (congrArg Prod.snd (ar_set hl x))⟩
theorem ptake_fc {G : GH} {b : Nat} {c : Cfg} {l : List Nd} {M : MH} (h : StR 53 4 3 125 78 b c G l M) {cs : List Value} {x : Nd} (hx : NodeC G cs x) : Fc Tryz.prog 26 [pt9 b, .agg (List.toArray cs)] G M (fun v G' M' => v = .tuple #[iV (takeL c.slots.toNat l x).1.1, iV (takeL c.slots.toNat l x).1.2] ∧ StR 53 4 3 125 78 b c G' (takeL c.slots.toNat l x).2 M') := by
  obtain ⟨hc, hl, b2, Ma, rfl, hA⟩ := h
  exact (ttake_fc hA hx).mono fun v G' M' hle ⟨e1, e2⟩ => ⟨by rw [e1, ar_take hl], hc, takeL_len hl, e2.cast (congrArg Prod.snd (ar_take hl x))⟩
theorem pnode_fc {G : GH} {b : Nat} {c : Cfg} {l : List Nd} {M : MH} (h : StR 53 4 3 125 78 b c G l M) (i : Int) : Fc Tryz.prog 28 [pt9 b, iV i] G M (fun v G' M' => (∃ cs, v = .tuple #[.agg (List.toArray cs), .bool (decide (0 ≤ i ∧ i < l.length))] ∧ NodeC G' cs (getL l i)) ∧ M' = M) := by
  obtain ⟨hc, hl, b2, Ma, rfl, hA⟩ := h
  exact (tnode_fc (c := c) hA i).mono fun v G' M' hle ⟨⟨cs, e1, e2⟩, e3⟩ => ⟨⟨cs, by rw [e1, ar_has hl], e2.of (ar_get hl i)⟩, e3⟩
theorem pnodes_fc {G : GH} {b : Nat} {c : Cfg} {l : List Nd} {M : MH} (h : StR 53 4 3 125 78 b c G l M) : Fc Tryz.prog 11 [pt9 b] G M (fun v G' M' => SlR eNode G' v l ∧ M' = M) := by
  obtain ⟨hc, hl, b2, Ma, rfl, hA⟩ := h
  exact (tnodes_fc (c := c) hA).mono fun v G' M' hle ⟨e1, e2⟩ => ⟨SlR.cast e1 (nodes_all hl), e2⟩
theorem proom_fc {G : GH} {b : Nat} {c : Cfg} {l : List Nd} {M : MH} (h : StR 53 4 3 125 78 b c G l M) : Fc Tryz.prog 65 [pt9 b] G M (fun v G' M' => v = nt9 (c.slots.toNat - l.length) ∧ M' = M) := by
  obtain ⟨hc, hl, b2, Ma, rfl, hA⟩ := h
  exact (troom_fc (c := c) hA).mono fun v G' M' hle ⟨e1, e2⟩ => ⟨by rw [e1]; have h1 := free_used (arOf c.slots.toNat l).2; rw [ar_used hl, iota_len, ar_len hl] at h1; exact congrArg (fun n : Nat => Value.int .i64 (n : Int)) om9, e2⟩
theorem among_fc {G : GH} (n : Int) (a : Int) (b : Int) :
    Fc Tryz.prog 90 [iV n, iV a, iV b] G [] (fun v _ _ => v = .bool (decide (a ≤ n ∧ n ≤ b))) := by
 refine Fc.go [.tmp 6] Tryz.func90 Tryz.ntmps90 rfl (fun w0 => (g9 11 ?_))
 refine W.sd 10 (fun h9 p9 => ?_) (fun h9 p9 => ?_)
 ·refine g9 12 ?_
  refine congrArg Value.bool ?_
  first | (simp_all; done) | (simp_all; omega) | (simp_all; intros; omega)
 refine g9 9 ?_
 refine congrArg Value.bool ?_
 first | (simp_all; done) | (simp_all; omega) | (simp_all; intros; omega)

theorem stright_fc {G : GH} (cfan : Int) (cleaf : Int) (cbud : Int) (cslots : Int) (crest : Int) :
    Fc Tryz.prog 54 [.agg #[iV cfan, iV cleaf, iV cbud, iV cslots, iV crest]] G [] (fun v _ _ => v = .bool (decide (CfgR (⟨cfan, cleaf, cbud, cslots, crest⟩ : Cfg)))) := by
 refine Fc.go [.tmp 2] Tryz.func54 Tryz.ntmps54 rfl (fun w0 => (g9 2 ?_))
 refine W.box (L := [iV _, iV _, iV _, iV _, iV _]) rfl rfl (fun b1 => (g9 7 ?_))
 refine W.qcall (among_fc _ _ _) rfl (W.mv ?_)
 refine W.sp 6 rfl (fun h5 => ?_) (fun h5 => ?_)
 ·refine g9 5 ?_
  refine W.qcall (among_fc _ _ _) rfl (g9 2 ?_)
  refine W.sp 11 rfl (fun h9 => ?_) (fun h9 => ?_)
  ·refine g9 5 ?_
   refine W.qcall (among_fc _ _ _) rfl (g9 2 ?_)
   refine W.sp 16 rfl (fun h14 => ?_) (fun h14 => ?_)
   ·refine g9 5 ?_
    refine W.qcall (among_fc _ _ _) rfl (g9 2 ?_)
    refine W.sp 21 rfl (fun h19 => ?_) (fun h19 => ?_)
    ·refine g9 5 ?_
     refine W.qcall (among_fc _ _ _) rfl (g9 6 ?_)
     refine congrArg Value.bool ?_
     rw [Bool.eq_iff_iff, decide_eq_true_iff]
     simp only [CfgR]
     first | (simp_all; done) | (simp_all; omega) | (simp_all; intros; omega)
    refine g9 9 ?_
    refine congrArg Value.bool ?_
    rw [Bool.eq_iff_iff, decide_eq_true_iff]
    simp only [CfgR]
    first | (simp_all; done) | (simp_all; omega) | (simp_all; intros; omega)
   refine g9 14 ?_
   refine congrArg Value.bool ?_
   rw [Bool.eq_iff_iff, decide_eq_true_iff]
   simp only [CfgR]
   first | (simp_all; done) | (simp_all; omega) | (simp_all; intros; omega)
  refine g9 19 ?_
  refine congrArg Value.bool ?_
  rw [Bool.eq_iff_iff, decide_eq_true_iff]
  simp only [CfgR]
  first | (simp_all; done) | (simp_all; omega) | (simp_all; intros; omega)
 refine g9 24 ?_
 refine congrArg Value.bool ?_
 rw [Bool.eq_iff_iff, decide_eq_true_iff]
 simp only [CfgR]
 first | (simp_all; done) | (simp_all; omega) | (simp_all; intros; omega)

theorem rright25_fc {G : GH} (cfan : Int) (cleaf : Int) (cbud : Int) (cslots : Int) (crest : Int) :
    Fc Tryz.prog 21 [.agg #[iV cfan, iV cleaf, iV cbud, iV cslots, iV crest]] G [] (fun v _ _ => v = .bool (decide (CfgR (⟨cfan, cleaf, cbud, cslots, crest⟩ : Cfg)))) := by
 refine Fc.go [.tmp 2] Tryz.func21 Tryz.ntmps21 rfl (fun w0 => (g9 2 ?_))
 refine W.box (L := [iV _, iV _, iV _, iV _, iV _]) rfl rfl (fun b2 => (g9 9 ?_))
 refine W.sd 6 (fun h5 p5 => ?_) (fun h5 p5 => ?_)
 ·refine g9 8 ?_
  refine W.sd 11 (fun h9 p9 => ?_) (fun h9 p9 => ?_)
  ·refine g9 8 ?_
   refine W.sd 16 (fun h14 p14 => ?_) (fun h14 p14 => ?_)
   ·refine g9 8 ?_
    refine W.sd 21 (fun h19 p19 => ?_) (fun h19 p19 => ?_)
    ·refine g9 8 ?_
     refine W.sd 26 (fun h24 p24 => ?_) (fun h24 p24 => ?_)
     ·refine g9 8 ?_
      refine W.sd 31 (fun h29 p29 => ?_) (fun h29 p29 => ?_)
      ·refine g9 8 ?_
       refine W.sd 36 (fun h34 p34 => ?_) (fun h34 p34 => ?_)
       ·refine g9 8 ?_
        refine W.sd 41 (fun h39 p39 => ?_) (fun h39 p39 => ?_)
        ·refine g9 8 ?_
         refine W.sd 46 (fun h44 p44 => ?_) (fun h44 p44 => ?_)
         ·refine g9 12 ?_
          refine congrArg Value.bool ?_
          rw [Bool.eq_iff_iff, decide_eq_true_iff]
          simp only [CfgR]
          first | (simp_all; done) | (simp_all; omega)
         refine g9 9 ?_
         refine congrArg Value.bool ?_
         rw [Bool.eq_iff_iff, decide_eq_true_iff]
         simp only [CfgR]
         first | (simp_all; done) | (simp_all; omega)
        refine g9 14 ?_
        refine congrArg Value.bool ?_
        rw [Bool.eq_iff_iff, decide_eq_true_iff]
        simp only [CfgR]
        first | (simp_all; done) | (simp_all; omega)
       refine g9 19 ?_
       refine congrArg Value.bool ?_
       rw [Bool.eq_iff_iff, decide_eq_true_iff]
       simp only [CfgR]
       first | (simp_all; done) | (simp_all; omega)
      refine g9 24 ?_
      refine congrArg Value.bool ?_
      rw [Bool.eq_iff_iff, decide_eq_true_iff]
      simp only [CfgR]
      first | (simp_all; done) | (simp_all; omega)
     refine g9 29 ?_
     refine congrArg Value.bool ?_
     rw [Bool.eq_iff_iff, decide_eq_true_iff]
     simp only [CfgR]
     first | (simp_all; done) | (simp_all; omega)
    refine g9 34 ?_
    refine congrArg Value.bool ?_
    rw [Bool.eq_iff_iff, decide_eq_true_iff]
    simp only [CfgR]
    first | (simp_all; done) | (simp_all; omega)
   refine g9 39 ?_
   refine congrArg Value.bool ?_
   rw [Bool.eq_iff_iff, decide_eq_true_iff]
   simp only [CfgR]
   first | (simp_all; done) | (simp_all; omega)
  refine g9 44 ?_
  refine congrArg Value.bool ?_
  rw [Bool.eq_iff_iff, decide_eq_true_iff]
  simp only [CfgR]
  first | (simp_all; done) | (simp_all; omega)
 refine g9 49 ?_
 refine congrArg Value.bool ?_
 rw [Bool.eq_iff_iff, decide_eq_true_iff]
 simp only [CfgR]
 first | (simp_all; done) | (simp_all; omega)

theorem nleaf3_fc {G : GH} (s : Int) (hs : i64 s) :
    Fc Tryz.prog 56 [iV s] G [] (fun v G' M' => M' = [] ∧ ∃ u0, v = .agg (List.toArray u0) ∧ NodeC G' u0 (leafN s)) := by
 refine Fc.go [.cell 2 53] Tryz.func56 Tryz.ntmps56 rfl (fun w0 => (g9 2 ?_))
 refine W.alloc zr53 (fun b3 => (g9 5 ?_))
 refine W.ok (ok_build (L := [iV _, iV _, lV _ _ _, lV _ _ _, sV _, .bool _, iV _, iV _, lV _ _ _, lV _ _ _]) pl53 zr53 rfl rfl rfl) (g9 5 ?_)
 refine ⟨rfl, _, rfl, ?_⟩
 · exact ⟨_, _, _, _, _, _, _, _, rfl, SlR.nil, SlR.nil, SlR.nil, SlR.nil, (leafN_ok hs)⟩

theorem stnew_fc {G : GH} (cfan : Int) (cleaf : Int) (cbud : Int) (cslots : Int) (crest : Int) :
    Fc Tryz.prog 23 [.agg #[iV cfan, iV cleaf, iV cbud, iV cslots, iV crest]] G [] (fun v G' M' => (¬ CfgR (⟨cfan, cleaf, cbud, cslots, crest⟩ : Cfg) ∧ v = .tuple #[.pointer none, iV 2] ∧ M' = []) ∨ (CfgR (⟨cfan, cleaf, cbud, cslots, crest⟩ : Cfg) ∧ ∃ b, v = .tuple #[pt9 b, iV 0] ∧ StR 53 4 3 125 78 b (⟨cfan, cleaf, cbud, cslots, crest⟩ : Cfg) G' [leafN 0] M')) := by
 refine Fc.go [.tmp 2, .tmp 3] Tryz.func23 Tryz.ntmps23 rfl (fun w0 => (g9 2 ?_))
 refine W.box (L := [iV _, iV _, iV _, iV _, iV _]) rfl rfl (fun b4 => (g9 8 ?_))
 refine W.qcall (stright_fc _ _ _ _ _) rfl (g9 3 ?_)
 refine WC.cond rfl (fun h9 => ?_) (fun h9 => ?_)
 ·refine g9 9 ?_
  exact .inl ⟨by simpa using h9, rfl, rfl⟩
 refine g9 6 ?_
 refine W.call (Mp := []) (snewn_fc (cslots)) rfl pr9 ?_
 intro v8 G5 Ms7 hG5 q6
 obtain ⟨bAr, eV9, hA9⟩ : ∃ b, v8 = .tuple #[pt9 b, iV 0] ∧ ArR eNode 53 4 3 125 b G5 (List.replicate (cslots).toNat Nd.zero, List.replicate (cslots).toNat false) Ms7 := Or.elim q6 (fun hz => absurd (by have h8 : CfgR (⟨cfan, cleaf, cbud, cslots, crest⟩ : Cfg) := (by simpa using h9); unfold CfgR at h8; dsimp only at h8; omega) hz.1) (fun hz => hz.2)
 subst eV9
 refine W.perm (pmC pr9).symm (g9 21 ?_)
 refine W.ok (ok_build (L := [iV _, iV _, iV _, iV _, iV _, .pointer _]) pl78 zr78 rfl rfl rfl) (W.box (L := [iV _, iV _, iV _, iV _, iV _, .pointer _]) rfl rfl (fun b9 => (g9 6 ?_)))
 refine W.cN (nleaf3_fc _ ⟨by decide, by decide⟩) rfl (fun _ _ _ _ _ _ _ _ G10 hG10 hp_hv11 hk_hv11 hm_hv11 hr_hv11 hok_hv11 => (W.call (Mp := ((b9, ce9 78 [iV cfan, iV cleaf, iV cbud, iV cslots, iV crest, pt9 bAr]) :: Ms7)) (Mr := ((b4, ce9 23 [iV cfan, iV cleaf, iV cbud, iV cslots, iV crest]) :: [])) (ttake_fc (c := (⟨cfan, cleaf, cbud, cslots, crest⟩ : Cfg)) (ArR.mono hG10 hA9) (nk9 hp_hv11 hk_hv11 hm_hv11 hr_hv11 hok_hv11)) rfl (((pmC pr9).cons _).trans pr9) ?_))
 intro v19 G16 Ms18 hG16 q17
 refine match q17 with | ⟨e_21, hS20⟩ => ?_
 subst e_21
 refine W.perm (pmC pr9).symm (g9 15 ?_)
 refine ⟨.inr rfl, [_, _], ⟨rfl, rfl, trivial⟩, (Ms18 ++ []), sr9.cons _, ?_⟩
 have hC : CfgR (⟨cfan, cleaf, cbud, cslots, crest⟩ : Cfg) := by simpa using h9
 have hE := ar_take (n := cslots.toNat) (l := []) (by simp) (leafN 0)
 rw [(pick_first (n := cslots.toNat) (by unfold CfgR at hC; dsimp only at hC; omega)).2, arOf_nil] at hE
 have hS := hS20
 rw [hE] at hS
 exact .inr ⟨hC, _, by rw [hE]; rfl, hC, by show 1 ≤ cslots.toNat; unfold CfgR at hC; dsimp only at hC; omega, by rw [List.append_nil]; exact hS⟩

end Go.Proofs.YtfmigmijckdldaaGreat
namespace Go.Proofs.YtfmigmijckdldaaGreat
open Go Go.Fw Go.RowKit
attribute [local irreducible] Ok W WC
theorem nsame3_fc {G : GH} {cs_a : List Value} {a : Nd} (h_a : NodeC G cs_a a) {cs_b : List Value} {b : Nd} (h_b : NodeC G cs_b b) :
    Fc Tryz.prog 31 [.agg (List.toArray cs_a), .agg (List.toArray cs_b)] G [] (fun v _ _ => v = .bool (decide (a = b))) := by
 obtain ⟨_, _, _, _, _, _, _, _, rfl, hp_a, hk_a, hm_a, hr_a, hok_a⟩ := h_a
 obtain ⟨_, _, _, _, _, _, _, _, rfl, hp_b, hk_b, hm_b, hr_b, hok_b⟩ := h_b
 refine Fc.go [.tmp 4] Tryz.func31 Tryz.ntmps31 rfl (fun w0 => (g9 2 ?_))
 refine W.box (L := [iV _, iV _, lV _ _ _, lV _ _ _, sV _, .bool _, iV _, iV _, lV _ _ _, lV _ _ _]) rfl rfl (fun b1 => (W.box (L := [iV _, iV _, lV _ _ _, lV _ _ _, sV _, .bool _, iV _, iV _, lV _ _ _, lV _ _ _]) rfl rfl (fun b2 => (g9 12 ?_))))
 refine W.sm 10 (fun h9 p9 => ?_) (fun h9 p9 => ?_)
 ·refine g9 45 ?_
  refine congrArg Value.bool ?_
  rw [Bool.eq_iff_iff, decide_eq_true_iff]
  clear hp_a hk_a hm_a hr_a hok_a hp_b hk_b hm_b hr_b hok_b
  cases a; cases b
  simp_all [Str.b_inj]
 refine g9 12 ?_
 refine W.sm 17 (fun h15 p15 => ?_) (fun h15 p15 => ?_)
 ·refine g9 38 ?_
  refine congrArg Value.bool ?_
  rw [Bool.eq_iff_iff, decide_eq_true_iff]
  clear hp_a hk_a hm_a hr_a hok_a hp_b hk_b hm_b hr_b hok_b
  cases a; cases b
  simp_all [Str.b_inj]
 refine g9 12 ?_
 refine W.sm 24 (fun h22 p22 => ?_) (fun h22 p22 => ?_)
 ·refine g9 31 ?_
  refine congrArg Value.bool ?_
  rw [Bool.eq_iff_iff, decide_eq_true_iff]
  clear hp_a hk_a hm_a hr_a hok_a hp_b hk_b hm_b hr_b hok_b
  cases a; cases b
  simp_all [Str.b_inj]
 refine g9 9 ?_
 refine W.ok (ok_neqB bo4 rfl rfl) (g9 2 ?_)
 refine W.sp 31 rfl (fun h29 => ?_) (fun h29 => ?_)
 ·refine g9 24 ?_
  refine congrArg Value.bool ?_
  rw [Bool.eq_iff_iff, decide_eq_true_iff]
  clear hp_a hk_a hm_a hr_a hok_a hp_b hk_b hm_b hr_b hok_b
  cases a; cases b
  simp_all [Str.b_inj]
 refine g9 12 ?_
 refine W.sm 38 (fun h36 p36 => ?_) (fun h36 p36 => ?_)
 ·refine g9 17 ?_
  refine congrArg Value.bool ?_
  rw [Bool.eq_iff_iff, decide_eq_true_iff]
  clear hp_a hk_a hm_a hr_a hok_a hp_b hk_b hm_b hr_b hok_b
  cases a; cases b
  simp_all [Str.b_inj]
 refine g9 13 ?_
 refine WC.cn (fun h43 p43 => ?_) (fun h43 p43 => ?_)
 ·refine g9 8 ?_
  refine congrArg Value.bool ?_
  rw [Bool.eq_iff_iff, decide_eq_true_iff]
  clear hp_a hk_a hm_a hr_a hok_a hp_b hk_b hm_b hr_b hok_b
  cases a; cases b
  simp_all [Str.b_inj]
 refine g9 8 ?_
 refine W.qcall (same_fc hp_a hp_b) rfl (W.mv ?_)
 refine W.sp 50 rfl (fun h49 => ?_) (fun h49 => ?_)
 ·refine g9 9 ?_
  refine W.qcall (ints_fc hk_a hk_b) rfl (g9 2 ?_)
  refine W.sp 57 rfl (fun h55 => ?_) (fun h55 => ?_)
  ·refine g9 9 ?_
   refine W.qcall (samem_fc hm_a hm_b) rfl (g9 2 ?_)
   refine W.sp 64 rfl (fun h62 => ?_) (fun h62 => ?_)
   ·refine g9 9 ?_
    refine W.qcall (samep_fc hr_a hr_b) rfl (g9 6 ?_)
    refine congrArg Value.bool ?_
    rw [Bool.eq_iff_iff, decide_eq_true_iff]
    clear hp_a hk_a hm_a hr_a hok_a hp_b hk_b hm_b hr_b hok_b
    cases a; cases b
    simp_all [Str.b_inj]
   refine g9 11 ?_
   refine congrArg Value.bool ?_
   rw [Bool.eq_iff_iff, decide_eq_true_iff]
   clear hp_a hk_a hm_a hr_a hok_a hp_b hk_b hm_b hr_b hok_b
   cases a; cases b
   simp_all [Str.b_inj]
  refine g9 18 ?_
  refine congrArg Value.bool ?_
  rw [Bool.eq_iff_iff, decide_eq_true_iff]
  clear hp_a hk_a hm_a hr_a hok_a hp_b hk_b hm_b hr_b hok_b
  cases a; cases b
  simp_all [Str.b_inj]
 refine g9 25 ?_
 refine congrArg Value.bool ?_
 rw [Bool.eq_iff_iff, decide_eq_true_iff]
 clear hp_a hk_a hm_a hr_a hok_a hp_b hk_b hm_b hr_b hok_b
 cases a; cases b
 simp_all [Str.b_inj]

theorem all21_fc {G : GH} {v_a : Value} {a : List Nd} (h_a : SlR eNode G v_a a) {v_b : Value} {b : List Nd} (h_b : SlR eNode G v_b b) :
    Fc Tryz.prog 10 [v_a, v_b] G [] (fun v _ _ => v = .bool (decide (a = b))) := by
 obtain ⟨sa_a, sc_a, rfl⟩ := h_a.form
 obtain ⟨sa_b, sc_b, rfl⟩ := h_b.form
 have ha := h_a.len47
 have hb := h_b.len47
 refine Fc.go [.tmp 4] Tryz.func10 Tryz.ntmps10 rfl (fun w0 => (g9 15 ?_))
 refine WC.cn (fun h10 p10 => ?_) (fun h10 p10 => ?_)
 ·refine g9 8 ?_
  refine congrArg Value.bool ?_
  exact (decide_eq_false fun e => by subst e; omega).symm
 have hab : a.length = b.length := by omega
 refine g9 9 ?_
 refine WC.loop (X := Nat) (fun k => [(5, nt9 k), (0, lV sa_a a.length sc_a), (1, lV sa_b b.length sc_b)]) (fun k _ Ml => Ml = [] ∧ k ≤ a.length ∧ ∀ i (h : i < a.length) (h2 : i < b.length), i < k → a[i] = b[i]) (fun k => a.length - k) 0 hs9 ?_ ?_
 ·exact ⟨rfl, om9, fun i _ _ h => by omega⟩
 rintro k gG3 G3 _ hG3 ⟨rfl, hk0, hk⟩
 refine g9 9 ?_
 refine WC.cd (fun h14 p14 => ?_) (fun h14 p14 => ?_)
 ·refine g9 8 ?_
  refine (h_a.mono hG3).aN (i := k) om9 (fun _ _ _ _ _ _ _ _ he4 hp_n5 hk_n5 hm_n5 hr_n5 hok_n5 => (g9 4 ?_))
  refine (h_b.mono hG3).aN (i := k) om9 (fun _ _ _ _ _ _ _ _ he8 hp_n9 hk_n9 hm_n9 hr_n9 hok_n9 => (g9 2 ?_))
  refine W.qcall (nsame3_fc (a := a[k]'om9) (b := b[k]'om9) (nk9 hp_n5 hk_n5 hm_n5 hr_n5 hok_n5) (nk9 hp_n9 hk_n9 hm_n9 hr_n9 hok_n9)) rfl (g9 3 ?_)
  refine WC.cond rfl (fun h26 => ?_) (fun h26 => ?_)
  ·refine g9 12 ?_
   refine congrArg Value.bool ?_
   exact (decide_eq_false fun e => by subst e; simp at h26).symm
  refine g9 9 ?_
  exact ⟨Le.rfl, k + 1, hs9, ⟨rfl, om9, fun i h h2 hi => by
      by_cases e : i = k
      · subst e; simpa using h26
      · exact hk i h h2 om9⟩, om9⟩
 refine g9 12 ?_
 refine congrArg Value.bool ?_
 exact (decide_eq_true (List.ext_getElem om9 fun i h h2 => hk i h h2 om9)).symm

theorem light_fc {G : GH} {v_l : Value} {l : List Nd} (h_l : SlR eNode G v_l l) (n : Int) (m : Int) (hm : 0 ≤ m ∧ m ≤ 1073741824) :
    Fc Tryz.prog 22 [v_l, iV n, iV m] G [] (fun v _ _ => v = .bool (decide (Light l n m))) := by
 obtain ⟨sa_l, sc_l, rfl⟩ := h_l.form
 have hl := h_l.len47
 refine Fc.go [.tmp 6] Tryz.func22 Tryz.ntmps22 rfl (fun w0 => (g9 14 ?_))
 refine WC.cd (fun h11 p11 => ?_) (fun h11 p11 => ?_)
 ·refine g9 8 ?_
  refine congrArg Value.bool ?_
  exact (decide_eq_false fun h => by have := h.1; omega).symm
 refine g9 9 ?_
 refine WC.loop (X := Nat) (fun k => [(7, nt9 k), (0, lV sa_l l.length sc_l), (1, iV n), (2, iV m)]) (fun k _ Ml => Ml = [] ∧ ∀ i (h : i < l.length), i < k → l[i].light m) (fun k => l.length - k) 0 hs9 ?_ ?_
 ·exact ⟨rfl, fun i _ h => by omega⟩
 rintro k gG12 G12 _ hG12 ⟨rfl, hk⟩
 refine g9 9 ?_
 refine WC.cd (fun h15 p15 => ?_) (fun h15 p15 => ?_)
 ·refine g9 8 ?_
  refine (h_l.mono hG12).aN (i := k) om9 (fun _ _ _ _ _ _ _ _ he13 hp_n14 hk_n14 hm_n14 hr_n14 hok_n14 => (g9 4 ?_))
  refine W.qcall (longp_fc hr_n14 _ om9) rfl (g9 2 ?_)
  refine W.sp 26 rfl (fun h25 => ?_) (fun h25 => ?_)
  ·refine g9 55 ?_
   refine congrArg Value.bool ?_
   exact (decide_eq_false fun h => by obtain ⟨q1, q2, q3, q4, q5⟩ := h.2 k om9; first | omega | (simp at h25; omega) | (simp at h55; omega)).symm
  refine g9 5 ?_
  refine (h_l.mono hG12).aN (i := k) om9 (fun _ _ _ _ _ _ _ _ he17 hp_n18 hk_n18 hm_n18 hr_n18 hok_n18 => (g9 8 ?_))
  refine W.qcall (rlong_fc hp_n18 _ om9) rfl (g9 6 ?_)
  refine W.sd 37 (fun h35 p35 => ?_) (fun h35 p35 => ?_)
  ·refine g9 44 ?_
   refine congrArg Value.bool ?_
   exact (decide_eq_false fun h => by obtain ⟨q1, q2, q3, q4, q5⟩ := h.2 k om9; first | omega | (simp at h25; omega) | (simp at h55; omega)).symm
  refine g9 5 ?_
  refine (h_l.mono hG12).aN (i := k) om9 (fun _ _ _ _ _ _ _ _ he21 hp_n22 hk_n22 hm_n22 hr_n22 hok_n22 => (g9 13 ?_))
  refine W.sd 47 (fun h45 p45 => ?_) (fun h45 p45 => ?_)
  ·refine g9 34 ?_
   refine congrArg Value.bool ?_
   exact (decide_eq_false fun h => by obtain ⟨q1, q2, q3, q4, q5⟩ := h.2 k om9; first | omega | (simp at h25; omega) | (simp at h55; omega)).symm
  refine g9 5 ?_
  refine (h_l.mono hG12).aN (i := k) om9 (fun _ _ _ _ _ _ _ _ he25 hp_n26 hk_n26 hm_n26 hr_n26 hok_n26 => (g9 8 ?_))
  refine W.qcall (few_fc hm_n26 _ om9) rfl (g9 4 ?_)
  refine W.sp 57 rfl (fun h55 => ?_) (fun h55 => ?_)
  ·refine g9 24 ?_
   refine congrArg Value.bool ?_
   exact (decide_eq_false fun h => by obtain ⟨q1, q2, q3, q4, q5⟩ := h.2 k om9; first | omega | (simp at h25; omega) | (simp at h55; omega)).symm
  refine g9 5 ?_
  refine (h_l.mono hG12).aN (i := k) om9 (fun _ _ _ _ _ _ _ _ he29 hp_n30 hk_n30 hm_n30 hr_n30 hok_n30 => (g9 14 ?_))
  refine WC.cd (fun h65 p65 => ?_) (fun h65 p65 => ?_)
  ·refine g9 12 ?_
   refine congrArg Value.bool ?_
   exact (decide_eq_false fun h => by obtain ⟨q1, q2, q3, q4, q5⟩ := h.2 k om9; first | omega | (simp at h25; omega) | (simp at h55; omega)).symm
  refine g9 9 ?_
  exact ⟨Le.rfl, k + 1, hs9, ⟨rfl, fun i h hi => by
      by_cases e : i = k
      · subst e; exact ⟨by simpa using h25, om9, om9, by simpa using h55, om9⟩
      · exact hk i h om9⟩, om9⟩
 refine g9 12 ?_
 refine congrArg Value.bool ?_
 exact (decide_eq_true ⟨om9, fun i h => hk i h om9⟩).symm

theorem gload_fc {G : GH} (cfan : Int) (cleaf : Int) (cbud : Int) (cslots : Int) (crest : Int) {v_l : Value} {l : List Nd} (h_l : SlR eNode G v_l l) :
    Fc Tryz.prog 7 [.agg #[iV cfan, iV cleaf, iV cbud, iV cslots, iV crest], v_l] G [] (fun v G' M' => (¬ (CfgR (⟨cfan, cleaf, cbud, cslots, crest⟩ : Cfg) ∧ 0 < l.length ∧ placedF 0 l = true) ∧ v = .tuple #[.pointer none, iV 2] ∧ M' = []) ∨ ((CfgR (⟨cfan, cleaf, cbud, cslots, crest⟩ : Cfg) ∧ 0 < l.length ∧ placedF 0 l = true) ∧ ((¬ (l.length : Int) ≤ cslots ∧ v = .tuple #[.pointer none, iV 4] ∧ M' = []) ∨ ((l.length : Int) ≤ cslots ∧ ∃ b, v = .tuple #[pt9 b, iV 0] ∧ StR 53 4 3 125 78 b (⟨cfan, cleaf, cbud, cslots, crest⟩ : Cfg) G' l M')))) := by
 obtain ⟨sa_l, sc_l, rfl⟩ := h_l.form
 have hl := h_l.len47
 refine Fc.go [.tmp 4, .tmp 5] Tryz.func7 Tryz.ntmps7 rfl (fun w0 => (g9 2 ?_))
 refine W.box (L := [iV _, iV _, iV _, iV _, iV _]) rfl rfl (fun b33 => (g9 7 ?_))
 refine W.call (Mp := []) (stnew_fc (cfan) (cleaf) (cbud) (cslots) (crest)) rfl pr9 ?_
 intro v37 G34 Ms36 hG34 q35
 refine Or.elim q35 (fun q38 => ?_) (fun q39 => ?_)
 ·refine match q38 with | ⟨hnc, e_40, e_41⟩ => ?_
  subst e_40
  subst e_41
  refine g9 29 ?_
  exact .inl ⟨fun h => hnc h.1, rfl, rfl⟩
 refine match q39 with | ⟨hC, bSt, e_42, hS9⟩ => ?_
 subst e_42
 refine W.perm (pmC pr9).symm (g9 22 ?_)
 refine WC.cd (fun h24 p24 => ?_) (fun h24 p24 => ?_)
 ·refine g9 9 ?_
  exact .inl ⟨fun h => by have := h.2.1; omega, rfl, rfl⟩
 refine g9 11 ?_
 refine WC.loop (X := Nat) (fun k => [(28, nt9 k), (6, pt9 bSt), (1, lV sa_l l.length sc_l), (26, lV sa_l l.length sc_l), (27, nt9 ((l).length))]) (fun k _ Ml => Ml = ((b33, ce9 23 [iV cfan, iV cleaf, iV cbud, iV cslots, iV crest]) :: (Ms36 ++ [])) ∧ k ≤ l.length ∧ placedF 0 (l.take k) = true) (fun k => l.length - k) 0 hs9 ?_ ?_
 ·exact ⟨rfl, om9, rfl⟩
 rintro k gG43 G43 _ hG43 ⟨rfl, hk, hpk⟩
 refine g9 6 ?_
 refine WC.cd (fun h29 p29 => ?_) (fun h29 p29 => ?_)
 ·refine g9 7 ?_
  refine (h_l.mono (hG34.trans hG43)).aN (i := k) om9 (fun _ _ _ _ _ _ _ _ he44 hp_n45 hk_n45 hm_n45 hr_n45 hok_n45 => (g9 2 ?_))
  refine W.alloc zr53 (fun b48 => (g9 12 ?_))
  refine WC.cn (fun h36 p36 => ?_) (fun h36 p36 => ?_)
  ·refine g9 13 ?_
   exact .inl ⟨(fun h => by have := placed_not (l := l) (k := k) om9 p36; rw [this] at h; cases h.2.2), rfl, rfl⟩
  refine g9 6 ?_
  refine W.sub (sr9.cons _) (g9 2 ?_)
  exact ⟨Le.rfl, k + 1, hs9, ⟨rfl, om9, placed_step om9 hpk om9⟩, om9⟩
 have hpl : placedF 0 l = true := by rw [List.take_of_length_le om9] at hpk; exact hpk
 refine g9 14 ?_
 refine WC.loop (X := (Nat) × MH) (fun k2 => [(40, nt9 k2.1), (38, lV sa_l l.length sc_l), (39, nt9 ((l).length)), (6, pt9 bSt)]) (fun k2 G Ml => Ml = ((b33, ce9 23 [iV cfan, iV cleaf, iV cbud, iV cslots, iV crest]) :: (k2.2 ++ [])) ∧ StR 53 4 3 125 78 bSt (⟨cfan, cleaf, cbud, cslots, crest⟩ : Cfg) G (ldN l k2.1) k2.2 ∧ k2.1 ≤ l.length) (fun k2 => l.length - k2.1) (0, Ms36) hs9 ?_ ?_
 ·exact ⟨rfl, (by exact (StR.mono hG43 hS9)), om9⟩
 rintro ⟨k2, M_6⟩ gG49 G49 _ hG49 ⟨rfl, ho_6, hk2⟩
 try dsimp only at ho_6 hk2
 refine WC.fr (f := setL gG49 [(40, nt9 k2), (38, lV sa_l l.length sc_l), (39, nt9 ((l).length)), (6, pt9 bSt)]) rfl (g9 6 ?_)
 refine WC.cd (fun h41 p41 => ?_) (fun h41 p41 => ?_)
 ·have hsk : (l[k2]'om9).slot = ((k2 : Nat) : Int) := placed_at hpl om9
  refine g9 7 ?_
  refine (h_l.mono ((hG34.trans hG43).trans hG49)).aN (i := k2) om9 (fun _ _ _ _ _ _ _ _ he50 hp_n51 hk_n51 hm_n51 hr_n51 hok_n51 => (g9 2 ?_))
  refine W.alloc zr53 (fun b54 => (g9 11 ?_))
  refine WC.cd (fun h46 p46 => ?_) (fun h46 p46 => ?_)
  ·refine g9 4 ?_
   refine W.call (Mp := M_6) (ptake_fc ho_6 (nk9 hp_n51 hk_n51 hm_n51 hr_n51 hok_n51)) rfl (pmC (pmC pr9)) ?_
   intro v58 G55 Ms57 hG55 q56
   refine match q56 with | ⟨e_60, hR59⟩ => ?_
   subst e_60
   refine W.perm (pmC (pmC pr9)).symm (g9 13 ?_)
   refine WC.cn (fun h54 p54 => ?_) (fun h54 p54 => ?_)
   ·have hns : ¬ k2 < cslots.toNat := fun hh => p54 (by rw [ld_take om9 om9 hh hsk])
    have hE := ld_full (l := l) (k := k2) om9 om9 hns (l[k2]'om9)
    refine g9 15 ?_
    exact .inr ⟨⟨hC, om9, hpl⟩, .inl ⟨om9, by rw [hE]; rfl, rfl⟩⟩
   have hns : k2 < cslots.toNat := by
     by_cases hh : k2 < cslots.toNat
     · exact hh
     rw [ld_full om9 om9 hh] at p54; exact absurd p54 (by show ¬ (4 : Int) = 0; omega)
   have hE := ld_take (l := l) (k := k2) om9 om9 hns hsk
   refine g9 5 ?_
   refine W.call (Mp := Ms57) (pset_fc hR59 (nm9 hG55 hp_n51 hk_n51 hm_n51 hr_n51 hok_n51)) rfl (pmC (pmC pr9)) ?_
   intro v64 G61 Ms63 hG61 q62
   refine match q62 with | ⟨e_66, hR65⟩ => ?_
   subst e_66
   refine W.perm (pmC (pmC pr9)).symm (g9 6 ?_)
   refine W.sub (sr9.cons _) (g9 2 ?_)
   exact ⟨lec, (k2 + 1, Ms63), hs9, ⟨rfl, (by have h := hR65; rw [hE] at h; dsimp only at h; rw [ld_put om9 hsk] at h; exact h), om9⟩, om9⟩
  refine g9 5 ?_
  refine W.call (Mp := M_6) (pset_fc ho_6 (nk9 hp_n51 hk_n51 hm_n51 hr_n51 hok_n51)) rfl (pmC (pmC pr9)) ?_
  intro v70 G67 Ms69 hG67 q68
  refine match q68 with | ⟨e_72, hR71⟩ => ?_
  subst e_72
  refine W.perm (pmC (pmC pr9)).symm (g9 6 ?_)
  refine W.sub (sr9.cons _) (g9 2 ?_)
  exact ⟨hG67, (k2 + 1, Ms69), hs9, ⟨rfl, (by have h := hR71; have hk0 : k2 = 0 := om9; subst hk0; rw [ld_0 om9 hsk] at h; exact h), om9⟩, om9⟩
 refine g9 13 ?_
 refine ⟨.inr rfl, [_, _], ⟨rfl, rfl, trivial⟩, (M_6 ++ []), sr9.cons _, ?_⟩
 have hS := ho_6
 have hkl : k2 = l.length := by omega
 subst hkl
 rw [ld_all om9] at hS
 have hle := hS.2.1
 dsimp only at hle
 exact .inr ⟨⟨hC, om9, hpl⟩, .inr ⟨by unfold CfgR at hC; dsimp only at hC; omega, _, rfl, by rw [List.append_nil]; exact hS⟩⟩

end Go.Proofs.YtfmigmijckdldaaGreat
