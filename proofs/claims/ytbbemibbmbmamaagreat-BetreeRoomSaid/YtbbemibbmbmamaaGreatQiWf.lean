/- Walks of leaves behind messages. -/
import Derived.Test.YtbbemibbmbmamaaGreatQiNp
set_option maxRecDepth 100000
set_option maxHeartbeats 1600000
set_option linter.unusedVariables false
set_option linter.unusedSimpArgs false
set_option linter.unnecessarySimpa false
namespace Go.Proofs.YtbbemibbmbmamaaGreat
open Go Go.Fw Go.RowKit
attribute [local irreducible] Ok W WC
theorem Ztr {G : GH} {v_l : Value} {l : List Pair} (h_l : SlR Zl G v_l l) {v_ms : Value} {ms : List Msg} (h_ms : SlR Zs G v_ms ms) (n : Int) (hP : PairsR l) (hn : l.length + ms.length ≤ 1000000) (hR : ∀ m ∈ ms, m.R) :
    Fc Tryz.prog 247 [v_l, v_ms, iV n] G [] (fun v G' M' => M' = [] ∧ ∃ r : List Pair × Nat, r = Yb n l ms ∧ ∃ u0, v = .tuple #[u0, nt9 r.2] ∧ SlR Zl G' u0 (r.1)) := by
 obtain ⟨sa_l, sc_l, rfl⟩ := h_l.form
 obtain ⟨sa_ms, sc_ms, rfl⟩ := h_ms.form
 have hl := h_l.len47
 have hlm := h_ms.len47
 refine Fc.go [.tmp 6, .tmp 7] Tryz.func247 Tryz.ntmps247 rfl (fun w0 => (g9 9 ?_))
 refine W.cS (XX h_l) rfl (fun sa_hv2 sc_hv2 G1 hG1 hv2 => (g9 12 ?_))
 refine WC.loop (X := (Nat) × Value) (fun k => [(17, nt9 k.1), (1, lV sa_ms ms.length sc_ms), (2, iV n), (15, lV sa_ms ms.length sc_ms), (16, nt9 ((ms).length)), (8, k.2)]) (fun k G Ml => Ml = [] ∧ SlR Zl G k.2 (Zr l (ms.take k.1)) ∧ k.1 ≤ ms.length ∧ DrainAt n l ms k.1) (fun k => ms.length - k.1) (0, lV sa_hv2 ((l)).length sc_hv2) hs9 ?_ ?_
 ·exact ⟨rfl, (by simpa [Zr] using hv2), om9, DrainAt.zero n l ms⟩
 rintro ⟨k, v_8⟩ gG8 G8 _ hG8 ⟨rfl, ho_8, hk, hd⟩
 try dsimp only at ho_8 hk hd
 have hm : ∀ m ∈ ms, m.fit := fun m h => Zbt (Zhu (hR m h))
 have hPk := PairsR.foldF (ms := ms.take k) hP (fun m h => hm m (List.mem_of_mem_take h))
 have hnk := Zhv (ms := ms.take k) hP (fun m h => hm m (List.mem_of_mem_take h))
 have hkl : (ms.take k).length ≤ k := by simp; omega
 refine WC.fr (f := ZZ gG8 [(17, nt9 k), (1, lV sa_ms ms.length sc_ms), (2, iV n), (15, lV sa_ms ms.length sc_ms), (16, nt9 ((ms).length)), (8, v_8)]) rfl (g9 6 ?_)
 refine WC.cd (fun h18 p18 => ?_) (fun h18 p18 => ?_)
 ·refine g9 7 ?_
  refine (h_ms.mono (hG1.trans hG8)).a2 (i := k) om9 (fun he9 hm10 => (g9 2 ?_))
  refine W.alloc ZT (fun b14 => (g9 9 ?_))
  refine W.call (Mp := []) (ZeG ho_8 ms[k].stamp ms[k].kind ms[k].key ms[k].hi ms[k].opn ms[k].val _ hPk om9 (hm _ (List.getElem_mem _))) rfl pr9 ?_
  intro _ G15 _ hG15 q17
  refine match q17 with | ⟨e_18, _, e_19, _, e_20, hv16⟩ => ?_
  subst e_18
  subst e_19
  subst e_20
  have q22 := hv16.form
  refine match q22 with | ⟨sa_hv16, sc_hv16, e_21⟩ => ?_
  subst e_21
  refine g9 14 ?_
  refine WC.cond rfl (fun h30 => ?_) (fun h30 => ?_)
  ·have hlf : Yg (Zr l (ms.take k)) ms[k] n = false := by
     cases h : Yg (Zr l (ms.take k)) ms[k] n
     · rfl
     exfalso; rw [Zch h] at h30; simp at h30
   refine g9 16 ?_
   refine ⟨rfl, _, (hd.stop om9 hlf).symm, _, rfl, ?_⟩
   · exact (ho_8.mono hG15)
  have hlf : Yg (Zr l (ms.take k)) ms[k] n = true := by
    by_cases h : Yg (Zr l (ms.take k)) ms[k] n = true
    · exact h
    exfalso; rw [ZeB (by simpa using h)] at h30; simp at h30
  refine g9 11 ?_
  refine W.sub (sr9.cons _) (g9 2 ?_)
  exact ⟨hG15, (k + 1, lV sa_hv16 ((Zak (Zr l (ms.take k)) ms[k] n).1).length sc_hv16), hs9, ⟨rfl, (by exact SlR.cast hv16 (by rw [Zch hlf, Zev om9])), om9, hd.succ om9 hlf⟩, om9⟩
 refine g9 16 ?_
 refine ⟨rfl, _, ((hd.all om9).trans (by rw [show k = ms.length from by omega])).symm, _, rfl, ?_⟩
 · have h := ho_8; rw [List.take_of_length_le om9] at h; exact h

theorem Zts {G : GH} {b : Nat} {c : Cfg} {l : List Nd} {M : MH} (h : StR 60 4 3 189 139 b c G l M) {cs : List Value} {x : Nd} (hx : NodeC G cs x) : Fc Tryz.prog 140 [pt9 b, .agg (List.toArray cs)] G M (fun v G' M' => v = iV (Zal l x).1 ∧ StR 60 4 3 189 139 b c G' (Zal l x).2 M') := by
  obtain ⟨hc, hl, b2, Ma, rfl, hA⟩ := h
  exact (Zkr hA hx).mono fun v G' M' hle ⟨e1, e2⟩ => ⟨by rw [e1, ZeR hl], hc, by rw [Zn2]; exact hl, e2.cast (congrArg Prod.snd (ZeR hl x))⟩
theorem Zlh {G : GH} {b : Nat} {c : Cfg} {l : List Nd} {M : MH} (h : StR 60 4 3 189 139 b c G l M) {cs : List Value} {x : Nd} (hx : NodeC G cs x) : Fc Tryz.prog 84 [pt9 b, .agg (List.toArray cs)] G M (fun v G' M' => v = .tuple #[iV (JS c.slots.toNat l x).1.1, iV (JS c.slots.toNat l x).1.2] ∧ StR 60 4 3 189 139 b c G' (JS c.slots.toNat l x).2 M') := by
  obtain ⟨hc, hl, b2, Ma, rfl, hA⟩ := h
  exact (Zkt hA hx).mono fun v G' M' hle ⟨e1, e2⟩ => ⟨by rw [e1, ZeT hl], hc, Zn5 hl, e2.cast (congrArg Prod.snd (ZeT hl x))⟩
theorem Zax {G : GH} {b : Nat} {c : Cfg} {l : List Nd} {M : MH} (h : StR 60 4 3 189 139 b c G l M) (i : Int) : Fc Tryz.prog 67 [pt9 b, iV i] G M (fun v G' M' => (∃ cs, v = .tuple #[.agg (List.toArray cs), .bool (decide (0 ≤ i ∧ i < l.length))] ∧ NodeC G' cs (Za l i)) ∧ M' = M) := by
  obtain ⟨hc, hl, b2, Ma, rfl, hA⟩ := h
  exact (Zks (c := c) hA i).mono fun v G' M' hle ⟨⟨cs, e1, e2⟩, e3⟩ => ⟨⟨cs, by rw [e1, Zc8 hl], e2.of (ZhZ hl i)⟩, e3⟩
theorem Ztt {G : GH} {b : Nat} {c : Cfg} {l : List Nd} {M : MH} (h : StR 60 4 3 189 139 b c G l M) : Fc Tryz.prog 52 [pt9 b] G M (fun v G' M' => SlR ZF G' v l ∧ M' = M) := by
  obtain ⟨hc, hl, b2, Ma, rfl, hA⟩ := h
  exact (ZrZ (c := c) hA).mono fun v G' M' hle ⟨e1, e2⟩ => ⟨SlR.cast e1 (Zn6 hl), e2⟩
theorem Ztu {G : GH} {b : Nat} {c : Cfg} {l : List Nd} {M : MH} (h : StR 60 4 3 189 139 b c G l M) : Fc Tryz.prog 189 [pt9 b] G M (fun v G' M' => v = nt9 (c.slots.toNat - l.length) ∧ M' = M) := by
  obtain ⟨hc, hl, b2, Ma, rfl, hA⟩ := h
  exact (ZrY (c := c) hA).mono fun v G' M' hle ⟨e1, e2⟩ => ⟨by rw [e1]; have h1 := ZeL (Yo c.slots.toNat l).2; rw [Zh0 hl, ZaD, Zbu hl] at h1; exact congrArg (fun n : Nat => Value.int .i64 (n : Int)) om9, e2⟩
theorem ZcN {G : GH} (n : Int) (a : Int) (b : Int) :
    Fc Tryz.prog 138 [iV n, iV a, iV b] G [] (fun v _ _ => v = .bool (decide (a ≤ n ∧ n ≤ b))) := by
 refine Fc.go [.tmp 6] Tryz.func138 Tryz.ntmps138 rfl (fun w0 => (g9 11 ?_))
 refine W.sd 10 (fun h9 p9 => ?_) (fun h9 p9 => ?_)
 ·refine g9 12 ?_
  refine congrArg Value.bool ?_
  first | (simp_all; done) | (simp_all; omega) | (simp_all; intros; omega)
 refine g9 9 ?_
 refine congrArg Value.bool ?_
 first | (simp_all; done) | (simp_all; omega) | (simp_all; intros; omega)

theorem Ztv {G : GH} (cfan : Int) (cleaf : Int) (cbud : Int) (cslots : Int) (crest : Int) :
    Fc Tryz.prog 82 [.agg #[iV cfan, iV cleaf, iV cbud, iV cslots, iV crest]] G [] (fun v _ _ => v = .bool (decide (CfgR (⟨cfan, cleaf, cbud, cslots, crest⟩ : Cfg)))) := by
 refine Fc.go [.tmp 2] Tryz.func82 Tryz.ntmps82 rfl (fun w0 => (g9 2 ?_))
 refine W.box (L := [iV _, iV _, iV _, iV _, iV _]) rfl rfl (fun b1 => (g9 7 ?_))
 refine W.qcall (ZcN _ _ _) rfl (W.mv ?_)
 refine W.sp 6 rfl (fun h5 => ?_) (fun h5 => ?_)
 ·refine g9 5 ?_
  refine W.qcall (ZcN _ _ _) rfl (g9 2 ?_)
  refine W.sp 11 rfl (fun h9 => ?_) (fun h9 => ?_)
  ·refine g9 5 ?_
   refine W.qcall (ZcN _ _ _) rfl (g9 2 ?_)
   refine W.sp 16 rfl (fun h14 => ?_) (fun h14 => ?_)
   ·refine g9 5 ?_
    refine W.qcall (ZcN _ _ _) rfl (g9 2 ?_)
    refine W.sp 21 rfl (fun h19 => ?_) (fun h19 => ?_)
    ·refine g9 5 ?_
     refine W.qcall (ZcN _ _ _) rfl (g9 6 ?_)
     refine congrArg Value.bool ?_
     rw [Bool.eq_iff_iff, decide_eq_true_iff]
     simp only [CfgR]
     first | (simp_all; done) | (simp_all; omega) | (simp_all; intros; omega)
    refine g9 9 ?_
    refine congrArg Value.bool ?_
    rw [Bool.eq_iff_iff, decide_eq_true_iff]
    simp only [CfgR]
    first | (simp_all; done) | (simp_all; omega) | (simp_all; intros; omega)
   refine g9 14 ?_
   refine congrArg Value.bool ?_
   rw [Bool.eq_iff_iff, decide_eq_true_iff]
   simp only [CfgR]
   first | (simp_all; done) | (simp_all; omega) | (simp_all; intros; omega)
  refine g9 19 ?_
  refine congrArg Value.bool ?_
  rw [Bool.eq_iff_iff, decide_eq_true_iff]
  simp only [CfgR]
  first | (simp_all; done) | (simp_all; omega) | (simp_all; intros; omega)
 refine g9 24 ?_
 refine congrArg Value.bool ?_
 rw [Bool.eq_iff_iff, decide_eq_true_iff]
 simp only [CfgR]
 first | (simp_all; done) | (simp_all; omega) | (simp_all; intros; omega)

theorem Ztw {G : GH} (cfan : Int) (cleaf : Int) (cbud : Int) (cslots : Int) (crest : Int) :
    Fc Tryz.prog 11 [.agg #[iV cfan, iV cleaf, iV cbud, iV cslots, iV crest]] G [] (fun v _ _ => v = .bool (decide (CfgR (⟨cfan, cleaf, cbud, cslots, crest⟩ : Cfg)))) := by
 refine Fc.go [.tmp 2] Tryz.func11 Tryz.ntmps11 rfl (fun w0 => (g9 2 ?_))
 refine W.box (L := [iV _, iV _, iV _, iV _, iV _]) rfl rfl (fun b2 => (g9 9 ?_))
 refine W.sd 6 (fun h5 p5 => ?_) (fun h5 p5 => ?_)
 ·refine g9 8 ?_
  refine W.sd 11 (fun h9 p9 => ?_) (fun h9 p9 => ?_)
  ·refine g9 8 ?_
   refine W.sd 16 (fun h14 p14 => ?_) (fun h14 p14 => ?_)
   ·refine g9 8 ?_
    refine W.sd 21 (fun h19 p19 => ?_) (fun h19 p19 => ?_)
    ·refine g9 8 ?_
     refine W.sd 26 (fun h24 p24 => ?_) (fun h24 p24 => ?_)
     ·refine g9 8 ?_
      refine W.sd 31 (fun h29 p29 => ?_) (fun h29 p29 => ?_)
      ·refine g9 8 ?_
       refine W.sd 36 (fun h34 p34 => ?_) (fun h34 p34 => ?_)
       ·refine g9 8 ?_
        refine W.sd 41 (fun h39 p39 => ?_) (fun h39 p39 => ?_)
        ·refine g9 8 ?_
         refine W.sd 46 (fun h44 p44 => ?_) (fun h44 p44 => ?_)
         ·refine g9 12 ?_
          refine congrArg Value.bool ?_
          rw [Bool.eq_iff_iff, decide_eq_true_iff]
          simp only [CfgR]
          first | (simp_all; done) | (simp_all; omega)
         refine g9 9 ?_
         refine congrArg Value.bool ?_
         rw [Bool.eq_iff_iff, decide_eq_true_iff]
         simp only [CfgR]
         first | (simp_all; done) | (simp_all; omega)
        refine g9 14 ?_
        refine congrArg Value.bool ?_
        rw [Bool.eq_iff_iff, decide_eq_true_iff]
        simp only [CfgR]
        first | (simp_all; done) | (simp_all; omega)
       refine g9 19 ?_
       refine congrArg Value.bool ?_
       rw [Bool.eq_iff_iff, decide_eq_true_iff]
       simp only [CfgR]
       first | (simp_all; done) | (simp_all; omega)
      refine g9 24 ?_
      refine congrArg Value.bool ?_
      rw [Bool.eq_iff_iff, decide_eq_true_iff]
      simp only [CfgR]
      first | (simp_all; done) | (simp_all; omega)
     refine g9 29 ?_
     refine congrArg Value.bool ?_
     rw [Bool.eq_iff_iff, decide_eq_true_iff]
     simp only [CfgR]
     first | (simp_all; done) | (simp_all; omega)
    refine g9 34 ?_
    refine congrArg Value.bool ?_
    rw [Bool.eq_iff_iff, decide_eq_true_iff]
    simp only [CfgR]
    first | (simp_all; done) | (simp_all; omega)
   refine g9 39 ?_
   refine congrArg Value.bool ?_
   rw [Bool.eq_iff_iff, decide_eq_true_iff]
   simp only [CfgR]
   first | (simp_all; done) | (simp_all; omega)
  refine g9 44 ?_
  refine congrArg Value.bool ?_
  rw [Bool.eq_iff_iff, decide_eq_true_iff]
  simp only [CfgR]
  first | (simp_all; done) | (simp_all; omega)
 refine g9 49 ?_
 refine congrArg Value.bool ?_
 rw [Bool.eq_iff_iff, decide_eq_true_iff]
 simp only [CfgR]
 first | (simp_all; done) | (simp_all; omega)

theorem Ztx {G : GH} (s : Int) (hs : i64 s) :
    Fc Tryz.prog 85 [iV s] G [] (fun v G' M' => M' = [] ∧ ∃ u0, v = .agg (List.toArray u0) ∧ NodeC G' u0 (Xc s)) := by
 refine Fc.go [.cell 2 60] Tryz.func85 Tryz.ntmps85 rfl (fun w0 => (g9 2 ?_))
 refine W.alloc Zp (fun b3 => (g9 5 ?_))
 refine W.ok (ZE (L := [iV _, iV _, lV _ _ _, lV _ _ _, sV _, .bool _, iV _, iV _, lV _ _ _, lV _ _ _]) Zap Zp rfl rfl rfl) (g9 5 ?_)
 refine ⟨rfl, _, rfl, ?_⟩
 · exact ⟨_, _, _, _, _, _, _, _, rfl, SlR.nil, SlR.nil, SlR.nil, SlR.nil, (Zr4 hs)⟩

theorem Zty {G : GH} (cfan : Int) (cleaf : Int) (cbud : Int) (cslots : Int) (crest : Int) :
    Fc Tryz.prog 38 [.agg #[iV cfan, iV cleaf, iV cbud, iV cslots, iV crest]] G [] (fun v G' M' => (¬ CfgR (⟨cfan, cleaf, cbud, cslots, crest⟩ : Cfg) ∧ v = .tuple #[.pointer none, iV 2] ∧ M' = []) ∨ (CfgR (⟨cfan, cleaf, cbud, cslots, crest⟩ : Cfg) ∧ ∃ b, v = .tuple #[pt9 b, iV 0] ∧ StR 60 4 3 189 139 b (⟨cfan, cleaf, cbud, cslots, crest⟩ : Cfg) G' [Xc 0] M')) := by
 refine Fc.go [.tmp 2, .tmp 3] Tryz.func38 Tryz.ntmps38 rfl (fun w0 => (g9 2 ?_))
 refine W.box (L := [iV _, iV _, iV _, iV _, iV _]) rfl rfl (fun b4 => (g9 8 ?_))
 refine W.qcall (Ztv _ _ _ _ _) rfl (g9 3 ?_)
 refine WC.cond rfl (fun h9 => ?_) (fun h9 => ?_)
 ·refine g9 9 ?_
  exact .inl ⟨by simpa using h9, rfl, rfl⟩
 refine g9 6 ?_
 refine W.call (Mp := []) (Znp (cslots)) rfl pr9 ?_
 intro v8 G5 Ms7 hG5 q6
 obtain ⟨bAr, eV9, hA9⟩ : ∃ b, v8 = .tuple #[pt9 b, iV 0] ∧ ArR ZF 60 4 3 189 b G5 (List.replicate (cslots).toNat Nd.zero, List.replicate (cslots).toNat false) Ms7 := Or.elim q6 (fun hz => absurd (by have h8 : CfgR (⟨cfan, cleaf, cbud, cslots, crest⟩ : Cfg) := (by simpa using h9); unfold CfgR at h8; dsimp only at h8; omega) hz.1) (fun hz => hz.2)
 subst eV9
 refine W.perm (pmC pr9).symm (g9 21 ?_)
 refine W.ok (ZE (L := [iV _, iV _, iV _, iV _, iV _, .pointer _]) ZoM ZoL rfl rfl rfl) (W.box (L := [iV _, iV _, iV _, iV _, iV _, .pointer _]) rfl rfl (fun b9 => (g9 6 ?_)))
 refine W.cN (Ztx _ ⟨by decide, by decide⟩) rfl (fun _ _ _ _ _ _ _ _ G10 hG10 hp_hv11 hk_hv11 hm_hv11 hr_hv11 hok_hv11 => (W.call (Mp := ((b9, ce9 139 [iV cfan, iV cleaf, iV cbud, iV cslots, iV crest, pt9 bAr]) :: Ms7)) (Mr := ((b4, ce9 23 [iV cfan, iV cleaf, iV cbud, iV cslots, iV crest]) :: [])) (Zkt (c := (⟨cfan, cleaf, cbud, cslots, crest⟩ : Cfg)) (ArR.mono hG10 hA9) (nk9 hp_hv11 hk_hv11 hm_hv11 hr_hv11 hok_hv11)) rfl (((pmC pr9).cons _).trans pr9) ?_))
 intro v19 G16 Ms18 hG16 q17
 refine match q17 with | ⟨e_21, hS20⟩ => ?_
 subst e_21
 refine W.perm (pmC pr9).symm (g9 15 ?_)
 refine ⟨.inr rfl, [_, _], ⟨rfl, rfl, trivial⟩, (Ms18 ++ []), sr9.cons _, ?_⟩
 have hC : CfgR (⟨cfan, cleaf, cbud, cslots, crest⟩ : Cfg) := by simpa using h9
 have hE := ZeT (n := cslots.toNat) (l := []) (by simp) (Xc 0)
 rw [(Zr5 (n := cslots.toNat) (by unfold CfgR at hC; dsimp only at hC; omega)).2, ZnX] at hE
 have hS := hS20
 rw [hE] at hS
 exact .inr ⟨hC, _, by rw [hE]; rfl, hC, by show 1 ≤ cslots.toNat; unfold CfgR at hC; dsimp only at hC; omega, by rw [List.append_nil]; exact hS⟩

theorem Ztz {G : GH} {v_ls : Value} {ls : List (List Msg)} (h_ls : SlR (eSl Zs) G v_ls ls) (ht : Y5 ls ≤ 100000000) (hln : ls.length ≤ 100000) :
    Fc Tryz.prog 184 [v_ls] G [] (fun v G' M' => M' = [] ∧ ∃ u0, v = u0 ∧ SlR Zs G' u0 (ZQ ls)) := by
 obtain ⟨sa_ls, sc_ls, rfl⟩ := h_ls.form
 have hl := h_ls.len47
 refine Fc.go [.tmp 2] Tryz.func184 Tryz.ntmps184 rfl (fun w0 => (g9 7 ?_))
 refine W.lit0 (e := X8) XN YL JC rfl (fun v1 Ms2 ho3 => ?_)
 have q7 := ho3.form
 refine match q7 with | ⟨sa4, sc5, e_6⟩ => ?_
 subst e_6
 refine W.box (L := [lV _ _ _]) rfl rfl (fun b8 => (g9 5 ?_))
 have hR9 : HeadsR b8 269 G [] ((b8, ce9 269 [lV sa4 0 sc5]) :: Ms2) := ⟨(fun h hh => by cases hh), _, _, rfl, ho3⟩
 refine WC.perm (M' := (((b8, ce9 269 [lV sa4 0 sc5]) :: Ms2) ++ [])) (pr9.symm.trans ((pr9.cons _).trans pr9)) (g9 7 ?_)
 refine WC.loop (X := (Nat × List Hd) × MH) (fun x => [(12, nt9 x.1.1), (10, lV sa_ls ls.length sc_ls), (11, nt9 ((ls).length)), (3, pt9 b8)]) (fun x G Ml => Ml = (x.2 ++ []) ∧ HeadsR b8 269 G (x.1.2) x.2 ∧ x.1.1 ≤ ls.length ∧ Heap Hd.lt x.1.2 ∧ x.1.2.Perm (Z1 0 (ls.take x.1.1))) (fun x => ls.length - x.1.1) (((0, []) : Nat × List Hd), ((b8, ce9 269 [lV sa4 0 sc5]) :: Ms2)) hs9 ?_ ?_
 ·exact ⟨rfl, (by simpa using hR9), Nat.zero_le _, (fun c h0 hc _ => by simp at hc), by simp [Z1]⟩
 rintro ⟨⟨k, H⟩, M_3⟩ gG10 G10 _ hG10 ⟨rfl, ho_3, hk, hH, hp⟩
 try dsimp only at ho_3 hk hH hp
 have hHl := hp.length_eq
 have hHl2 := Zf7 (ls.take k) 0
 have hHl3 : (ls.take k).length ≤ k := by simp; omega
 refine WC.fr (f := ZZ gG10 [(12, nt9 k), (10, lV sa_ls ls.length sc_ls), (11, nt9 ((ls).length)), (3, pt9 b8)]) rfl (g9 6 ?_)
 refine WC.cd (fun h13 p13 => ?_) (fun h13 p13 => ?_)
 ·try dsimp only at p13
  refine g9 7 ?_
  have q14 := (h_ls.mono hG10).at (i := (k)) om9
  refine match q14 with | ⟨_, he11, ⟨_, e_13, hs12⟩⟩ => ?_
  subst e_13
  obtain ⟨sa_hs12, sc_hs12, rfl⟩ := hs12.form
  refine W.ok (Yt (i := (k)) Zbz Zby (h_ls.mono hG10) rfl rfl ⟨om9, om9⟩) (g9 12 ?_)
  refine WC.cd (fun h19 p19 => ?_) (fun h19 p19 => ?_)
  ·try dsimp only at p19
   refine g9 2 ?_
   refine W.ok (Zaf ZeY rfl) (g9 2 ?_)
   refine W.ok (ZE (L := [lV _ _ _, iV _]) Zo9 JC rfl rfl rfl) (W.ok (Zaf Zcq rfl) (W.call (Mp := M_3) (ZhA (Zci (b := b8) (Tb := 269)) ho_3 (a := ((ls[k], (k : Int)) : Hd)) ⟨⟨_, _, rfl, hs12, ⟨by dsimp only; omega, by dsimp only; omega⟩⟩, by dsimp only; omega⟩ om9 (fun hl h => ZhD hl h)) rfl pr9 ?_))
   intro _ G15 Ms17 hG15 q16
   refine match q16 with | ⟨e_20, hR19⟩ => ?_
   subst e_20
   refine g9 8 ?_
   exact ⟨hG15, (((k + 1, Zaj Hd.lt H ((ls[k], (k : Int)) : Hd)) : Nat × List Hd), Ms17), hs9, ⟨rfl, (by simpa using hR19), by dsimp only; omega, (ZeA Hd.lo hH _).1, (ZeA Hd.lo hH _).2.trans (Zr8 om9 hp om9)⟩, by dsimp only; omega⟩
  try dsimp only at p19
  refine g9 8 ?_
  exact ⟨Le.rfl, (((k + 1, H) : Nat × List Hd), M_3), hs9, ⟨rfl, (by simpa using ho_3), by dsimp only; omega, hH, Zr9 om9 hp om9⟩, by dsimp only; omega⟩
 try dsimp only at p13
 refine g9 12 ?_
 refine WC.loop (X := (Ls × List Hd × List Msg) × Value × MH × MH) (fun x => [(6, x.2.1), (3, pt9 b8)]) (fun x G Ml => Ml = (x.2.2.1 ++ (x.2.2.2 ++ [])) ∧ OwnR Zs 87 G x.2.1 (x.1.2.2) x.2.2.1 ∧ HeadsR b8 269 G (x.1.2.1) x.2.2.2 ∧ Heap Hd.lt x.1.2.1 ∧ x.1.2.1.Perm (Z1 0 x.1.1) ∧ x.1.2.2 ++ ZQ x.1.1 = ZQ ls ∧ x.1.1.length = ls.length) (fun x => Y5 x.1.1) (((ls, H, []) : Ls × List Hd × List Msg), lV none 0 0, ([] : MH), M_3) hs9 ?_ ?_
 ·exact ⟨rfl, (by simpa using OwnR.nil), (by simpa using ho_3), hH, by rw [List.take_of_length_le om9] at hp; exact hp, by simp, rfl⟩
 rintro ⟨⟨cur, H, out⟩, v_6, M_6, M_3⟩ gG21 G21 _ hG21 ⟨rfl, ho_6, ho_3, hH, hp, hm, hcl⟩
 try dsimp only at ho_6 ho_3 hH hp hm hcl
 have hml := congrArg List.length hm
 rw [List.length_append] at hml
 have hml2 := Zse ls
 have hHl := hp.length_eq
 have hHl2 := Zf7 cur 0
 refine WC.fr (f := ZZ gG21 [(6, v_6), (3, pt9 b8)]) rfl (g9 2 ?_)
 refine match ho_3 with | ⟨hne_u, v_u, Ms_u, eM_, ho_u⟩ => ?_
 subst eM_
 refine WC.perm (M' := ((b8, ce9 269 [v_u]) :: (M_6 ++ (Ms_u ++ [])))) (pmB pr9).symm ?_
 refine match ho_u.form with | ⟨sa_u, sc_u, eV_⟩ => ?_
 subst eV_
 refine g9 4 ?_
 refine W.call (Mp := Ms_u) (ZhC ho_u) rfl (pmC (pmA pr9)) ?_
 intro _ G22 Ms24 hG22 q23
 refine match q23 with | ⟨e_25, e_26⟩ => ?_
 subst e_25
 subst e_26
 refine W.perm (pmC pr9).symm (g9 3 ?_)
 refine WC.cd (fun h32 p32 => ?_) (fun h32 p32 => ?_)
 ·try dsimp only at p32
  obtain ⟨b, hb, hbe⟩ := Zsa hH hp om9
  have e9 : List.drop 1 (List.take (nth H 0).1.length (nth H 0).1) = List.drop 1 (cur[b]'hb.lt) := by rw [List.take_length, hbe]
  have hpl := (Zc3 Hd.lo hH om9).2.2
  refine g9 4 ?_
  have hR27 : HeadsR b8 269 G22 H ((b8, ce9 269 [lV sa_u H.length sc_u]) :: Ms_u) := ⟨hne_u, _, _, rfl, (ho_u.mono hG22)⟩
  refine WC.perm (M' := (((b8, ce9 269 [lV sa_u H.length sc_u]) :: Ms_u) ++ (M_6 ++ []))) (pr9.symm.trans ((pr9.cons _).trans pr9)) (g9 2 ?_)
  refine W.ok (Zaf ZeY rfl) (W.call (Mp := ((b8, ce9 269 [lV sa_u H.length sc_u]) :: Ms_u)) (Zhz (Zci (b := b8) (Tb := 269)) hR27 om9) rfl pr9 ?_)
  intro v31 G28 Ms30 hG28 q29
  refine match q29 with | ⟨hvhR32, hR32⟩ => ?_
  refine match hvhR32 with | ⟨⟨_, _, e_34, hw_p33, hok_p33⟩, hn_p33⟩ => ?_
  subst e_34
  refine W.ok (Zek Zcq rfl) (W.alloc JC (fun b35 => (g9 8 ?_)))
  refine hw_p33.a2 (i := 0) om9 (fun he36 hm37 => (W.ok (Yt (i := 0) ZY Z3 hw_p33 rfl rfl ⟨om9, om9⟩) (g9 1 ?_)))
  refine W.lit (e := Zs) (l := [((((nth H 0).1))[0])]) (css := [[iV _, iV _, sV _, sV _, .bool _, sV _]]) ZY Z3 ZT rfl rfl rfl rfl rfl rfl ⟨⟨rfl, hm37⟩, trivial⟩ (fun bl41 G41 hG41 hv41 => (W.app (e := Zs) ZY Z3 ZT rfl JB rfl rfl ((ho_6.mono lec)) (hv41) (pmC (pmA pr9)) (by show (_ + 1) * 72 ≤ _; omega) (fun v42 Ms43 ho44 => (W.perm (pmC pr9).symm ?_))))
  have q48 := ho44.form
  refine match q48 with | ⟨sa45, sc46, e_47⟩ => ?_
  subst e_47
  refine g9 7 ?_
  refine W.slR (1) (((nth H 0).1).length) ZY Z3 (hw_p33.mono hG41) rfl ⟨_, _, rfl, om9⟩ rfl om9 om9 (fun v50 hs49 => ?_)
  have q54 := hs49.form
  refine match q54 with | ⟨sa51, sc52, e_53⟩ => ?_
  subst e_53
  refine g9 12 ?_
  refine WC.cd (fun h51 p51 => ?_) (fun h51 p51 => ?_)
  ·try dsimp only at p51
   refine g9 2 ?_
   refine W.ok (Zaf ZeY rfl) (g9 1 ?_)
   refine W.ok (Zaf Zcq rfl) (W.call (Mp := Ms30) (ZhA (Zci (b := b8) (Tb := 269)) ((Zci (b := b8) (Tb := 269)).mono hG41 hR32) (a := (((((nth H 0).1).take ((nth H 0).1).length).drop 1, (nth H 0).2) : Hd)) ⟨⟨_, _, rfl, hs49, hok_p33⟩, by dsimp only; omega⟩ om9 (fun hl h => ZhD hl h)) rfl (pmC (pmA pr9)) ?_)
   intro _ G55 Ms57 hG55 q56
   refine match q56 with | ⟨e_60, hR59⟩ => ?_
   subst e_60
   refine W.perm (pmC pr9).symm (W.sub (sr9.cons _) (W.perm (M' := (Ms43 ++ (Ms57 ++ []))) ((List.Perm.append_left _ ((List.Perm.append_left _ pr9).trans pr9)).trans (pmA pr9)) (g9 3 ?_)))
   exact ⟨lec, (((cur.set b ((cur[b]'hb.lt).drop 1), Zaj Hd.lt (Y2 Hd.lt H) (((((nth H 0).1).take ((nth H 0).1).length).drop 1, (nth H 0).2) : Hd), out ++ [(nth H 0).1[0]'(by first | assumption | (rw [hbe]; exact hb.ne))]) : Ls × List Hd × List Msg), lV sa45 ((out ++ [((((nth H 0).1))[0])])).length sc46, Ms43, Ms57), hs9, ⟨rfl, (by simpa using (ho44.mono hG55)), (by simpa using hR59), (ZkA hH hp om9 hb hbe (el := (((((nth H 0).1).take ((nth H 0).1).length).drop 1, (nth H 0).2) : Hd)) (by rw [e9, hbe]) (by dsimp only; omega)).1, (ZkA hH hp om9 hb hbe (el := (((((nth H 0).1).take ((nth H 0).1).length).drop 1, (nth H 0).2) : Hd)) (by rw [e9, hbe]) (by dsimp only; omega)).2, by dsimp only; rw [← hm, ZdM hb, List.append_assoc, List.singleton_append]; simp only [hbe], by dsimp only; rw [List.length_set]; exact hcl⟩, by dsimp only; have := ZbT hb; omega⟩
  try dsimp only at p51
  refine WC.sub (sr9.cons _) (g9 3 ?_)
  exact ⟨lec, (((cur.set b ((cur[b]'hb.lt).drop 1), Y2 Hd.lt H, out ++ [(nth H 0).1[0]'(by first | assumption | (rw [hbe]; exact hb.ne))]) : Ls × List Hd × List Msg), lV sa45 ((out ++ [((((nth H 0).1))[0])])).length sc46, Ms43, Ms30), hs9, ⟨rfl, (by simpa using ho44), (by simpa using ((Zci (b := b8) (Tb := 269)).mono hG41 hR32)), (ZkB hH hp om9 hb hbe (by rw [e9] at p51; omega)).1, (ZkB hH hp om9 hb hbe (by rw [e9] at p51; omega)).2, by dsimp only; rw [← hm, ZdM hb, List.append_assoc, List.singleton_append]; simp only [hbe], by dsimp only; rw [List.length_set]; exact hcl⟩, by dsimp only; have := ZbT hb; omega⟩
 try dsimp only at p32
 refine g9 11 ?_
 refine WC.giveO (ho_6.mono hG22) (pmC (pmA pr9)) (fun G61 hG61 hv61 => (g9 2 ?_))
 refine ⟨rfl, _, rfl, ?_⟩
 · exact SlR.cast hv61 (by rw [← hm, Zsd hp om9, List.append_nil])

theorem ZdZ {G : GH} {v_l : Value} {l : List Msg} (h_l : SlR Zs G v_l l) (alo : Str) (ahi : Str) (ao : Bool) (hks : ∀ m ∈ l, m.key.b.size < 140737488355328) :
    Fc Tryz.prog 183 [v_l, .agg #[sV alo.b, sV ahi.b, .bool ao]] G [] (fun v G' M' => M' = [] ∧ ∃ u0, v = u0 ∧ SlR Zs G' u0 (Zc ⟨alo, ahi, ao⟩ l)) := by
 obtain ⟨sa_l, sc_l, rfl⟩ := h_l.form
 have hl := h_l.len47
 have hlb : l.length * 72 ≤ 140737488355328 := h_l.bytes
 refine Fc.go [.tmp 4] Tryz.func183 Tryz.ntmps183 rfl (fun w0 => (g9 2 ?_))
 refine W.box (L := [sV _, sV _, .bool _]) rfl rfl (fun b19 => (g9 17 ?_))
 refine WC.loop (X := (Nat) × Value × MH) (fun i => [(10, lV sa_l l.length sc_l), (11, nt9 l.length), (12, nt9 i.1), (3, pt9 b19), (5, i.2.1)]) (fun i G Ml => Ml = ((b19, ce9 62 [sV alo.b, sV ahi.b, .bool ao]) :: (i.2.2 ++ [])) ∧ OwnR Zs 87 G i.2.1 (Zc ⟨alo, ahi, ao⟩ (l.take i.1)) i.2.2 ∧ i.1 ≤ l.length) (fun i => l.length - i.1) (0, lV none 0 0, ([] : MH)) hs9 ?_ ?_
 ·exact ⟨rfl, (by exact OwnR.nil), om9⟩
 rintro ⟨i, v_5, M_5⟩ gG20 G20 _ hG20 ⟨rfl, ho_5, hi⟩
 try dsimp only at ho_5 hi
 have hcl := Zb9 (s := ⟨alo, ahi, ao⟩) (l := l.take i)
 have htl : (l.take i).length ≤ i := by simp; omega
 refine WC.fr (f := ZZ gG20 [(10, lV sa_l l.length sc_l), (11, nt9 l.length), (12, nt9 i), (3, pt9 b19), (5, v_5)]) rfl (g9 6 ?_)
 refine WC.cd (fun h13 p13 => ?_) (fun h13 p13 => ?_)
 ·refine g9 6 ?_
  refine (h_l.mono hG20).a2 (i := i) om9 (fun he21 hm22 => (g9 2 ?_))
  refine W.alloc ZT (fun b26 => (g9 7 ?_))
  refine W.qcall (Ze2 _ _ _ _ _ _ _ _ _ (hks _ (List.getElem_mem _))) rfl (g9 3 ?_)
  refine W.alloc ZT (fun b27 => (g9 9 ?_))
  refine WC.cond rfl (fun h19_1 => ?_) (fun h19_1 => ?_)
  ·refine g9 3 ?_
   refine W.lit (e := Zs) (l := [(Msg.clip l[i] ⟨alo, ahi, ao⟩).1]) (css := [[iV _, iV _, sV _, sV _, .bool _, sV _]]) ZY Z3 ZT rfl rfl rfl rfl rfl rfl ⟨⟨rfl, Zen (by assumption)⟩, trivial⟩ (fun bl28 G28 hG28 hv28 => (W.app (e := Zs) ZY Z3 ZT rfl JB rfl rfl ((ho_5.mono hG28)) (hv28) (pmC (pmC (pmC pr9))) (by show ((Zc ⟨alo, ahi, ao⟩ (l.take i)).length + 1) * 72 ≤ _; omega) (fun v29 Ms30 ho31 => (W.perm (pmC (pmC (pmC pr9))).symm (g9 7 ?_)))))
   refine W.sub ((sr9.cons _).cons _) (g9 2 ?_)
   exact ⟨hG28, (i + 1, v29, Ms30), hs9, ⟨rfl, (by have h := ho31; rw [Zmt om9 h19_1]; exact h), om9⟩, om9⟩
  refine g9 6 ?_
  refine W.sub ((sr9.cons _).cons _) (g9 2 ?_)
  exact ⟨Le.rfl, (i + 1, v_5, M_5), hs9, ⟨rfl, (by have h := ho_5; rw [Zmu om9 h19_1]; exact h), om9⟩, om9⟩
 refine g9 11 ?_
 refine WC.giveO ho_5 (pmC pr9) (fun G32 hG32 hv32 => (g9 2 ?_))
 refine ⟨rfl, _, rfl, ?_⟩
 · have h := hv32; rw [List.take_of_length_le om9] at h; exact h

theorem Zgs {G : GH} {cs_p : List Value} {p : Nd} (h_p : NodeC G cs_p p) {cs_k : List Value} {k : Nd} (h_k : NodeC G cs_k k) (i : Int) :
    Fc Tryz.prog 224 [.agg (List.toArray cs_p), .agg (List.toArray cs_k), iV i] G [] (fun v _ _ => v = .bool (decide (KidOf p k i))) := by
 obtain ⟨_, _, _, _, _, _, _, _, rfl, hp_p, hk_p, hm_p, hr_p, hok_p⟩ := h_p
 obtain ⟨_, _, _, _, _, _, _, _, rfl, hp_k, hk_k, hm_k, hr_k, hok_k⟩ := h_k
 have hlk := hk_p.len47
 obtain ⟨hlv1, hlv2⟩ := hok_p.2.1
 refine Fc.go [.tmp 6] Tryz.func224 Tryz.ntmps224 rfl (fun w0 => (g9 2 ?_))
 refine W.box (L := [iV _, iV _, lV _ _ _, lV _ _ _, sV _, .bool _, iV _, iV _, lV _ _ _, lV _ _ _]) rfl rfl (fun b1 => (W.box (L := [iV _, iV _, lV _ _ _, lV _ _ _, sV _, .bool _, iV _, iV _, lV _ _ _, lV _ _ _]) rfl rfl (fun b2 => (g9 9 ?_))))
 refine W.sd 10 (fun h9 p9 => ?_) (fun h9 p9 => ?_)
 ·refine g9 14 ?_
  refine W.sd 18 (fun h16 p16 => ?_) (fun h16 p16 => ?_)
  ·refine g9 6 ?_
   refine W.sd 22 (fun h20 p20 => ?_) (fun h20 p20 => ?_)
   ·refine g9 16 ?_
    refine congrArg Value.bool ?_
    exact decide_eq_decide.2 ⟨fun h => ⟨om9, p16, om9, h⟩, fun h => h.2.2.2⟩
   refine g9 11 ?_
   refine congrArg Value.bool ?_
   exact (decide_eq_false fun h => by unfold KidOf at h; omega).symm
  refine g9 15 ?_
  refine congrArg Value.bool ?_
  exact (decide_eq_false fun h => by unfold KidOf at h; omega).symm
 refine g9 23 ?_
 refine congrArg Value.bool ?_
 exact (decide_eq_false fun h => by unfold KidOf at h; omega).symm

theorem Zli {G : GH} (cf : Int) (cl : Int) (cb : Int) (cs : Int) (cr : Int) {cs_p : List Value} {p : Nd} (h_p : NodeC G cs_p p) {cs_k : List Value} {k : Nd} (h_k : NodeC G cs_k k) (i : Int) (hb : 0 ≤ cb ∧ cb ≤ 9223372036854775807) (hr : ZX p.pivots = true) (hpv : ∀ q ∈ p.pivots, q.b.size ≤ 16) (hpm : ∀ m ∈ p.msgs, m.R) (hkm : ∀ m ∈ k.msgs, m.key.b.size ≤ 16 ∧ m.val.b.size ≤ 16) (hkr : PairsR k.rows) (hi : i64 i) (hsz : k.msgs.length + p.msgs.length ≤ 100000 ∧ k.rows.length ≤ 100000) :
    Fc Tryz.prog 225 [.agg #[iV cf, iV cl, iV cb, iV cs, iV cr], .agg (List.toArray cs_p), .agg (List.toArray cs_k), iV i] G [] (fun v G' M' => M' = [] ∧ ∃ r : Nd × Nat, r = Zq cl cb k (Zd p.pivots p.msgs i) ∧ ∃ u0 u1, v = .tuple #[.agg (List.toArray u0), u1] ∧ NodeC G' u0 (r.1) ∧ SlR Zs G' u1 ((Zd p.pivots p.msgs i).take r.2)) := by
 obtain ⟨pa_p, pc_p, ka_p, kc_p, ma_p, mc_p, ra_p, rc_p, rfl, hp_p, hk_p, hm_p, hr_p, hok_p⟩ := h_p
 obtain ⟨_, _, _, _, _, _, _, _, rfl, hp_k, hk_k, hm_k, hr_k, hok_k⟩ := h_k
 have hfR : ∀ m ∈ (Zd p.pivots p.msgs i), m.R := Zcz hpv hpm
 have hfl := Zjg p.pivots p.msgs i
 have hpk : ∀ m ∈ p.msgs, m.key.b.size < 140737488355328 := fun m h => by have := (YZ (hpm m h)).1; omega
 have hdl := ZeC cl (Zd p.pivots p.msgs i) k.rows
 refine Fc.go [.cell 8 60, .tmp 9] Tryz.func225 Tryz.ntmps225 rfl (fun w0 => (g9 2 ?_))
 refine W.box (L := [iV _, iV _, iV _, iV _, iV _]) rfl rfl (fun b3 => (W.box (L := [iV _, iV _, lV _ _ _, lV _ _ _, sV _, .bool _, iV _, iV _, lV _ _ _, lV _ _ _]) rfl rfl (fun b4 => (W.box (L := [iV _, iV _, lV _ _ _, lV _ _ _, sV _, .bool _, iV _, iV _, lV _ _ _, lV _ _ _]) rfl rfl (fun b5 => (W.alloc Zp (fun b6 => (g9 10 ?_))))))))
 refine W.cS (Zji hp_p hm_p i hpk hr hi) rfl (fun sa_hv8 sc_hv8 G7 hG7 hv8 => (g9 6 ?_))
 refine W.cN (XM (a := k) (nm9 hG7 hp_k hk_k hm_k hr_k hok_k)) rfl (fun pa_hv15 pc_hv15 ka_hv15 kc_hv15 ma_hv15 mc_hv15 ra_hv15 rc_hv15 G14 hG14 hp_hv15 hk_hv15 hm_hv15 hr_hv15 hok_hv15 => (g9 11 ?_))
 refine WC.cd (fun h26 p26 => ?_) (fun h26 p26 => ?_)
 ·refine g9 12 ?_
  refine W.call (Mp := []) (Ztr hr_hv15 (hv8.mono hG14) cl hkr om9 hfR) rfl pr9 ?_
  intro _ G20 _ hG20 q22
  refine match q22 with | ⟨e_23, _, e_24, _, e_25, hv21⟩ => ?_
  subst e_23
  subst e_24
  subst e_25
  have q27 := hv21.form
  refine match q27 with | ⟨sa_hv21, sc_hv21, e_26⟩ => ?_
  subst e_26
  refine g9 9 ?_
  refine WC.dw (((sr9.k9.k9).k9).cons _) (d9 [0, 1, 2] ?_)
  have hs28 := SlR.slice (hv8.mono (hG14.trans hG20)) (lo := 0) (hi := (Yb cl k.rows (Zd p.pivots p.msgs i)).2) om9 om9
  refine WD.tk 3 rfl (Jw (0) ((Yb cl k.rows (Zd p.pivots p.msgs i)).2) ZY Z3 (hv8.mono lec) rfl rfl ⟨_, _, rfl, om9⟩ ⟨om9, om9⟩) (d9 [4, 5] ?_)
  refine g9 5 ?_
  refine ⟨rfl, _, (Zfo p26).symm, _, _, rfl, ?_, ?_⟩
  · exact ⟨_, _, _, _, _, _, _, _, rfl, (hp_hv15.mono hG20), (hk_hv15.mono hG20), (hm_hv15.mono hG20), hv21, hok_k⟩
  exact SlR.cast hs28 (by rw [List.drop_zero])
 refine g9 11 ?_
 refine WC.loop (X := (Nat) × List Value) (fun j => [(43, nt9 j.1), (4, pt9 b3), (6, pt9 b5), (8, pt9 b6), (10, lV sa_hv8 ((Zd p.pivots p.msgs i)).length sc_hv8), (41, lV sa_hv8 ((Zd p.pivots p.msgs i)).length sc_hv8), (42, nt9 (((Zd p.pivots p.msgs i)).length))]) (fun j G Ml => Ml = [(b6, ce9 60 nz9), (b5, .cells (List.toArray j.2) 60 (0, 0)), (b4, ce9 60 (ndl p pa_p pc_p ka_p kc_p ma_p mc_p ra_p rc_p)), (b3, ce9 23 [iV cf, iV cl, iV cb, iV cs, iV cr])] ∧ NodeC G j.2 ({ k with msgs := (k.msgs ++ (Zd p.pivots p.msgs i).take j.1) }) ∧ j.1 ≤ (Zd p.pivots p.msgs i).length ∧ AddsAt cb k.msgs (Zd p.pivots p.msgs i) j.1) (fun j => (Zd p.pivots p.msgs i).length - j.1) (0, ((ndl (k) pa_hv15 pc_hv15 ka_hv15 kc_hv15 ma_hv15 mc_hv15 ra_hv15 rc_hv15) : List Value)) hs9 ?_ ?_
 ·exact ⟨rfl, (by dsimp only; rw [List.take_zero, List.append_nil]; exact (nk9 hp_hv15 hk_hv15 hm_hv15 hr_hv15 hok_hv15)), om9, AddsAt.zero _ _ _⟩
 rintro ⟨j, C_6⟩ gG29 G29 _ hG29 ⟨rfl, ho_6, hj, hd⟩
 try dsimp only at ho_6 hj hd
 have hsj : ∀ m ∈ (k.msgs ++ (Zd p.pivots p.msgs i).take j), m.key.b.size ≤ 16 ∧ m.val.b.size ≤ 16 := fun m h => by
   rcases List.mem_append.1 h with h | h
   · exact hkm m h
   exact YZ (hfR m (List.mem_of_mem_take h))
 have hlj : (k.msgs ++ (Zd p.pivots p.msgs i).take j).length ≤ 100000 := by rw [List.length_append, List.length_take]; omega
 refine match ho_6 with | ⟨pa_nb30, pc_nb30, ka_nb30, kc_nb30, _, _, ra_nb30, rc_nb30, e_31, hp_nb30, hk_nb30, hm_nb30, hr_nb30, hok_nb30⟩ => ?_
 subst e_31
 refine WC.fr (f := ZZ gG29 [(43, nt9 j), (4, pt9 b3), (6, pt9 b5), (8, pt9 b6), (10, lV sa_hv8 ((Zd p.pivots p.msgs i)).length sc_hv8), (41, lV sa_hv8 ((Zd p.pivots p.msgs i)).length sc_hv8), (42, nt9 (((Zd p.pivots p.msgs i)).length))]) rfl (g9 6 ?_)
 refine WC.cd (fun h44 p44 => ?_) (fun h44 p44 => ?_)
 ·refine g9 7 ?_
  refine (hv8.mono (hG14.trans hG29)).a2 (i := j) om9 (fun he32 hm33 => (g9 2 ?_))
  refine W.alloc ZT (fun b37 => (g9 11 ?_))
  refine W.call (Mp := []) (Zfv hm_nb30 ((Zd p.pivots p.msgs i)[j]'om9).stamp ((Zd p.pivots p.msgs i)[j]'om9).kind ((Zd p.pivots p.msgs i)[j]'om9).key ((Zd p.pivots p.msgs i)[j]'om9).hi ((Zd p.pivots p.msgs i)[j]'om9).opn ((Zd p.pivots p.msgs i)[j]'om9).val cb hsj hb (by assumption) (by show List.length (k.msgs ++ (Zd p.pivots p.msgs i).take j) ≤ _; omega)) rfl pr9 ?_
  intro _ G38 _ hG38 q40
  refine match q40 with | ⟨e_41, _, e_42, _, e_43, hv39⟩ => ?_
  subst e_41
  subst e_42
  subst e_43
  have q45 := hv39.form
  refine match q45 with | ⟨sa_hv39, sc_hv39, e_44⟩ => ?_
  subst e_44
  refine g9 14 ?_
  refine WC.cond rfl (fun h58 => ?_) (fun h58 => ?_)
  ·have hro : Yj cb (k.msgs ++ (Zd p.pivots p.msgs i).take j) ((Zd p.pivots p.msgs i)[j]'om9) = false := by rw [← Zfq]; simpa using h58
   have hst := hd.stop om9 hro
   refine WC.seq (WC.dw ((((sr9.k9.k9).k9).cons _).k9) (d9 [0, 1, 2] ?_))
   have hs46 := SlR.slice (hv8.mono ((hG14.trans hG29).trans hG38)) (lo := 0) (hi := j) om9 om9
   refine WD.tk 3 rfl (Jw (0) (j) ZY Z3 (hv8.mono lec) rfl rfl ⟨_, _, rfl, om9⟩ ⟨om9, om9⟩) (d9 [4, 5] ?_)
   refine g9 10 ?_
   refine ⟨rfl, _, (Zfp p26 hst).symm, _, _, rfl, ?_, ?_⟩
   · exact (nm9 hG38 hp_nb30 hk_nb30 hm_nb30 hr_nb30 hok_k)
   exact SlR.cast hs46 (by rw [List.drop_zero])
  have hro : Yj cb (k.msgs ++ (Zd p.pivots p.msgs i).take j) ((Zd p.pivots p.msgs i)[j]'om9) = true := by rw [← Zfq]; simpa using h58
  have hnx : k.msgs ++ (Zd p.pivots p.msgs i).take (j + 1) = (JF cb (k.msgs ++ (Zd p.pivots p.msgs i).take j) ((Zd p.pivots p.msgs i)[j]'om9)).1 := by rw [ZbI hro, List.take_succ_eq_append_getElem om9, List.append_assoc]
  refine g9 12 ?_
  refine W.sub (sr9.cons _) (g9 2 ?_)
  exact ⟨hG38, (j + 1, [iV ({ k with msgs := (k.msgs ++ (Zd p.pivots p.msgs i).take j) }).slot, iV ({ k with msgs := (k.msgs ++ (Zd p.pivots p.msgs i).take j) }).level, lV pa_nb30 (({ k with msgs := (k.msgs ++ (Zd p.pivots p.msgs i).take j) }).pivots).length pc_nb30, lV ka_nb30 (({ k with msgs := (k.msgs ++ (Zd p.pivots p.msgs i).take j) }).kids).length kc_nb30, sV ({ k with msgs := (k.msgs ++ (Zd p.pivots p.msgs i).take j) }).high.b, .bool ({ k with msgs := (k.msgs ++ (Zd p.pivots p.msgs i).take j) }).top, iV ({ k with msgs := (k.msgs ++ (Zd p.pivots p.msgs i).take j) }).right, iV ({ k with msgs := (k.msgs ++ (Zd p.pivots p.msgs i).take j) }).seen, lV sa_hv39 ((JF cb (k.msgs ++ (Zd p.pivots p.msgs i).take j) ((Zd p.pivots p.msgs i)[j]'om9)).1).length sc_hv39, lV ra_nb30 (({ k with msgs := (k.msgs ++ (Zd p.pivots p.msgs i).take j) }).rows).length rc_nb30]), hs9, ⟨rfl, (by dsimp only; rw [hnx]; exact ⟨_, _, _, _, _, _, _, _, rfl, (hp_nb30.mono hG38), (hk_nb30.mono hG38), hv39, (hr_nb30.mono hG38), hok_nb30⟩), om9, hd.succ om9 hro⟩, om9⟩
 refine g9 15 ?_
 refine ⟨rfl, _, (Zfp p26 (hd.all om9)).symm, _, _, rfl, ?_, ?_⟩
 · exact (nk9 hp_nb30 hk_nb30 hm_nb30 hr_nb30 hok_k)
 exact SlR.cast (hv8.mono lec) (List.take_of_length_le om9).symm

theorem ZcO {G : GH} (cf : Int) (cl : Int) (cb : Int) (cs : Int) (cr : Int) {cs_p : List Value} {p : Nd} (h_p : NodeC G cs_p p) {cs_k : List Value} {k : Nd} (h_k : NodeC G cs_k k) (i : Int) (hb : 0 ≤ cb ∧ cb ≤ 9223372036854775807) (hr : ZX p.pivots = true) (hpv : ∀ q ∈ p.pivots, q.b.size ≤ 16) (hpm : ∀ m ∈ p.msgs, m.R) (hkm : ∀ m ∈ k.msgs, m.key.b.size ≤ 16 ∧ m.val.b.size ≤ 16) (hkr : PairsR k.rows) (hi : i64 i) (hsz : k.msgs.length + p.msgs.length ≤ 100000 ∧ k.rows.length ≤ 100000) :
    Fc Tryz.prog 221 [.agg #[iV cf, iV cl, iV cb, iV cs, iV cr], .agg (List.toArray cs_p), .agg (List.toArray cs_k), iV i] G [] (fun v _ _ => v = nt9 (ZO cl cb p k i)) := by
 obtain ⟨_, _, _, _, _, _, _, _, rfl, hp_p, hk_p, hm_p, hr_p, hok_p⟩ := h_p
 obtain ⟨_, _, _, _, _, _, _, _, rfl, hp_k, hk_k, hm_k, hr_k, hok_k⟩ := h_k
 refine Fc.go [.tmp 8] Tryz.func221 Tryz.ntmps221 rfl (fun w0 => (g9 2 ?_))
 refine W.box (L := [iV _, iV _, iV _, iV _, iV _]) rfl rfl (fun b47 => (W.box (L := [iV _, iV _, lV _ _ _, lV _ _ _, sV _, .bool _, iV _, iV _, lV _ _ _, lV _ _ _]) rfl rfl (fun b48 => (W.box (L := [iV _, iV _, lV _ _ _, lV _ _ _, sV _, .bool _, iV _, iV _, lV _ _ _, lV _ _ _]) rfl rfl (fun b49 => (g9 9 ?_))))))
 refine W.qcall (Zgs (p := p) (k := k) (nk9 hp_p hk_p hm_p hr_p hok_p) (nk9 hp_k hk_k hm_k hr_k hok_k) i) rfl (g9 3 ?_)
 refine WC.cond rfl (fun h15 => ?_) (fun h15 => ?_)
 ·refine g9 8 ?_
  refine congrArg (Value.int .i64) (congrArg Nat.cast ?_)
  exact (Zjb (by simpa using h15)).symm
 refine g9 8 ?_
 refine W.call (Mp := []) (Zli cf cl cb cs cr (p := p) (k := k) (nk9 hp_p hk_p hm_p hr_p hok_p) (nk9 hp_k hk_k hm_k hr_k hok_k) i hb hr hpv hpm hkm hkr hi hsz) rfl pr9 ?_
 intro _ G50 _ hG50 q53
 refine match q53 with | ⟨e_54, _, e_55, _, _, e_56, hv51, hv52⟩ => ?_
 subst e_54
 subst e_55
 subst e_56
 refine match hv51 with | ⟨_, _, _, _, _, _, _, _, e_57, hp_hv51, hk_hv51, hm_hv51, hr_hv51, hok_hv51⟩ => ?_
 subst e_57
 have q59 := hv52.form
 refine match q59 with | ⟨sa_hv52, sc_hv52, e_58⟩ => ?_
 subst e_58
 refine g9 3 ?_
 refine W.alloc Zp (fun b60 => (g9 13 ?_))
 refine congrArg (Value.int .i64) (congrArg Nat.cast ?_)
 rw [Za3 (by simpa using h15), Zfr]

theorem Zlj {G : GH} (ms : Int) (mk : Int) (mkey : Str) (mhi : Str) (mo : Bool) (mv : Str) (slo : Str) (shi : Str) (so : Bool) (hk : mkey.b.size < 140737488355328) :
    Fc Tryz.prog 226 [.agg #[iV ms, iV mk, sV mkey.b, sV mhi.b, .bool mo, sV mv.b], .agg #[sV slo.b, sV shi.b, .bool so]] G [] (fun v _ _ => v = .tuple #[.agg (List.toArray ((ZD (⟨ms, mk, mkey, mhi, mo, mv⟩ : Msg) ⟨slo, shi, so⟩).1.cells)), .bool ((ZD (⟨ms, mk, mkey, mhi, mo, mv⟩ : Msg) ⟨slo, shi, so⟩).2)]) := by
 refine Fc.go [.cell 4 87, .tmp 5] Tryz.func226 Tryz.ntmps226 rfl (fun w0 => (g9 2 ?_))
 refine W.box (L := [iV _, iV _, sV _, sV _, .bool _, sV _]) rfl rfl (fun b61 => (W.box (L := [sV _, sV _, .bool _]) rfl rfl (fun b62 => (W.alloc ZT (fun b63 => (g9 10 ?_))))))
 refine WC.cond rfl (fun ha_so => ?_) (fun ha_so => ?_)
 ·refine g9 2 ?_
  refine W.ok (ZE (L := [iV _, iV _, sV _, sV _, .bool _, sV _]) Zda ZT rfl rfl rfl) (g9 7 ?_)
  show Value.tuple #[Value.agg (List.toArray [_, _, _, _, _, _]), Value.bool _] = _
  rw [ZD, if_pos (by assumption)]; rfl
 refine g9 7 ?_
 refine W.ok (ZE (L := [sV _, sV _, .bool _]) Xw ZL rfl rfl rfl) (W.qcall (Ze2 _ _ _ _ _ _ _ Str.nil _ (by first | assumption | omega | (dsimp only; omega))) rfl (g9 8 ?_))
 show Value.tuple #[Value.agg (List.toArray [_, _, _, _, _, _]), Value.bool _] = _
 rw [ZD, if_neg (by simp_all)]; rfl

theorem Zd0 {G : GH} (cf : Int) (cl : Int) (cb : Int) (cs : Int) (cr : Int) {cs_p : List Value} {p : Nd} (h_p : NodeC G cs_p p) {cs_k : List Value} {k : Nd} (h_k : NodeC G cs_k k) (i : Int) (hb : 0 ≤ cb ∧ cb ≤ 9223372036854775807) (hr : ZX p.pivots = true) (hpv : ∀ q ∈ p.pivots, q.b.size ≤ 16) (hpm : ∀ m ∈ p.msgs, m.R) (hkm : ∀ m ∈ k.msgs, m.key.b.size ≤ 16 ∧ m.val.b.size ≤ 16) (hkr : PairsR k.rows) (hi : i64 i) (hsz : k.msgs.length + p.msgs.length ≤ 100000 ∧ k.rows.length ≤ 100000) :
    Fc Tryz.prog 222 [.agg #[iV cf, iV cl, iV cb, iV cs, iV cr], .agg (List.toArray cs_p), .agg (List.toArray cs_k), iV i] G [] (fun v _ _ => v = .bool (decide (KidOf p k i ∧ 0 < (Zd p.pivots p.msgs i).length ∧ ZO cl cb p k i = 0))) := by
 obtain ⟨_, _, _, _, _, _, _, _, rfl, hp_p, hk_p, hm_p, hr_p, hok_p⟩ := h_p
 obtain ⟨_, _, _, _, _, _, _, _, rfl, hp_k, hk_k, hm_k, hr_k, hok_k⟩ := h_k
 have hpk : ∀ m ∈ p.msgs, m.key.b.size < 140737488355328 := fun m h => by have := (YZ (hpm m h)).1; omega
 refine Fc.go [.tmp 8] Tryz.func222 Tryz.ntmps222 rfl (fun w0 => (g9 2 ?_))
 refine W.box (L := [iV _, iV _, iV _, iV _, iV _]) rfl rfl (fun b64 => (W.box (L := [iV _, iV _, lV _ _ _, lV _ _ _, sV _, .bool _, iV _, iV _, lV _ _ _, lV _ _ _]) rfl rfl (fun b65 => (W.box (L := [iV _, iV _, lV _ _ _, lV _ _ _, sV _, .bool _, iV _, iV _, lV _ _ _, lV _ _ _]) rfl rfl (fun b66 => (g9 8 ?_))))))
 refine W.qcall (Zgs (p := p) (k := k) (nk9 hp_p hk_p hm_p hr_p hok_p) (nk9 hp_k hk_k hm_k hr_k hok_k) i) rfl (W.mv ?_)
 refine W.sp 13 rfl (fun h12 => ?_) (fun h12 => ?_)
 ·refine g9 11 ?_
  refine W.cS (Zji hp_p hm_p i hpk hr hi) rfl (fun sa_hv68 sc_hv68 G67 hG67 hv68 => (g9 6 ?_))
  refine W.sd 23 (fun h21 p21 => ?_) (fun h21 p21 => ?_)
  ·refine g9 9 ?_
   refine W.qcall (ZcO cf cl cb cs cr (p := p) (k := k) (nm9 hG67 hp_p hk_p hm_p hr_p hok_p) (nm9 hG67 hp_k hk_k hm_k hr_k hok_k) i hb hr hpv hpm hkm hkr hi hsz) rfl (g9 8 ?_)
   refine congrArg Value.bool ?_
   first | (simp_all; done) | (simp_all; omega)
  refine g9 12 ?_
  refine congrArg Value.bool ?_
  first | (simp_all; done) | (simp_all; omega)
 refine g9 22 ?_
 refine congrArg Value.bool ?_
 first | (simp_all; done) | (simp_all; omega)

end Go.Proofs.YtbbemibbmbmamaaGreat

namespace Go.Fw
open Go Go.RowKit
structure PourPre (cb : Int) (p k : Nd) : Prop where
 hb : 0 ≤ cb ∧ cb ≤ 9223372036854775807
 hr : ZX p.pivots = true
 hpv : ∀ q ∈ p.pivots, q.b.size ≤ 16
 hpm : ∀ m ∈ p.msgs, m.R
 hkm : ∀ m ∈ k.msgs, m.key.b.size ≤ 16 ∧ m.val.b.size ≤ 16
 hkr : PairsR k.rows
 hsz : k.msgs.length + p.msgs.length ≤ 100000 ∧ k.rows.length ≤ 100000
theorem ZtA : PairsR [] := fun i h => absurd h (Nat.not_lt_zero i)
theorem Zgt {c : Cfg} {n : Nd} (h : n.R c.fan c.leaf c.bud) : ∀ m ∈ n.msgs, m.R := fun m hm => by
 have h4 := h.2.2.2
 by_cases h0 : n.level = 0
 ·rw [if_pos h0] at h4
  have e : n.msgs = [] := List.eq_nil_of_length_eq_zero (by have := h4.1; omega)
  rw [e] at hm; cases hm
 ·rw [if_neg h0] at h4
  exact (MsgsR.iff.1 h4.2.2.1).1 m hm
theorem ZtB {c : Cfg} {n : Nd} (h : n.R c.fan c.leaf c.bud) : PairsR n.rows := by
 have h4 := h.2.2.2
 by_cases h0 : n.level = 0
 ·rw [if_pos h0] at h4; exact h4.2.2.1
 ·rw [if_neg h0] at h4
  have e : n.rows = [] := List.eq_nil_of_length_eq_zero h4.1.1
  rw [e]; exact ZtA
theorem ZtC {c : Cfg} {p k : Nd} (hp : p.R c.fan c.leaf c.bud) (hk : k.R c.fan c.leaf c.bud) (h1 : ¬ p.level = 0) (sp : NdS p) (sk : NdS k) (hb : c.bud ≤ 9223372036854775807) : PourPre c.bud p k := by
 have hin : p.innerR c.fan c.bud := by have h4 := hp.2.2.2; rwa [if_neg h1] at h4
 have hm := Zgt hp
 have hs := Zdr fun m h => YZ (hm m h)
 have hs2 := hin.2.2.2.1
 obtain ⟨_, _, s3, s4, _⟩ := sp
 obtain ⟨_, _, k3, k4, _⟩ := sk
 exact ⟨⟨om9, hb⟩, (YR hin.2.1).1, ZbH hp, hm, fun m h => YZ (Zgt hk m h), ZtB hk, om9, om9⟩
variable {c : Cfg} {l : List Nd} {ss : List Seat}
structure Halves (n a b : Nd) (k : Str) (h : Nat) : Prop where
 la : a.level = n.level
 lb : b.level = n.level
 aend : a.high = k ∧ a.top = false
 bend : b.high = n.high ∧ b.top = n.top ∧ b.right = n.right
 aright : a.right = b.slot
 leaf : n.level = 0 → 1 ≤ h ∧ h < n.rows.length ∧ a.rows = n.rows.take h ∧ b.rows = n.rows.drop h ∧ a.pivots = n.pivots ∧ b.pivots = n.pivots ∧ (∀ i (hi : i < n.rows.length), i < h → n.rows[i].key.lt k = true) ∧ ∀ i (hi : i < n.rows.length), h ≤ i → n.rows[i].key.lt k = false
 inner : ¬ n.level = 0 → a.rows = n.rows ∧ b.rows = n.rows ∧ ∃ hh : h < n.pivots.length, k = n.pivots[h] ∧ a.pivots = n.pivots.take h ∧ a.kids = n.kids.take (h + 1) ∧ b.pivots = n.pivots.drop (h + 1) ∧ b.kids = n.kids.drop (h + 1)
 size : k ≠ Str.nil ∧ k.b.size ≤ 16
theorem Zd1 {n : Nd} {fan leaf bud y : Int} (hR : n.R fan leaf bud) (hok : (Zo n y).2.2.2 = true) :
  ∃ a b k h, Zo n y = (a, b, k, true) ∧ Halves n a b k h ∧ a.slot = n.slot ∧ b.slot = y ∧ a.seen = n.seen ∧ b.seen = n.seen ∧ (n.level = 0 → a.msgs = n.msgs ∧ b.msgs = n.msgs) ∧
   (¬ n.level = 0 → a.msgs = Zc ⟨Str.nil, k, false⟩ n.msgs ∧ b.msgs = Zc ⟨k, Str.nil, true⟩ n.msgs) ∧ n.has k = true := by
 obtain ⟨⟨q1, q2, q3⟩, q4, q5, q6⟩ := hR
 by_cases h0 : n.level = 0
 ·rw [if_pos h0] at q6
  obtain ⟨r1, r2, r3, r4⟩ := q6
  by_cases hl : n.rows.length < 2
  ·rw [Zg2 h0 hl] at hok; cases hok
  ·have hlt := PairsR.lt r3 ((n.rows.length + 1) / 2) ((n.rows.length + 1) / 2 - 1) om9 om9
   obtain ⟨b1, b2, b3, b4⟩ := Zha hlt (r3 ((n.rows.length + 1) / 2) om9).1.1
   refine ⟨_, _, _, (n.rows.length + 1) / 2, Zg3 h0 hl, ⟨rfl, rfl, ⟨rfl, rfl⟩, ⟨rfl, rfl, rfl⟩, rfl, fun _ => ⟨om9, om9, rfl, rfl, rfl, rfl, ?_, ?_⟩, fun h => absurd h0 h, b1, b2⟩, rfl, rfl, rfl, rfl, fun _ => ⟨rfl, rfl⟩, fun h => absurd h0 h, ?_⟩
   ·intro i hi hih
    by_cases e : i = (n.rows.length + 1) / 2 - 1
    ·subst e; exact b3
    ·exact Str.lt_trans (PairsR.lt r3 ((n.rows.length + 1) / 2 - 1) i om9 om9) b3
   ·intro i hi hih
    by_cases e : i = (n.rows.length + 1) / 2
    ·subst e; exact b4
    ·cases h9 : n.rows[i].key.lt (Jm (n.rows[(n.rows.length + 1) / 2 - 1]'om9).key (n.rows[(n.rows.length + 1) / 2]'om9).key).1
     ·rfl
     ·have := Str.lt_trans (PairsR.lt r3 i ((n.rows.length + 1) / 2) om9 hi) h9
      rw [b4] at this; cases this
   ·have h5 := r4 ((n.rows.length + 1) / 2) om9
    unfold Nd.has at h5 ⊢
    rw [Bool.or_eq_true] at h5 ⊢
    rcases h5 with h5 | h5
    ·exact .inl h5
    ·exact .inr (Str.lt_of_le_of_lt b4 h5)
 ·rw [if_neg h0] at q6
  obtain ⟨⟨r1, r2, r3⟩, r4, r5, r6, r7, r8, r9⟩ := q6
  by_cases hl : n.kids.length < 4
  ·rw [Zg4 h0 (.inl hl)] at hok; cases hok
  ·obtain ⟨hr, hc⟩ := YR r4
   have hk := r8 ((n.kids.length + 1) / 2 - 1) om9
   have e9 : (n.kids.length + 1) / 2 - 1 + 1 = (n.kids.length + 1) / 2 := om9
   refine ⟨_, _, _, (n.kids.length + 1) / 2 - 1, Zg5 h0 hl r4 hc, ⟨rfl, rfl, ⟨rfl, rfl⟩, ⟨rfl, rfl, rfl⟩, rfl, fun h => absurd h h0, fun _ => ⟨rfl, rfl, om9, rfl, rfl, ?_, ?_, ?_⟩, hk.1, hk.2.1⟩, rfl, rfl, rfl, rfl, fun h => absurd h h0, fun _ => ⟨rfl, rfl⟩, hk.2.2⟩
   ·rw [e9]
   ·rw [e9]
   ·rw [e9]
theorem ZbZ {l : List Nd} (hs : SlotsP l) {x : Nd} (hx : 0 ≤ x.slot ∧ x.slot < l.length) (hseen : x.seen ≤ 1099511627776) : SlotsP (l.set x.slot.toNat x) := fun i h => by
 rw [List.length_set] at h
 rw [List.getElem_set]
 split
 ·exact ⟨om9, hseen⟩
 ·exact hs i h
theorem Zgu {l : List Nd} (hs : SlotsP l) {x : Nd} (hx : x.slot = l.length) (hseen : x.seen ≤ 1099511627776) : SlotsP (l ++ [x]) := fun i h => by
 rw [List.length_append] at h
 by_cases e : i < l.length
 ·rw [List.getElem_append_left e]; exact hs i e
 ·rw [List.getElem_append_right om9]
  have : i = l.length := by simp at h; omega
  subst this
  simp [hx, hseen]
theorem Zay {l : List Nd} {x : Nd} (hx : 0 ≤ x.slot ∧ x.slot < l.length) (i : Int) : Za (l.set x.slot.toNat x) i = if i = x.slot then x else Za l i := by
 by_cases e : i = x.slot
 ·rw [if_pos e, e]
  have := Zam (l := l.set x.slot.toNat x) (k := x.slot.toNat) (by rw [List.length_set]; omega)
  rw [show ((x.slot.toNat : Nat) : Int) = x.slot by omega] at this
  rw [this, List.getElem_set_self]
 ·rw [if_neg e]
  unfold Za
  split
  ·rw [List.getD_eq_getElem?_getD, List.getD_eq_getElem?_getD, List.getElem?_set_ne om9]
  ·rfl
theorem ZcP {l : List Nd} {x : Nd} (i : Int) : Za (l ++ [x]) i = if i = l.length then x else Za l i := by
 by_cases e : i = l.length
 ·rw [if_pos e, e, Zam (by simp)]
  simp
 ·rw [if_neg e]
  unfold Za
  split
  ·rename_i h0
   rw [List.getD_eq_getElem?_getD, List.getD_eq_getElem?_getD]
   by_cases h1 : i.toNat < l.length
   ·rw [List.getElem?_append_left h1]
   ·rw [List.getElem?_eq_none (by simp; omega), List.getElem?_eq_none om9]
  ·rfl
structure HSeat (K A B : Seat) (k : Str) (h : Nat) : Prop where
 hv : Halves K.n A.n B.n k h
 ha : ∀ q, A.s.has q = (K.s.has q && q.lt k)
 hb : ∀ q, B.s.has q = (K.s.has q && !q.lt k)
 na : A.s.norm = A.s
 nb : B.s.norm = B.s
 ma : ∀ s : Span, (∀ q, s.has q = true → A.s.has q = true) → ZQ [Zc s A.n.msgs, Zc s A.ms] = ZQ [Zc s K.n.msgs, Zc s K.ms]
 mb : ∀ s : Span, (∀ q, s.has q = true → B.s.has q = true) → ZQ [Zc s B.n.msgs, Zc s B.ms] = ZQ [Zc s K.n.msgs, Zc s K.ms]
theorem Tree.k_in (t : Tree c l ss) {K : Seat} (hK : K ∈ ss) {a b : Nd} {k : Str} {h : Nat} (hv : Halves K.n a b k h) (hk : K.n.has k = true) : K.s.has k = true ∧ k ≠ K.s.lo := by
 obtain ⟨⟨p1, p2⟩, p3, p4, p5⟩ := (t.seat hK).2.1
 have hend : K.s.opn = true ∨ k.lt K.s.hi = true := by
  unfold Nd.has at hk
  rw [p1, p2, Bool.or_eq_true] at hk
  exact hk
 by_cases h0 : K.n.level = 0
 ·obtain ⟨g1, g2, _, _, _, _, g3, g4⟩ := hv.leaf h0
  have e1 := (Yi.1 (p3 (h - 1) om9)).1
  have e2 := Str.lt_of_le_of_lt e1 (g3 (h - 1) om9 om9)
  exact ⟨Yi.2 ⟨Str.lt_asymm e2, hend⟩, fun e => by rw [← e, Str.lt_irrefl] at e2; cases e2⟩
 ·obtain ⟨_, _, hh, e, _⟩ := hv.inner h0
  have := p4 h hh
  rw [← e] at this
  exact this
theorem HSeat.placedA (t : Tree c l ss) {K A B : Seat} {k : Str} {h : Nat} (hK : K ∈ ss) (H : HSeat K A B k h) (hs : K.s.norm = K.s) (hk : K.n.has k = true)
  (hm : ∀ m ∈ A.n.msgs, ∃ m' ∈ K.n.msgs, (m'.clip ⟨Str.nil, k, false⟩).2 = true ∧ (m'.clip ⟨Str.nil, k, false⟩).1 = m) : PlacedP A := by
 obtain ⟨⟨p1, p2⟩, p3, p4, p5⟩ := (t.seat hK).2.1
 obtain ⟨k1, k2⟩ := t.k_in hK H.hv hk
 obtain ⟨e, hlo⟩ := ZpT hs H.na k1 k2 H.ha
 have eo : A.s.opn = false := by rw [e]
 have eh : A.s.hi = k := by rw [e]
 have el : A.s.lo = K.s.lo := by rw [e]
 refine ⟨⟨by rw [eo]; exact H.hv.aend.2, by rw [eh]; exact H.hv.aend.1⟩, fun i hi => ?_, fun i hi => ?_, fun i hi => ?_⟩
 ·by_cases h0 : K.n.level = 0
  ·obtain ⟨g1, g2, ga, _, _, _, g3, g4⟩ := H.hv.leaf h0
   have hi2 := hi
   rw [ga, List.length_take] at hi2
   simp only [ga, List.getElem_take]
   rw [H.ha, p3 i om9, g3 i om9 om9]; rfl
  ·have ga := (H.hv.inner h0).1
   have gb := (t.inner hK h0).1.1
   rw [ga] at hi
   exact absurd hi om9
 ·by_cases h0 : K.n.level = 0
  ·have ga := (H.hv.leaf h0).2.2.2.2.1
   have gb := (t.leaf hK h0).1
   rw [ga] at hi
   exact absurd hi om9
  ·obtain ⟨_, _, hh, ek, ga, _, _, _⟩ := H.hv.inner h0
   have hi2 := hi
   rw [ga, List.length_take] at hi2
   simp only [ga, List.getElem_take]
   have hr := (YR (Z8 (t.kids hK) h0).2.2.1).1
   have := p4 i om9
   refine ⟨?_, by rw [el]; exact this.2⟩
   rw [H.ha, this.1, ek, J0 hr h i om9 hh]; rfl
 ·obtain ⟨m', hm', hc, e9⟩ := hm _ (List.getElem_mem hi)
  obtain ⟨j, hj, rfl⟩ := List.getElem_of_mem hm'
  refine ZiR fun q hq => ?_
  rw [← e9] at hq
  have g := Zcx ((t.msgs hK).2.1 _ (List.getElem_mem hj)) hc hq
  rw [H.ha, ZiS (p5 j hj) g.1]
  have := (Yi.1 g.2).2
  rcases this with h | h
  ·cases h
  ·rw [show q.lt k = true from h]; rfl
theorem HSeat.placedB (t : Tree c l ss) {K A B : Seat} {k : Str} {h : Nat} (hK : K ∈ ss) (H : HSeat K A B k h) (hs : K.s.norm = K.s) (hk : K.n.has k = true)
  (hm : ∀ m ∈ B.n.msgs, ∃ m' ∈ K.n.msgs, (m'.clip ⟨k, Str.nil, true⟩).2 = true ∧ (m'.clip ⟨k, Str.nil, true⟩).1 = m) : PlacedP B := by
 obtain ⟨⟨p1, p2⟩, p3, p4, p5⟩ := (t.seat hK).2.1
 obtain ⟨k1, k2⟩ := t.k_in hK H.hv hk
 have e := ZiP hs H.nb k1 H.hb
 have eo : B.s.opn = K.s.opn := by rw [e]
 have eh : B.s.hi = K.s.hi := by rw [e]
 have el : B.s.lo = k := by rw [e]
 refine ⟨⟨by rw [eo, H.hv.bend.2.1]; exact p1, by rw [eh, H.hv.bend.1]; exact p2⟩, fun i hi => ?_, fun i hi => ?_, fun i hi => ?_⟩
 ·by_cases h0 : K.n.level = 0
  ·obtain ⟨g1, g2, _, ga, _, _, g3, g4⟩ := H.hv.leaf h0
   have hi2 := hi
   rw [ga, List.length_drop] at hi2
   simp only [ga, List.getElem_drop]
   rw [H.hb, p3 (h + i) om9, g4 (h + i) om9 om9]; rfl
  ·have ga := (H.hv.inner h0).2.1
   have gb := (t.inner hK h0).1.1
   rw [ga] at hi
   exact absurd hi om9
 ·by_cases h0 : K.n.level = 0
  ·have ga := (H.hv.leaf h0).2.2.2.2.2.1
   have gb := (t.leaf hK h0).1
   rw [ga] at hi
   exact absurd hi om9
  ·obtain ⟨_, _, hh, ek, _, _, ga, _⟩ := H.hv.inner h0
   have hi2 := hi
   rw [ga, List.length_drop] at hi2
   simp only [ga, List.getElem_drop]
   have hr := (YR (Z8 (t.kids hK) h0).2.2.1).1
   have := p4 (h + 1 + i) om9
   have hl := J0 hr (h + 1 + i) h om9 om9
   refine ⟨?_, ?_⟩
   ·rw [H.hb, this.1, ek, Str.lt_asymm hl]; rfl
   ·rw [el, ek]
    intro e2
    rw [e2, Str.lt_irrefl] at hl; cases hl
 ·obtain ⟨m', hm', hc, e9⟩ := hm _ (List.getElem_mem hi)
  obtain ⟨j, hj, rfl⟩ := List.getElem_of_mem hm'
  refine ZiR fun q hq => ?_
  rw [← e9] at hq
  have g := Zcx ((t.msgs hK).2.1 _ (List.getElem_mem hj)) hc hq
  rw [H.hb, ZiS (p5 j hj) g.1]
  have := (Yi.1 g.2).1
  rw [show q.lt k = false from this]; rfl
theorem HSeat.kids (t : Tree c l ss) {K A B : Seat} {k : Str} {h : Nat} {l' : List Nd} (hK : K ∈ ss) (H : HSeat K A B k h)
  (hf : ∀ j, j < K.n.kids.length → Zw l' (K.n.kids.getD j 0) = Zw l (K.n.kids.getD j 0)) : (Z7 l' A).isSome = true ∧ (Z7 l' B).isSome = true ∧ Zk l' A ++ Zk l' B = Zk l K := by
 by_cases h0 : K.n.level = 0
 ·have ea : A.n.level = 0 := by rw [H.hv.la, h0]
  have eb : B.n.level = 0 := by rw [H.hv.lb, h0]
  rw [ZaM ea, ZaM eb, Xz ea, Xz eb, Xz h0]
  exact ⟨rfl, rfl, rfl⟩
 ·obtain ⟨_, _, hh, ek, g1, g2, g3, g4⟩ := H.hv.inner h0
  have a1 := ZpQ (l' := l') (t.kids hK) h0 hh g1 g2 H.hv.la (fun q => by rw [H.ha, ek]) H.ma hf
  have b1 := ZpR (l' := l') (t.kids hK) h0 hh g3 g4 H.hv.lb (fun q => by rw [H.hb, ek]) H.mb hf
  exact ⟨a1.1, b1.1, by rw [a1.2, b1.2, List.take_append_drop]⟩
theorem HSeat.view (t : Tree c l ss) {K A B : Seat} {k : Str} {h : Nat} (hK : K ∈ ss) (H : HSeat K A B k h) (ca : K.n.level = 0 → Zc A.s A.ms = Zc A.s K.ms) (cb : K.n.level = 0 → Zc B.s B.ms = Zc B.s K.ms) :
  (ZC [A, B]).flatMap YJ = (ZC [K]).flatMap YJ := by
 by_cases h0 : K.n.level = 0
 ·have ea : A.n.level = 0 := by rw [H.hv.la, h0]
  have eb : B.n.level = 0 := by rw [H.hv.lb, h0]
  obtain ⟨g1, g2, ga, gb, _, _, g3, g4⟩ := H.hv.leaf h0
  have := ZpU (t.rows hK) (t.fits K hK).2 ga gb H.ha H.hb g3 g4 (ca h0) (cb h0)
  simp only [ZC, List.filter_cons, ea, eb, h0, decide_true, if_true, List.filter_nil, List.flatMap_cons, List.flatMap_nil, List.append_nil]
  exact this
 ·have ea : ¬ A.n.level = 0 := by rw [H.hv.la]; exact h0
  have eb : ¬ B.n.level = 0 := by rw [H.hv.lb]; exact h0
  simp [ZC, List.filter_cons, ea, eb, h0]
theorem Zbe {c : Cfg} {n : Nd} (hc : CfgR c) (hR : n.R c.fan c.leaf c.bud) : NdS n := by
 obtain ⟨⟨q1, q2, q3⟩, q4, q5, q6⟩ := hR
 obtain ⟨c1, c2, c3, c4, c5⟩ := hc
 have hh : n.high.b.size ≤ 4000 := by
  cases e : n.top
  ·have := (q5 e).2.1; omega
  ·rw [(q4 e).1]; decide
 by_cases h0 : n.level = 0
 ·rw [if_pos h0] at q6
  obtain ⟨r1, r2, r3, r4⟩ := q6
  have e1 : n.msgs = [] := List.eq_nil_of_length_eq_zero om9
  have e2 : n.pivots = [] := List.eq_nil_of_length_eq_zero om9
  refine ⟨om9, om9, om9, om9, hh, (by rw [e1]; intro m hm; cases hm), (by rw [e2]; intro m hm; cases hm), fun p hp => ?_⟩
  have := (J4.1 r3).1 p hp
  exact ⟨by have := this.1; omega, by have := this.2; omega⟩
 ·rw [if_neg h0] at q6
  obtain ⟨⟨r1, r2, r3⟩, r4, r5, r6, r7, r8, r9⟩ := q6
  have e1 : n.rows = [] := List.eq_nil_of_length_eq_zero r1
  have hp := (YR r4).2
  have hm : ∀ m ∈ n.msgs, m.R := (MsgsR.iff.1 r5).1
  have hl := Zgg hm
  refine ⟨om9, om9, om9, om9, hh, fun m h => ?_, fun p h => ?_, (by rw [e1]; intro m hm; cases hm)⟩
  ·have := (hm m h).1
   exact ⟨om9, om9, om9⟩
  ·obtain ⟨i, hi, rfl⟩ := List.getElem_of_mem h
   have := (r8 i hi).2.1; omega
theorem Zd2 {c : Cfg} {l : List Nd} (hc : CfgR c) (hl : l.length ≤ 4096) (h : ∀ n ∈ l, n.R c.fan c.leaf c.bud) : Sml l := ⟨hl, fun n hn => Zbe hc (h n hn)⟩
theorem ZaQ {l : List Nd} (hs : SlotsP l) : (l.map fun n : Nd => n.slot) = (List.range l.length).map fun i : Nat => (i : Int) := by
 refine List.ext_getElem (by simp) fun i hi hj => ?_
 simp only [List.getElem_map, List.getElem_range]
 exact (hs i (by simpa using hi)).1
theorem Zd3 {f : Seat → List Seat} : ∀ {L : List Seat}, (∀ y ∈ L, f y = [y]) → L.flatMap f = L
 | [], _ => rfl
 | y :: L, h => by rw [List.flatMap_cons, h y (by simp), Zd3 fun z hz => h z (List.mem_cons_of_mem _ hz)]; rfl
theorem Zgv {f : Seat → List Seat} : ∀ {L : List Seat}, (∀ x ∈ L, (ZC (f x)).flatMap YJ = (ZC [x]).flatMap YJ) → (ZC (L.flatMap f)).flatMap YJ = (ZC L).flatMap YJ
 | [], _ => rfl
 | x :: L, h => by
  have ih := Zgv (f := f) (L := L) fun z hz => h z (List.mem_cons_of_mem _ hz)
  have e1 : ZC ((x :: L).flatMap f) = ZC (f x) ++ ZC (L.flatMap f) := by unfold ZC; rw [List.flatMap_cons, List.filter_append]
  have e2 : ZC (x :: L) = ZC [x] ++ ZC L := by unfold ZC; rw [← List.filter_append]; rfl
  rw [e1, e2, List.flatMap_append, List.flatMap_append, h x (by simp), ih]
theorem Zlk {f K K' : Seat → List Seat} : ∀ {L : List Seat}, (∀ x ∈ L, (f x).flatMap K' = (K x).flatMap f) → (L.flatMap f).flatMap K' = (L.flatMap K).flatMap f
 | [], _ => rfl
 | x :: L, h => by
  rw [List.flatMap_cons, List.flatMap_cons, List.flatMap_append, List.flatMap_append, h x (by simp), Zlk fun z hz => h z (List.mem_cons_of_mem _ hz)]
def Y6 (n : Nd) (i : Nat) (k : Str) (v : Int) : Nd := { n with pivots := (n.pivots.take i ++ [k]) ++ n.pivots.drop i, kids := (n.kids.take (i + 1) ++ [v]) ++ n.kids.drop (i + 1) }
def ZR (l : List Nd) (P : Nd) (i : Nat) (a b : Nd) (k : Str) : List Nd := ((l.set a.slot.toNat a).set P.slot.toNat (Y6 P i k l.length)) ++ [b]
structure PartOf (c : Cfg) (l : List Nd) (ss : List Seat) (P : Seat) (i : Nat) (a b : Nd) (k : Str) (h : Nat) : Prop where
 t : Tree c l ss
 mem : P ∈ ss
 h0 : ¬ P.n.level = 0
 hi : i < P.n.kids.length
 hv : Halves (Zb l P i).n a b k h
 sa : a.slot = (Zb l P i).n.slot
 sb : b.slot = l.length
 ea : a.seen = (Zb l P i).n.seen
 eb : b.seen = (Zb l P i).n.seen
 m0 : (Zb l P i).n.level = 0 → a.msgs = (Zb l P i).n.msgs ∧ b.msgs = (Zb l P i).n.msgs
 m1 : ¬ (Zb l P i).n.level = 0 → a.msgs = Zc ⟨Str.nil, k, false⟩ (Zb l P i).n.msgs ∧ b.msgs = Zc ⟨k, Str.nil, true⟩ (Zb l P i).n.msgs
 nk : (Zb l P i).n.has k = true
 aR : a.R c.fan c.leaf c.bud
 bR : b.R c.fan c.leaf c.bud
 kin : (Zf P.n.pivots (i : Int)).has k = true
 klo : ¬ k = (Zf P.n.pivots (i : Int)).lo
 full : (P.n.kids.length : Int) < c.fan
 room : (l.length : Int) < c.slots
 few : l.length < 4096
namespace PartOf
variable {c : Cfg} {l : List Nd} {ss : List Seat} {P : Seat} {i : Nat} {a b : Nd} {k : Str} {h : Nat}
theorem km (p : PartOf c l ss P i a b k h) : Zb l P i ∈ ss ∧ (Zb l P i).n.level = P.n.level - 1 := by
 have := p.t.at p.mem p.h0 p.hi
 exact ⟨this.1, this.2.2.2⟩
theorem ne (p : PartOf c l ss P i a b k h) {x y : Seat} (hx : x ∈ ss) (hy : y ∈ ss) (hl : x.n.level ≠ y.n.level) : x.n.slot ≠ y.n.slot := fun e => hl (by rw [p.t.uniq hx hy e])
theorem ksl (p : PartOf c l ss P i a b k h) : (Zb l P i).n.slot ≠ P.n.slot := p.ne p.km.1 p.mem (by have := p.km.2; omega)
theorem sin (p : PartOf c l ss P i a b k h) {x : Seat} (hx : x ∈ ss) : 0 ≤ x.n.slot ∧ x.n.slot < l.length := (p.t.nd hx).1
theorem lseen (p : PartOf c l ss P i a b k h) {x : Seat} (hx : x ∈ ss) : x.n.seen ≤ 1099511627776 := by
 obtain ⟨j, hj, e⟩ := List.getElem_of_mem (p.t.nd hx).2.2
 rw [← e]; exact (p.t.slot j hj).2
theorem slots (p : PartOf c l ss P i a b k h) : SlotsP (ZR l P.n i a b k) := by
 have hk := p.sin p.km.1
 have hp := p.sin p.mem
 have h1 := ZbZ p.t.slot (x := a) (by rw [p.sa]; exact hk) (by rw [p.ea]; exact p.lseen p.km.1)
 have h2 := ZbZ h1 (x := Y6 P.n i k l.length) (by rw [List.length_set]; exact hp) (p.lseen p.mem)
 exact Zgu h2 (by rw [List.length_set, List.length_set]; exact p.sb) (by rw [p.eb]; exact p.lseen p.km.1)
theorem len (p : PartOf c l ss P i a b k h) : (ZR l P.n i a b k).length = l.length + 1 := by
 unfold ZR; rw [List.length_append, List.length_set, List.length_set]; rfl
theorem get (p : PartOf c l ss P i a b k h) (s : Int) : Za (ZR l P.n i a b k) s = if s = l.length then b else if s = P.n.slot then Y6 P.n i k l.length else if s = (Zb l P i).n.slot then a else Za l s := by
 have hk := p.sin p.km.1
 have hp := p.sin p.mem
 unfold ZR
 rw [ZcP, List.length_set, List.length_set]
 split
 ·rfl
 ·have e := Zay (l := l.set a.slot.toNat a) (x := Y6 P.n i k l.length) (by rw [List.length_set]; exact hp) s
  rw [show (Y6 P.n i k l.length).slot = P.n.slot from rfl] at e
  rw [e]
  split
  ·rfl
  ·rw [Zay (by rw [p.sa]; exact hk), p.sa]
theorem find (p : PartOf c l ss P i a b k h) (s : Int) : Zw (ZR l P.n i a b k) s = (if s = l.length then b else if s = P.n.slot then Y6 P.n i k l.length else if s = (Zb l P i).n.slot then a else Za l s, decide (0 ≤ s ∧ s < (l.length : Int) + 1)) := by
 rw [Zau p.slots, p.get, p.len]
 congr 1
theorem find_x (p : PartOf c l ss P i a b k h) {x : Seat} (hx : x ∈ ss) (h1 : x.n.slot ≠ P.n.slot) (h2 : x.n.slot ≠ (Zb l P i).n.slot) : Zw (ZR l P.n i a b k) x.n.slot = Zw l x.n.slot := by
 have := p.sin hx
 rw [p.find, if_neg om9, if_neg h1, if_neg h2, Zau p.t.slot, decide_eq_true om9, decide_eq_true om9]
theorem find_p (p : PartOf c l ss P i a b k h) : Zw (ZR l P.n i a b k) P.n.slot = (Y6 P.n i k l.length, true) := by
 have := p.sin p.mem
 rw [p.find, if_neg om9, if_pos rfl, decide_eq_true om9]
theorem find_k (p : PartOf c l ss P i a b k h) : Zw (ZR l P.n i a b k) (Zb l P i).n.slot = (a, true) := by
 have := p.sin p.km.1
 rw [p.find, if_neg om9, if_neg p.ksl, if_pos rfl, decide_eq_true om9]
theorem find_y (p : PartOf c l ss P i a b k h) : Zw (ZR l P.n i a b k) (l.length : Int) = (b, true) := by
 rw [p.find, if_pos rfl, decide_eq_true om9]
noncomputable def nP (l : List Nd) (P : Seat) (i : Nat) (k : Str) : Seat := ⟨Y6 P.n i k l.length, P.s, P.ms⟩
noncomputable def nA (l : List Nd) (P : Seat) (i : Nat) (a b : Nd) (k : Str) : Seat := Zb (ZR l P.n i a b k) (nP l P i k) i
noncomputable def nB (l : List Nd) (P : Seat) (i : Nat) (a b : Nd) (k : Str) : Seat := Zb (ZR l P.n i a b k) (nP l P i k) (i + 1)
theorem slot_at (p : PartOf c l ss P i a b k h) {x : Seat} (hx : x ∈ ss) (h0 : ¬ x.n.level = 0) {j : Nat} (hj : j < x.n.kids.length) : x.n.kids.getD j 0 = (Zb l x j).n.slot := by
 have e := (p.t.at hx h0 hj)
 rw [List.getD_eq_getElem?_getD, List.getElem?_eq_getElem hj, e.2.2.1, (YI p.t.slot e.2.1).1]; rfl
theorem kid_j (p : PartOf c l ss P i a b k h) (j : Nat) : (nP l P i k).n.kids.getD j 0 = if j ≤ i then P.n.kids.getD j 0 else if j = i + 1 then (l.length : Int) else P.n.kids.getD (j - 1) 0 := by
 have hi := p.hi
 show ((P.n.kids.take (i + 1) ++ [(l.length : Int)]) ++ P.n.kids.drop (i + 1)).getD j 0 = _
 rw [List.getD_eq_getElem?_getD, List.getD_eq_getElem?_getD, List.getD_eq_getElem?_getD]
 have l1 : (P.n.kids.take (i + 1)).length = i + 1 := by rw [List.length_take]; omega
 by_cases h1 : j ≤ i
 ·rw [if_pos h1, List.getElem?_append_left (by rw [List.length_append, l1]; omega), List.getElem?_append_left om9, List.getElem?_take, if_pos om9]
 ·rw [if_neg h1]
  by_cases h2 : j = i + 1
  ·rw [if_pos h2, h2, List.getElem?_append_left (by rw [List.length_append, l1]; simp), List.getElem?_append_right om9, l1]; simp
  ·rw [if_neg h2, List.getElem?_append_right (by rw [List.length_append, l1]; simp; omega), List.getElem?_drop, List.length_append, l1]
   congr 2
   simp; omega
theorem rt (p : PartOf c l ss P i a b k h) : ZX P.n.pivots = true ∧ P.n.kids.length = P.n.pivots.length + 1 := YR (Z8 (p.t.kids p.mem) p.h0).2.2.1
theorem rt' (p : PartOf c l ss P i a b k h) : YC (nP l P i k).n.pivots (nP l P i k).n.kids.length = true := ZnC (Z8 (p.t.kids p.mem) p.h0).2.2.1 p.hi p.kin p.klo
theorem klen (p : PartOf c l ss P i a b k h) : (nP l P i k).n.kids.length = P.n.kids.length + 1 := by
 have := p.hi
 show ((P.n.kids.take (i + 1) ++ [(l.length : Int)]) ++ P.n.kids.drop (i + 1)).length = _
 simp; omega
theorem kroute (p : PartOf c l ss P i a b k h) : Ze P.n.pivots k = i := by
 have h1 := p.rt
 have h2 := p.kin
 rw [Xu h1.1 k (by have := p.hi; omega), decide_eq_true_eq] at h2
 exact h2.symm
theorem route (p : PartOf c l ss P i a b k h) (q : Str) : (q.lt k = true → Ze (nP l P i k).n.pivots q = Ze P.n.pivots q ∧ Ze P.n.pivots q ≤ i) ∧ (q.lt k = false → Ze (nP l P i k).n.pivots q = Ze P.n.pivots q + 1 ∧ i ≤ Ze P.n.pivots q) := by
 have e := ZiL P.n.pivots i k q
 have hk := p.kroute
 constructor
 ·intro hq
  rw [if_pos hq] at e
  have := Zcv (P := P.n.pivots) (p := k) (q := q) (Str.lt_asymm hq)
  exact ⟨by rw [← Nat.add_zero (Ze P.n.pivots q)]; exact e, om9⟩
 ·intro hq
  rw [if_neg (by simp [hq])] at e
  have := Zcv (P := P.n.pivots) (p := q) (q := k) hq
  exact ⟨e, om9⟩
theorem shas (p : PartOf c l ss P i a b k h) {j : Nat} (hj : j ≤ P.n.kids.length) (q : Str) : ((nP l P i k).s.meet (Zf (nP l P i k).n.pivots (j : Int))).has q = (P.s.has q && decide (j = Ze (nP l P i k).n.pivots q)) := by
 obtain ⟨h1, h2⟩ := YR p.rt'
 have := p.klen
 rw [ZI, Xu h1 q om9]; rfl
theorem khas (p : PartOf c l ss P i a b k h) {j : Nat} (hj : j < P.n.kids.length) (q : Str) : (Zb l P j).s.has q = (P.s.has q && decide (j = Ze P.n.pivots q)) := Za9 (Z8 (p.t.kids p.mem) p.h0).2.2.1 hj q
theorem ha (p : PartOf c l ss P i a b k h) (q : Str) : (nA l P i a b k).s.has q = ((Zb l P i).s.has q && q.lt k) := by
 have h1 := p.shas (j := i) (by have := p.hi; omega) q
 have h2 := p.khas p.hi q
 show ((nP l P i k).s.meet _).has q = _
 rw [h1, h2]
 cases hq : q.lt k
 ·have := (p.route q).2 hq
  rw [decide_eq_false om9]; simp
 ·have := (p.route q).1 hq
  rw [this.1]; simp
theorem hb (p : PartOf c l ss P i a b k h) (q : Str) : (nB l P i a b k).s.has q = ((Zb l P i).s.has q && !q.lt k) := by
 have h1 := p.shas (j := i + 1) (by have := p.hi; omega) q
 have h2 := p.khas p.hi q
 show ((nP l P i k).s.meet (Zf _ ((i + 1 : Nat) : Int))).has q = _
 rw [h1, h2]
 cases hq : q.lt k
 ·have := (p.route q).2 hq
  rw [this.1]; simp
 ·have := (p.route q).1 hq
  rw [decide_eq_false (show ¬ i + 1 = Ze (nP l P i k).n.pivots q by omega)]; simp
theorem ams (p : PartOf c l ss P i a b k h) : (nA l P i a b k).ms = Zc (nA l P i a b k).s (Zb l P i).ms := by
 have h1 := (p.t.two p.mem (nA l P i a b k).s).1
 have h2 := (p.t.kid_ms p.mem (p.t.rst P p.mem) i).1
 rw [h2, Jj, XI (fun q hq => by rw [p.ha, Bool.and_eq_true] at hq; exact hq.1), XI (fun q hq => by rw [p.ha, Bool.and_eq_true] at hq; exact hq.1), ← h1]
 rfl
theorem bms (p : PartOf c l ss P i a b k h) : (nB l P i a b k).ms = Zc (nB l P i a b k).s (Zb l P i).ms := by
 have h1 := (p.t.two p.mem (nB l P i a b k).s).1
 have h2 := (p.t.kid_ms p.mem (p.t.rst P p.mem) i).1
 rw [h2, Jj, XI (fun q hq => by rw [p.hb, Bool.and_eq_true] at hq; exact hq.1), XI (fun q hq => by rw [p.hb, Bool.and_eq_true] at hq; exact hq.1), ← h1]
 rfl
theorem an (p : PartOf c l ss P i a b k h) : (nA l P i a b k).n = a := by
 show (Zw _ ((nP l P i k).n.kids.getD i 0)).1 = a
 rw [p.kid_j, if_pos (Nat.le_refl i), p.slot_at p.mem p.h0 p.hi, p.find_k]
theorem bn (p : PartOf c l ss P i a b k h) : (nB l P i a b k).n = b := by
 show (Zw _ ((nP l P i k).n.kids.getD (i + 1) 0)).1 = b
 rw [p.kid_j, if_neg om9, if_pos rfl, p.find_y]
theorem hs (p : PartOf c l ss P i a b k h) : HSeat (Zb l P i) (nA l P i a b k) (nB l P i a b k) k h := by
 refine ⟨by rw [p.an, p.bn]; exact p.hv, p.ha, p.hb, XR _ _, XR _ _, fun s hs => ?_, fun s hs => ?_⟩
 ·rw [p.an, p.ams, XI hs]
  by_cases h0 : (Zb l P i).n.level = 0
  ·rw [(p.m0 h0).1]
  ·rw [(p.m1 h0).1, XI fun q hq => ?_]
   have := hs q hq
   rw [p.ha, Bool.and_eq_true] at this
   exact Yi.2 ⟨Str.nil_le q, .inr this.2⟩
 ·rw [p.bn, p.bms, XI hs]
  by_cases h0 : (Zb l P i).n.level = 0
  ·rw [(p.m0 h0).2]
  ·rw [(p.m1 h0).2, XI fun q hq => ?_]
   have := hs q hq
   rw [p.hb, Bool.and_eq_true] at this
   exact Yi.2 ⟨by simpa using this.2, .inl rfl⟩
end PartOf
end Go.Fw
