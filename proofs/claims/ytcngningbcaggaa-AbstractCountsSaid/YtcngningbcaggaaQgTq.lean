/- The walk through any nodes. -/
import Derived.Test.YtcngningbcaggaaQgTp
import Derived.Test.YtcngningbcaggaaQgFm
import Derived.Test.YtcngningbcaggaaQgV5
set_option maxRecDepth 100000
set_option maxHeartbeats 1600000
set_option linter.unusedVariables false
set_option linter.unusedSimpArgs false
set_option linter.unnecessarySimpa false
namespace Go.Proofs.Ytcngningbcaggaa
open Go Go.Fw Go.RowKit
attribute [local irreducible] Ok W WC
theorem ableafB_fc {G : GH} {cs_a : List Value} {l : List Nd} {p : Nat} {x : Seat} (hS : Sml l) (hxS : SeatS l p x) (h_a : NodeC G cs_a x.n) {v_ms : Value} (h_ms : SlR eMsg G v_ms x.ms) {b_o : Nat} {v_out : Value} {out : List Pair} {Ms_out : MH} (h_out : OwnR ePair 68 G v_out out Ms_out) (hol : out.length ≤ 100000000) (hp30 : p ≤ 30) :
    Fc Try.prog 53 [.agg (List.toArray cs_a), .agg #[sV x.s.lo.b, sV x.s.hi.b, .bool x.s.opn, v_ms], pt9 b_o] G ((b_o, ce9 31 [v_out]) :: (Ms_out)) (fun v G' M' => v = .tuple #[] ∧ ∃ vo' Mo', M' = (b_o, ce9 31 [vo']) :: Mo' ∧ OwnR ePair 68 G' vo' (out ++ viewB x) Mo') := by
 obtain ⟨_, _, _, _, _, _, _, _, rfl, hp_a, hk_a, hm_a, hr_a, hok_a⟩ := h_a
 obtain ⟨sa_ms, sc_ms, rfl⟩ := h_ms.form
 obtain ⟨sa_out, sc_out, rfl⟩ := h_out.form
 have hnd := hS.at hxS.nd
 have hrl := hnd.2.2.2.1
 have hms := hxS.ms
 have hRB : RB x.n.rows := fun p hp => hnd.2.2.2.2.2.2.2 p hp
 have hMB : MB x.ms := hxS.key
 have hvl := viewB_len hS hxS
 refine Fc.go [] Try.func53 Try.ntmps53 rfl (fun w0 => (WC.perm (M' := ((b_o, ce9 31 [lV sa_out out.length sc_out]) :: (Ms_out ++ []))) (by simp) (g9 2 ?_)))
 refine W.box (L := [iV _, iV _, lV _ _ _, lV _ _ _, sV _, .bool _, iV _, iV _, lV _ _ _, lV _ _ _]) rfl rfl (fun b1 => (W.box (L := [sV _, sV _, .bool _, lV _ _ _]) rfl rfl (fun b2 => (g9 2 ?_))))
 refine WC.dw (((sn9.cons _).k9).k9) (d9 [1, 2, 3, 4, 5, 6] ?_)
 refine WD.any [0, 7] (by kernel_rfl) rfl ⟨WD.ap ?_, WD.ap ?_, trivial⟩
 ·refine g9 1 ?_
  refine W.nn (WD.a1 7 rfl (W.call (Mp := []) (mviewB_fc hr_a x.s.lo x.s.hi x.s.opn h_ms hRB om9 hMB hxS.sp) rfl pr9 ?_))
  intro _ G3 _ hG3 q5
  refine match q5 with | ⟨e_6, _, e_7, hv4⟩ => ?_
  subst e_6
  subst e_7
  have hc8 := SlR.cast hv4 (l' := viewB x) (rfl)
  have q10 := hc8.form
  refine match q10 with | ⟨sa_hc8, sc_hc8, e_9⟩ => ?_
  subst e_9
  refine W.nn (WD.a1 8 rfl (W.app (e := ePair) sl31 ty68 zr68 rfl by68 rfl rfl ((h_out.mono hG3)) (hc8) (pmC (pmC (pmC pr9))) (by show (List.length _ + List.length _) * 32 ≤ _; omega) (fun v11 Ms12 ho13 => (W.perm (pmC (pmC (pmC pr9))).symm ?_))))
  have q17 := ho13.form
  refine match q17 with | ⟨sa14, sc15, e_16⟩ => ?_
  subst e_16
  refine W.nn (d9 [9] ?_)
  refine WD.done (by kernel_rfl) ?_
  refine ⟨.inl rfl, [], trivial, ((b_o, ce9 31 [lV sa14 ((out ++ viewB x)).length sc15]) :: (Ms12 ++ [])), (sr9.k9.cons _).cons _, ?_⟩
  exact ⟨rfl, _, _, congrArg _ (List.append_nil _), ho13⟩
 refine W.call (Mp := []) (mviewB_fc hr_a x.s.lo x.s.hi x.s.opn h_ms hRB om9 hMB hxS.sp) rfl pr9 ?_
 intro _ G18 _ hG18 q20
 refine match q20 with | ⟨e_21, _, e_22, hv19⟩ => ?_
 subst e_21
 subst e_22
 have hc23 := SlR.cast hv19 (l' := viewB x) (rfl)
 have q25 := hc23.form
 refine match q25 with | ⟨sa_hc23, sc_hc23, e_24⟩ => ?_
 subst e_24
 refine W.nn (WD.a1 0 rfl (g9 1 ?_))
 refine W.nn (WD.a1 8 rfl (W.app (e := ePair) sl31 ty68 zr68 rfl by68 rfl rfl ((h_out.mono hG18)) (hc23) (pmC (pmC (pmC pr9))) (by show (List.length _ + List.length _) * 32 ≤ _; omega) (fun v26 Ms27 ho28 => (W.perm (pmC (pmC (pmC pr9))).symm ?_))))
 have q32 := ho28.form
 refine match q32 with | ⟨sa29, sc30, e_31⟩ => ?_
 subst e_31
 refine W.nn (d9 [9] ?_)
 refine WD.done (by kernel_rfl) ?_
 refine ⟨.inl rfl, [], trivial, ((b_o, ce9 31 [lV sa29 ((out ++ viewB x)).length sc30]) :: (Ms27 ++ [])), (sr9.k9.cons _).cons _, ?_⟩
 exact ⟨rfl, _, _, congrArg _ (List.append_nil _), ho28⟩

def AbsB (l : List Nd) (n : Nat) : Prop := ∀ {G : GH} {bk bo : Nat} {mt : List (Int × Bool)} {out : List Pair} {Ms_k : MH} (h_k : WkR 53 97 31 68 bk bo (bySl l) G (mt, out) Ms_k) {x : Seat} (slot : Int) (hx : x.n = (getM (bySl l) slot).getD Nd.zero) (hxS : SeatS l mt.length x) (hmet : Met l mt) (hol : out.length ≤ 124000 * mt.length) (hn : l.length ≤ mt.length + n) {v_ms : Value} (h_ms : SlR eMsg G v_ms x.ms), Fc Try.prog 55 [pt9 bk, iV slot, .agg #[sV x.s.lo.b, sV x.s.hi.b, .bool x.s.opn, v_ms]] G Ms_k (fun v G' M' => v = .tuple #[] ∧ ∃ mt' out', Met l mt' ∧ mt.length ≤ mt'.length ∧ out'.length ≤ 124000 * mt'.length ∧ WkR 53 97 31 68 bk bo (bySl l) G' (mt', out') M')
theorem abwB_step {G : GH} {l : List Nd} {bk bo : Nat} {mt : List (Int × Bool)} {out : List Pair} {Ms_k : MH} (h_k : WkR 53 97 31 68 bk bo (bySl l) G (mt, out) Ms_k) (hS : Sml l) (hl30 : l.length ≤ 30) {x : Seat} {n : Nat} (slot : Int) (hx : x.n = (getM (bySl l) slot).getD Nd.zero) (hxS : SeatS l mt.length x) (hmet : Met l mt) (hol : out.length ≤ 124000 * mt.length) (hn : l.length ≤ mt.length + n) (ih : ∀ q, q + 1 = n → AbsB l q)  {v_ms : Value} (h_ms : SlR eMsg G v_ms x.ms) :
    Fc Try.prog 55 [pt9 bk, iV slot, .agg #[sV x.s.lo.b, sV x.s.hi.b, .bool x.s.opn, v_ms]] G Ms_k (fun v G' M' => v = .tuple #[] ∧ ∃ mt' out', Met l mt' ∧ mt.length ≤ mt'.length ∧ out'.length ≤ 124000 * mt'.length ∧ WkR 53 97 31 68 bk bo (bySl l) G' (mt', out') M') := by
 obtain ⟨sa_ms, sc_ms, rfl⟩ := h_ms.form
 have hnd := hS.at hxS.nd
 have hnk : x.n.kids.length ≤ 4000 := hnd.1
 have hml4 := hnd.2.2.1
 have hms4 := hxS.ms
 have hk1 : ∀ m ∈ x.n.msgs, m.key.b.size < 140737488355328 := fun m hm => by have := (hnd.2.2.2.2.2.1 m hm).1; omega
 have hk2 : ∀ m ∈ x.ms, m.key.b.size < 140737488355328 := fun m hm => by have := (hxS.key m hm).1; omega
 have hml := hmet.len
 have hvl := viewB_len hS hxS
 refine Fc.go [] Try.func55 Try.ntmps55 rfl (fun w0 => (WC.perm (M' := (Ms_k ++ [])) (by simp) (g9 2 ?_)))
 refine W.box (L := [sV _, sV _, .bool _, lV _ _ _]) rfl rfl (fun b33 => (g9 3 ?_))
 obtain ⟨vat, bm, vo, Mm, Mo, eM, hat, hmt, ho⟩ := h_k
 subst eM
 obtain ⟨ba, rfl⟩ := hat.form
 obtain ⟨sa_o, sc_o, rfl⟩ := ho.form
 dsimp only at hmt ho
 refine WC.perm (M' := ((b33, ce9 93 [sV (x.s).lo.b, sV (x.s).hi.b, .bool (x.s).opn, lV sa_ms x.ms.length sc_ms]) :: ((bk, ce9 97 [.map (some ba), .map (some bm), .func (.func 53) #[] #[pt9 bo]]) :: ((bo, ce9 31 [lV sa_o out.length sc_o]) :: (Mm ++ (Mo ++ [])))))) (by simp) (g9 6 ?_)
 refine W.lookG (V := vNode) mk71 mz35 ⟨_, rfl, ⟨_, _, _, _, _, _, _, _, rfl, SlR.nil, SlR.nil, SlR.nil, SlR.nil, Nd.zero_ok⟩⟩ hat rfl rfl (fun v34 hv35 => ?_)
 rw [← hx] at hv35
 refine match hv35 with | ⟨_, e_37, ⟨pa_mn36, pc_mn36, ka_mn36, kc_mn36, ma_mn36, mc_mn36, ra_mn36, rc_mn36, e_38, hp_mn36, hk_mn36, hm_mn36, hr_mn36, hok_mn36⟩⟩ => ?_
 subst e_37
 subst e_38
 refine g9 3 ?_
 refine W.alloc zr35 (fun b39 => (g9 10 ?_))
 refine W.sp 23 rfl (fun h22 => ?_) (fun h22 => ?_)
 ·refine g9 10 ?_
  refine WC.perm (M' := ((bk, ce9 97 [.map (some ba), .map (some bm), .func (.func 53) #[] #[pt9 bo]]) :: ((bo, ce9 31 [lV sa_o out.length sc_o]) :: (Mm ++ Mo))) ++ ((b39, ce9 35 (ndl x.n pa_mn36 pc_mn36 ka_mn36 kc_mn36 ma_mn36 mc_mn36 ra_mn36 rc_mn36)) :: ((b33, ce9 93 [sV (x.s).lo.b, sV (x.s).hi.b, .bool (x.s).opn, lV sa_ms x.ms.length sc_ms]) :: []))) (((((pmC (pmC ((pmF pr9).trans pr9))).cons _).trans ((List.Perm.swap _ _ _).trans (((List.Perm.swap _ _ _).trans (pr9.cons _)).cons _))).cons _).trans ((List.Perm.swap _ _ _).trans (((List.Perm.swap _ _ _).trans (pr9.cons _)).cons _))) (g9 2 ?_)
  refine ⟨.inr rfl, [], trivial, ((bk, ce9 97 [.map (some ba), .map (some bm), .func (.func 53) #[] #[pt9 bo]]) :: ((bo, ce9 31 [lV sa_o out.length sc_o]) :: (Mm ++ Mo))), List.sublist_append_left _ _, ?_⟩
  exact ⟨rfl, mt, out, hmet, Nat.le_refl _, hol, ⟨_, _, _, _, _, rfl, hat, hmt, ho⟩⟩
 have hin := bySl_in (l := l) (s := slot) (by simpa using h22)
 refine g9 11 ?_
 refine W.lookO (V := vBool) mk86 mz4 rfl rfl rfl hmt (pmC (pmC (pmC (pmC pr9)))) (fun v40 hv41 => ?_)
 have ehv41 := hv41
 subst ehv41
 refine g9 3 ?_
 refine WC.cond rfl (fun h29 => ?_) (fun h29 => ?_)
 ·refine WC.perm (M' := ((bk, ce9 97 [.map (some ba), .map (some bm), .func (.func 53) #[] #[pt9 bo]]) :: ((bo, ce9 31 [lV sa_o out.length sc_o]) :: (Mm ++ Mo))) ++ ((b39, ce9 35 (ndl x.n pa_mn36 pc_mn36 ka_mn36 kc_mn36 ma_mn36 mc_mn36 ra_mn36 rc_mn36)) :: ((b33, ce9 93 [sV (x.s).lo.b, sV (x.s).hi.b, .bool (x.s).opn, lV sa_ms x.ms.length sc_ms]) :: []))) (((((pmC (pmC ((pmF pr9).trans pr9))).cons _).trans ((List.Perm.swap _ _ _).trans (((List.Perm.swap _ _ _).trans (pr9.cons _)).cons _))).cons _).trans ((List.Perm.swap _ _ _).trans (((List.Perm.swap _ _ _).trans (pr9.cons _)).cons _))) (g9 2 ?_)
  refine ⟨.inr rfl, [], trivial, ((bk, ce9 97 [.map (some ba), .map (some bm), .func (.func 53) #[] #[pt9 bo]]) :: ((bo, ce9 31 [lV sa_o out.length sc_o]) :: (Mm ++ Mo))), List.sublist_append_left _ _, ?_⟩
  exact ⟨rfl, mt, out, hmet, Nat.le_refl _, hol, ⟨_, _, _, _, _, rfl, hat, hmt, ho⟩⟩
 have hno : getM mt slot = none := hmet.none h29
 have hpl9 := put_len mt slot true hno
 have hmet1 := hmet.put hno hin.2
 have hml1 := hmet1.len
 obtain ⟨q, rfl⟩ : ∃ q, n = q + 1 := ⟨n - 1, om9⟩
 refine g9 9 ?_
 refine W.mapUp (V := vBool) (k := slot) mk86 rfl rfl rfl hmt (pmC (pmC (pmC (pmC pr9)))) rfl (fun Ms42 hm43 => (W.perm (pmC (pmC (pmC (pmC pr9)))).symm (g9 10 ?_)))
 refine WC.cd (fun h38 p38 => ?_) (fun h38 p38 => ?_)
 ·try dsimp only at p38
  refine WC.seq (WC.dw ((((sn9.cons _).k9).k9).k9) (d9 [0, 1, 2, 3, 4, 5] ?_))
  refine WD.a1 6 rfl (W.callV (fst := []) (caps := [pt9 bo]) (Mp := ((bo, ce9 31 [lV sa_o out.length sc_o]) :: Mo)) (Mr := ((b39, ce9 35 (ndl x.n pa_mn36 pc_mn36 ka_mn36 kc_mn36 ma_mn36 mc_mn36 ra_mn36 rc_mn36)) :: ((b33, ce9 93 [sV (x.s).lo.b, sV (x.s).hi.b, .bool (x.s).opn, lV sa_ms x.ms.length sc_ms]) :: ((bk, ce9 97 [.map (some ba), .map (some bm), .func (.func 53) #[] #[pt9 bo]]) :: (Ms42 ++ []))))) rfl (ableafB_fc hS hxS (nk9 hp_mn36 hk_mn36 hm_mn36 hr_mn36 hok_mn36) h_ms ho om9 om9) rfl (((pmC (pmC (pmC (pmA pr9)))).cons _).trans ((List.Perm.swap _ _ _).trans (((List.Perm.swap _ _ _).trans (((List.Perm.swap _ _ _).trans (pr9.cons _)).cons _)).cons _))) ?_)
  intro v45 G46 Ms47 hG46 q44
  refine match q44 with | ⟨e_49, vo9, Mo9, e_50, ho48⟩ => ?_
  subst e_49
  subst e_50
  have q52 := ho48.form
  refine match q52 with | ⟨sa9, sc9, e_51⟩ => ?_
  subst e_51
  refine W.perm (M' := ((bo, ce9 31 [lV sa9 (out ++ viewB x).length sc9]) :: ((b39, ce9 35 (ndl x.n pa_mn36 pc_mn36 ka_mn36 kc_mn36 ma_mn36 mc_mn36 ra_mn36 rc_mn36)) :: ((b33, ce9 93 [sV (x.s).lo.b, sV (x.s).hi.b, .bool (x.s).opn, lV sa_ms x.ms.length sc_ms]) :: ((bk, ce9 97 [.map (some ba), .map (some bm), .func (.func 53) #[] #[pt9 bo]]) :: (Mo9 ++ (Ms42 ++ []))))))) (((pmC (pmC (pmC pr9))).cons _).trans pr9).symm (W.nn (g9 2 ?_))
  refine WC.perm (M' := ((bk, ce9 97 [.map (some ba), .map (some bm), .func (.func 53) #[] #[pt9 bo]]) :: ((bo, ce9 31 [lV sa9 (out ++ viewB x).length sc9]) :: (Ms42 ++ Mo9))) ++ ((b39, ce9 35 (ndl x.n pa_mn36 pc_mn36 ka_mn36 kc_mn36 ma_mn36 mc_mn36 ra_mn36 rc_mn36)) :: ((b33, ce9 93 [sV (x.s).lo.b, sV (x.s).hi.b, .bool (x.s).opn, lV sa_ms x.ms.length sc_ms]) :: []))) (((((pmC (pmC ((pmF pr9).trans (pmA pr9)))).cons _).trans pr9).cons _).trans ((List.Perm.swap _ _ _).trans (((List.Perm.swap _ _ _).trans (((List.Perm.swap _ _ _).trans (pr9.cons _)).cons _)).cons _))) (g9 2 ?_)
  refine ⟨.inr rfl, [], trivial, ((bk, ce9 97 [.map (some ba), .map (some bm), .func (.func 53) #[] #[pt9 bo]]) :: ((bo, ce9 31 [lV sa9 (out ++ viewB x).length sc9]) :: (Ms42 ++ Mo9))), List.sublist_append_left _ _, ?_⟩
  exact ⟨rfl, _, _, hmet1, om9, by rw [List.length_append]; omega, ⟨_, _, _, _, _, rfl, (hat.mono hG46), (MpR.mono hG46 hm43), ho48⟩⟩
 try dsimp only at p38
 refine g9 3 ?_
 have hR53 : WkR 53 97 31 68 bk bo (bySl l) G ((putM mt (slot) true), out) ((bk, ce9 97 [.map (some ba), .map (some bm), .func (.func 53) #[] #[pt9 bo]]) :: ((bo, ce9 31 [lV sa_o out.length sc_o]) :: (Ms42 ++ Mo))) := ⟨_, _, _, _, _, rfl, hat, hm43, ho⟩
 refine WC.perm (M' := ((b39, ce9 35 (ndl x.n pa_mn36 pc_mn36 ka_mn36 kc_mn36 ma_mn36 mc_mn36 ra_mn36 rc_mn36)) :: ((b33, ce9 93 [sV (x.s).lo.b, sV (x.s).hi.b, .bool (x.s).opn, lV sa_ms x.ms.length sc_ms]) :: (((bk, ce9 97 [.map (some ba), .map (some bm), .func (.func 53) #[] #[pt9 bo]]) :: ((bo, ce9 31 [lV sa_o out.length sc_o]) :: (Ms42 ++ Mo))) ++ [])))) ((pmC (pmC pr9)).symm.trans (((((pmC (pmC ((pmF pr9).trans pr9))).cons _).trans ((List.Perm.swap _ _ _).trans (((List.Perm.swap _ _ _).trans (pr9.cons _)).cons _))).cons _).trans ((List.Perm.swap _ _ _).trans (((List.Perm.swap _ _ _).trans (pr9.cons _)).cons _)))) (g9 8 ?_)
 refine WC.loop (X := (Nat × (List (Int × Bool) × List Pair)) × MH) (fun y => [(49, nt9 y.1.1), (5, pt9 b33), (6, pt9 b39), (47, lV ka_mn36 (x.n.kids).length kc_mn36), (48, nt9 ((x.n.kids).length)), (0, pt9 bk)]) (fun y G Ml => Ml = ((b39, ce9 35 (ndl x.n pa_mn36 pc_mn36 ka_mn36 kc_mn36 ma_mn36 mc_mn36 ra_mn36 rc_mn36)) :: ((b33, ce9 93 [sV (x.s).lo.b, sV (x.s).hi.b, .bool (x.s).opn, lV sa_ms x.ms.length sc_ms]) :: (y.2 ++ []))) ∧ WkR 53 97 31 68 bk bo (bySl l) G (y.1.2) y.2 ∧ y.1.1 ≤ x.n.kids.length ∧ Met l y.1.2.1 ∧ mt.length + 1 ≤ y.1.2.1.length ∧ y.1.2.2.length ≤ 124000 * y.1.2.1.length) (fun y => x.n.kids.length - y.1.1) (((0, ((putM mt slot true), out)) : Nat × (List (Int × Bool) × List Pair)), ((bk, ce9 97 [.map (some ba), .map (some bm), .func (.func 53) #[] #[pt9 bo]]) :: ((bo, ce9 31 [lV sa_o out.length sc_o]) :: (Ms42 ++ Mo)))) hs9 ?_ ?_
 ·exact ⟨rfl, (by exact hR53), Nat.zero_le _, hmet1, by dsimp only; omega, by dsimp only; omega⟩
 rintro ⟨⟨j, ⟨mt2, out2⟩⟩, M_0⟩ gG54 G54 _ hG54 ⟨rfl, ho_0, hj, hmj, hlj, hoj⟩
 try dsimp only at ho_0 hj hmj hlj hoj
 refine WC.fr (f := setL gG54 [(49, nt9 j), (5, pt9 b33), (6, pt9 b39), (47, lV ka_mn36 (x.n.kids).length kc_mn36), (48, nt9 ((x.n.kids).length)), (0, pt9 bk)]) rfl (g9 6 ?_)
 refine WC.cd (fun h50 p50 => ?_) (fun h50 p50 => ?_)
 ·try dsimp only at p50
  refine g9 7 ?_
  refine (hk_mn36.mono hG54).a2 (i := j) om9 (fun he55 hi56 => (g9 6 ?_))
  refine WC.join (X := (Unit) × Nat) (fun u10 => [(0, pt9 bk), (9, iV (x.n.kids[j]'om9)), (5, pt9 b33), (6, pt9 b39), (47, lV ka_mn36 (x.n.kids).length kc_mn36), (48, nt9 ((x.n.kids).length)), (49, nt9 j), (10, .pointer (some ⟨u10.2, 0, none⟩))]) (fun u10 G Ml => Ml = ((u10.2, ce9 37 [sV ((x.s.meet (rangeN x.n.pivots (j : Int)))).lo.b, sV ((x.s.meet (rangeN x.n.pivots (j : Int)))).hi.b, .bool ((x.s.meet (rangeN x.n.pivots (j : Int)))).opn]) :: ((b39, ce9 35 (ndl x.n pa_mn36 pc_mn36 ka_mn36 kc_mn36 ma_mn36 mc_mn36 ra_mn36 rc_mn36)) :: ((b33, ce9 93 [sV (x.s).lo.b, sV (x.s).hi.b, .bool (x.s).opn, lV sa_ms x.ms.length sc_ms]) :: (M_0 ++ []))))) ?_ ?_
  ·refine WC.dw (sr9.k9.k9) (d9 [0, 1, 2, 3, 4] ?_)
   refine WD.any [5, 7] (by kernel_rfl) rfl ⟨WD.ap ?_, WD.ap ?_, trivial⟩
   ·refine W.qcall (brange_fc (hp_mn36.mono hG54) _ ⟨om9, om9⟩) rfl (W.nn ?_)
    refine WD.any [6, 7] (by kernel_rfl) rfl ⟨WD.ap ?_, WD.ap ?_, trivial⟩
    ·refine W.qcall (smeet_fc _ _ _ _ _ _) rfl (W.nn (WD.a1 7 rfl (W.alloc zr37 (fun b59 => (W.nn (d9 [8] ?_))))))
     refine g9 2 ?_
     exact ⟨Le.rfl, ((), b59), hs9, rfl⟩
    refine W.alloc zr37 (fun b60 => (W.nn (WD.a1 6 rfl (W.qcall (smeet_fc _ _ _ _ _ _) rfl (W.nn (d9 [8] ?_))))))
    refine g9 2 ?_
    exact ⟨Le.rfl, ((), b60), hs9, rfl⟩
   refine W.alloc zr37 (fun b61 => (W.nn (WD.a1 5 rfl (W.qcall (brange_fc (hp_mn36.mono hG54) _ ⟨om9, om9⟩) rfl (W.nn (WD.a1 6 rfl (W.qcall (smeet_fc _ _ _ _ _ _) rfl (W.nn (d9 [8] ?_)))))))))
   refine g9 2 ?_
   exact ⟨Le.rfl, ((), b61), hs9, rfl⟩
  rintro ⟨u10, B_10⟩ gG62 G62 _ hG62 rfl
  refine WC.fr (f := setL gG62 [(0, pt9 bk), (9, iV (x.n.kids[j]'om9)), (5, pt9 b33), (6, pt9 b39), (47, lV ka_mn36 (x.n.kids).length kc_mn36), (48, nt9 ((x.n.kids).length)), (49, nt9 j), (10, pt9 B_10)]) rfl (WC.seq (WC.dw ((sn9.k9.k9).k9) (d9 [0, 1, 2, 4, 5, 6] ?_)))
  refine WD.a1 3 rfl (W.cS (bclips_fc (hm_mn36.mono lec) _ _ _ hk1) rfl (fun sa_hv64 sc_hv64 G63 hG63 hv64 => (W.nn (WD.a1 7 rfl (W.cS (bclips_fc (h_ms.mono lec) _ _ _ hk2) rfl (fun sa_hv71 sc_hv71 G70 hG70 hv71 => (W.nn (WD.a1 8 rfl (W.lit (e := (eSl eMsg)) (l := [(clips (x.s.meet (rangeN x.n.pivots (j : Int))) x.n.msgs), (clips (x.s.meet (rangeN x.n.pivots (j : Int))) x.ms)]) (css := [[lV _ _ _], [lV _ _ _]]) sl63 ty33 zr33 rfl rfl rfl rfl rfl rfl ⟨⟨_, rfl, (hv64.mono hG70)⟩, ⟨_, rfl, hv71⟩, trivial⟩ (fun bl77 G77 hG77 hv77 => (W.nn (WD.a1 9 rfl (W.cS (mlists_fc hv77 (by have := clips_le (s := (x.s.meet (rangeN x.n.pivots (j : Int)))) (l := x.n.msgs); have := clips_le (s := (x.s.meet (rangeN x.n.pivots (j : Int)))) (l := x.ms); have h9 : totN [] = 0 := rfl; rw [totN_cons, totN_cons, h9]; omega) (by show 2 ≤ 100000; omega)) rfl (fun sa_hv79 sc_hv79 G78 hG78 hv79 => (W.nn (d9 [10] ?_))))))))))))))))
  refine g9 7 ?_
  refine W.ok (ok_build (L := [sV _, sV _, .bool _, lV _ _ _]) pl93 zr93 rfl rfl rfl) (W.call (Mp := M_0) ((ih q rfl) (WkR.mono lec ho_0) (x := (kidB ((getM (bySl l) (x.n.kids[j]'om9)).getD Nd.zero) x j)) (x.n.kids[j]'om9) rfl (hxS.kidB hS om9 bySl_or j) hmj hoj om9 hv79) rfl (pmC (pmC (pmC pr9))) ?_)
  intro v88 G85 Ms87 hG85 q86
  refine match q86 with | ⟨e_90, mt3, out3, hm3, hl3, ho3, hR89⟩ => ?_
  subst e_90
  refine W.perm (pmC (pmC (pmC pr9))).symm (g9 6 ?_)
  refine W.sub (sr9.cons _) (g9 2 ?_)
  exact ⟨lec, (((j + 1, (mt3, out3)) : Nat × (List (Int × Bool) × List Pair)), Ms87), hs9, ⟨rfl, (by exact hR89), by dsimp only; omega, hm3, by dsimp only; omega, ho3⟩, by dsimp only; omega⟩
 try dsimp only at p50
 refine g9 4 ?_
 refine ⟨.inl rfl, [], trivial, M_0, ((List.sublist_append_left _ _).cons _).cons _, ?_⟩
 exact ⟨rfl, _, _, hmj, om9, hoj, ho_0⟩

theorem absB_all {l : List Nd} (hS : Sml l) (hl30 : l.length ≤ 30) : ∀ n, AbsB l n := by
  intro n
  induction n with
  | zero => intro G bk bo mt out Ms_k h_k x slot hx hxS hmet hol hn v_ms h_ms; exact abwB_step h_k hS hl30 slot hx hxS hmet hol hn (fun q hq => by omega) h_ms
  | succ n ih => intro G bk bo mt out Ms_k h_k x slot hx hxS hmet hol hn v_ms h_ms; exact abwB_step h_k hS hl30 slot hx hxS hmet hol hn (fun q hq => by have e : q = n := om9; subst e; exact @ih) h_ms
end Go.Proofs.Ytcngningbcaggaa
