/- Walks of a reader's steps. -/
import Derived.Test.YtgmnljhiojdigaaGreatQiZg
set_option maxRecDepth 100000
set_option maxHeartbeats 1600000
set_option linter.unusedVariables false
set_option linter.unusedSimpArgs false
set_option linter.unnecessarySimpa false
namespace Go.Proofs.YtgmnljhiojdigaaGreat
open Go Go.Fw Go.RowKit
theorem rddone_fc {G : GH} {b_r : Nat} {v0 v1 v2 v3 v4 v5 v6 : Value} {pt : Bool} {dn : Bool} {z0 : Int} {z1 : Bool} {z2 : Str} :
    Fc Tryz.prog 14 [.pointer (some ⟨b_r, 0, none⟩)] G [(b_r, .cells (List.toArray [v0, v1, v2, v3, v4, v5, v6, .bool pt, .bool dn, .int .i64 z0, .bool z1, .string z2.b, .slice none 0 0]) 98 (0, 0))] (fun v G' M' => v = .bool dn ∧ M' = (b_r, .cells (List.toArray [v0, v1, v2, v3, v4, v5, v6, .bool pt, .bool dn, .int .i64 z0, .bool z1, .string z2.b, .slice none 0 0]) 98 (0, 0)) :: []) := by
 refine Fc.intro (rs := [.tmp 2]) cl14 Tryz.func14 rfl Tryz.ntmps14 rfl rfl (fun w0 => ?_)
 refine WC.seq ?_
 refine WC.region ?_
 refine W.as ?_
 refine W.nil (thn_n ?_)
 refine WC.seq ?_
 refine WC.region ?_
 refine W.mv ?_
 refine W.ok (ok_neqPN pp49 rfl rfl) ?_
 refine W.mv ?_
 refine W.yes (dj := 5) rfl rfl rfl ?_
 refine W.mv ?_
 refine W.yes (dj := 5) rfl rfl rfl ?_
 refine W.ok (ok_nilP rfl) ?_
 refine W.yes (dj := 5) rfl rfl rfl ?_
 refine W.ok (ok_fieldB fd98_7 rfl) ?_
 refine W.yes (dj := 5) rfl rfl rfl ?_
 refine W.ok (ok_loadB (i := 0) (vs := [.bool _]) ty4 rfl rfl rfl rfl (by simp)) ?_
 refine W.ok (ok_pick_t rfl rfl) ?_
 refine W.as ?_
 refine W.nil (thn_n ?_)
 refine WC.ret ?_
 refine ⟨.inr rfl, [_], ⟨rfl, trivial⟩, [(b_r, .cells (List.toArray [v0, v1, v2, v3, v4, v5, v6, .bool pt, .bool dn, .int .i64 z0, .bool z1, .string z2.b, .slice none 0 0]) 98 (0, 0))], List.Sublist.refl _, ?_⟩
 exact ⟨rfl, by simp⟩

theorem rdpoint_fc {G : GH} {b_r : Nat} {v0 v1 v2 v3 v4 v5 v6 : Value} {pt : Bool} {dn : Bool} {z0 : Int} {z1 : Bool} {z2 : Str} :
    Fc Tryz.prog 21 [.pointer (some ⟨b_r, 0, none⟩)] G [(b_r, .cells (List.toArray [v0, v1, v2, v3, v4, v5, v6, .bool pt, .bool dn, .int .i64 z0, .bool z1, .string z2.b, .slice none 0 0]) 98 (0, 0))] (fun v G' M' => v = .bool pt ∧ M' = (b_r, .cells (List.toArray [v0, v1, v2, v3, v4, v5, v6, .bool pt, .bool dn, .int .i64 z0, .bool z1, .string z2.b, .slice none 0 0]) 98 (0, 0)) :: []) := by
 refine Fc.intro (rs := [.tmp 2]) cl21 Tryz.func21 rfl Tryz.ntmps21 rfl rfl (fun w0 => ?_)
 refine WC.seq ?_
 refine WC.region ?_
 refine W.as ?_
 refine W.nil (thn_n ?_)
 refine WC.seq ?_
 refine WC.region ?_
 refine W.mv ?_
 refine W.ok (ok_neqPN pp49 rfl rfl) ?_
 refine W.mv ?_
 refine W.yes (dj := 5) rfl rfl rfl ?_
 refine W.mv ?_
 refine W.yes (dj := 5) rfl rfl rfl ?_
 refine W.ok (ok_nilP rfl) ?_
 refine W.yes (dj := 5) rfl rfl rfl ?_
 refine W.ok (ok_fieldB fd98_6 rfl) ?_
 refine W.yes (dj := 5) rfl rfl rfl ?_
 refine W.ok (ok_loadB (i := 0) (vs := [.bool _]) ty4 rfl rfl rfl rfl (by simp)) ?_
 refine W.ok (ok_pick_t rfl rfl) ?_
 refine W.as ?_
 refine W.nil (thn_n ?_)
 refine WC.ret ?_
 refine ⟨.inr rfl, [_], ⟨rfl, trivial⟩, [(b_r, .cells (List.toArray [v0, v1, v2, v3, v4, v5, v6, .bool pt, .bool dn, .int .i64 z0, .bool z1, .string z2.b, .slice none 0 0]) 98 (0, 0))], List.Sublist.refl _, ?_⟩
 exact ⟨rfl, by simp⟩

theorem rdansw1_fc {G : GH} {b_r : Nat} {v0 v1 v2 v3 v4 v5 v6 : Value} {pt : Bool} {dn : Bool} {z0 : Int} {z1 : Bool} {z2 : Str} (hd : dn = true) :
    Fc Tryz.prog 19 [.pointer (some ⟨b_r, 0, none⟩)] G [(b_r, .cells (List.toArray [v0, v1, v2, v3, v4, v5, v6, .bool pt, .bool dn, .int .i64 z0, .bool z1, .string z2.b, .slice none 0 0]) 98 (0, 0))] (fun v G' M' => v = .agg (List.toArray [.int .i64 z0, .bool z1, .string z2.b, .slice none 0 0]) ∧ M' = (b_r, .cells (List.toArray [v0, v1, v2, v3, v4, v5, v6, .bool pt, .bool dn, .int .i64 z0, .bool z1, .string z2.b, .slice none 0 0]) 98 (0, 0)) :: []) := by
 refine Fc.intro (rs := [.cell 2 56]) cl19 Tryz.func19 rfl Tryz.ntmps19 rfl rfl (fun w0 => ?_)
 refine WC.seq ?_
 refine WC.region ?_
 refine W.alloc zr56 (fun b1 => ?_)
 refine W.nil (thn_n ?_)
 refine WC.seq ?_
 refine WC.seq ?_
 refine WC.region ?_
 refine W.mv ?_
 refine W.call (Mp := ((b_r, .cells (List.toArray [v0, v1, v2, v3, v4, v5, v6, .bool pt, .bool dn, .int .i64 z0, .bool z1, .string z2.b, .slice none 0 0]) 98 (0, 0)) :: [])) (Mr := ((b1, .cells (List.toArray [.int .i64 0, .bool false, .string ⟨#[]⟩, .slice none 0 0]) 56 (0, 0)) :: [])) (rddone_fc) rfl (((List.Perm.refl _).cons _).trans ((List.Perm.swap _ _ _).trans ((List.Perm.refl _).cons _))) ?_
 intro v5 G2 Ms4 hG2 q3
 refine match q3 with | ⟨e_6, e_7⟩ => ?_
 subst e_6
 subst e_7
 refine W.perm (M' := [(b1, .cells (List.toArray [.int .i64 0, .bool false, .string ⟨#[]⟩, .slice none 0 0]) 56 (0, 0)), (b_r, .cells (List.toArray [v0, v1, v2, v3, v4, v5, v6, .bool pt, .bool dn, .int .i64 z0, .bool z1, .string z2.b, .slice none 0 0]) 98 (0, 0))]) (((List.Perm.refl _).cons _).trans ((List.Perm.swap _ _ _).trans ((List.Perm.refl _).cons _))).symm ?_
 refine W.ok (ok_not rfl) ?_
 refine W.nil (thn_n ?_)
 refine WC.cond (b := _) rfl (fun h5 => ?_) (fun h5 => ?_)
 ·exact absurd h5 (by rw [hd]; decide)
 ·refine WC.skip (thn_n ?_)
  refine WC.seq ?_
  refine WC.region ?_
  refine W.mv ?_
  refine W.ok (ok_nilP rfl) ?_
  refine W.ok (ok_fieldB fd98_8 rfl) ?_
  refine W.ok (ok_loadB (i := 1) (vs := [.int .i64 _, .bool _, .string _, .slice _ _ _]) ty56 rfl rfl rfl rfl (by simp)) ?_
  refine W.store (i := 0) (vs := [.int .i64 _, .bool _, .string _, .slice _ _ _]) (L' := [.int .i64 _, .bool _, .string _, .slice _ _ _]) ty56 rfl rfl rfl rfl rfl rfl rfl rfl ?_
  refine W.nil (thn_n ?_)
  refine WC.ret ?_
  refine ⟨.inr rfl, [_], ⟨⟨_, _, _, _, _, rfl, nthM_mem (i := 0) rfl, ty56, (by simp), rfl, rfl⟩, trivial⟩, ((b_r, .cells (List.toArray [v0, v1, v2, v3, v4, v5, v6, .bool pt, .bool dn, .int .i64 z0, .bool z1, .string z2.b, .slice none 0 0]) 98 (0, 0)) :: []), ((List.Sublist.refl _).cons_cons _).cons _, ?_⟩
  exact ⟨rfl, by simp⟩

theorem rdansw0_fc {G : GH} {b_r : Nat} {v0 v1 v2 v3 v4 v5 v6 : Value} {pt : Bool} {dn : Bool} {z0 : Int} {z1 : Bool} {z2 : Str} (hd : dn = false) :
    Fc Tryz.prog 19 [.pointer (some ⟨b_r, 0, none⟩)] G [(b_r, .cells (List.toArray [v0, v1, v2, v3, v4, v5, v6, .bool pt, .bool dn, .int .i64 z0, .bool z1, .string z2.b, .slice none 0 0]) 98 (0, 0))] (fun v G' M' => v = .agg (List.toArray [.int .i64 0, .bool false, .string Str.nil.b, .slice none 0 0]) ∧ M' = (b_r, .cells (List.toArray [v0, v1, v2, v3, v4, v5, v6, .bool pt, .bool dn, .int .i64 z0, .bool z1, .string z2.b, .slice none 0 0]) 98 (0, 0)) :: []) := by
 refine Fc.intro (rs := [.cell 2 56]) cl19 Tryz.func19 rfl Tryz.ntmps19 rfl rfl (fun w0 => ?_)
 refine WC.seq ?_
 refine WC.region ?_
 refine W.alloc zr56 (fun b8 => ?_)
 refine W.nil (thn_n ?_)
 refine WC.seq ?_
 refine WC.seq ?_
 refine WC.region ?_
 refine W.mv ?_
 refine W.call (Mp := ((b_r, .cells (List.toArray [v0, v1, v2, v3, v4, v5, v6, .bool pt, .bool dn, .int .i64 z0, .bool z1, .string z2.b, .slice none 0 0]) 98 (0, 0)) :: [])) (Mr := ((b8, .cells (List.toArray [.int .i64 0, .bool false, .string ⟨#[]⟩, .slice none 0 0]) 56 (0, 0)) :: [])) (rddone_fc) rfl (((List.Perm.refl _).cons _).trans ((List.Perm.swap _ _ _).trans ((List.Perm.refl _).cons _))) ?_
 intro v12 G9 Ms11 hG9 q10
 refine match q10 with | ⟨e_13, e_14⟩ => ?_
 subst e_13
 subst e_14
 refine W.perm (M' := [(b8, .cells (List.toArray [.int .i64 0, .bool false, .string ⟨#[]⟩, .slice none 0 0]) 56 (0, 0)), (b_r, .cells (List.toArray [v0, v1, v2, v3, v4, v5, v6, .bool pt, .bool dn, .int .i64 z0, .bool z1, .string z2.b, .slice none 0 0]) 98 (0, 0))]) (((List.Perm.refl _).cons _).trans ((List.Perm.swap _ _ _).trans ((List.Perm.refl _).cons _))).symm ?_
 refine W.ok (ok_not rfl) ?_
 refine W.nil (thn_n ?_)
 refine WC.cond (b := _) rfl (fun h5 => ?_) (fun h5 => ?_)
 ·refine WC.seq ?_
  refine WC.region ?_
  refine W.ok (ok_build (L := [.int .i64 _, .bool _, .string _, .slice _ _ _]) pl56 zr56 rfl rfl rfl) ?_
  refine W.store (i := 0) (vs := [.int .i64 _, .bool _, .string _, .slice _ _ _]) (L' := [.int .i64 _, .bool _, .string _, .slice _ _ _]) ty56 rfl rfl rfl rfl rfl rfl rfl rfl ?_
  refine W.nil (thn_n ?_)
  refine WC.ret (thn_r ?_)
  refine ⟨.inr rfl, [_], ⟨⟨_, _, _, _, _, rfl, nthM_mem (i := 0) rfl, ty56, (by simp), rfl, rfl⟩, trivial⟩, ((b_r, .cells (List.toArray [v0, v1, v2, v3, v4, v5, v6, .bool pt, .bool dn, .int .i64 z0, .bool z1, .string z2.b, .slice none 0 0]) 98 (0, 0)) :: []), ((List.Sublist.refl _).cons_cons _).cons _, ?_⟩
  exact ⟨rfl, by simp⟩
 ·exact absurd h5 (by rw [hd]; decide)

theorem rdstepd_fc {G : GH} {b_r : Nat} {v0 v1 v2 v3 v4 v5 v6 : Value} {pt : Bool} {dn : Bool} {z0 : Int} {z1 : Bool} {z2 : Str} (hd : dn = true) :
    Fc Tryz.prog 13 [.pointer (some ⟨b_r, 0, none⟩)] G [(b_r, .cells (List.toArray [v0, v1, v2, v3, v4, v5, v6, .bool pt, .bool dn, .int .i64 z0, .bool z1, .string z2.b, .slice none 0 0]) 98 (0, 0))] (fun v G' M' => v = .bool false ∧ M' = (b_r, .cells (List.toArray [v0, v1, v2, v3, v4, v5, v6, .bool pt, .bool dn, .int .i64 z0, .bool z1, .string z2.b, .slice none 0 0]) 98 (0, 0)) :: []) := by
 refine Fc.intro (rs := [.tmp 2]) cl13 Tryz.func13 rfl Tryz.ntmps13 rfl rfl (fun w0 => ?_)
 refine WC.seq ?_
 refine WC.region ?_
 refine W.as ?_
 refine W.nil (thn_n ?_)
 refine WC.seq ?_
 refine WC.seq ?_
 refine WC.region ?_
 refine W.mv ?_
 refine W.ok (ok_eqlPN pp49 rfl rfl) ?_
 refine W.mv ?_
 refine W.yes (dj := 5) rfl rfl rfl ?_
 refine W.mv ?_
 refine W.yes (dj := 5) rfl rfl rfl ?_
 refine W.ok (ok_nilP rfl) ?_
 refine W.yes (dj := 5) rfl rfl rfl ?_
 refine W.ok (ok_fieldB fd98_7 rfl) ?_
 refine W.yes (dj := 5) rfl rfl rfl ?_
 refine W.ok (ok_loadB (i := 0) (vs := [.bool _]) ty4 rfl rfl rfl rfl (by simp)) ?_
 refine W.ok (ok_pick_f rfl rfl) ?_
 refine W.nil (thn_n ?_)
 refine WC.cond (b := _) rfl (fun ha_dn => ?_) (fun ha_dn => ?_)
 ·refine WC.seq ?_
  refine WC.region ?_
  refine W.as ?_
  refine W.nil (thn_n ?_)
  refine WC.ret (thn_r ?_)
  refine ⟨.inr rfl, [_], ⟨rfl, trivial⟩, [(b_r, .cells (List.toArray [v0, v1, v2, v3, v4, v5, v6, .bool pt, .bool dn, .int .i64 z0, .bool z1, .string z2.b, .slice none 0 0]) 98 (0, 0))], List.Sublist.refl _, ?_⟩
  exact ⟨rfl, by simp⟩
 ·exact absurd ha_dn (by rw [hd]; decide)

end Go.Proofs.YtgmnljhiojdigaaGreat
namespace Go.Fw
open Go Go.RowKit
structure RSt where
  fr : Int
  x : Seat
  look : Bool
  L : List (List Msg)
  pt : Bool
  dn : Bool
  most : Int
  W : Lat
noncomputable def rstepN (l : List Nd) (k : Str) (th : Int) : RSt → Bool × RSt
  | ⟨fr, x, look, L, pt, true, most, W⟩ => (false, ⟨fr, x, look, L, pt, true, most, W⟩)
  | ⟨fr, x, true, L, pt, false, most, W⟩ =>
    if x.n.level ≤ 0 then (true, ⟨x.n.slot, x, false, L, false, true, most, ldropN W th⟩)
    else (true, ⟨x.n.slot, kidSt l x (routeN x.n.pivots k), false, L ++ [x.n.msgs], false, false, most, W⟩)
  | ⟨fr, x, false, L, pt, false, most, W⟩ =>
    if (htakeN W th x.n.slot false).1 = true then (true, ⟨fr, x, true, L, decide (fr = -1), false, hmost (htakeN W th x.n.slot false).2 th most, (lrelN (htakeN W th x.n.slot false).2 th fr).2⟩)
    else (false, ⟨fr, x, false, L, false, false, most, (htakeN W th x.n.slot false).2⟩)
noncomputable def ransN (l : List Nd) (k : Str) (dn : Bool) : Option Str := if dn = true then getN (mapN l) k else none
def RdR (TT TO TI TH TC TR TL te tB ti tb TS : TypeId) (ft fl : FuncId) (Th : List Int) (c : Cfg) (k : Str) (th : Int) (l : List Nd) (ss : List Seat) (br bh bc bt bs bm : Nat) (mp : List (Int × Option Nat)) (wt : Int) (G : GH) (st : RSt) (Ms : MH) : Prop :=
  ∃ vl vw Mt Mm Ml Mst, Ms.Perm ((br, .cells (List.toArray [.int .i64 st.fr, .int .i64 st.x.n.slot, .pointer (some ⟨bc, 0, none⟩), .pointer (some ⟨bh, 0, none⟩), .string k.b, .func (.func (if st.look = true then fl else ft)) #[] #[], vl, .bool st.pt, .bool st.dn, .int .i64 0, .bool (ransN l k st.dn).isSome, .string ((ransN l k st.dn).getD Str.nil).b, .slice none 0 0]) TR (0, 0))
    :: (bh, .cells (List.toArray [.pointer (some ⟨bc, 0, none⟩), .int .i64 th, .pointer vw, .int .i64 st.most]) TH (0, 0)) :: (bc, .cells (List.toArray [.pointer (some ⟨bs, 0, none⟩), .pointer (some ⟨bt, 0, none⟩), .map (some bm), .int .i64 wt, .int .i64 0]) TC (0, 0)) :: (Mt ++ (Mm ++ (Ml ++ Mst))))
    ∧ TabR TT TO TI Th bt G st.W Mt ∧ MpR vPtr bm G mp Mm ∧ (st.dn = false → OwnR (eSl eMsg) TL G vl st.L Ml ∧ Rp l ss k st.x st.L) ∧ StR te tB ti tb TS bs c G l Mst
theorem RdR.mono {TT TO TI TH TC TR TL te tB ti tb TS : TypeId} {ft fl : FuncId} {Th : List Int} {c : Cfg} {k : Str} {th : Int} {l : List Nd} {ss : List Seat} {br bh bc bt bs bm : Nat} {mp : List (Int × Option Nat)} {wt : Int} {G G' : GH} {st : RSt} {Ms : MH} (hl : Le G G')
    (h : RdR TT TO TI TH TC TR TL te tB ti tb TS ft fl Th c k th l ss br bh bc bt bs bm mp wt G st Ms) : RdR TT TO TI TH TC TR TL te tB ti tb TS ft fl Th c k th l ss br bh bc bt bs bm mp wt G' st Ms := by
  obtain ⟨vl, vw, Mt, Mm, Ml, Mst, hp, hT, hM, hx, hS⟩ := h
  exact ⟨vl, vw, Mt, Mm, Ml, Mst, hp, hT.mono hl, hM.mono hl, fun hd => ⟨(hx hd).1.mono hl, (hx hd).2⟩, hS.mono hl⟩
theorem RdR.cast {TT TO TI TH TC TR TL te tB ti tb TS : TypeId} {ft fl : FuncId} {Th : List Int} {c : Cfg} {k : Str} {th : Int} {l : List Nd} {ss : List Seat} {br bh bc bt bs bm : Nat} {mp : List (Int × Option Nat)} {wt : Int} {G : GH} {st st' : RSt} {Ms : MH} (e : st' = st)
    (h : RdR TT TO TI TH TC TR TL te tB ti tb TS ft fl Th c k th l ss br bh bc bt bs bm mp wt G st Ms) : RdR TT TO TI TH TC TR TL te tB ti tb TS ft fl Th c k th l ss br bh bc bt bs bm mp wt G st' Ms := e ▸ h
theorem Fc.sub {P : Program} {g : FuncId} {vs : List Value} {G : GH} {M M1 R : MH} {Q : Value → GH → MH → Prop} (hp : (M1 ++ R).Perm M) (h : Fc P g vs G M1 Q) : Fc P g vs G M (fun v G' M' => ∃ M2, M' = M2 ++ R ∧ Q v G' M2) := Fc.perm hp (Fc.frame h)
theorem perm_c {a b c : Nat × Obj} {Mt R : MH} : ((c :: Mt) ++ (a :: b :: R)).Perm (a :: b :: c :: (Mt ++ R)) := of_mq (by simp only [mq_app, mq_cons]; ac_rfl)
theorem perm_h {a b c : Nat × Obj} {Mt R : MH} : ((b :: c :: Mt) ++ (a :: R)).Perm (a :: b :: c :: (Mt ++ R)) := of_mq (by simp only [mq_app, mq_cons]; ac_rfl)
theorem perm_m {a b c : Nat × Obj} {Mt Mm R : MH} : ((c :: Mm) ++ (a :: b :: (Mt ++ R))).Perm (a :: b :: c :: (Mt ++ (Mm ++ R))) := of_mq (by simp only [mq_app, mq_cons]; ac_rfl)
theorem perm_s {a b c : Nat × Obj} {Mt Mm Ml Ms : MH} : (Ms ++ (a :: b :: c :: (Mt ++ (Mm ++ Ml)))).Perm (a :: b :: c :: (Mt ++ (Mm ++ (Ml ++ Ms)))) := of_mq (by simp only [mq_app, mq_cons]; ac_rfl)
theorem perm_l {a b c : Nat × Obj} {Mt Mm Ml Ms : MH} : ((a :: b :: c :: (Ml ++ (Mt ++ Ms))) ++ Mm).Perm (a :: b :: c :: (Mt ++ (Mm ++ (Ml ++ Ms)))) := of_mq (by simp only [mq_app, mq_cons]; ac_rfl)
theorem perm_k {a b c : Nat × Obj} {Mt Mm Ml Ms : MH} : ((a :: ((b :: c :: Mt) ++ (Ml ++ Ms))) ++ Mm).Perm (a :: b :: c :: (Mt ++ (Mm ++ (Ml ++ Ms)))) := of_mq (by simp only [mq_app, mq_cons]; ac_rfl)
theorem perm_j {a b c : Nat × Obj} {Mt Mm Ms : MH} : ((a :: ((b :: c :: Mt) ++ Ms)) ++ Mm).Perm (a :: b :: c :: (Mt ++ (Mm ++ ([] ++ Ms)))) := of_mq (by simp only [mq_app, mq_cons, zero_mq]; ac_rfl)
end Go.Fw
namespace Go.Proofs.YtgmnljhiojdigaaGreat
open Go Go.Fw Go.RowKit
theorem rdstep_of {G : GH} {b_r : Nat} {v0 v1 v2 v3 v4 : Value} {g : Nat} {v6 : Value} {pt : Bool} {z0 : Int} {z1 : Bool} {z2 : Str}  (Mx : MH) (Q : Value → GH → MH → Prop) (hF : Fc Tryz.prog g [.pointer (some ⟨b_r, 0, none⟩)] G ((b_r, .cells (List.toArray [v0, v1, v2, v3, v4, .func (.func g) #[] #[], v6, .bool false, .bool false, .int .i64 z0, .bool z1, .string z2.b, .slice none 0 0]) 98 (0, 0)) :: Mx) Q) :
    Fc Tryz.prog 13 [.pointer (some ⟨b_r, 0, none⟩)] G ((b_r, .cells (List.toArray [v0, v1, v2, v3, v4, .func (.func g) #[] #[], v6, .bool pt, .bool false, .int .i64 z0, .bool z1, .string z2.b, .slice none 0 0]) 98 (0, 0)) :: (Mx)) Q := by
 refine Fc.intro (rs := [.tmp 2]) cl13 Tryz.func13 rfl Tryz.ntmps13 rfl rfl (fun w0 => ?_)
 refine WC.perm (M' := ((b_r, .cells (List.toArray [v0, v1, v2, v3, v4, .func (.func g) #[] #[], v6, .bool pt, .bool false, .int .i64 z0, .bool z1, .string z2.b, .slice none 0 0]) 98 (0, 0)) :: (Mx ++ []))) (by simp) ?_
 refine WC.seq ?_
 refine WC.region ?_
 refine W.as ?_
 refine W.nil (thn_n ?_)
 refine WC.seq ?_
 refine WC.seq ?_
 refine WC.region ?_
 refine W.mv ?_
 refine W.ok (ok_eqlPN pp49 rfl rfl) ?_
 refine W.mv ?_
 refine W.yes (dj := 5) rfl rfl rfl ?_
 refine W.mv ?_
 refine W.yes (dj := 5) rfl rfl rfl ?_
 refine W.ok (ok_nilP rfl) ?_
 refine W.yes (dj := 5) rfl rfl rfl ?_
 refine W.ok (ok_fieldB fd98_7 rfl) ?_
 refine W.yes (dj := 5) rfl rfl rfl ?_
 refine W.ok (ok_loadB (i := 0) (vs := [.bool _]) ty4 rfl rfl rfl rfl (by simp)) ?_
 refine W.ok (ok_pick_f rfl rfl) ?_
 refine W.nil (thn_n ?_)
 refine WC.cond_f rfl rfl ?_
 refine WC.skip (thn_n ?_)
 refine WC.seq ?_
 refine WC.region ?_
 refine W.mv ?_
 refine W.ok (ok_nilP rfl) ?_
 refine W.ok (ok_fieldB fd98_6 rfl) ?_
 refine W.store (i := 0) (vs := [.bool _]) (L' := [_, _, _, _, _, _, _, .bool _, .bool _, .int .i64 _, .bool _, .string _, _]) ty4 rfl rfl rfl rfl rfl rfl rfl rfl ?_
 refine W.nil (thn_n ?_)
 refine WC.seq ?_
 refine WC.region ?_
 refine W.mv ?_
 refine W.ok (ok_nilP rfl) ?_
 refine W.ok (ok_fieldB fd98_4 rfl) ?_
 refine W.ok (ok_loadB (i := 0) (vs := [.func _ _ _]) ty96 rfl rfl rfl rfl (by simp)) ?_
 refine W.mv ?_
 refine W.callV (g := g) (fst := []) (caps := []) (Mp := (b_r, .cells (List.toArray [v0, v1, v2, v3, v4, .func (.func g) #[] #[], v6, .bool false, .bool false, .int .i64 z0, .bool z1, .string z2.b, .slice none 0 0]) 98 (0, 0)) :: Mx) (Mr := []) rfl hF rfl (List.Perm.refl _) ?_
 intro v4 G1 Ms3 hG1 q2
 refine W.as ?_
 refine W.nil (thn_n ?_)
 refine WC.ret ?_
 refine ⟨.inr rfl, [_], ⟨rfl, trivial⟩, Ms3, List.sublist_append_left _ _, ?_⟩
 exact q2

theorem rstep_fc {G : GH} {Th : List Int} {c : Cfg} {k : Str} {th : Int} {l : List Nd} {ss : List Seat} {br bh bc bt bs bm : Nat} {mp : List (Int × Option Nat)} {wt : Int} {st : RSt} {Ms : MH} (h : RdR 128 132 3 79 76 98 40 43 4 3 150 107 44 71 Th c k th l ss br bh bc bt bs bm mp wt G st Ms) {c2 : Cfg} (t : Tree c2 l ss) (hk300 : k.b.size ≤ 300) (hth : th ∈ Th) : Fc Tryz.prog 13 [.pointer (some ⟨br, 0, none⟩)] G Ms (fun v G' M' => v = .bool (rstepN l k th st).1 ∧ RdR 128 132 3 79 76 98 40 43 4 3 150 107 44 71 Th c k th l ss br bh bc bt bs bm mp wt G' (rstepN l k th st).2 M') := by
  obtain ⟨vl, vw, Mt, Mm, Ml, Mst, hp, hT, hM, hx, hS⟩ := h
  obtain ⟨fr, x, look, L, pt, dn, most, W⟩ := st
  cases dn with
  | true =>
    rw [show rstepN l k th ⟨fr, x, look, L, pt, true, most, W⟩ = (false, ⟨fr, x, look, L, pt, true, most, W⟩) by cases look <;> rfl]
    refine (Fc.sub (M1 := [_]) (R := _ :: _ :: (Mt ++ (Mm ++ (Ml ++ Mst)))) hp.symm (rdstepd_fc rfl)).mono ?_
    rintro v G' M' hl ⟨M2, rfl, rfl, rfl⟩
    exact ⟨rfl, vl, vw, Mt, Mm, Ml, Mst, List.Perm.refl _, hT.mono hl, hM.mono hl, fun h => Bool.noConfusion (show true = false from h), hS.mono hl⟩
  | false =>
    obtain ⟨hO, hg⟩ := hx rfl
    cases look with
    | true =>
      have hlv := t.lvl hg.mem
      by_cases h0 : x.n.level ≤ 0
      · rw [show rstepN l k th ⟨fr, x, true, L, pt, false, most, W⟩ = _ from if_pos h0]
        refine (Fc.sub (R := Mm) (perm_l.trans hp.symm) (rdstep_of (pt := pt) _ _ (rdlook0_fc hO hT hS t hg (Int.le_antisymm h0 hlv) hk300))).mono ?_
        rintro v G' M' hl ⟨M2, rfl, rfl, vl', Mh, Ms', rfl, ⟨vw', Mt', rfl, hT'⟩, hS'⟩
        exact ⟨rfl, vl', vw', Mt', Mm, [], Ms', perm_j, hT', hM.mono hl, fun h => Bool.noConfusion (show true = false from h), hS'⟩
      · rw [show rstepN l k th ⟨fr, x, true, L, pt, false, most, W⟩ = _ from if_neg h0]
        refine (Fc.sub (R := Mm) (perm_l.trans hp.symm) (rdstep_of (pt := pt) _ _ (rdlook1_fc hO hT hS t hg h0))).mono ?_
        rintro v G' M' hl ⟨M2, rfl, rfl, vl', Ml', Mh, Ms', rfl, hO', ⟨vw', Mt', rfl, hT'⟩, hS'⟩
        exact ⟨rfl, vl', vw', Mt', Mm, Ml', Ms', perm_k, hT', hM.mono hl, fun _ => ⟨hO', hg.next t (by omega) h0⟩, hS'⟩
    | false =>
      refine (Fc.sub (R := Mm ++ (Ml ++ Mst)) hp.symm (rdstep_of (pt := pt) _ _ (rdtake_fc (va := Str.nil) ⟨vw, Mt, rfl, hT⟩ hth))).mono ?_
      rintro v G' M' hl ⟨M2, rfl, (⟨hE, rfl, Mh, rfl, vw', Mt', rfl, hT'⟩ | ⟨hE, rfl, Mh, rfl, vw', Mt', rfl, hT'⟩)⟩
      · rw [show rstepN l k th ⟨fr, x, false, L, pt, false, most, W⟩ = _ from if_pos hE]
        exact ⟨rfl, vl, vw', Mt', Mm, Ml, Mst, List.Perm.refl _, hT', hM.mono hl, fun _ => ⟨hO.mono hl, hg⟩, hS.mono hl⟩
      · rw [show rstepN l k th ⟨fr, x, false, L, pt, false, most, W⟩ = _ from if_neg (by rw [hE]; decide)]
        exact ⟨rfl, vl, vw', Mt', Mm, Ml, Mst, List.Perm.refl _, hT', hM.mono hl, fun _ => ⟨hO.mono hl, hg⟩, hS.mono hl⟩
theorem rdone_fc {G : GH} {Th : List Int} {c : Cfg} {k : Str} {th : Int} {l : List Nd} {ss : List Seat} {br bh bc bt bs bm : Nat} {mp : List (Int × Option Nat)} {wt : Int} {st : RSt} {Ms : MH} (h : RdR 128 132 3 79 76 98 40 43 4 3 150 107 44 71 Th c k th l ss br bh bc bt bs bm mp wt G st Ms) : Fc Tryz.prog 14 [.pointer (some ⟨br, 0, none⟩)] G Ms (fun v G' M' => v = .bool st.dn ∧ RdR 128 132 3 79 76 98 40 43 4 3 150 107 44 71 Th c k th l ss br bh bc bt bs bm mp wt G' st M') := by
  obtain ⟨vl, vw, Mt, Mm, Ml, Mst, hp, hT, hM, hx, hS⟩ := h
  refine (Fc.sub (M1 := [_]) (R := _ :: _ :: (Mt ++ (Mm ++ (Ml ++ Mst)))) hp.symm rddone_fc).mono ?_
  rintro v G' M' hl ⟨M2, rfl, rfl, rfl⟩
  exact ⟨rfl, vl, vw, Mt, Mm, Ml, Mst, List.Perm.refl _, hT.mono hl, hM.mono hl, fun hd => ⟨(hx hd).1.mono hl, (hx hd).2⟩, hS.mono hl⟩
theorem rpoint_fc {G : GH} {Th : List Int} {c : Cfg} {k : Str} {th : Int} {l : List Nd} {ss : List Seat} {br bh bc bt bs bm : Nat} {mp : List (Int × Option Nat)} {wt : Int} {st : RSt} {Ms : MH} (h : RdR 128 132 3 79 76 98 40 43 4 3 150 107 44 71 Th c k th l ss br bh bc bt bs bm mp wt G st Ms) : Fc Tryz.prog 21 [.pointer (some ⟨br, 0, none⟩)] G Ms (fun v G' M' => v = .bool st.pt ∧ RdR 128 132 3 79 76 98 40 43 4 3 150 107 44 71 Th c k th l ss br bh bc bt bs bm mp wt G' st M') := by
  obtain ⟨vl, vw, Mt, Mm, Ml, Mst, hp, hT, hM, hx, hS⟩ := h
  refine (Fc.sub (M1 := [_]) (R := _ :: _ :: (Mt ++ (Mm ++ (Ml ++ Mst)))) hp.symm rdpoint_fc).mono ?_
  rintro v G' M' hl ⟨M2, rfl, rfl, rfl⟩
  exact ⟨rfl, vl, vw, Mt, Mm, Ml, Mst, List.Perm.refl _, hT.mono hl, hM.mono hl, fun hd => ⟨(hx hd).1.mono hl, (hx hd).2⟩, hS.mono hl⟩
theorem ransw_fc {G : GH} {Th : List Int} {c : Cfg} {k : Str} {th : Int} {l : List Nd} {ss : List Seat} {br bh bc bt bs bm : Nat} {mp : List (Int × Option Nat)} {wt : Int} {st : RSt} {Ms : MH} (h : RdR 128 132 3 79 76 98 40 43 4 3 150 107 44 71 Th c k th l ss br bh bc bt bs bm mp wt G st Ms) : Fc Tryz.prog 19 [.pointer (some ⟨br, 0, none⟩)] G Ms (fun v G' M' => v = .agg (List.toArray [.int .i64 0, .bool (ransN l k st.dn).isSome, .string ((ransN l k st.dn).getD Str.nil).b, .slice none 0 0]) ∧ RdR 128 132 3 79 76 98 40 43 4 3 150 107 44 71 Th c k th l ss br bh bc bt bs bm mp wt G' st M') := by
  obtain ⟨vl, vw, Mt, Mm, Ml, Mst, hp, hT, hM, hx, hS⟩ := h
  cases hd : st.dn with
  | true =>
    rw [hd] at hp
    refine (Fc.sub (M1 := [_]) (R := _ :: _ :: (Mt ++ (Mm ++ (Ml ++ Mst)))) hp.symm (rdansw1_fc rfl)).mono ?_
    rintro v G' M' hl ⟨M2, rfl, rfl, rfl⟩
    exact ⟨rfl, vl, vw, Mt, Mm, Ml, Mst, by rw [hd]; exact List.Perm.refl _, hT.mono hl, hM.mono hl, fun hd => ⟨(hx hd).1.mono hl, (hx hd).2⟩, hS.mono hl⟩
  | false =>
    rw [hd] at hp
    refine (Fc.sub (M1 := [_]) (R := _ :: _ :: (Mt ++ (Mm ++ (Ml ++ Mst)))) hp.symm (rdansw0_fc rfl)).mono ?_
    rintro v G' M' hl ⟨M2, rfl, rfl, rfl⟩
    exact ⟨rfl, vl, vw, Mt, Mm, Ml, Mst, by rw [hd]; exact List.Perm.refl _, hT.mono hl, hM.mono hl, fun hd => ⟨(hx hd).1.mono hl, (hx hd).2⟩, hS.mono hl⟩
theorem rstore_fc {G : GH} {Th : List Int} {c : Cfg} {k : Str} {th : Int} {l : List Nd} {ss : List Seat} {br bh bc bt bs bm : Nat} {mp : List (Int × Option Nat)} {wt : Int} {st : RSt} {Ms : MH} (h : RdR 128 132 3 79 76 98 40 43 4 3 150 107 44 71 Th c k th l ss br bh bc bt bs bm mp wt G st Ms) : Fc Tryz.prog 24 [.pointer (some ⟨bc, 0, none⟩)] G Ms (fun v G' M' => v = .pointer (some ⟨bs, 0, none⟩) ∧ RdR 128 132 3 79 76 98 40 43 4 3 150 107 44 71 Th c k th l ss br bh bc bt bs bm mp wt G' st M') := by
  obtain ⟨vl, vw, Mt, Mm, Ml, Mst, hp, hT, hM, hx, hS⟩ := h
  refine (Fc.sub (perm_c.trans hp.symm) (cstore0_fc hT)).mono ?_
  rintro v G' M' hl ⟨M2, rfl, rfl, Mt', rfl, hT'⟩
  exact ⟨rfl, vl, vw, Mt', Mm, Ml, Mst, perm_c, hT', hM.mono hl, fun hd => ⟨(hx hd).1.mono hl, (hx hd).2⟩, hS.mono hl⟩
theorem rnodes_fc {G : GH} {Th : List Int} {c : Cfg} {k : Str} {th : Int} {l : List Nd} {ss : List Seat} {br bh bc bt bs bm : Nat} {mp : List (Int × Option Nat)} {wt : Int} {st : RSt} {Ms : MH} (h : RdR 128 132 3 79 76 98 40 43 4 3 150 107 44 71 Th c k th l ss br bh bc bt bs bm mp wt G st Ms) : Fc Tryz.prog 25 [.pointer (some ⟨bs, 0, none⟩)] G Ms (fun v G' M' => SlR eNode G' v l ∧ RdR 128 132 3 79 76 98 40 43 4 3 150 107 44 71 Th c k th l ss br bh bc bt bs bm mp wt G' st M') := by
  obtain ⟨vl, vw, Mt, Mm, Ml, Mst, hp, hT, hM, hx, hS⟩ := h
  refine (Fc.sub (perm_s.trans hp.symm) (pnodes_fc hS)).mono ?_
  rintro v G' M' hl ⟨M2, rfl, hv, rfl⟩
  exact ⟨hv, vl, vw, Mt, Mm, Ml, _, perm_s, hT.mono hl, hM.mono hl, fun hd => ⟨(hx hd).1.mono hl, (hx hd).2⟩, hS.mono hl⟩
theorem rholds_fc {G : GH} {Th : List Int} {c : Cfg} {k : Str} {th : Int} {l : List Nd} {ss : List Seat} {br bh bc bt bs bm : Nat} {mp : List (Int × Option Nat)} {wt : Int} {st : RSt} {Ms : MH} (h : RdR 128 132 3 79 76 98 40 43 4 3 150 107 44 71 Th c k th l ss br bh bc bt bs bm mp wt G st Ms) : Fc Tryz.prog 20 [.pointer (some ⟨bc, 0, none⟩)] G Ms (fun v G' M' => SlR eHld G' v (lpickN (fun _ => true) st.W) ∧ RdR 128 132 3 79 76 98 40 43 4 3 150 107 44 71 Th c k th l ss br bh bc bt bs bm mp wt G' st M') := by
  obtain ⟨vl, vw, Mt, Mm, Ml, Mst, hp, hT, hM, hx, hS⟩ := h
  refine (Fc.sub (perm_c.trans hp.symm) (cholds0_fc hT)).mono ?_
  rintro v G' M' hl ⟨M2, rfl, hv, Mt', rfl, hT'⟩
  exact ⟨hv, vl, vw, Mt', Mm, Ml, Mst, perm_c, hT', hM.mono hl, fun hd => ⟨(hx hd).1.mono hl, (hx hd).2⟩, hS.mono hl⟩
theorem rhand_fc {G : GH} {Th : List Int} {c : Cfg} {k : Str} {th : Int} {l : List Nd} {ss : List Seat} {br bh bc bt bs bm : Nat} {mp : List (Int × Option Nat)} {wt : Int} {st : RSt} {Ms : MH} (h : RdR 128 132 3 79 76 98 40 43 4 3 150 107 44 71 Th c k th l ss br bh bc bt bs bm mp wt G st Ms) (t1 : Int) (b9 : Nat) (hth0 : ¬ t1 < 0) (hm9 : getM mp t1 = some (some b9)) : Fc Tryz.prog 8 [.pointer (some ⟨bc, 0, none⟩), .int .i64 t1] G Ms (fun v G' M' => v = .pointer (some ⟨b9, 0, none⟩) ∧ RdR 128 132 3 79 76 98 40 43 4 3 150 107 44 71 Th c k th l ss br bh bc bt bs bm mp wt G' st M') := by
  obtain ⟨vl, vw, Mt, Mm, Ml, Mst, hp, hT, hM, hx, hS⟩ := h
  refine (Fc.sub (perm_m.trans hp.symm) (hand1_fc hM t1 b9 hth0 hm9)).mono ?_
  rintro v G' M' hl ⟨M2, rfl, rfl, Mm', rfl, hM'⟩
  exact ⟨rfl, vl, vw, Mt, Mm', Ml, Mst, perm_m, hT.mono hl, hM', fun hd => ⟨(hx hd).1.mono hl, (hx hd).2⟩, hS.mono hl⟩
theorem rmost_fc {G : GH} {Th : List Int} {c : Cfg} {k : Str} {th : Int} {l : List Nd} {ss : List Seat} {br bh bc bt bs bm : Nat} {mp : List (Int × Option Nat)} {wt : Int} {st : RSt} {Ms : MH} (h : RdR 128 132 3 79 76 98 40 43 4 3 150 107 44 71 Th c k th l ss br bh bc bt bs bm mp wt G st Ms) : Fc Tryz.prog 22 [.pointer (some ⟨bh, 0, none⟩)] G Ms (fun v G' M' => v = .int .i64 st.most ∧ RdR 128 132 3 79 76 98 40 43 4 3 150 107 44 71 Th c k th l ss br bh bc bt bs bm mp wt G' st M') := by
  obtain ⟨vl, vw, Mt, Mm, Ml, Mst, hp, hT, hM, hx, hS⟩ := h
  refine (Fc.sub (perm_h.trans hp.symm) (hmost_fc ⟨vw, Mt, rfl, hT⟩)).mono ?_
  rintro v G' M' hl ⟨M2, rfl, rfl, vw', Mt', rfl, hT'⟩
  exact ⟨rfl, vl, vw', Mt', Mm, Ml, Mst, perm_h, hT', hM.mono hl, fun hd => ⟨(hx hd).1.mono hl, (hx hd).2⟩, hS.mono hl⟩
theorem rlet1_fc {G : GH} {Th : List Int} {c : Cfg} {k : Str} {th : Int} {l : List Nd} {ss : List Seat} {br bh bc bt bs bm : Nat} {mp : List (Int × Option Nat)} {wt : Int} {st : RSt} {Ms : MH} (h : RdR 128 132 3 79 76 98 40 43 4 3 150 107 44 71 Th c k th l ss br bh bc bt bs bm mp wt G st Ms) {b1 : Nat} {t1 m1 : Int} {w1 : Option Addr} : Fc Tryz.prog 15 [.pointer (some ⟨b1, 0, none⟩)] G ((b1, .cells (List.toArray [.pointer (some ⟨bc, 0, none⟩), .int .i64 t1, .pointer w1, .int .i64 m1]) 79 (0, 0)) :: Ms) (fun v G' M' => ∃ w2 Ms', v = .tuple #[] ∧ M' = (b1, .cells (List.toArray [.pointer (some ⟨bc, 0, none⟩), .int .i64 t1, .pointer w2, .int .i64 m1]) 79 (0, 0)) :: Ms' ∧ RdR 128 132 3 79 76 98 40 43 4 3 150 107 44 71 Th c k th l ss br bh bc bt bs bm mp wt G' ⟨st.fr, st.x, st.look, st.L, st.pt, st.dn, st.most, ldropN st.W t1⟩ Ms') := by
  obtain ⟨vl, vw, Mt, Mm, Ml, Mst, hp, hT, hM, hx, hS⟩ := h
  refine (Fc.sub (M1 := (b1, .cells (List.toArray [.pointer (some ⟨bc, 0, none⟩), .int .i64 t1, .pointer w1, .int .i64 m1]) 79 (0, 0)) :: _ :: Mt) ((perm_c.trans hp.symm).cons _) (hletall_fc ⟨w1, Mt, rfl, hT⟩)).mono ?_
  rintro v G' M' hl ⟨M2, rfl, rfl, vw', Mt', rfl, hT'⟩
  exact ⟨vw', _, rfl, rfl, vl, vw, Mt', Mm, Ml, Mst, perm_c, hT', hM.mono hl, fun hd => ⟨(hx hd).1.mono hl, (hx hd).2⟩, hS.mono hl⟩
end Go.Proofs.YtgmnljhiojdigaaGreat
namespace Go.Fw
open Go Go.RowKit
/-! ## Latches -/
section
variable {W : Lat} {th s f h : Int} {p : List Int × Int}
theorem atL_ne (hs : 0 ≤ s) (hf : 0 ≤ f) (hn : s ≠ f) : atL (W.set f.toNat p) s = atL W s := by
  unfold atL
  rw [List.getD_eq_getElem?_getD, List.getD_eq_getElem?_getD, List.getElem?_set_ne (by omega)]
theorem atL_set (hs : inL W s) : atL (W.set s.toNat p) s = p := by
  unfold atL
  rw [List.getD_eq_getElem?_getD, List.getElem?_set_self (inL_lt hs)]; rfl
theorem inL_set {i : Nat} : inL (W.set i p) s ↔ inL W s := by unfold inL; rw [List.length_set]
theorem set_back (hs : inL W s) (h : atL W s = p) : W.set s.toNat p = W := by
  rw [atL_eq hs (inL_lt hs)] at h
  rw [← h]; exact List.set_getElem_self _
theorem take_free (h0 : 0 ≤ th) (hs : inL W s) (h : atL W s = ([], 0)) : htakeN W th s false = (true, W.set s.toNat ([th], 1)) := by
  have h1 : W[s.toNat]'(inL_lt hs) = ([], 0) := by rw [← atL_eq hs (inL_lt hs), h]
  have h2 : lhasN W th s = false := by rw [(lhas_at hs).1, h1]; simp
  rw [htake_f (by intro h9; rw [h2] at h9; exact absurd h9.1 (by decide)), if_neg (by decide), take_0 (by omega) hs (by rw [h1]; simp) (by rw [h1]; simp), h1]
  rfl
theorem take_shut (h0 : 0 ≤ th) (hs : inL W s) (h : (atL W s).2 = 2) (hm : th ∉ (atL W s).1) : htakeN W th s false = (false, W) := by
  rw [atL_eq hs (inL_lt hs)] at h hm
  have h2 : lhasN W th s = false := by rw [(lhas_at hs).1]; exact decide_eq_false hm
  rw [htake_f (by intro h9; rw [h2] at h9; exact absurd h9.1 (by decide)), if_neg (by decide), take_7 (by omega) hs hm (.inl h)]
  rfl
theorem rel_one (hs : inL W s) (h9 : atL W s = ([th], h)) : (lrelN W th s).2 = W.set s.toNat ([], 0) := by
  have h1 : W[s.toNat]'(inL_lt hs) = ([th], h) := by rw [← atL_eq hs (inL_lt hs), h9]
  have h2 : lhasN W th s = true := by rw [(lhas_at hs).1, h1]; simp
  have h3 : outI th [th] = [] := by unfold outI; simp
  rw [rel_0 h2 hs, h1, h3]; rfl
theorem rel_none (hs : s < 0) : (lrelN W th s).2 = W := by rw [rel_8 (lhas_no (by unfold inL; omega)).1]
def ownK (W : Lat) (th : Int) (k : Nat) : List Hld := (heldK W k).filter fun h => decide (h.thread = th)
theorem ownK_succ {k : Nat} (hk : k < W.length) : ownK W th (k + 1) = ownK W th k ++ (inS (k : Int) W[k]).filter fun h => decide (h.thread = th) := by
  unfold ownK; rw [heldK_succ W hk, List.filter_append]
theorem lof_own : lofN W th = ownK W th W.length := rfl
theorem inS_none {k : Int} {p : List Int × Int} (h : th ∉ p.1) : (inS k p).filter (fun h => decide (h.thread = th)) = [] := by
  unfold inS
  rw [List.filter_eq_nil_iff]
  intro a ha
  obtain ⟨b, hb, rfl⟩ := List.mem_map.1 ha
  have : b ≠ th := fun e => h (e ▸ hb)
  simpa using this
theorem inS_one {k : Int} {h : Int} : (inS k ([th], h)).filter (fun h => decide (h.thread = th)) = [⟨th, k, decide (h = 2)⟩] := by
  unfold inS; simp
theorem own_none (hB : ∀ p ∈ W, th ∉ p.1) : ∀ k, k ≤ W.length → ownK W th k = []
  | 0, _ => rfl
  | k + 1, hk => by rw [ownK_succ (by omega), own_none hB k (by omega), inS_none (hB _ (List.getElem_mem _))]; rfl
theorem own_set {i : Nat} : ∀ k, k ≤ W.length → (ownK (W.set i ([th], h)) th k).length ≤ (ownK W th k).length + if i < k then 1 else 0
  | 0, _ => by simp [ownK, heldK]
  | k + 1, hk => by
    have ih := own_set (i := i) k (by omega)
    rw [ownK_succ (by rw [List.length_set]; omega), ownK_succ (by omega), List.length_append, List.length_append, List.getElem_set]
    by_cases e : i = k
    · rw [if_pos e, inS_one, if_pos (by omega)]
      rw [if_neg (by omega)] at ih
      simp only [List.length_cons, List.length_nil]; omega
    · rw [if_neg e]
      by_cases h9 : i < k
      · rw [if_pos h9] at ih; rw [if_pos (by omega)]; omega
      · rw [if_neg h9] at ih; rw [if_neg (by omega)]; omega
theorem lof_set {i : Nat} : (lofN (W.set i ([th], h)) th).length ≤ (lofN W th).length + 1 := by
  rw [lof_own, lof_own, List.length_set]
  have := own_set (W := W) (th := th) (h := h) (i := i) W.length (Nat.le_refl _)
  split at this <;> omega
theorem own_one (hB : ∀ p ∈ W, th ∉ p.1) {i : Nat} (hi : i < W.length) : ∀ k, k ≤ W.length → ownK (W.set i ([th], h)) th k = if i < k then [⟨th, (i : Int), decide (h = 2)⟩] else []
  | 0, _ => by simp [ownK, heldK]
  | k + 1, hk => by
    rw [ownK_succ (by rw [List.length_set]; omega), own_one hB hi k (by omega), List.getElem_set]
    by_cases e : i = k
    · subst e
      rw [if_pos rfl, inS_one, if_neg (by omega), if_pos (by omega)]; rfl
    · rw [if_neg e, inS_none (hB _ (List.getElem_mem _)), List.append_nil]
      by_cases h9 : i < k
      · rw [if_pos h9, if_pos (by omega)]
      · rw [if_neg h9, if_neg (by omega)]
theorem drop_one (hB : ∀ p ∈ W, th ∉ p.1) (hs : inL W s) (h0 : atL W s = ([], 0)) : ldropN (W.set s.toNat ([th], h)) th = W := by
  unfold ldropN
  rw [lof_own, List.length_set, own_one hB (inL_lt hs) W.length (Nat.le_refl _), if_pos (inL_lt hs)]
  have hs0 : ((s.toNat : Nat) : Int) = s := by have := hs.1; omega
  rw [hs0]
  show (lrelN (W.set s.toNat ([th], h)) th s).2 = W
  rw [rel_one (inL_set.2 hs) (atL_set hs), List.set_set]
  exact set_back hs h0
theorem free_at {n : Nat} : atL (List.replicate n ([], 0)) s = ([], 0) := by
  unfold atL
  rw [List.getD_eq_getElem?_getD, List.getElem?_replicate]
  split <;> rfl
theorem pick_free {n : Nat} {g : Hld → Bool} : lpickN g (List.replicate n ([], 0)) = [] := by
  have h : ∀ k, k ≤ n → heldK (List.replicate n (([] : List Int), (0 : Int))) k = [] := by
    intro k
    induction k with
    | zero => intro _; rfl
    | succ k ih => intro hk; rw [heldK_succ _ (by rw [List.length_replicate]; omega), ih (by omega), List.getElem_replicate]; rfl
  unfold lpickN
  rw [h _ (by rw [List.length_replicate]; exact Nat.le_refl _)]; rfl
end
section
variable {c : Cfg} {l : List Nd} {ss : List Seat} {k : Str} {th : Int} {B : Lat} {i : Nat} {st : RSt}
structure BaseOk (l : List Nd) (th : Int) (B : Lat) : Prop where
  len : l.length ≤ B.length
  pos : 0 ≤ th
  no : ∀ p ∈ B, th ∉ p.1
  one : ∀ s : Int, 0 ≤ s → s < l.length → atL B s = ([], 0) ∨ ((atL B s).2 = 2 ∧ th ∉ (atL B s).1)
structure RInv (l : List Nd) (ss : List Seat) (k : Str) (th : Int) (B : Lat) (i : Nat) (st : RSt) : Prop where
  dn : st.dn = false
  most : st.most ≤ 2
  rp : Rp l ss k st.x st.L
  ix : i = 2 * st.L.length + if st.look = true then 1 else 0
  way : ∃ P lv, At l ss k st.x P lv ∧ ∀ y ∈ P, atL B y.n.slot = ([], 0)
  hold : if st.look = true then st.W = B.set st.x.n.slot.toNat ([th], 1) ∧ atL B st.x.n.slot = ([], 0)
    else (st.fr = -1 ∧ st.L = [] ∧ st.W = B) ∨ ((0 ≤ st.fr ∧ st.fr < l.length ∧ st.fr ≠ st.x.n.slot) ∧ atL B st.fr = ([], 0) ∧ st.W = B.set st.fr.toNat ([th], 1) ∧ st.L ≠ [])
structure RDone (l : List Nd) (k : Str) (B : Lat) (st : RSt) : Prop where
  dn : st.dn = true
  most : st.most ≤ 2
  W : st.W = B
  way : ∀ y ∈ wayN l k, atL B y.n.slot = ([], 0)
noncomputable def rfarN (l : List Nd) : Nat := 2 * ((rootS l 0).n.level.toNat + 1)
theorem RInv.init (t : Tree c l ss) : RInv l ss k th B 0 ⟨-1, rootS l 0, false, [], false, false, 0, B⟩ :=
  ⟨rfl, (by decide : (0 : Int) ≤ 2), Rp.init t k, rfl, ⟨[], -1, At.init t k, fun y hy => by cases hy⟩, .inl ⟨rfl, rfl, rfl⟩⟩
theorem Tree.sub (t : Tree c l ss) (hB : BaseOk l th B) {x : Seat} (hx : x ∈ ss) : inL B x.n.slot := by
  obtain ⟨h1, _⟩ := t.nd hx
  have := hB.len
  exact ⟨h1.1, by omega⟩
theorem RInv.few (t : Tree c l ss) (h : RInv l ss k th B i st) : i < rfarN l := by
  have h1 := h.rp.len
  have h2 := t.lvl h.rp.mem
  have h3 := h.ix
  unfold rfarN
  split at h3 <;> omega
theorem kid_ne (t : Tree c l ss) {x : Seat} (hx : x ∈ ss) (h0 : ¬ x.n.level ≤ 0) : x.n.slot ≠ (kidSt l x (routeN x.n.pivots k)).n.slot := by
  intro e
  have ha := t.at hx (by omega) (t.route hx h0 k)
  obtain ⟨_, h1, _⟩ := t.nd hx
  obtain ⟨_, h2, _⟩ := t.nd ha.1
  have h3 : x.n = (kidSt l x (routeN x.n.pivots k)).n := h1.trans ((congrArg (getL l) e).trans h2.symm)
  have h4 := ha.2.2.2
  have h5 := congrArg Nd.level h3
  omega
theorem RInv.step (t : Tree c l ss) (hk : k.b.size < 140737488355328) (hB : BaseOk l th B) (h : RInv l ss k th B i st) :
    ((rstepN l k th st).1 = true ∧ (rstepN l k th st).2.pt = decide (i = 0) ∧ (RInv l ss k th B (i + 1) (rstepN l k th st).2 ∨ (i + 1 = rfarN l ∧ RDone l k B (rstepN l k th st).2)) ∧ (st.look = true ∨ atL B st.x.n.slot = ([], 0)))
    ∨ (st.look = false ∧ (atL B st.x.n.slot).2 = 2 ∧ (rstepN l k th st).1 = false ∧ RInv l ss k th B i (rstepN l k th st).2 ∧ (rstepN l k th st).2.look = false ∧ (rstepN l k th st).2.x = st.x) := by
  obtain ⟨fr, x, look, L, pt, dn, most, W⟩ := st
  obtain ⟨hd, hm, hr, hi, ⟨P, lv, hA, hP⟩, hh⟩ := h
  dsimp only at hd hm hr hi hA hh
  subst hd
  have hin := t.sub hB hr.mem
  obtain ⟨hs, _⟩ := t.nd hr.mem
  cases look with
  | true =>
    rw [if_pos rfl] at hi hh
    obtain ⟨rfl, hf⟩ := hh
    refine .inl ?_
    by_cases h0 : x.n.level ≤ 0
    · have e : rstepN l k th ⟨fr, x, true, L, pt, false, most, B.set x.n.slot.toNat ([th], 1)⟩ = (true, ⟨x.n.slot, x, false, L, false, true, most, ldropN (B.set x.n.slot.toNat ([th], 1)) th⟩) := if_pos h0
      rw [e]
      refine ⟨rfl, (decide_eq_false (by omega)).symm, .inr ⟨?_, rfl, hm, drop_one hB.no hin hf, ?_⟩, .inl rfl⟩
      · have h1 := hr.len
        have h2 := t.lvl hr.mem
        unfold rfarN; omega
      · rw [hA.last h0]
        intro y hy
        rcases List.mem_append.1 hy with h9 | h9
        · exact hP y h9
        · rw [List.mem_singleton.1 h9]; exact hf
    · have e : rstepN l k th ⟨fr, x, true, L, pt, false, most, B.set x.n.slot.toNat ([th], 1)⟩ = (true, ⟨x.n.slot, kidSt l x (routeN x.n.pivots k), false, L ++ [x.n.msgs], false, false, most, B.set x.n.slot.toNat ([th], 1)⟩) := if_neg h0
      rw [e]
      refine ⟨rfl, (decide_eq_false (by omega)).symm, .inl ⟨rfl, hm, hr.next t hk h0, ?_, ⟨_, _, hA.next t h0, fun y hy => ?_⟩, .inr ⟨⟨hs.1, hs.2, kid_ne t hr.mem h0⟩, hf, rfl, by simp⟩⟩, .inl rfl⟩
      · show i + 1 = 2 * (L ++ [x.n.msgs]).length + 0
        rw [List.length_append]; simp only [List.length_cons, List.length_nil]; omega
      · rcases List.mem_append.1 hy with h9 | h9
        · exact hP y h9
        · rw [List.mem_singleton.1 h9]; exact hf
  | false =>
    rw [if_neg (by decide)] at hi hh
    have key : ∀ (W : Lat) (fr : Int), inL W x.n.slot → atL W x.n.slot = atL B x.n.slot → (lofN W th).length ≤ 1 → ((lrelN (W.set x.n.slot.toNat ([th], 1)) th fr).2 = B.set x.n.slot.toNat ([th], 1) ∨ (atL B x.n.slot).2 = 2) →
        (fr = -1 ↔ L = []) → (∀ pt, RInv l ss k th B i ⟨fr, x, false, L, pt, false, most, W⟩) →
        ((rstepN l k th ⟨fr, x, false, L, pt, false, most, W⟩).1 = true ∧ (rstepN l k th ⟨fr, x, false, L, pt, false, most, W⟩).2.pt = decide (i = 0) ∧ (RInv l ss k th B (i + 1) (rstepN l k th ⟨fr, x, false, L, pt, false, most, W⟩).2 ∨ (i + 1 = rfarN l ∧ RDone l k B (rstepN l k th ⟨fr, x, false, L, pt, false, most, W⟩).2)) ∧ (false = true ∨ atL B x.n.slot = ([], 0)))
        ∨ (false = false ∧ (atL B x.n.slot).2 = 2 ∧ (rstepN l k th ⟨fr, x, false, L, pt, false, most, W⟩).1 = false ∧ RInv l ss k th B i (rstepN l k th ⟨fr, x, false, L, pt, false, most, W⟩).2 ∧ (rstepN l k th ⟨fr, x, false, L, pt, false, most, W⟩).2.look = false ∧ (rstepN l k th ⟨fr, x, false, L, pt, false, most, W⟩).2.x = x) := by
      intro W fr hiW ha hl hrel hfr hinv
      rcases hB.one x.n.slot hs.1 hs.2 with hf | ⟨hf, hn⟩
      · have hE := take_free hB.pos hiW (ha.trans hf)
        have hrel : (lrelN (W.set x.n.slot.toNat ([th], 1)) th fr).2 = B.set x.n.slot.toNat ([th], 1) := by
          rcases hrel with h9 | h9
          · exact h9
          · rw [hf] at h9; exact absurd h9 (by decide)
        have e : rstepN l k th ⟨fr, x, false, L, pt, false, most, W⟩ = (true, ⟨fr, x, true, L, decide (fr = -1), false, hmost (W.set x.n.slot.toNat ([th], 1)) th most, B.set x.n.slot.toNat ([th], 1)⟩) := by
          show (if _ then _ else _) = _
          rw [hE, if_pos rfl, hrel]
        rw [e]
        refine .inl ⟨rfl, decide_eq_decide.2 (hfr.trans ⟨fun h9 => by rw [hi, h9]; rfl, fun h9 => List.length_eq_zero_iff.1 (by omega)⟩), .inl ⟨rfl, ?_, hr, ?_, ⟨P, lv, hA, hP⟩, ⟨rfl, hf⟩⟩, .inr hf⟩
        · have h1 := lof_set (W := W) (th := th) (h := 1) (i := x.n.slot.toNat)
          show max most _ ≤ 2
          omega
        · show i + 1 = 2 * L.length + 1
          omega
      · have hE := take_shut hB.pos hiW (by rw [ha]; exact hf) (by rw [ha]; exact hn)
        have e : rstepN l k th ⟨fr, x, false, L, pt, false, most, W⟩ = (false, ⟨fr, x, false, L, false, false, most, W⟩) := by
          show (if _ then _ else _) = _
          rw [hE]; rfl
        rw [e]
        exact .inr ⟨rfl, hf, rfl, hinv false, rfl, rfl⟩
    rcases hh with ⟨rfl, rfl, rfl⟩ | ⟨⟨h1, h2, h3⟩, h4, rfl, h5⟩
    · refine key W (-1) hin rfl (by rw [lof_own, own_none hB.no _ (Nat.le_refl _)]; exact Nat.zero_le _) (.inl (rel_none (by omega))) ⟨fun _ => rfl, fun _ => rfl⟩ fun pt => ⟨rfl, hm, hr, hi, ⟨P, lv, hA, hP⟩, ?_⟩
      exact .inl ⟨rfl, rfl, rfl⟩
    · have hfi : inL B fr := ⟨h1, by have := hB.len; omega⟩
      refine key _ fr (inL_set.2 hin) (atL_ne hs.1 h1 (Ne.symm h3)) (Nat.le_trans lof_set (by rw [lof_own, own_none hB.no _ (Nat.le_refl _)]; exact Nat.le_refl _)) ?_ ⟨fun h9 => by omega, fun h9 => absurd h9 h5⟩ fun pt => ⟨rfl, hm, hr, hi, ⟨P, lv, hA, hP⟩, ?_⟩
      · refine .inl ?_
        have e : (B.set fr.toNat ([th], 1)).set x.n.slot.toNat ([th], 1) = (B.set x.n.slot.toNat ([th], 1)).set fr.toNat ([th], 1) := List.set_comm _ _ (by omega)
        rw [e, rel_one (inL_set.2 (inL_set.2 hfi)) (atL_set (inL_set.2 hfi)), List.set_set]
        exact set_back (inL_set.2 hfi) ((atL_ne h1 hs.1 h3).trans h4)
      · exact .inr ⟨⟨h1, h2, h3⟩, h4, rfl, h5⟩
end
def CoR (TT TO TI TC te tB ti tb TS : TypeId) (Th : List Int) (c : Cfg) (l : List Nd) (bc bs bt bm : Nat) (wt : Int) (mp : List (Int × Option Nat)) (G : GH) (W : Lat) (Ms : MH) : Prop :=
  ∃ Mt Mm Mst, Ms.Perm ((bc, .cells (List.toArray [.pointer (some ⟨bs, 0, none⟩), .pointer (some ⟨bt, 0, none⟩), .map (some bm), .int .i64 wt, .int .i64 0]) TC (0, 0)) :: (Mt ++ (Mm ++ Mst)))
    ∧ TabR TT TO TI Th bt G W Mt ∧ MpR vPtr bm G mp Mm ∧ StR te tB ti tb TS bs c G l Mst
theorem CoR.mono {TT TO TI TC te tB ti tb TS : TypeId} {Th : List Int} {c : Cfg} {l : List Nd} {bc bs bt bm : Nat} {wt : Int} {mp : List (Int × Option Nat)} {G G' : GH} {W : Lat} {Ms : MH} (hl : Le G G')
    (h : CoR TT TO TI TC te tB ti tb TS Th c l bc bs bt bm wt mp G W Ms) : CoR TT TO TI TC te tB ti tb TS Th c l bc bs bt bm wt mp G' W Ms := by
  obtain ⟨Mt, Mm, Mst, hp, hT, hM, hS⟩ := h
  exact ⟨Mt, Mm, Mst, hp, hT.mono hl, hM.mono hl, hS.mono hl⟩
theorem perm_n {a b c : Nat × Obj} {Mt Mm Ms : MH} : ((a :: b :: c :: Mm) ++ (Mt ++ Ms)).Perm (a :: b :: c :: (Mt ++ (Mm ++ ([] ++ Ms)))) := of_mq (by simp only [mq_app, mq_cons, zero_mq]; ac_rfl)
theorem perm_o {c : Nat × Obj} {Mt Mm Ms : MH} : (c :: (Ms ++ (Mt ++ Mm))).Perm (c :: (Mt ++ (Mm ++ Ms))) := of_mq (by simp only [mq_app, mq_cons]; ac_rfl)
theorem perm_p {c : Nat × Obj} {Mt Mm Ms : MH} : ((c :: Mm) ++ (Mt ++ Ms)).Perm (c :: (Mt ++ (Mm ++ Ms))) := of_mq (by simp only [mq_app, mq_cons]; ac_rfl)
end Go.Fw
namespace Go.Proofs.YtgmnljhiojdigaaGreat
open Go Go.Fw Go.RowKit
theorem rdnew_fc {G : GH} {b_c : Nat} {vS vT : Option Addr} {b_m : Nat} {mp : List (Int × Option Nat)} {Ms_m : MH} (h_m : MpR vPtr b_m G mp Ms_m) {wt : Int} {ch : Int} (th : Int) (key : Str) (hth0 : ¬ th < 0) (hm9 : getM mp th = none) :
    Fc Tryz.prog 12 [.pointer (some ⟨b_c, 0, none⟩), .int .i64 th, .string key.b] G ((b_c, .cells (List.toArray [.pointer vS, .pointer vT, .map (some b_m), .int .i64 wt, .int .i64 ch]) 76 (0, 0)) :: (Ms_m)) (fun v G' M' => ∃ b_r b_h Mm, v = .pointer (some ⟨b_r, 0, none⟩) ∧ M' = (b_r, .cells (List.toArray [.int .i64 (-1), .int .i64 0, .pointer (some ⟨b_c, 0, none⟩), .pointer (some ⟨b_h, 0, none⟩), .string key.b, .func (.func 44) #[] #[], .slice none 0 0, .bool false, .bool false, .int .i64 0, .bool false, .string Str.nil.b, .slice none 0 0]) 98 (0, 0)) :: ((b_h, .cells (List.toArray [.pointer (some ⟨b_c, 0, none⟩), .int .i64 th, .pointer none, .int .i64 0]) 79 (0, 0)) :: ((b_c, .cells (List.toArray [.pointer vS, .pointer vT, .map (some b_m), .int .i64 wt, .int .i64 ch]) 76 (0, 0)) :: Mm)) ∧ MpR vPtr b_m G' (putM mp th (some b_h)) Mm) := by
 refine Fc.intro (rs := [.tmp 6]) cl12 Tryz.func12 rfl Tryz.ntmps12 rfl rfl (fun w0 => ?_)
 refine WC.perm (M' := ((b_c, .cells (List.toArray [.pointer vS, .pointer vT, .map (some b_m), .int .i64 wt, .int .i64 ch]) 76 (0, 0)) :: (Ms_m ++ []))) (by simp) ?_
 refine WC.seq ?_
 refine WC.region ?_
 refine W.as ?_
 refine W.nil (thn_n ?_)
 refine WC.seq ?_
 refine WC.region ?_
 refine W.mv ?_
 refine W.mv ?_
 refine W.call (Mp := ((b_c, .cells (List.toArray [.pointer vS, .pointer vT, .map (some b_m), .int .i64 wt, .int .i64 ch]) 76 (0, 0)) :: Ms_m)) (Mr := []) (hand0_fc h_m th hth0 hm9) rfl (((List.Perm.refl _).cons _).trans (List.Perm.refl _)) ?_
 intro v5 G2 Ms4 hG2 q3
 refine match q3 with | ⟨b_h, Mm_u1, e_6, e_7, hm_u1⟩ => ?_
 subst e_6
 subst e_7
 refine W.perm (M' := ((b_c, .cells (List.toArray [.pointer vS, .pointer vT, .map (some b_m), .int .i64 wt, .int .i64 ch]) 76 (0, 0)) :: ((b_h, .cells (List.toArray [.pointer (some ⟨b_c, 0, none⟩), .int .i64 th, .pointer none, .int .i64 0]) 79 (0, 0)) :: (Mm_u1 ++ [])))) (((((List.Perm.refl _).cons _).trans (List.Perm.refl _)).cons _).trans ((List.Perm.swap _ _ _).trans ((List.Perm.refl _).cons _))).symm ?_
 refine W.as ?_
 refine W.nil (thn_n ?_)
 refine WC.seq ?_
 refine WC.seq ?_
 refine WC.region ?_
 refine W.mv ?_
 refine W.ok (ok_eqlPN pp32 rfl rfl) ?_
 refine W.nil (thn_n ?_)
 refine WC.cond_f rfl rfl ?_
 refine WC.skip (thn_n ?_)
 refine WC.seq ?_
 refine WC.region ?_
 refine W.ok (ok_build (L := [.int .i64 _, .int .i64 _]) pl95 zr95 rfl rfl rfl) ?_
 refine W.mv ?_
 refine W.mv ?_
 refine W.mv ?_
 refine W.ok (ok_build (L := [.int .i64 _, .int .i64 _, .pointer _, .pointer _, .string _, _, .slice _ _ _, .bool _, .bool _, .int .i64 _, .bool _, .string _, .slice _ _ _]) pl98 zr98 rfl rfl rfl) ?_
 refine W.box (L := [.int .i64 _, .int .i64 _, .pointer _, .pointer _, .string _, _, .slice _ _ _, .bool _, .bool _, .int .i64 _, .bool _, .string _, .slice _ _ _]) rfl rfl (fun b8 => ?_)
 refine W.as ?_
 refine W.nil (thn_n ?_)
 refine WC.perm (M' := ((b8, .cells (List.toArray [.int .i64 (-1), .int .i64 0, .pointer (some ⟨b_c, 0, none⟩), .pointer (some ⟨b_h, 0, none⟩), .string key.b, .func (.func 44) #[] #[], .slice none 0 0, .bool false, .bool false, .int .i64 0, .bool false, .string ⟨#[]⟩, .slice none 0 0]) 98 (0, 0)) :: ((b_h, .cells (List.toArray [.pointer (some ⟨b_c, 0, none⟩), .int .i64 th, .pointer none, .int .i64 0]) 79 (0, 0)) :: ((b_c, .cells (List.toArray [.pointer vS, .pointer vT, .map (some b_m), .int .i64 wt, .int .i64 ch]) 76 (0, 0)) :: (Mm_u1 ++ []))))) (((((((List.Perm.refl _).cons _).trans (List.Perm.refl _)).cons _).trans ((List.Perm.swap _ _ _).trans ((List.Perm.refl _).cons _))).cons _).trans (List.Perm.refl _)) ?_
 refine WC.ret ?_
 refine ⟨.inr rfl, [_], ⟨rfl, trivial⟩, ((b8, .cells (List.toArray [.int .i64 (-1), .int .i64 0, .pointer (some ⟨b_c, 0, none⟩), .pointer (some ⟨b_h, 0, none⟩), .string key.b, .func (.func 44) #[] #[], .slice none 0 0, .bool false, .bool false, .int .i64 0, .bool false, .string ⟨#[]⟩, .slice none 0 0]) 98 (0, 0)) :: ((b_h, .cells (List.toArray [.pointer (some ⟨b_c, 0, none⟩), .int .i64 th, .pointer none, .int .i64 0]) 79 (0, 0)) :: ((b_c, .cells (List.toArray [.pointer vS, .pointer vT, .map (some b_m), .int .i64 wt, .int .i64 ch]) 76 (0, 0)) :: Mm_u1))), (((List.sublist_append_left _ _).cons_cons _).cons_cons _).cons_cons _, ?_⟩
 exact ⟨b8, b_h, _, rfl, congrArg _ (congrArg _ (congrArg _ (by simp))), hm_u1⟩

theorem rdnewn_fc {G : GH} {b_c : Nat} {vS vT : Option Addr} {b_m : Nat} {mp : List (Int × Option Nat)} {Ms_m : MH} (h_m : MpR vPtr b_m G mp Ms_m) {wt : Int} {ch : Int} (th : Int) (key : Str) (hth0 : th < 0) :
    Fc Tryz.prog 12 [.pointer (some ⟨b_c, 0, none⟩), .int .i64 th, .string key.b] G ((b_c, .cells (List.toArray [.pointer vS, .pointer vT, .map (some b_m), .int .i64 wt, .int .i64 ch]) 76 (0, 0)) :: (Ms_m)) (fun v G' M' => v = .pointer none ∧ ∃ Mm, M' = (b_c, .cells (List.toArray [.pointer vS, .pointer vT, .map (some b_m), .int .i64 wt, .int .i64 ch]) 76 (0, 0)) :: Mm ∧ MpR vPtr b_m G' mp Mm) := by
 refine Fc.intro (rs := [.tmp 6]) cl12 Tryz.func12 rfl Tryz.ntmps12 rfl rfl (fun w0 => ?_)
 refine WC.perm (M' := ((b_c, .cells (List.toArray [.pointer vS, .pointer vT, .map (some b_m), .int .i64 wt, .int .i64 ch]) 76 (0, 0)) :: (Ms_m ++ []))) (by simp) ?_
 refine WC.seq ?_
 refine WC.region ?_
 refine W.as ?_
 refine W.nil (thn_n ?_)
 refine WC.seq ?_
 refine WC.region ?_
 refine W.mv ?_
 refine W.mv ?_
 refine W.call (Mp := ((b_c, .cells (List.toArray [.pointer vS, .pointer vT, .map (some b_m), .int .i64 wt, .int .i64 ch]) 76 (0, 0)) :: Ms_m)) (Mr := []) (handn_fc h_m th hth0) rfl (((List.Perm.refl _).cons _).trans (List.Perm.refl _)) ?_
 intro v13 G10 Ms12 hG10 q11
 refine match q11 with | ⟨e_14, Mm_u9, e_15, hm_u9⟩ => ?_
 subst e_14
 subst e_15
 refine W.perm (M' := ((b_c, .cells (List.toArray [.pointer vS, .pointer vT, .map (some b_m), .int .i64 wt, .int .i64 ch]) 76 (0, 0)) :: (Mm_u9 ++ []))) (((List.Perm.refl _).cons _).trans (List.Perm.refl _)).symm ?_
 refine W.as ?_
 refine W.nil (thn_n ?_)
 refine WC.seq ?_
 refine WC.seq ?_
 refine WC.region ?_
 refine W.mv ?_
 refine W.ok (ok_eqlPN pp32 rfl rfl) ?_
 refine W.nil (thn_n ?_)
 refine WC.cond_t rfl rfl ?_
 refine WC.seq ?_
 refine WC.region ?_
 refine W.as ?_
 refine W.nil (thn_n ?_)
 refine WC.ret (thn_r ?_)
 refine ⟨.inr rfl, [_], ⟨rfl, trivial⟩, ((b_c, .cells (List.toArray [.pointer vS, .pointer vT, .map (some b_m), .int .i64 wt, .int .i64 ch]) 76 (0, 0)) :: Mm_u9), (List.sublist_append_left _ _).cons_cons _, ?_⟩
 exact ⟨rfl, _, congrArg _ (by simp), hm_u9⟩

theorem rdstepn_fc {G : GH}  :
    Fc Tryz.prog 13 [.pointer none] G [] (fun v G' M' => v = .bool false ∧ M' = []) := by
 refine Fc.intro (rs := [.tmp 2]) cl13 Tryz.func13 rfl Tryz.ntmps13 rfl rfl (fun w0 => ?_)
 refine WC.seq ?_
 refine WC.region ?_
 refine W.as ?_
 refine W.nil (thn_n ?_)
 refine WC.seq ?_
 refine WC.seq ?_
 refine WC.region ?_
 refine W.mv ?_
 refine W.ok (ok_eqlPN pp49 rfl rfl) ?_
 refine W.mv ?_
 refine W.no (dj := 5) rfl rfl rfl ?_
 refine W.no (dj := 5) rfl rfl rfl ?_
 refine W.no (dj := 5) rfl rfl rfl ?_
 refine W.no (dj := 5) rfl rfl rfl ?_
 refine W.ok (ok_pick_t rfl rfl) ?_
 refine W.nil (thn_n ?_)
 refine WC.cond_t rfl rfl ?_
 refine WC.seq ?_
 refine WC.region ?_
 refine W.as ?_
 refine W.nil (thn_n ?_)
 refine WC.ret (thn_r ?_)
 refine ⟨.inr rfl, [_], ⟨rfl, trivial⟩, [], List.nil_sublist _, ?_⟩
 exact ⟨rfl, rfl⟩

theorem rddonen_fc {G : GH}  :
    Fc Tryz.prog 14 [.pointer none] G [] (fun v G' M' => v = .bool false ∧ M' = []) := by
 refine Fc.intro (rs := [.tmp 2]) cl14 Tryz.func14 rfl Tryz.ntmps14 rfl rfl (fun w0 => ?_)
 refine WC.seq ?_
 refine WC.region ?_
 refine W.as ?_
 refine W.nil (thn_n ?_)
 refine WC.seq ?_
 refine WC.region ?_
 refine W.mv ?_
 refine W.ok (ok_neqPN pp49 rfl rfl) ?_
 refine W.mv ?_
 refine W.no (dj := 5) rfl rfl rfl ?_
 refine W.no (dj := 5) rfl rfl rfl ?_
 refine W.no (dj := 5) rfl rfl rfl ?_
 refine W.no (dj := 5) rfl rfl rfl ?_
 refine W.ok (ok_pick_f rfl rfl) ?_
 refine W.as ?_
 refine W.nil (thn_n ?_)
 refine WC.ret ?_
 refine ⟨.inr rfl, [_], ⟨rfl, trivial⟩, [], List.nil_sublist _, ?_⟩
 exact ⟨rfl, rfl⟩

theorem rdpointn_fc {G : GH}  :
    Fc Tryz.prog 21 [.pointer none] G [] (fun v G' M' => v = .bool false ∧ M' = []) := by
 refine Fc.intro (rs := [.tmp 2]) cl21 Tryz.func21 rfl Tryz.ntmps21 rfl rfl (fun w0 => ?_)
 refine WC.seq ?_
 refine WC.region ?_
 refine W.as ?_
 refine W.nil (thn_n ?_)
 refine WC.seq ?_
 refine WC.region ?_
 refine W.mv ?_
 refine W.ok (ok_neqPN pp49 rfl rfl) ?_
 refine W.mv ?_
 refine W.no (dj := 5) rfl rfl rfl ?_
 refine W.no (dj := 5) rfl rfl rfl ?_
 refine W.no (dj := 5) rfl rfl rfl ?_
 refine W.no (dj := 5) rfl rfl rfl ?_
 refine W.ok (ok_pick_f rfl rfl) ?_
 refine W.as ?_
 refine W.nil (thn_n ?_)
 refine WC.ret ?_
 refine ⟨.inr rfl, [_], ⟨rfl, trivial⟩, [], List.nil_sublist _, ?_⟩
 exact ⟨rfl, rfl⟩

theorem rdanswn_fc {G : GH}  :
    Fc Tryz.prog 19 [.pointer none] G [] (fun v G' M' => v = .agg (List.toArray [.int .i64 0, .bool false, .string Str.nil.b, .slice none 0 0]) ∧ M' = []) := by
 refine Fc.intro (rs := [.cell 2 56]) cl19 Tryz.func19 rfl Tryz.ntmps19 rfl rfl (fun w0 => ?_)
 refine WC.seq ?_
 refine WC.region ?_
 refine W.alloc zr56 (fun b16 => ?_)
 refine W.nil (thn_n ?_)
 refine WC.seq ?_
 refine WC.seq ?_
 refine WC.region ?_
 refine W.mv ?_
 refine W.qcall (rddonen_fc.mono fun v _ _ _ hv => hv.1) rfl ?_
 refine W.ok (ok_not rfl) ?_
 refine W.nil (thn_n ?_)
 refine WC.cond_t rfl rfl ?_
 refine WC.seq ?_
 refine WC.region ?_
 refine W.ok (ok_build (L := [.int .i64 _, .bool _, .string _, .slice _ _ _]) pl56 zr56 rfl rfl rfl) ?_
 refine W.store (i := 0) (vs := [.int .i64 _, .bool _, .string _, .slice _ _ _]) (L' := [.int .i64 _, .bool _, .string _, .slice _ _ _]) ty56 rfl rfl rfl rfl rfl rfl rfl rfl ?_
 refine W.nil (thn_n ?_)
 refine WC.ret (thn_r ?_)
 refine ⟨.inr rfl, [_], ⟨⟨_, _, _, _, _, rfl, nthM_mem (i := 0) rfl, ty56, (by simp), rfl, rfl⟩, trivial⟩, [], List.nil_sublist _, ?_⟩
 exact ⟨rfl, rfl⟩

theorem kload_fc {G : GH} (cfan cleaf cbud cslots crest : Int) {v_l : Value} {l : List Nd} (h_l : SlR eNode G v_l l) (ss : List Seat) (t : Tree (⟨cfan, cleaf, cbud, cslots, crest⟩ : Cfg) l ss) (Th : List Int) (hTh : (∀ x ∈ Th, i64 x) ∧ Th.length ≤ 1000) : Fc Tryz.prog 7 [.agg #[.int .i64 cfan, .int .i64 cleaf, .int .i64 cbud, .int .i64 cslots, .int .i64 crest], v_l] G [] (fun v G' M' => ∃ bc bs bt bm wt, v = .tuple #[.pointer (some ⟨bc, 0, none⟩), .int .i64 0] ∧ CoR 128 132 3 76 43 4 3 150 107 Th (⟨cfan, cleaf, cbud, cslots, crest⟩ : Cfg) l bc bs bt bm wt ([] : List (Int × Option Nat)) G' (List.replicate cslots.toNat ([], 0)) M') :=
  (hload_fc cfan cleaf cbud cslots crest h_l ss t Th hTh).mono fun v G' M' _ h => by
    obtain ⟨bc, bs, bt, bm, wt, Ms, Mt, Mm, e, rfl, hS, hT, hM⟩ := h
    exact ⟨bc, bs, bt, bm, wt, e, Mt, Mm, Ms, perm_o, hT, hM, hS⟩
theorem khand_fc {G : GH} {Th : List Int} {c : Cfg} {l : List Nd} {bc bs bt bm : Nat} {wt : Int} {mp : List (Int × Option Nat)} {W : Lat} {Ms : MH} (h : CoR 128 132 3 76 43 4 3 150 107 Th c l bc bs bt bm wt mp G W Ms) (t1 : Int) (h0 : ¬ t1 < 0) (hm : getM mp t1 = none) : Fc Tryz.prog 8 [.pointer (some ⟨bc, 0, none⟩), .int .i64 t1] G Ms (fun v G' M' => ∃ b1 Ms', v = .pointer (some ⟨b1, 0, none⟩) ∧ M' = (b1, .cells (List.toArray [.pointer (some ⟨bc, 0, none⟩), .int .i64 t1, .pointer none, .int .i64 0]) 79 (0, 0)) :: Ms' ∧ CoR 128 132 3 76 43 4 3 150 107 Th c l bc bs bt bm wt (putM mp t1 (some b1)) G' W Ms') := by
  obtain ⟨Mt, Mm, Mst, hp, hT, hM, hS⟩ := h
  refine (Fc.sub (perm_p.trans hp.symm) (hand0_fc hM t1 h0 hm)).mono ?_
  rintro v G' M' hl ⟨M2, rfl, b1, Mm', rfl, rfl, hM'⟩
  exact ⟨b1, _, rfl, rfl, Mt, Mm', Mst, perm_p, hT.mono hl, hM', hS.mono hl⟩
theorem ktake_fc {G : GH} {Th : List Int} {c : Cfg} {l : List Nd} {bc bs bt bm : Nat} {wt : Int} {mp : List (Int × Option Nat)} {W : Lat} {Ms : MH} (h : CoR 128 132 3 76 43 4 3 150 107 Th c l bc bs bt bm wt mp G W Ms) {b1 : Nat} {t1 m1 : Int} {w1 : Option Addr} (s : Int) (wr : Bool) (hth : t1 ∈ Th) : Fc Tryz.prog 9 [.pointer (some ⟨b1, 0, none⟩), .int .i64 s, .bool wr] G ((b1, .cells (List.toArray [.pointer (some ⟨bc, 0, none⟩), .int .i64 t1, .pointer w1, .int .i64 m1]) 79 (0, 0)) :: Ms) (fun v G' M' => ∃ w2 m2 Ms', v = .bool (htakeN W t1 s wr).1 ∧ M' = (b1, .cells (List.toArray [.pointer (some ⟨bc, 0, none⟩), .int .i64 t1, .pointer w2, .int .i64 m2]) 79 (0, 0)) :: Ms' ∧ CoR 128 132 3 76 43 4 3 150 107 Th c l bc bs bt bm wt mp G' (htakeN W t1 s wr).2 Ms') := by
  obtain ⟨Mt, Mm, Mst, hp, hT, hM, hS⟩ := h
  refine (Fc.sub (M1 := (b1, .cells (List.toArray [.pointer (some ⟨bc, 0, none⟩), .int .i64 t1, .pointer w1, .int .i64 m1]) 79 (0, 0)) :: _ :: Mt) (hp.symm.cons _) (htake_fc ⟨w1, Mt, rfl, hT⟩ s wr hth)).mono ?_
  rintro v G' M' hl ⟨M2, rfl, rfl, w2, Mt', rfl, hT'⟩
  exact ⟨w2, _, _, rfl, rfl, Mt', Mm, Mst, List.Perm.refl _, hT', hM.mono hl, hS.mono hl⟩
theorem knew_fc {G : GH} {Th : List Int} {c : Cfg} {l : List Nd} {bc bs bt bm : Nat} {wt : Int} {mp : List (Int × Option Nat)} {W : Lat} {Ms : MH} (h : CoR 128 132 3 76 43 4 3 150 107 Th c l bc bs bt bm wt mp G W Ms) {c2 : Cfg} {ss : List Seat} (t : Tree c2 l ss) (th : Int) (k : Str) (hm : getM mp th = none) : Fc Tryz.prog 12 [.pointer (some ⟨bc, 0, none⟩), .int .i64 th, .string k.b] G Ms (fun v G' M' => (th < 0 ∧ v = .pointer none) ∨ (¬ th < 0 ∧ ∃ br bh, v = .pointer (some ⟨br, 0, none⟩) ∧ RdR 128 132 3 79 76 98 40 43 4 3 150 107 44 71 Th c k th l ss br bh bc bt bs bm (putM mp th (some bh)) wt G' ⟨-1, rootS l 0, false, [], false, false, 0, W⟩ M')) := by
  obtain ⟨Mt, Mm, Mst, hp, hT, hM, hS⟩ := h
  by_cases h0 : th < 0
  · refine (Fc.sub (perm_p.trans hp.symm) (rdnewn_fc hM th k h0)).mono ?_
    rintro v G' M' hl ⟨M2, rfl, rfl, _⟩
    exact .inl ⟨h0, rfl⟩
  · refine (Fc.sub (perm_p.trans hp.symm) (rdnew_fc hM th k h0 hm)).mono ?_
    rintro v G' M' hl ⟨M2, rfl, br, bh, Mm', rfl, rfl, hM'⟩
    exact .inr ⟨h0, br, bh, rfl, .slice none 0 0, none, Mt, Mm', [], Mst, (by dsimp only; rw [t.root0]; exact perm_n), hT.mono hl, hM', fun _ => ⟨OwnR.nil, Rp.init t k⟩, hS.mono hl⟩
end Go.Proofs.YtgmnljhiojdigaaGreat
namespace Go.Fw
open Go Go.RowKit
theorem CoR.few {TT TO TI TC te tB ti tb TS : TypeId} {Th : List Int} {c : Cfg} {l : List Nd} {bc bs bt bm : Nat} {wt : Int} {mp : List (Int × Option Nat)} {G : GH} {W : Lat} {Ms : MH}
    (h : CoR TT TO TI TC te tB ti tb TS Th c l bc bs bt bm wt mp G W Ms) : l.length ≤ c.slots.toNat := by
  obtain ⟨_, _, _, _, _, _, hS⟩ := h
  exact hS.2.1
section
variable {c : Cfg} {l : List Nd} {ss : List Seat} {k : Str} {th : Int} {B : Lat} {i : Nat} {st : RSt}
theorem rstep_done (h : st.dn = true) : rstepN l k th st = (false, st) := by
  obtain ⟨fr, x, look, L, pt, dn, most, W⟩ := st
  dsimp only at h
  subst h
  cases look <;> rfl
theorem base_free {n : Nat} (hn : l.length ≤ n) (h0 : 0 ≤ th) : BaseOk l th (List.replicate n ([], 0)) :=
  ⟨by rw [List.length_replicate]; exact hn, h0, fun p hp => by rw [(List.mem_replicate.1 hp).2]; exact List.not_mem_nil, fun s _ _ => .inl free_at⟩
theorem Tree.top (t : Tree c l ss) : (l[0]'t.pos).level = (rootS l 0).n.level := by
  rw [t.rootn]
  exact (congrArg Nd.level (getL_at (k := 0) t.pos)).symm
theorem far_eq (t : Tree c l ss) : (rfarN l : Int) = 2 * ((rootS l 0).n.level + 1) := by
  have := t.lvl t.root
  unfold rfarN; omega
theorem RInv.go (t : Tree c l ss) (hk : k.b.size < 140737488355328) {n : Nat} (hn : l.length ≤ n) (h0 : 0 ≤ th) (h : RInv l ss k th (List.replicate n ([], 0)) i st) :
    (rstepN l k th st).1 = true ∧ (rstepN l k th st).2.pt = decide (i = 0) ∧ (RInv l ss k th (List.replicate n ([], 0)) (i + 1) (rstepN l k th st).2 ∨ (i + 1 = rfarN l ∧ RDone l k (List.replicate n ([], 0)) (rstepN l k th st).2)) := by
  rcases h.step t hk (base_free hn h0) with ⟨h9, h8, h7, _⟩ | ⟨_, h9, _⟩
  · exact ⟨h9, h8, h7⟩
  · rw [free_at] at h9; exact absurd h9 (by decide)
end
theorem leaf_tree {c : Cfg} (hc : CfgR c) : Tree c [leafN 0] [oneS (leafN 0)] := by
  have hR : (leafN 0).R c.fan c.leaf c.bud := by
    obtain ⟨_, ⟨h1, _⟩, _⟩ := hc
    refine ⟨⟨by decide, by decide, by decide⟩, fun _ => ⟨rfl, rfl⟩, fun h => (by cases h), ?_⟩
    rw [if_pos (show (leafN 0).level = 0 from rfl)]
    refine ⟨rfl, by show (0 : Int) ≤ _; omega, (fun i h => absurd h (Nat.not_lt_zero i)), fun i hi => absurd hi (Nat.not_lt_zero i)⟩
  exact tree_one hc rfl rfl (by decide) hR rfl (nds_R hc hR)
theorem leaf_map : mapN [leafN 0] = [] := map_one (n := leafN 0) rfl rfl (by decide)
theorem leaf_two {c : Cfg} (hc : CfgR c) {n : Nat} (hn : 1 ≤ n) {k : Str} (hk : k.b.size < 140737488355328) {th : Int} (h0 : 0 ≤ th) {st : RSt} (e : st = ⟨-1, rootS [leafN 0] 0, false, [], false, false, 0, List.replicate n ([], 0)⟩) :
    (rstepN [leafN 0] k th st).1 = true ∧ (rstepN [leafN 0] k th st).2.pt = true ∧ (rstepN [leafN 0] k th (rstepN [leafN 0] k th st).2).1 = true ∧ (rstepN [leafN 0] k th (rstepN [leafN 0] k th st).2).2.dn = true := by
  have t := leaf_tree hc
  have hf := far_eq t
  have ht := t.top
  have hl : ([leafN 0][0]'t.pos).level = 0 := rfl
  have hR0 : RInv [leafN 0] [oneS (leafN 0)] k th (List.replicate n ([], 0)) 0 st := by rw [e]; exact RInv.init t
  obtain ⟨h1, h2, h3⟩ := hR0.go t hk hn h0
  have hR1 := h3.resolve_right (fun h9 => by have := h9.1; omega)
  obtain ⟨h4, h5, h6⟩ := hR1.go t hk hn h0
  have hD := (h6.resolve_left (fun h9 => by have := h9.few t; omega)).2
  exact ⟨h1, h2.trans rfl, h4, hD.dn⟩
end Go.Fw
namespace Go.Proofs.YtgmnljhiojdigaaGreat
open Go Go.Fw Go.RowKit
theorem kcore_fc {G : GH} {b : Nat} {c c2 : Cfg} {l : List Nd} {ss : List Seat} {M : MH} (h : StR 43 4 3 150 107 b c G l M) (t : Tree c2 l ss) (hC : CfgR c) (Th : List Int) (hTh : (∀ x ∈ Th, i64 x) ∧ Th.length ≤ 1000) : Fc Tryz.prog 30 [.pointer (some ⟨b, 0, none⟩), .int .i64 0] G M (fun v G' M' => ∃ bc bs bt bm, v = .tuple #[.pointer (some ⟨bc, 0, none⟩), .int .i64 0] ∧ CoR 128 132 3 76 43 4 3 150 107 Th c l bc bs bt bm 0 ([] : List (Int × Option Nat)) G' (List.replicate c.slots.toNat ([], 0)) M') :=
  (hcore_fc h t 0 rfl hC Th hTh).mono fun v G' M' _ h => by
    obtain ⟨bc, bt, bm, Ms, Mt, Mm, e, rfl, hS, hT, hM⟩ := h
    exact ⟨bc, _, bt, bm, e, Mt, Mm, Ms, perm_o, hT, hM, hS⟩
theorem khnew_fc {G : GH} (cfan : Int) (cleaf : Int) (cbud : Int) (cslots : Int) (crest : Int) (hC9 : CfgR (⟨cfan, cleaf, cbud, cslots, crest⟩ : Cfg)) (Th : List Int) (hTh : (∀ x ∈ Th, i64 x) ∧ Th.length ≤ 1000) :
    Fc Tryz.prog 29 [.agg #[.int .i64 cfan, .int .i64 cleaf, .int .i64 cbud, .int .i64 cslots, .int .i64 crest]] G [] (fun v G' M' => ∃ bc bs bt bm, v = .tuple #[.pointer (some ⟨bc, 0, none⟩), .int .i64 0] ∧ CoR 128 132 3 76 43 4 3 150 107 Th (⟨cfan, cleaf, cbud, cslots, crest⟩ : Cfg) [leafN 0] bc bs bt bm 0 ([] : List (Int × Option Nat)) G' (List.replicate cslots.toNat ([], 0)) M') := by
 refine Fc.intro (rs := [.tmp 2, .tmp 3]) cl29 Tryz.func29 rfl Tryz.ntmps29 rfl rfl (fun w0 => ?_)
 refine WC.seq ?_
 refine WC.region ?_
 refine W.box (L := [.int .i64 _, .int .i64 _, .int .i64 _, .int .i64 _, .int .i64 _]) rfl rfl (fun b1 => ?_)
 refine W.as ?_
 refine W.as ?_
 refine W.nil (thn_n ?_)
 refine WC.seq ?_
 refine WC.region ?_
 refine W.ok (ok_loadB (i := 0) (vs := [.int .i64 _, .int .i64 _, .int .i64 _, .int .i64 _, .int .i64 _]) ty23 rfl rfl rfl rfl (by simp)) ?_
 refine W.call (Mp := []) (stnew_fc (cfan) (cleaf) (cbud) (cslots) (crest)) rfl (List.Perm.refl _) ?_
 intro v5 G2 Ms4 hG2 q3
 refine Or.elim q3 (fun q6 => ?_) (fun q7 => ?_)
 ·refine match q6 with | ⟨hnc, e_8, e_9⟩ => ?_
  subst e_8
  subst e_9
  exact absurd (hC9) hnc
 ·refine match q7 with | ⟨hC, bSt, e_10, hS9⟩ => ?_
  subst e_10
  refine W.perm (pmC (List.Perm.refl _)).symm ?_
  refine W.ok (ok_extract rfl rfl) ?_
  refine W.ok (ok_extract rfl rfl) ?_
  refine W.call (Mp := Ms4) (Mr := ((b1, .cells (List.toArray [.int .i64 cfan, .int .i64 cleaf, .int .i64 cbud, .int .i64 cslots, .int .i64 crest]) 23 (0, 0)) :: [])) (kcore_fc hS9 (leaf_tree hC9) hC9 Th hTh) rfl (pmC (List.Perm.refl _)) ?_
  intro v14 G11 Ms13 hG11 q12
  refine match q12 with | ⟨b_c, b_s, b_t, b_m, e_15, hK9⟩ => ?_
  subst e_15
  refine W.perm (M' := ((b1, .cells (List.toArray [.int .i64 cfan, .int .i64 cleaf, .int .i64 cbud, .int .i64 cslots, .int .i64 crest]) 23 (0, 0)) :: (Ms13 ++ []))) (pmC (List.Perm.refl _)).symm ?_
  refine W.ok (ok_extract rfl rfl) ?_
  refine W.ok (ok_extract rfl rfl) ?_
  refine W.as ?_
  refine W.as ?_
  refine W.nil (thn_n ?_)
  refine WC.ret ?_
  refine ⟨.inr rfl, [_, _], ⟨rfl, rfl, trivial⟩, Ms13, (List.sublist_append_left _ _).cons _, ?_⟩
  exact ⟨_, _, _, _, rfl, hK9⟩

theorem awake34_fc {G : GH}  :
    Fc Tryz.prog 6 [] G [] (fun v _ _ => v = .bool (true)) := by
 have hC9 : CfgR (⟨4, 2, 36, 3, 0⟩ : Cfg) := by decide
 obtain ⟨k9, hk9⟩ : ∃ k : Str, k.b = ⟨#[97]⟩ := ⟨⟨⟨#[97]⟩, by decide⟩, rfl⟩
 refine Fc.intro (rs := [.tmp 0]) cl6 Tryz.func6 rfl Tryz.ntmps6 rfl rfl (fun w0 => ?_)
 refine WC.seq ?_
 refine WC.region ?_
 refine W.as ?_
 refine W.nil (thn_n ?_)
 refine WC.seq ?_
 refine WC.region ?_
 refine W.ok (ok_build (L := [.int .i64 _, .int .i64 _, .int .i64 _, .int .i64 _, .int .i64 _]) pl23 zr23 rfl rfl rfl) ?_
 refine W.call (Mp := []) (Mr := []) (khnew_fc 4 2 36 3 0 hC9 [0] ⟨fun x hx => by rw [List.mem_singleton.1 hx]; exact ⟨by decide, by decide⟩, by simp⟩) rfl (List.Perm.refl _) ?_
 intro v19 G16 Ms18 hG16 q17
 refine match q17 with | ⟨b_c, b_s, b_t, b_m, e_20, hK9⟩ => ?_
 subst e_20
 refine W.perm (M' := (Ms18 ++ [])) (List.Perm.refl _).symm ?_
 refine W.mv ?_
 refine W.ok (ok_extract rfl rfl) ?_
 refine W.ok (ok_extract rfl rfl) ?_
 refine W.as ?_
 refine W.as ?_
 refine W.nil (thn_n ?_)
 refine WC.seq ?_
 refine WC.region ?_
 refine W.mv ?_
 refine W.call (Mp := Ms18) (knew_fc hK9 (leaf_tree hC9) 0 k9 rfl) (by rw [hk9]; rfl) (List.Perm.refl _) ?_
 intro v24 G21 Ms23 hG21 q22
 have q26 := q22.resolve_left (fun h9 => absurd h9.1 (by decide))
 refine match q26 with | ⟨hpos9, b_r, b_h, e_25, hR9⟩ => ?_
 subst e_25
 obtain ⟨st9, hst9⟩ : ∃ st : RSt, st = ⟨-1, rootS [leafN 0] 0, false, [], false, false, 0, List.replicate 3 ([], 0)⟩ := ⟨_, rfl⟩
 have q27 := leaf_two hC9 (n := 3) (by decide) (k := k9) (by rw [hk9]; decide) (th := 0) (by decide) hst9
 refine match q27 with | ⟨hs1, hs2, hs3, hs4⟩ => ?_
 replace hR9 := hR9.cast hst9
 refine W.as ?_
 refine W.nil (thn_n ?_)
 refine WC.seq ?_
 refine WC.region ?_
 refine W.mv ?_
 refine W.call (Mp := Ms23) (rstep_fc hR9 (leaf_tree hC9) (by rw [hk9]; decide) (List.mem_singleton.2 rfl)) rfl (List.Perm.refl _) ?_
 intro v31 G28 Ms30 hG28 q29
 refine match q29 with | ⟨e_33, hR32⟩ => ?_
 subst e_33
 refine W.mv ?_
 refine W.call (Mp := Ms30) (rpoint_fc hR32) rfl (List.Perm.refl _) ?_
 intro v37 G34 Ms36 hG34 q35
 refine match q35 with | ⟨e_39, hR38⟩ => ?_
 subst e_39
 refine W.mv ?_
 refine W.call (Mp := Ms36) (rstep_fc hR38 (leaf_tree hC9) (by rw [hk9]; decide) (List.mem_singleton.2 rfl)) rfl (List.Perm.refl _) ?_
 intro v43 G40 Ms42 hG40 q41
 refine match q41 with | ⟨e_45, hR44⟩ => ?_
 subst e_45
 refine W.as ?_
 refine W.as ?_
 refine W.as ?_
 refine W.nil (thn_n ?_)
 refine WC.seq ?_
 refine WC.region ?_
 refine W.mv ?_
 refine W.ok (ok_eql rfl rfl) ?_
 refine W.mv ?_
 refine W.yes (dj := 22) rfl rfl rfl ?_
 refine W.mv ?_
 refine W.ok (ok_pick_t rfl rfl) ?_
 refine W.mv ?_
 refine W.sp 25 rfl (fun h15 => ?_) (fun h15 => ?_)
 ·refine W.yes (dj := 25) rfl rfl h15 ?_
  refine W.mv ?_
  refine W.ok (ok_pick_t rfl h15) ?_
  refine W.mv ?_
  refine W.sp 28 rfl (fun h17 => ?_) (fun h17 => ?_)
  ·refine W.yes (dj := 28) rfl rfl h17 ?_
   refine W.mv ?_
   refine W.ok (ok_pick_t rfl h17) ?_
   refine W.mv ?_
   refine W.sp 31 rfl (fun h19 => ?_) (fun h19 => ?_)
   ·refine W.yes (dj := 31) rfl rfl h19 ?_
    refine W.mv ?_
    refine W.yes (dj := 31) rfl rfl h19 ?_
    refine W.call (Mp := Ms42) (rdone_fc hR44) rfl (List.Perm.refl _) ?_
    intro v49 G46 Ms48 hG46 q47
    refine match q47 with | ⟨e_51, hR50⟩ => ?_
    subst e_51
    refine W.ok (ok_pick_t rfl h19) ?_
    refine W.mv ?_
    refine W.sp 35 rfl (fun h33 => ?_) (fun h33 => ?_)
    ·refine W.yes (dj := 35) rfl rfl h33 ?_
     refine W.mv ?_
     refine W.yes (dj := 35) rfl rfl h33 ?_
     refine W.call (Mp := Ms48) (Fc.mono (by have h9 := ransw_fc hR50; rw [hs4, show ransN [leafN 0] k9 true = none from (congrArg (fun m => getN m k9) leaf_map).trans rfl] at h9; exact h9) (fun _ _ _ _ h9 => h9)) rfl (List.Perm.refl _) ?_
     intro v55 G52 Ms54 hG52 q53
     refine match q53 with | ⟨e_57, hR56⟩ => ?_
     subst e_57
     refine W.yes (dj := 35) rfl rfl h33 ?_
     refine W.ok (ok_field (L := [.int .i64 _, .bool _, .string _, .slice _ _ _]) (vs := [.bool _]) pt56_1 rfl rfl rfl) ?_
     refine W.yes (dj := 35) rfl rfl h33 ?_
     refine W.ok (ok_not rfl) ?_
     refine W.ok (ok_pick_t rfl h33) ?_
     refine W.mv ?_
     refine W.yes (dj := 41) rfl rfl rfl ?_
     refine W.mv ?_
     refine W.yes (dj := 41) rfl rfl rfl ?_
     refine W.call (Mp := Ms54) (rstep_fc hR56 (leaf_tree hC9) (by rw [hk9]; decide) (List.mem_singleton.2 rfl)) rfl (List.Perm.refl _) ?_
     intro v61 G58 Ms60 hG58 q59
     refine match q59 with | ⟨e_63, hR62⟩ => ?_
     subst e_63
     refine W.yes (dj := 41) rfl rfl rfl ?_
     refine W.ok (ok_not rfl) ?_
     refine W.ok (ok_pick_t rfl rfl) ?_
     refine W.as ?_
     refine W.nil (thn_n ?_)
     refine WC.ret ?_
     refine ⟨.inr rfl, [_], ⟨rfl, trivial⟩, [], List.nil_sublist _, ?_⟩
     exact congrArg (fun r : Bool × RSt => Value.bool (!r.1)) (rstep_done hs4)
    ·exact absurd (hs4.symm.trans h33) (by decide)
   ·exact absurd (hs3.symm.trans h19) (by decide)
  ·exact absurd (hs2.symm.trans h17) (by decide)
 ·exact absurd (hs1.symm.trans h15) (by decide)

end Go.Proofs.YtgmnljhiojdigaaGreat
