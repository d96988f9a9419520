/- Walks of stores, as far as their arenas go. -/
import Derived.Defers
import Derived.Test.YtfhnamngaofccaaGreatQiWj
set_option maxRecDepth 100000
set_option maxHeartbeats 1600000
set_option linter.unusedVariables false
set_option linter.unusedSimpArgs false
set_option linter.unnecessarySimpa false
namespace Go.Proofs.YtfhnamngaofccaaGreat
open Go Go.Fw Go.RowKit
attribute [local irreducible] Ok W WC
variable {G:GH} {fu:MH} {a:List Nd×List Bool} {jQ:Nat} {b_s:Nat} {wB:List Value} {x:Nd}
theorem Vq{c:aQ}(dM:kN bU 57 4 3 145 jQ G a fu)(Qm:ba G wB x):
    Fc Tryz.prog 59 [aq b_s,.agg (List.toArray wB)] G ((b_s,aj 99 [iV c.bu,iV c.leaf,iV c.bud,iV c.aL,iV c.rest,aq jQ])::(fu)) (fun v G' M'=>v=iV (qP a x.slot x).1∧H2 57 4 3 145 99 b_s G' c (qP a x.slot x).2 M'):=by
 obtain⟨_,_,_,_,_,_,_,_,rfl,yk,CL,AA,AB,yl⟩:=Qm
 refine Fc.go [.tmp 4] Tryz.func59 Tryz.ntmps59 rfl (fun w0=>(WC.perm (M':=((b_s,aj 99 [iV c.bu,iV c.leaf,iV c.bud,iV c.aL,iV c.rest,aq jQ])::(fu++[]))) (by simp) (g9 2 ?_)))
 refine W.box (L:=[iV _,iV _,lV _ _ _,lV _ _ _,sV _,.bool _,iV _,iV _,lV _ _ _,lV _ _ _]) rfl rfl (fun b1=>(g9 7 ?_))
 refine W.ok (bV Cm rfl rfl) (g9 6 ?_)
 refine WC.dw (eu.k9.k9) (d9 [0,1,2,3,4,5,6] ?_)
 refine WD.a1 7 rfl (W.cN (fK (cc yk CL AA AB yl)) rfl (fun _ _ _ _ _ _ _ _ G2 j7 aup auq aur aus alH=>(W.nn (WD.a1 8 rfl (W.call (Mp:=fu) (azd (kN.mono j7 dM) _ (cc aup auq aur aus alH)) rfl (ae (ae ai)) ?_)))))
 intro v11 G8 CM xB q9
 refine match q9 with|⟨ym,aH6⟩=> ?_
 subst ym
 refine W.perm (ae (ae ai)).symm (W.nn (d9 [9] ?_))
 refine g9 3 ?_
 refine⟨.inr rfl,[_],⟨rfl,trivial⟩,((b_s,aj 99 [iV c.bu,iV c.leaf,iV c.bud,iV c.aL,iV c.rest,aq jQ])::(CM++[])),bi.k9.cons _,?_⟩
 exact⟨rfl,_,_,congrArg _ (List.append_nil _),aH6⟩

theorem M5{c:aQ}(dM:kN bU 57 4 3 145 jQ G a fu)(i:Int):
    Fc Tryz.prog 46 [aq b_s,iV i] G ((b_s,aj 99 [iV c.bu,iV c.leaf,iV c.bud,iV c.aL,iV c.rest,aq jQ])::(fu)) (fun v G' M'=>(∃cs,v=.tuple #[.agg (List.toArray cs),.bool (ky a.2 i)]∧ba G' cs (wv a i Nd.zero))∧M'=(b_s,aj 99 [iV c.bu,iV c.leaf,iV c.bud,iV c.aL,iV c.rest,aq jQ])::fu):=by
 refine Fc.go [.cell 4 57,.tmp 5] Tryz.func46 Tryz.ntmps46 rfl (fun w0=>(WC.perm (M':=((b_s,aj 99 [iV c.bu,iV c.leaf,iV c.bud,iV c.aL,iV c.rest,aq jQ])::(fu++[]))) (by simp) (g9 2 ?_)))
 refine W.alloc bq (fun gy=>(g9 7 ?_))
 refine W.ok (bV Cm rfl rfl) (g9 12 ?_)
 refine W.call (Mp:=fu) (aze dM _) rfl (ae (ae ai)) ?_
 intro v18 G15 alI sn q16
 refine match q16 with|⟨⟨_,tU,⟨_,_,_,_,_,_,_,_,xK,ln,lp,lq,lu,jZ⟩⟩,aa4⟩=> ?_
 subst tU
 subst xK
 have aa4:=aa4.symm
 subst aa4
 refine W.perm (ae (ae ai)).symm (g9 3 ?_)
 refine W.alloc bq (fun kW=>(g9 7 ?_))
 refine W.cN (fK (cc ln lp lq lu jZ)) rfl (fun _ _ _ _ _ _ _ _ G23 Vr CN CO CP CQ zQ=>(g9 6 ?_))
 refine⟨.inr rfl,[_,_],⟨⟨_,_,_,_,_,rfl,fJ (i:=1) rfl,cU,(by simp),rfl,rfl⟩,rfl,trivial⟩,((b_s,aj 99 [iV c.bu,iV c.leaf,iV c.bud,iV c.aL,iV c.rest,aq jQ])::(fu++[])),(bi.k9.cons _).cons _,?_⟩
 exact⟨⟨_,rfl,(cc CN CO CP CQ zQ)⟩,congrArg _ (List.append_nil _)⟩

theorem ahe{c:aQ}(dM:kN bU 57 4 3 145 jQ G a fu):
    Fc Tryz.prog 106 [aq b_s] G ((b_s,aj 99 [iV c.bu,iV c.leaf,iV c.bud,iV c.aL,iV c.rest,aq jQ])::(fu)) (fun v G' M'=>v=iV ((iM a.2).length:Int)∧M'=(b_s,aj 99 [iV c.bu,iV c.leaf,iV c.bud,iV c.aL,iV c.rest,aq jQ])::fu):=by
 refine Fc.go [.tmp 2] Tryz.func106 Tryz.ntmps106 rfl (fun w0=>(WC.perm (M':=((b_s,aj 99 [iV c.bu,iV c.leaf,iV c.bud,iV c.aL,iV c.rest,aq jQ])::(fu++[]))) (by simp) (g9 9 ?_)))
 refine W.ok (bV Cm rfl rfl) (g9 11 ?_)
 refine W.call (Mp:=fu) (aut dM) rfl (ae ai) ?_
 intro v32 T2 tC jM q30
 refine match q30 with|⟨I4,aa5⟩=> ?_
 subst I4
 have aa5:=aa5.symm
 subst aa5
 refine W.perm (ae ai).symm (g9 4 ?_)
 refine⟨.inr rfl,[_],⟨rfl,trivial⟩,((b_s,aj 99 [iV c.bu,iV c.leaf,iV c.bud,iV c.aL,iV c.rest,aq jQ])::(fu++[])),bi.k9,?_⟩
 exact⟨rfl,congrArg _ (List.append_nil _)⟩

theorem M6{c:aQ}(dM:kN bU 57 4 3 145 jQ G a fu)(Qm:ba G wB x):
    Fc Tryz.prog 58 [aq b_s,.agg (List.toArray wB)] G ((b_s,aj 99 [iV c.bu,iV c.leaf,iV c.bud,iV c.aL,iV c.rest,aq jQ])::(fu)) (fun v G' M'=>v=.tuple #[iV (DZ a x).1.1,iV (DZ a x).1.2]∧H2 57 4 3 145 99 b_s G' c (DZ a x).2 M'):=by
 obtain⟨wC,wD,wE,wF,wG,wH,wI,wJ,rfl,yk,CL,AA,AB,yl⟩:=Qm
 have hal:a.2.length≤4096:=by obtain⟨f,_,_,h,_⟩:=dM;exact h
 have hai:=aam (x:=Nd.zero) hal
 refine Fc.go [.tmp 4,.tmp 5] Tryz.func58 Tryz.ntmps58 rfl (fun w0=>(WC.perm (M':=((b_s,aj 99 [iV c.bu,iV c.leaf,iV c.bud,iV c.aL,iV c.rest,aq jQ])::(fu++[]))) (by simp) (g9 2 ?_)))
 refine W.box (L:=[iV _,iV _,lV _ _ _,lV _ _ _,sV _,.bool _,iV _,iV _,lV _ _ _,lV _ _ _]) rfl rfl (fun b35=>(g9 8 ?_))
 refine W.ok (bV Cm rfl rfl) (g9 11 ?_)
 refine W.ok (aM (L:=[iV _,iV _,lV _ _ _,lV _ _ _,sV _,.bool _,iV _,iV _,lV _ _ _,lV _ _ _]) ij bq rfl rfl rfl) (W.call (Mp:=fu) (alJ dM (x:=Nd.zero) ⟨_,_,_,_,_,_,_,_,rfl,ax.nil,ax.nil,ax.nil,ax.nil,Nd.c6⟩) rfl (ae (ae ai)) ?_)
 intro v39 G36 wm Aw q37
 refine match q37 with|⟨tV,aeh⟩=> ?_
 subst tV
 refine W.perm (ae (ae ai)).symm (g9 14 ?_)
 refine WC.cn (fun gD lX=> ?_) (fun gD lX=> ?_)
 ·refine g9 9 ?_
  refine⟨.inr rfl,[_,_],⟨rfl,rfl,trivial⟩,((b_s,aj 99 [iV c.bu,iV c.leaf,iV c.bud,iV c.aL,iV c.rest,aq jQ])::(wm++[])),bi.k9.cons _,?_⟩
  have hE:=Uh (a:=a) (x:=x) lX
  exact⟨congrArg (fun r:Int×Int=>Value.tuple #[iV r.1,iV r.2]) (congrArg Prod.fst hE).symm,H2.cast ⟨_,_,congrArg _ (List.append_nil _),aeh⟩ (congrArg Prod.snd hE).symm⟩
 refine g9 14 ?_
 refine W.call (Mp:=((b_s,aj 99 [iV c.bu,iV c.leaf,iV c.bud,iV c.aL,iV c.rest,aq jQ])::wm)) (Mr:=((b35,aj 57 [iV (eI (a) Nd.zero).1.1,iV x.level,lV wC x.ab.length wD,lV wE x.kids.length wF,sV x.high.b,.bool x.cW,iV x.right,iV x.seen,lV wG x.af.length wH,lV wI x.rows.length wJ])::[])) (Vq (c:=c) aeh (show ba _ _ { x with slot:=(eI a Nd.zero).1.1 } from⟨_,_,_,_,_,_,_,_,rfl,(yk.mono Aw),(CL.mono Aw),(AA.mono Aw),(AB.mono Aw),⟨hai,yl.2⟩⟩)) rfl (((ae ai).cons _).trans ((List.Perm.swap _ _ _).trans (ai.cons _))) ?_
 intro v45 G42 L4 Fq yn
 refine match yn with|⟨Vs,aH7⟩=> ?_
 subst Vs
 refine W.perm (ae ai).symm (g9 5 ?_)
 refine⟨.inr rfl,[_,_],⟨rfl,rfl,trivial⟩,(L4++[]),bi.cons _,?_⟩
 have hE:=Ug (a:=a) (x:=x) lX
 exact⟨congrArg (fun r:Int×Int=>Value.tuple #[iV r.1,iV r.2]) (congrArg Prod.fst hE).symm,H2.cast (by have h:=aH7;rw [List.append_nil];exact h) (congrArg Prod.snd hE).symm⟩

theorem aa6{c:aQ}(dM:kN bU 57 4 3 145 jQ G a fu):
    Fc Tryz.prog 16 [aq b_s] G ((b_s,aj 99 [iV c.bu,iV c.leaf,iV c.bud,iV c.aL,iV c.rest,aq jQ])::(fu)) (fun v G' M'=>ax bU G' v ((kz a.2).map (fun i=>wv a i Nd.zero))∧M'=(b_s,aj 99 [iV c.bu,iV c.leaf,iV c.bud,iV c.aL,iV c.rest,aq jQ])::fu):=by
 have hal:a.2.length≤4096:=by obtain⟨f,_,_,h,_⟩:=dM;exact h
 have hul:=HY a.2 a.2.length
 rw [←Ue]at hul
 refine Fc.go [.tmp 2] Tryz.func16 Tryz.ntmps16 rfl (fun w0=>(WC.perm (M':=((b_s,aj 99 [iV c.bu,iV c.leaf,iV c.bud,iV c.aL,iV c.rest,aq jQ])::(fu++[]))) (by simp) (g9 14 ?_)))
 refine W.ok (bV Cm rfl rfl) (g9 12 ?_)
 refine W.call (Mp:=fu) (auu dM) rfl (ae ai) ?_
 intro v51 G48 aei CR q49
 refine match q49 with|⟨axm,aa7⟩=> ?_
 have aa7:=aa7.symm
 subst aa7
 refine W.perm (ae ai).symm ?_
 have q54:=axm.form
 refine match q54 with|⟨Vt,Vu,I5⟩=> ?_
 subst I5
 refine g9 5 ?_
 refine WC.loop (X:=(Nat)×Value×MH) (fun k=>[(16,aT k.1),(0,aq b_s),(14,lV Vt ((kz (a).2)).length Vu),(15,aT (((kz (a).2)).length)),(3,k.2.1)]) (fun k G Ml=>Ml=((b_s,aj 99 [iV c.bu,iV c.leaf,iV c.bud,iV c.aL,iV c.rest,aq jQ])::(k.2.2++(fu++[])))∧aP bU 57 G k.2.1 (((kz a.2).take k.1).map (fun i=>wv a i Nd.zero)) k.2.2∧k.1≤(kz a.2).length) (fun k=>(kz a.2).length-k.1) (0,lV none 0 0,([]:MH)) aZ ?_ ?_
 ·exact⟨rfl,(by simpa using aP.nil),aa⟩
 rintro⟨k,I6,M_3⟩ aH8 G55 _ il ⟨rfl,iU,hk⟩
 try dsimp only at iU hk
 refine WC.fr (f:=dO aH8 [(16,aT k),(0,aq b_s),(14,lV Vt ((kz (a).2)).length Vu),(15,aT (((kz (a).2)).length)),(3,I6)]) rfl (g9 6 ?_)
 refine WC.cd (fun iu fM=> ?_) (fun iu fM=> ?_)
 ·refine g9 6 ?_
  refine(axm.mono il).a2 (i:=k) aa (fun aTP aTQ=>(g9 9 ?_))
  refine W.call (Mp:=((b_s,aj 99 [iV c.bu,iV c.leaf,iV c.bud,iV c.aL,iV c.rest,aq jQ])::fu)) (Mr:=(M_3++[])) (M5 (c:=c) (kN.mono aS dM) _) rfl (((dx ai).cons _).trans ai) ?_
  intro v63 G60 M7 Fx q61
  refine match q61 with|⟨⟨_,CS,⟨_,_,_,_,_,_,_,_,Vv,auv,auw,auy,auz,alK⟩⟩,aH9⟩=> ?_
  subst CS
  subst Vv
  subst aH9
  refine W.perm (M':=((b_s,aj 99 [iV c.bu,iV c.leaf,iV c.bud,iV c.aL,iV c.rest,aq jQ])::(fu++(M_3++[])))) ((ai.cons _).trans ai).symm (g9 3 ?_)
  refine W.alloc bq (fun b68=>(g9 7 ?_))
  refine W.lit (e:=bU) (l:=[(wv a ((kz a.2)[k]'_) Nd.zero)]) (css:=[[iV _,iV _,lV _ _ _,lV _ _ _,sV _,.bool _,iV _,iV _,lV _ _ _,lV _ _ _]]) eY cU bq rfl rfl rfl rfl rfl rfl ⟨(cc auv auw auy auz alK),trivial⟩ (fun aTR G69 aIa FR=>(W.app (e:=bU) eY cU bq rfl B1 rfl rfl ((iU.mono aS)) (FR) (ae (ae (dx ai))) (by show(List.length _+1)*152≤_;rw [List.length_map,List.length_take];omega) (fun v70 alL aIb=>(W.perm (ae (ae ai)).symm (g9 7 ?_)))))
  refine W.sub (bi.cons _) (g9 2 ?_)
  exact⟨aS,(k+1,v70,alL),aZ,⟨rfl,(by have h:=aIb;rw [List.take_succ_eq_append_getElem aa,List.map_append];exact h),aa⟩,aa⟩
 refine g9 11 ?_
 refine WC.cm iU (ae ai) (fun G73 CT alM=>(WC.ret ?_))
 refine⟨.inr rfl,[_],⟨rfl,trivial⟩,((b_s,aj 99 [iV c.bu,iV c.leaf,iV c.bud,iV c.aL,iV c.rest,aq jQ])::(fu++[])),bi.k9,?_⟩
 exact⟨ax.cast alM (by rw [List.take_of_length_le aa]),congrArg _ (List.append_nil _)⟩

variable {M:MH} {b:Nat} {cs:List Value} {l:List Nd}
theorem I7{c:aQ}(h:eJ 57 4 3 145 99 b c G l M)(hx:ba G cs x):Fc Tryz.prog 59 [aq b,.agg (List.toArray cs)] G M (fun v G' M'=>v=iV (xO l x).1∧eJ 57 4 3 145 99 b c G' (xO l x).2 M'):=by
  obtain⟨hc,hl,b2,Ma,rfl,hA⟩:=h
  exact(Vq hA hx).mono fun v G' M' hle ⟨e1,e2⟩=>⟨by rw [e1,PO hl],hc,by rw [agT];exact hl,e2.cast (congrArg Prod.snd (PO hl x))⟩
theorem El{c:aQ}(h:eJ 57 4 3 145 99 b c G l M)(hx:ba G cs x):Fc Tryz.prog 58 [aq b,.agg (List.toArray cs)] G M (fun v G' M'=>v=.tuple #[iV (ov c.aL.toNat l x).1.1,iV (ov c.aL.toNat l x).1.2]∧eJ 57 4 3 145 99 b c G' (ov c.aL.toNat l x).2 M'):=by
  obtain⟨hc,hl,b2,Ma,rfl,hA⟩:=h
  exact(M6 hA hx).mono fun v G' M' hle ⟨e1,e2⟩=>⟨by rw [e1,H0 hl],hc,aan hl,e2.cast (congrArg Prod.snd (H0 hl x))⟩
theorem tW{c:aQ}(h:eJ 57 4 3 145 99 b c G l M)(i:Int):Fc Tryz.prog 46 [aq b,iV i] G M (fun v G' M'=>(∃cs,v=.tuple #[.agg (List.toArray cs),.bool (decide (0≤i∧i<l.length))]∧ba G' cs (ag l i))∧M'=M):=by
  obtain⟨hc,hl,b2,Ma,rfl,hA⟩:=h
  exact(M5 (c:=c) hA i).mono fun v G' M' hle ⟨⟨cs,e1,e2⟩,e3⟩=>⟨⟨cs,by rw [e1,Gy hl],e2.of (adS hl i)⟩,e3⟩
theorem I8{c:aQ}(h:eJ 57 4 3 145 99 b c G l M):Fc Tryz.prog 16 [aq b] G M (fun v G' M'=>ax bU G' v l∧M'=M):=by
  obtain⟨hc,hl,b2,Ma,rfl,hA⟩:=h
  exact(aa6 (c:=c) hA).mono fun v G' M' hle ⟨e1,e2⟩=>⟨ax.cast e1 (aao hl),e2⟩
theorem ahf{c:aQ}(h:eJ 57 4 3 145 99 b c G l M):Fc Tryz.prog 106 [aq b] G M (fun v G' M'=>v=aT (c.aL.toNat-l.length)∧M'=M):=by
  obtain⟨hc,hl,b2,Ma,rfl,hA⟩:=h
  exact(ahe (c:=c) hA).mono fun v G' M' hle ⟨e1,e2⟩=>⟨by rw [e1];have h1:=A6 (gA c.aL.toNat l).2;rw [Uf hl,mA,zy hl]at h1;exact congrArg (fun n:Nat=>Value.int .i64 (n:Int)) aa,e2⟩
theorem tX(n:Int)(a:Int)(b:Int):
    Fc Tryz.prog 133 [iV n,iV a,iV b] G [] (fun v _ _=>v=.bool (decide (a≤n∧n≤b))):=by
 refine Fc.go [.tmp 6] Tryz.func133 Tryz.ntmps133 rfl (fun w0=>(g9 11 ?_))
 refine W.sd 10 (fun h9 p9=> ?_) (fun h9 p9=> ?_)
 ·refine g9 12 ?_
  refine congrArg Value.bool ?_
  first|(simp_all;done)|(simp_all;omega)|(simp_all;intros;omega)
 refine g9 9 ?_
 refine congrArg Value.bool ?_
 first|(simp_all;done)|(simp_all;omega)|(simp_all;intros;omega)

theorem Vw(bJ:Int)(aU:Int)(bK:Int)(aI:Int)(aV:Int):
    Fc Tryz.prog 92 [.agg #[iV bJ,iV aU,iV bK,iV aI,iV aV]] G [] (fun v _ _=>v=.bool (decide (fe (⟨bJ,aU,bK,aI,aV⟩:aQ)))):=by
 refine Fc.go [.tmp 2] Tryz.func92 Tryz.ntmps92 rfl (fun w0=>(g9 2 ?_))
 refine W.box (L:=[iV _,iV _,iV _,iV _,iV _]) rfl rfl (fun b1=>(g9 7 ?_))
 refine W.ay (tX _ _ _) rfl (W.mv ?_)
 refine W.sp 6 rfl (fun h5=> ?_) (fun h5=> ?_)
 ·refine g9 5 ?_
  refine W.ay (tX _ _ _) rfl (g9 2 ?_)
  refine W.sp 11 rfl (fun h9=> ?_) (fun h9=> ?_)
  ·refine g9 5 ?_
   refine W.ay (tX _ _ _) rfl (g9 2 ?_)
   refine W.sp 16 rfl (fun gl=> ?_) (fun gl=> ?_)
   ·refine g9 5 ?_
    refine W.ay (tX _ _ _) rfl (g9 2 ?_)
    refine W.sp 21 rfl (fun fN=> ?_) (fun fN=> ?_)
    ·refine g9 5 ?_
     refine W.ay (tX _ _ _) rfl (g9 6 ?_)
     refine congrArg Value.bool ?_
     rw [Bool.eq_iff_iff,decide_eq_true_iff]
     simp only [fe]
     first|(simp_all;done)|(simp_all;omega)|(simp_all;intros;omega)
    refine g9 9 ?_
    refine congrArg Value.bool ?_
    rw [Bool.eq_iff_iff,decide_eq_true_iff]
    simp only [fe]
    first|(simp_all;done)|(simp_all;omega)|(simp_all;intros;omega)
   refine g9 14 ?_
   refine congrArg Value.bool ?_
   rw [Bool.eq_iff_iff,decide_eq_true_iff]
   simp only [fe]
   first|(simp_all;done)|(simp_all;omega)|(simp_all;intros;omega)
  refine g9 19 ?_
  refine congrArg Value.bool ?_
  rw [Bool.eq_iff_iff,decide_eq_true_iff]
  simp only [fe]
  first|(simp_all;done)|(simp_all;omega)|(simp_all;intros;omega)
 refine g9 24 ?_
 refine congrArg Value.bool ?_
 rw [Bool.eq_iff_iff,decide_eq_true_iff]
 simp only [fe]
 first|(simp_all;done)|(simp_all;omega)|(simp_all;intros;omega)

theorem Qn(bJ:Int)(aU:Int)(bK:Int)(aI:Int)(aV:Int):
    Fc Tryz.prog 25 [.agg #[iV bJ,iV aU,iV bK,iV aI,iV aV]] G [] (fun v _ _=>v=.bool (decide (fe (⟨bJ,aU,bK,aI,aV⟩:aQ)))):=by
 refine Fc.go [.tmp 2] Tryz.func25 Tryz.ntmps25 rfl (fun w0=>(g9 2 ?_))
 refine W.box (L:=[iV _,iV _,iV _,iV _,iV _]) rfl rfl (fun b2=>(g9 9 ?_))
 refine W.sd 6 (fun h5 p5=> ?_) (fun h5 p5=> ?_)
 ·refine g9 8 ?_
  refine W.sd 11 (fun h9 p9=> ?_) (fun h9 p9=> ?_)
  ·refine g9 8 ?_
   refine W.sd 16 (fun gl gm=> ?_) (fun gl gm=> ?_)
   ·refine g9 8 ?_
    refine W.sd 21 (fun fN pQ=> ?_) (fun fN pQ=> ?_)
    ·refine g9 8 ?_
     refine W.sd 26 (fun rM xD=> ?_) (fun rM xD=> ?_)
     ·refine g9 8 ?_
      refine W.sd 31 (fun iE wV=> ?_) (fun iE wV=> ?_)
      ·refine g9 8 ?_
       refine W.sd 36 (fun nN qT=> ?_) (fun nN qT=> ?_)
       ·refine g9 8 ?_
        refine W.sd 41 (fun nr Lu=> ?_) (fun nr Lu=> ?_)
        ·refine g9 8 ?_
         refine W.sd 46 (fun Bg Bh=> ?_) (fun Bg Bh=> ?_)
         ·refine g9 12 ?_
          refine congrArg Value.bool ?_
          rw [Bool.eq_iff_iff,decide_eq_true_iff]
          simp only [fe]
          first|(simp_all;done)|(simp_all;omega)
         refine g9 9 ?_
         refine congrArg Value.bool ?_
         rw [Bool.eq_iff_iff,decide_eq_true_iff]
         simp only [fe]
         first|(simp_all;done)|(simp_all;omega)
        refine g9 14 ?_
        refine congrArg Value.bool ?_
        rw [Bool.eq_iff_iff,decide_eq_true_iff]
        simp only [fe]
        first|(simp_all;done)|(simp_all;omega)
       refine g9 19 ?_
       refine congrArg Value.bool ?_
       rw [Bool.eq_iff_iff,decide_eq_true_iff]
       simp only [fe]
       first|(simp_all;done)|(simp_all;omega)
      refine g9 24 ?_
      refine congrArg Value.bool ?_
      rw [Bool.eq_iff_iff,decide_eq_true_iff]
      simp only [fe]
      first|(simp_all;done)|(simp_all;omega)
     refine g9 29 ?_
     refine congrArg Value.bool ?_
     rw [Bool.eq_iff_iff,decide_eq_true_iff]
     simp only [fe]
     first|(simp_all;done)|(simp_all;omega)
    refine g9 34 ?_
    refine congrArg Value.bool ?_
    rw [Bool.eq_iff_iff,decide_eq_true_iff]
    simp only [fe]
    first|(simp_all;done)|(simp_all;omega)
   refine g9 39 ?_
   refine congrArg Value.bool ?_
   rw [Bool.eq_iff_iff,decide_eq_true_iff]
   simp only [fe]
   first|(simp_all;done)|(simp_all;omega)
  refine g9 44 ?_
  refine congrArg Value.bool ?_
  rw [Bool.eq_iff_iff,decide_eq_true_iff]
  simp only [fe]
  first|(simp_all;done)|(simp_all;omega)
 refine g9 49 ?_
 refine congrArg Value.bool ?_
 rw [Bool.eq_iff_iff,decide_eq_true_iff]
 simp only [fe]
 first|(simp_all;done)|(simp_all;omega)

theorem aa8(s:Int)(hs:i64 s):
    Fc Tryz.prog 94 [iV s] G [] (fun v G' M'=>M'=[]∧∃u0,v=.agg (List.toArray u0)∧ba G' u0 (iN s)):=by
 refine Fc.go [.cell 2 57] Tryz.func94 Tryz.ntmps94 rfl (fun w0=>(g9 2 ?_))
 refine W.alloc bq (fun b3=>(g9 5 ?_))
 refine W.ok (aM (L:=[iV _,iV _,lV _ _ _,lV _ _ _,sV _,.bool _,iV _,iV _,lV _ _ _,lV _ _ _]) ij bq rfl rfl rfl) (g9 5 ?_)
 refine⟨rfl,_,rfl,?_⟩
 ·exact⟨_,_,_,_,_,_,_,_,rfl,ax.nil,ax.nil,ax.nil,ax.nil,(agX hs)⟩

theorem M8(bJ:Int)(aU:Int)(bK:Int)(aI:Int)(aV:Int):
    Fc Tryz.prog 53 [.agg #[iV bJ,iV aU,iV bK,iV aI,iV aV]] G [] (fun v G' M'=>(¬fe (⟨bJ,aU,bK,aI,aV⟩:aQ)∧v=.tuple #[.pointer none,iV 2]∧M'=[])∨(fe (⟨bJ,aU,bK,aI,aV⟩:aQ)∧∃b,v=.tuple #[aq b,iV 0]∧eJ 57 4 3 145 99 b (⟨bJ,aU,bK,aI,aV⟩:aQ) G' [iN 0] M')):=by
 refine Fc.go [.tmp 2,.tmp 3] Tryz.func53 Tryz.ntmps53 rfl (fun w0=>(g9 2 ?_))
 refine W.box (L:=[iV _,iV _,iV _,iV _,iV _]) rfl rfl (fun b4=>(g9 8 ?_))
 refine W.ay (Vw _ _ _ _ _) rfl (g9 3 ?_)
 refine WC.cond rfl (fun h9=> ?_) (fun h9=> ?_)
 ·refine g9 9 ?_
  exact .inl ⟨by simpa using h9,rfl,rfl⟩
 refine g9 6 ?_
 refine W.call (Mp:=[]) (ahg (aI)) rfl ai ?_
 intro v8 G5 Ms7 xb q6
 obtain⟨bAr,eV9,hA9⟩:∃b,v8=.tuple #[aq b,iV 0]∧kN bU 57 4 3 145 b G5 (List.replicate (aI).toNat Nd.zero,List.replicate (aI).toNat false) Ms7:=Or.elim q6 (fun hz=>absurd (by have h8:fe (⟨bJ,aU,bK,aI,aV⟩:aQ):=(by simpa using h9);unfold fe at h8;dsimp only at h8;omega) hz.1) (fun hz=>hz.2)
 subst eV9
 refine W.perm (ae ai).symm (g9 21 ?_)
 refine W.ok (aM (L:=[iV _,iV _,iV _,iV _,iV _,.pointer _]) aHP aHO rfl rfl rfl) (W.box (L:=[iV _,iV _,iV _,iV _,iV _,.pointer _]) rfl rfl (fun b9=>(g9 6 ?_)))
 refine W.cN (aa8 _ ⟨by decide,by decide⟩) rfl (fun _ _ _ _ _ _ _ _ G10 pe alN alO alP alQ ahh=>(W.call (Mp:=((b9,aj 99 [iV bJ,iV aU,iV bK,iV aI,iV aV,aq bAr])::Ms7)) (Mr:=((b4,aj 23 [iV bJ,iV aU,iV bK,iV aI,iV aV])::[])) (M6 (c:=(⟨bJ,aU,bK,aI,aV⟩:aQ)) (kN.mono pe hA9) (cc alN alO alP alQ ahh)) rfl (((ae ai).cons _).trans ai) ?_))
 intro v19 G16 wo mK Em
 refine match Em with|⟨xK,aIc⟩=> ?_
 subst xK
 refine W.perm (ae ai).symm (g9 15 ?_)
 refine⟨.inr rfl,[_,_],⟨rfl,rfl,trivial⟩,(wo++[]),bi.cons _,?_⟩
 have hC:fe (⟨bJ,aU,bK,aI,aV⟩:aQ):=by simpa using h9
 have hE:=H0 (n:=aI.toNat) (l:=[]) (by simp) (iN 0)
 rw [(Uv (n:=aI.toNat) (by unfold fe at hC;dsimp only at hC;omega)).2,agR]at hE
 have hS:=aIc
 rw [hE]at hS
 exact .inr ⟨hC,_,by rw [hE];rfl,hC,by show 1≤aI.toNat;unfold fe at hC;dsimp only at hC;omega,by rw [List.append_nil];exact hS⟩

theorem aa9{tZ:List Value}{a:Nd}(dM:ba G tZ a){axn:List Value}{b:Nd}(sL:ba G axn b):
    Fc Tryz.prog 48 [.agg (List.toArray tZ),.agg (List.toArray axn)] G [] (fun v _ _=>v=.bool (decide (a=b))):=by
 obtain⟨_,_,_,_,_,_,_,_,rfl,gK,gL,fG,fR,eW⟩:=dM
 obtain⟨_,_,_,_,_,_,_,_,rfl,yo,yp,yq,yr,sY⟩:=sL
 refine Fc.go [.tmp 4] Tryz.func48 Tryz.ntmps48 rfl (fun w0=>(g9 2 ?_))
 refine W.box (L:=[iV _,iV _,lV _ _ _,lV _ _ _,sV _,.bool _,iV _,iV _,lV _ _ _,lV _ _ _]) rfl rfl (fun b1=>(W.box (L:=[iV _,iV _,lV _ _ _,lV _ _ _,sV _,.bool _,iV _,iV _,lV _ _ _,lV _ _ _]) rfl rfl (fun b2=>(g9 12 ?_))))
 refine W.sm 10 (fun h9 p9=> ?_) (fun h9 p9=> ?_)
 ·refine g9 45 ?_
  refine congrArg Value.bool ?_
  rw [Bool.eq_iff_iff,decide_eq_true_iff]
  clear gK gL fG fR eW yo yp yq yr sY
  cases a;cases b
  simp_all [ah.dv]
 refine g9 12 ?_
 refine W.sm 17 (fun lW nM=> ?_) (fun lW nM=> ?_)
 ·refine g9 38 ?_
  refine congrArg Value.bool ?_
  rw [Bool.eq_iff_iff,decide_eq_true_iff]
  clear gK gL fG fR eW yo yp yq yr sY
  cases a;cases b
  simp_all [ah.dv]
 refine g9 12 ?_
 refine W.sm 24 (fun m7 m8=> ?_) (fun m7 m8=> ?_)
 ·refine g9 31 ?_
  refine congrArg Value.bool ?_
  rw [Bool.eq_iff_iff,decide_eq_true_iff]
  clear gK gL fG fR eW yo yp yq yr sY
  cases a;cases b
  simp_all [ah.dv]
 refine g9 9 ?_
 refine W.ok (Vx bo4 rfl rfl) (g9 2 ?_)
 refine W.sp 31 rfl (fun iE=> ?_) (fun iE=> ?_)
 ·refine g9 24 ?_
  refine congrArg Value.bool ?_
  rw [Bool.eq_iff_iff,decide_eq_true_iff]
  clear gK gL fG fR eW yo yp yq yr sY
  cases a;cases b
  simp_all [ah.dv]
 refine g9 12 ?_
 refine W.sm 38 (fun ve oO=> ?_) (fun ve oO=> ?_)
 ·refine g9 17 ?_
  refine congrArg Value.bool ?_
  rw [Bool.eq_iff_iff,decide_eq_true_iff]
  clear gK gL fG fR eW yo yp yq yr sY
  cases a;cases b
  simp_all [ah.dv]
 refine g9 13 ?_
 refine WC.cn (fun h43 Gn=> ?_) (fun h43 Gn=> ?_)
 ·refine g9 8 ?_
  refine congrArg Value.bool ?_
  rw [Bool.eq_iff_iff,decide_eq_true_iff]
  clear gK gL fG fR eW yo yp yq yr sY
  cases a;cases b
  simp_all [ah.dv]
 refine g9 8 ?_
 refine W.ay (aj8 gK yo) rfl (W.mv ?_)
 refine W.sp 50 rfl (fun Qo=> ?_) (fun Qo=> ?_)
 ·refine g9 9 ?_
  refine W.ay (aj9 gL yp) rfl (g9 2 ?_)
  refine W.sp 57 rfl (fun En=> ?_) (fun En=> ?_)
  ·refine g9 9 ?_
   refine W.ay (agE fG yq) rfl (g9 2 ?_)
   refine W.sp 64 rfl (fun I9=> ?_) (fun I9=> ?_)
   ·refine g9 9 ?_
    refine W.ay (agD fR yr) rfl (g9 6 ?_)
    refine congrArg Value.bool ?_
    rw [Bool.eq_iff_iff,decide_eq_true_iff]
    clear gK gL fG fR eW yo yp yq yr sY
    cases a;cases b
    simp_all [ah.dv]
   refine g9 11 ?_
   refine congrArg Value.bool ?_
   rw [Bool.eq_iff_iff,decide_eq_true_iff]
   clear gK gL fG fR eW yo yp yq yr sY
   cases a;cases b
   simp_all [ah.dv]
  refine g9 18 ?_
  refine congrArg Value.bool ?_
  rw [Bool.eq_iff_iff,decide_eq_true_iff]
  clear gK gL fG fR eW yo yp yq yr sY
  cases a;cases b
  simp_all [ah.dv]
 refine g9 25 ?_
 refine congrArg Value.bool ?_
 rw [Bool.eq_iff_iff,decide_eq_true_iff]
 clear gK gL fG fR eW yo yp yq yr sY
 cases a;cases b
 simp_all [ah.dv]

theorem M9{mR:Value}{a:List Nd}(dM:ax bU G mR a){Hz:Value}{b:List Nd}(sL:ax bU G Hz b):
    Fc Tryz.prog 20 [mR,Hz] G [] (fun v _ _=>v=.bool (decide (a=b))):=by
 obtain⟨pb,pd,rfl⟩:=dM.form
 obtain⟨B2,B3,rfl⟩:=sL.form
 have ha:=dM.aH
 have hb:=sL.aH
 refine Fc.go [.tmp 4] Tryz.func20 Tryz.ntmps20 rfl (fun w0=>(g9 15 ?_))
 refine WC.cn (fun eM jd=> ?_) (fun eM jd=> ?_)
 ·refine g9 8 ?_
  refine congrArg Value.bool ?_
  exact(decide_eq_false fun e=>by subst e;omega).symm
 have mZ:a.length=b.length:=by omega
 refine g9 9 ?_
 refine WC.loop (X:=Nat) (fun k=>[(5,aT k),(0,lV pb a.length pd),(1,lV B2 b.length B3)]) (fun k _ Ml=>Ml=[]∧k≤a.length∧∀i (h:i<a.length) (h2:i<b.length),i<k→a[i]=b[i]) (fun k=>a.length-k) 0 aZ ?_ ?_
 ·exact⟨rfl,aa,fun i _ _ h=>by omega⟩
 rintro k gG3 G3 _ Lv ⟨rfl,Pz,hk⟩
 refine g9 9 ?_
 refine WC.cd (fun gl gm=> ?_) (fun gl gm=> ?_)
 ·refine g9 8 ?_
  refine(dM.mono Lv).aN (i:=k) aa (fun _ _ _ _ _ _ _ _ he4 azf azg azh azi auA=>(g9 4 ?_))
  refine(sL.mono Lv).aN (i:=k) aa (fun _ _ _ _ _ _ _ _ he8 azj azk azl azm auB=>(g9 2 ?_))
  refine W.ay (aa9 (a:=a[k]'aa) (b:=b[k]'aa) (cc azf azg azh azi auA) (cc azj azk azl azm auB)) rfl (g9 3 ?_)
  refine WC.cond rfl (fun sJ=> ?_) (fun sJ=> ?_)
  ·refine g9 12 ?_
   refine congrArg Value.bool ?_
   exact(decide_eq_false fun e=>by subst e;simp at sJ).symm
  refine g9 9 ?_
  exact⟨Le.rfl,k+1,aZ,⟨rfl,aa,fun i h h2 hi=>by
      by_cases e:i=k
      ·subst e;simpa using sJ
      ·exact hk i h h2 aa⟩,aa⟩
 refine g9 12 ?_
 refine congrArg Value.bool ?_
 exact(decide_eq_true (List.ext_getElem aa fun i h h2=>hk i h h2 aa)).symm

variable {bN:Value}
theorem ahj(az:ax bU G bN l)(n:Int)(m:Int)(hm:0≤m∧m≤1073741824):
    Fc Tryz.prog 26 [bN,iV n,iV m] G [] (fun v _ _=>v=.bool (decide (xj l n m))):=by
 obtain⟨aW,aX,rfl⟩:=az.form
 have hl:=az.aH
 refine Fc.go [.tmp 6] Tryz.func26 Tryz.ntmps26 rfl (fun w0=>(g9 14 ?_))
 refine WC.cd (fun qH p11=> ?_) (fun qH p11=> ?_)
 ·refine g9 8 ?_
  refine congrArg Value.bool ?_
  exact(decide_eq_false fun h=>by have:=h.1;omega).symm
 refine g9 9 ?_
 refine WC.loop (X:=Nat) (fun k=>[(7,aT k),(0,lV aW l.length aX),(1,iV n),(2,iV m)]) (fun k _ Ml=>Ml=[]∧∀i (h:i<l.length),i<k→l[i].Hj m) (fun k=>l.length-k) 0 aZ ?_ ?_
 ·exact⟨rfl,fun i _ h=>by omega⟩
 rintro k aTS G12 _ FT ⟨rfl,hk⟩
 refine g9 9 ?_
 refine WC.cd (fun lW nM=> ?_) (fun lW nM=> ?_)
 ·refine g9 8 ?_
  refine(az.mono FT).aN (i:=k) aa (fun _ _ _ _ _ _ _ _ Tr aOE aOF aOG auC aId=>(g9 4 ?_))
  refine W.ay (agF auC _ aa) rfl (g9 2 ?_)
  refine W.sp 26 rfl (fun pN=> ?_) (fun pN=> ?_)
  ·refine g9 55 ?_
   refine congrArg Value.bool ?_
   exact(decide_eq_false fun h=>by obtain⟨q1,q2,q3,q4,q5⟩:=h.2 k aa;first|omega|(simp at pN;omega)|(simp at En;omega)).symm
  refine g9 5 ?_
  refine(az.mono FT).aN (i:=k) aa (fun _ _ _ _ _ _ _ _ Vy Qp aej aek ael Vz=>(g9 8 ?_))
  refine W.ay (agU Qp _ aa) rfl (g9 6 ?_)
  refine W.sd 37 (fun Lx p35=> ?_) (fun Lx p35=> ?_)
  ·refine g9 44 ?_
   refine congrArg Value.bool ?_
   exact(decide_eq_false fun h=>by obtain⟨q1,q2,q3,q4,q5⟩:=h.2 k aa;first|omega|(simp at pN;omega)|(simp at En;omega)).symm
  refine g9 5 ?_
  refine(az.mono FT).aN (i:=k) aa (fun _ _ _ _ _ _ _ _ adE aOH aOI aOJ aOK aIe=>(g9 13 ?_))
  refine W.sd 47 (fun h45 p45=> ?_) (fun h45 p45=> ?_)
  ·refine g9 34 ?_
   refine congrArg Value.bool ?_
   exact(decide_eq_false fun h=>by obtain⟨q1,q2,q3,q4,q5⟩:=h.2 k aa;first|omega|(simp at pN;omega)|(simp at En;omega)).symm
  refine g9 5 ?_
  refine(az.mono FT).aN (i:=k) aa (fun _ _ _ _ _ _ _ _ Fp aem aen Qq aeo VA=>(g9 8 ?_))
  refine W.ay (atj Qq _ aa) rfl (g9 4 ?_)
  refine W.sp 57 rfl (fun En=> ?_) (fun En=> ?_)
  ·refine g9 24 ?_
   refine congrArg Value.bool ?_
   exact(decide_eq_false fun h=>by obtain⟨q1,q2,q3,q4,q5⟩:=h.2 k aa;first|omega|(simp at pN;omega)|(simp at En;omega)).symm
  refine g9 5 ?_
  refine(az.mono FT).aN (i:=k) aa (fun _ _ _ _ _ _ _ _ L9 auD aep auE auF alR=>(g9 14 ?_))
  refine WC.cd (fun Eo p65=> ?_) (fun Eo p65=> ?_)
  ·refine g9 12 ?_
   refine congrArg Value.bool ?_
   exact(decide_eq_false fun h=>by obtain⟨q1,q2,q3,q4,q5⟩:=h.2 k aa;first|omega|(simp at pN;omega)|(simp at En;omega)).symm
  refine g9 9 ?_
  exact⟨Le.rfl,k+1,aZ,⟨rfl,fun i h hi=>by
      by_cases e:i=k
      ·subst e;exact⟨by simpa using pN,aa,aa,by simpa using En,aa⟩
      ·exact hk i h aa⟩,aa⟩
 refine g9 12 ?_
 refine congrArg Value.bool ?_
 exact(decide_eq_true ⟨aa,fun i h=>hk i h aa⟩).symm

theorem ahk(bJ:Int)(aU:Int)(bK:Int)(aI:Int)(aV:Int)(az:ax bU G bN l):
    Fc Tryz.prog 32 [.agg #[iV bJ,iV aU,iV bK,iV aI,iV aV],bN] G [] (fun v G' M'=>(¬(fe (⟨bJ,aU,bK,aI,aV⟩:aQ)∧0<l.length∧eK 0 l=true)∧v=.tuple #[.pointer none,iV 2]∧M'=[])∨((fe (⟨bJ,aU,bK,aI,aV⟩:aQ)∧0<l.length∧eK 0 l=true)∧((¬(l.length:Int)≤aI∧v=.tuple #[.pointer none,iV 4]∧M'=[])∨((l.length:Int)≤aI∧∃b,v=.tuple #[aq b,iV 0]∧eJ 57 4 3 145 99 b (⟨bJ,aU,bK,aI,aV⟩:aQ) G' l M')))):=by
 obtain⟨aW,aX,rfl⟩:=az.form
 have hl:=az.aH
 refine Fc.go [.tmp 4,.tmp 5] Tryz.func32 Tryz.ntmps32 rfl (fun w0=>(g9 2 ?_))
 refine W.box (L:=[iV _,iV _,iV _,iV _,iV _]) rfl rfl (fun Ly=>(g9 7 ?_))
 refine W.call (Mp:=[]) (M8 (bJ) (aU) (bK) (aI) (aV)) rfl ai ?_
 intro v37 G34 CU CV q35
 refine Or.elim q35 (fun Qr=> ?_) (fun q39=> ?_)
 ·refine match Qr with|⟨hnc,VB,tV⟩=> ?_
  subst VB
  subst tV
  refine g9 29 ?_
  exact .inl ⟨fun h=>hnc h.1,rfl,rfl⟩
 refine match q39 with|⟨hC,Ep,CW,hS9⟩=> ?_
 subst CW
 refine W.perm (ae ai).symm (g9 22 ?_)
 refine WC.cd (fun rM xD=> ?_) (fun rM xD=> ?_)
 ·refine g9 9 ?_
  exact .inl ⟨fun h=>by have:=h.2.1;omega,rfl,rfl⟩
 refine g9 11 ?_
 refine WC.loop (X:=Nat) (fun k=>[(28,aT k),(6,aq Ep),(1,lV aW l.length aX),(26,lV aW l.length aX),(27,aT ((l).length))]) (fun k _ Ml=>Ml=((Ly,aj 23 [iV bJ,iV aU,iV bK,iV aI,iV aV])::(CU++[]))∧k≤l.length∧eK 0 (l.take k)=true) (fun k=>l.length-k) 0 aZ ?_ ?_
 ·exact⟨rfl,aa,rfl⟩
 rintro k axo G43 _ AD ⟨rfl,hk,qt⟩
 refine g9 6 ?_
 refine WC.cd (fun iE wV=> ?_) (fun iE wV=> ?_)
 ·refine g9 7 ?_
  refine(az.mono (CV.trans AD)).aN (i:=k) aa (fun _ _ _ _ _ _ _ _ Ur auG auH auI auJ alS=>(g9 2 ?_))
  refine W.alloc bq (fun b48=>(g9 12 ?_))
  refine WC.cn (fun ve oO=> ?_) (fun ve oO=> ?_)
  ·refine g9 13 ?_
   exact .inl ⟨(fun h=>by have:=Uw (l:=l) (k:=k) aa oO;rw [this]at h;cases h.2.2),rfl,rfl⟩
  refine g9 6 ?_
  refine W.sub (bi.cons _) (g9 2 ?_)
  exact⟨Le.rfl,k+1,aZ,⟨rfl,aa,PX aa qt aa⟩,aa⟩
 have Ak:eK 0 l=true:=by rw [List.take_of_length_le aa]at qt;exact qt
 refine g9 14 ?_
 refine WC.loop (X:=(Nat)×MH) (fun k2=>[(40,aT k2.1),(38,lV aW l.length aX),(39,aT ((l).length)),(6,aq Ep)]) (fun k2 G Ml=>Ml=((Ly,aj 23 [iV bJ,iV aU,iV bK,iV aI,iV aV])::(k2.2++[]))∧eJ 57 4 3 145 99 Ep (⟨bJ,aU,bK,aI,aV⟩:aQ) G (wY l k2.1) k2.2∧k2.1≤l.length) (fun k2=>l.length-k2.1) (0,CU) aZ ?_ ?_
 ·exact⟨rfl,(by exact(eJ.mono AD hS9)),aa⟩
 rintro⟨k2,M_6⟩ aIf G49 _ yt ⟨rfl,lx,j6⟩
 try dsimp only at lx j6
 refine WC.fr (f:=dO aIf [(40,aT k2),(38,lV aW l.length aX),(39,aT ((l).length)),(6,aq Ep)]) rfl (g9 6 ?_)
 refine WC.cd (fun mT vp=> ?_) (fun mT vp=> ?_)
 ·have hsk:(l[k2]'aa).slot=((k2:Nat):Int):=Ih Ak aa
  refine g9 7 ?_
  refine(az.mono ((CV.trans AD).trans yt)).aN (i:=k2) aa (fun _ _ _ _ _ _ _ _ aIg GG GI GJ GK CX=>(g9 2 ?_))
  refine W.alloc bq (fun VC=>(g9 11 ?_))
  refine WC.cd (fun h46 Er=> ?_) (fun h46 Er=> ?_)
  ·refine g9 4 ?_
   refine W.call (Mp:=M_6) (El lx (cc GG GI GJ GK CX)) rfl (ae (ae ai)) ?_
   intro v58 G55 aeq il q56
   refine match q56 with|⟨VD,aIh⟩=> ?_
   subst VD
   refine W.perm (ae (ae ai)).symm (g9 13 ?_)
   refine WC.cn (fun h54 p54=> ?_) (fun h54 p54=> ?_)
   ·have hns:¬k2<aI.toNat:=fun hh=>p54 (by rw [Ux aa aa hh hsk])
    have hE:=Uy (l:=l) (k:=k2) aa aa hns (l[k2]'aa)
    refine g9 15 ?_
    exact .inr ⟨⟨hC,aa,Ak⟩,.inl ⟨aa,by rw [hE];rfl,rfl⟩⟩
   have hns:k2<aI.toNat:=by
     by_cases hh:k2<aI.toNat
     ·exact hh
     rw [Uy aa aa hh]at p54;exact absurd p54 (by show ¬(4:Int)=0;omega)
   have hE:=Ux (l:=l) (k:=k2) aa aa hns hsk
   refine g9 5 ?_
   refine W.call (Mp:=aeq) (I7 aIh (fy il GG GI GJ GK CX)) rfl (ae (ae ai)) ?_
   intro v64 G61 axp Md q62
   refine match q62 with|⟨Vv,aIi⟩=> ?_
   subst Vv
   refine W.perm (ae (ae ai)).symm (g9 6 ?_)
   refine W.sub (bi.cons _) (g9 2 ?_)
   exact⟨aS,(k2+1,axp),aZ,⟨rfl,(by have h:=aIi;rw [hE]at h;dsimp only at h;rw [aui aa hsk]at h;exact h),aa⟩,aa⟩
  refine g9 5 ?_
  refine W.call (Mp:=M_6) (I7 lx (cc GG GI GJ GK CX)) rfl (ae (ae ai)) ?_
  intro v70 G67 alT Ja q68
  refine match q68 with|⟨Jb,alU⟩=> ?_
  subst Jb
  refine W.perm (ae (ae ai)).symm (g9 6 ?_)
  refine W.sub (bi.cons _) (g9 2 ?_)
  exact⟨Ja,(k2+1,alT),aZ,⟨rfl,(by have h:=alU;have Pz:k2=0:=aa;subst Pz;rw [aHR aa hsk]at h;exact h),aa⟩,aa⟩
 refine g9 13 ?_
 refine⟨.inr rfl,[_,_],⟨rfl,rfl,trivial⟩,(M_6++[]),bi.cons _,?_⟩
 have hS:=lx
 have jj:k2=l.length:=by omega
 subst jj
 rw [auj aa]at hS
 have hle:=hS.2.1
 dsimp only at hle
 exact .inr ⟨⟨hC,aa,Ak⟩,.inr ⟨by unfold fe at hC;dsimp only at hC;omega,_,rfl,by rw [List.append_nil];exact hS⟩⟩

theorem aba{axq:Value}{ls:List (List aA)}(Na:ax (eSl bQ) G axq ls)(ht:lg ls≤100000000)(hln:ls.length≤100000):
    Fc Tryz.prog 72 [axq] G [] (fun v G' M'=>M'=[]∧∃u0,v=u0∧ax bQ G' u0 (cC ls)):=by
 obtain⟨Qs,Qt,rfl⟩:=Na.form
 have hl:=Na.aH
 refine Fc.go [.tmp 2] Tryz.func72 Tryz.ntmps72 rfl (fun w0=>(g9 9 ?_))
 refine W.Jc (e:=bY) (a0:=(0:Int)) (n:=(ls).length) cq ci kp rfl tq (⟨rfl,by decide,by decide⟩) rfl rfl (by first|(show _*8≤140737488355328;omega)|(show _*1≤16777216;omega)) (by first|(show _*8≤140737488355328;omega)|(show _*1≤16777216;omega)) (fun v1 Gj HJ=>(g9 9 ?_))
 refine WC.loop (X:=(List Nat×List aA)×Value×MH×Value×MH) (fun x=>[(0,lV Qs ls.length Qt),(3,x.2.1),(4,x.2.2.2.1)]) (fun x G Ml=>Ml=(x.2.2.1++(x.2.2.2.2++[]))∧aP bY 3 G x.2.1 (Cp x.1.1) x.2.2.1∧aP bQ 96 G x.2.2.2.1 (x.1.2) x.2.2.2.2∧x.1.1.length=ls.length∧x.1.2++cC (lh ls x.1.1)=cC ls) (fun x=>lg (lh ls x.1.1)) (((List.replicate ls.length 0,[]):List Nat×List aA),v1,Gj,lV none 0 0,([]:MH)) aZ ?_ ?_
 ·exact⟨rfl,(by simpa [Cp]using HJ),(by simpa using aP.nil),by simp,by rw [aax];rfl⟩
 rintro⟨⟨ps,out⟩,I6,M_3,v_4,M_4⟩ gG4 G4 _ Qu ⟨rfl,iU,yu,Ak,hm⟩
 try dsimp only at iU yu Ak hm
 have lZ:=zB Ak
 have qL:=congrArg List.length hm
 rw [List.length_append]at qL
 have aTT:=Ik ls
 have hnl:(Cp ps).length=ps.length:=List.length_map ..
 refine WC.fr (f:=dO gG4 [(0,lV Qs ls.length Qt),(3,I6),(4,v_4)]) rfl (g9 13 ?_)
 refine WC.loop (X:=Nat×Int) (fun y=>[(5,iV y.2),(6,aT y.1),(3,I6),(4,v_4),(0,lV Qs ls.length Qt)]) (fun y _ Ml=>Ml=(M_3++(M_4++[]))∧y.1≤ls.length∧BI (lh ls ps) y.1 y.2) (fun y=>ls.length-y.1) ((0,-1):Nat×Int) aZ ?_ ?_
 ·exact⟨rfl,Nat.zero_le _,ad0 _⟩
 rintro⟨j,c⟩ gG5 G5 _ xb ⟨rfl,hj,Qv⟩
 dsimp only at hj Qv
 refine WC.fr (f:=dO gG5 [(5,iV c),(6,aT j),(3,I6),(4,v_4),(0,lV Qs ls.length Qt)]) rfl (g9 9 ?_)
 refine WC.cd (fun jc jh=> ?_) (fun jc jh=> ?_)
 ·try dsimp only at jh
  refine g9 8 ?_
  refine(iU.mono xb).a2 (i:=j) aa (fun he6 hi7=>(W.ok (aE (i:=j) cq ci (iU.mono xb) rfl rfl ⟨aa,aa⟩) (W.ok (bM (vs:=jk) ci he6 ai rfl rfl rfl (by simp)) (g9 2 ?_))))
  have q13:=(Na.mono (Qu.trans xb)).at (i:=j) aa
  refine match q13 with|⟨_,VE,⟨_,ri,aIj⟩⟩=> ?_
  subst ri
  obtain⟨aIk,aIl,rfl⟩:=aIj.form
  refine g9 5 ?_
  refine W.sd 26 (fun pN xA=> ?_) (fun pN xA=> ?_)
  ·try dsimp only at xA
   have hpj:(Cp ps)[j]'aa=((ps[j]'aa:Nat):Int):=by simp
   refine g9 6 ?_
   refine W.sd 29 (fun wT pO=> ?_) (fun wT pO=> ?_)
   ·try dsimp only at pO
    refine g9 41 ?_
    exact⟨Le.rfl,((j+1,(j:Int)):Nat×Int),aZ,⟨rfl,by dsimp only;omega,Mv Qv pO aa (by rw [ph aa aa];omega)⟩,by dsimp only;omega⟩
   try dsimp only at pO
   obtain⟨b,hbC,rfl,hbj,hbn⟩:=Cr Qv pO
   have hpb:(Cp ps)[b]'(by simp;omega)=((ps[b]'aa:Nat):Int):=by simp
   rw [ph aa aa]at hbn
   refine g9 5 ?_
   have Em:=(Na.mono (Qu.trans xb)).at (i:=j) aa
   refine match Em with|⟨_,awV,⟨_,VF,alV⟩⟩=> ?_
   subst VF
   obtain⟨aIm,aIn,rfl⟩:=alV.form
   refine g9 8 ?_
   refine(iU.mono xb).a2 (i:=j) aa (fun Tv aTU=>(W.ok (aE (i:=j) cq ci (iU.mono xb) rfl rfl ⟨aa,aa⟩) (g9 1 ?_)))
   refine W.ok (bM (vs:=jk) ci Tv ai rfl rfl rfl (by simp)) (g9 1 ?_)
   refine alV.a2 (i:=ps[j]) aa (fun H6 aIo=>(W.ok (aY (i:=ps[j]) cO cX alV rfl rfl ⟨aa,aa⟩) (g9 9 ?_)))
   have q30:=(Na.mono (Qu.trans xb)).at (i:=b) aa
   refine match q30 with|⟨_,VG,⟨_,VH,VI⟩⟩=> ?_
   subst VH
   obtain⟨aIp,aIq,rfl⟩:=VI.form
   refine g9 8 ?_
   refine(iU.mono xb).a2 (i:=b) aa (fun aIr aTV=>(W.ok (aE (i:=b) cq ci (iU.mono xb) rfl rfl ⟨aa,aa⟩) (g9 1 ?_)))
   refine W.ok (bM (vs:=jk) ci aIr ai rfl rfl rfl (by simp)) (g9 1 ?_)
   refine VI.a2 (i:=ps[b]) aa (fun alW aTW=>(W.ok (aY (i:=ps[b]) cO cX VI rfl rfl ⟨aa,aa⟩) (g9 11 ?_)))
   refine WC.cd (fun h52 p52=> ?_) (fun h52 p52=> ?_)
   ·try dsimp only at p52
    refine g9 12 ?_
    exact⟨Le.rfl,((j+1,(j:Int)):Nat×Int),aZ,⟨rfl,by dsimp only;omega,UB Qv aa aa (by rw [ph aa aa];omega) (by rw [Cq aa aa aa aa,Cq aa aa aa aa];exact p52)⟩,by dsimp only;omega⟩
   try dsimp only at p52
   refine g9 9 ?_
   exact⟨Le.rfl,((j+1,(b:Int)):Nat×Int),aZ,⟨rfl,by dsimp only;omega,UC Qv aa aa (by rw [Cq aa aa aa aa,Cq aa aa aa aa];exact p52)⟩,by dsimp only;omega⟩
  try dsimp only at xA
  have hpj:(Cp ps)[j]'aa=((ps[j]'aa:Nat):Int):=by simp
  refine g9 40 ?_
  exact⟨Le.rfl,((j+1,c):Nat×Int),aZ,⟨rfl,by dsimp only;omega,Uz Qv aa (by rw [ph aa aa];omega)⟩,by dsimp only;omega⟩
 try dsimp only at jh
 refine g9 12 ?_
 refine WC.cd (fun A3 vb=> ?_) (fun A3 vb=> ?_)
 ·try dsimp only at vb
  refine g9 6 ?_
  refine WC.cm (yu.mono xb) (dx ai) (fun G40 L0 T3=>(g9 6 ?_))
  refine⟨rfl,_,rfl,?_⟩
  ·exact ax.cast T3 (by rw [←hm,auk Qv aa vb,List.append_nil])
 try dsimp only at vb
 obtain⟨b,hbC,rfl,hbj,hbn⟩:=Cr Qv vb
 have hpb:(Cp ps)[b]'(by simp;omega)=((ps[b]'aa:Nat):Int):=by simp
 rw [ph aa aa]at hbn
 have uT:=ak8 (ls:=ls) (i:=b) aa
 have hB:tM (lh ls ps) b:=UD Qv aa
 refine g9 3 ?_
 refine WC.dw eu (d9 [0,1,2] ?_)
 have Jd:=(Na.mono (Qu.trans xb)).at (i:=b) aa
 refine match Jd with|⟨_,adY,⟨_,yv,alX⟩⟩=> ?_
 subst yv
 obtain⟨aIs,aIt,rfl⟩:=alX.form
 refine d9 [3,4,5,6] ?_
 refine(iU.mono xb).a2 (i:=b) aa (fun axr aTX=>(WD.tk 7 rfl (aE (i:=b) cq ci (iU.mono xb) rfl rfl ⟨aa,aa⟩) (WD.a1 8 rfl (W.ok (bM (vs:=jk) ci axr ai rfl rfl rfl (by simp)) (W.nn (alX.a2 (i:=ps[b]) aa (fun axs alY=>(WD.tk 9 rfl (aY (i:=ps[b]) cO cX alX rfl rfl ⟨aa,aa⟩) (d9 [10] ?_)))))))))
 refine WD.a1 11 rfl (W.lit (e:=bQ) (l:=[(((ls[b]))[ps[b]])]) (css:=[[iV _,iV _,sV _,sV _,.bool _,sV _]]) cO cX cy rfl rfl rfl rfl rfl rfl ⟨⟨rfl,alY⟩,trivial⟩ (fun aTY G54 L5 aIu=>(W.nn (WD.a1 12 rfl (W.app (e:=bQ) cO cX cy rfl jv rfl rfl ((yu.mono aS)) (aIu) (dx ai) (by show(_+1)*72≤_;omega) (fun v55 aIv aIw=>(W.nn (d9 [13] ?_))))))))
 refine g9 5 ?_
 refine(iU.mono (xb.trans L5)).a2 (i:=b) aa (fun adZ aTZ=>(W.ok (aE (i:=b) cq ci (iU.mono aS) rfl rfl ⟨aa,aa⟩) (W.ok (bM (vs:=jk) ci adZ (dx ai) rfl rfl rfl (by simp)) (W.ok (Ok.int (n:=((ps[b]+1:Nat):Int)) (db rfl rfl aa) aa) ((iU.mono (xb.trans L5)).a2 (i:=b) aa (fun akc aT0=>(W.ok (aE (i:=b) cq ci (iU.mono aS) rfl rfl ⟨aa,aa⟩) (W.dF (i:=b) (o:=0) (vs:=jk) (a':=((ps[b]+1:Nat):Int)) ci rfl rfl rfl rfl rfl ((iU.mono aS)) (dx ai) aa (by decide) (fun cs h=>by rw [h.1];exact⟨rfl,aa,aa⟩) (fun aIx aIy=>(g9 3 ?_))))))))))
 exact⟨aS,(((ps.set b (ps[b]+1),out++[(ls[b])[ps[b]]]):List Nat×List aA),I6,aIx,v55,aIv),aZ,⟨rfl,(by have h:=aIy;rw [show((Cp ps).set b ((ps[b]+1:Nat):Int))=Cp (ps.set b (ps[b]+1))from(List.map_set ..).symm]at h;exact h),(by exact aIw),by dsimp only;rw [List.length_set];exact Ak,by dsimp only;rw [←hm,rZ hB,Mn Ak aa aa,ak7 aa aa aa aa,List.append_assoc];rfl⟩,by dsimp only;rw [←Mn Ak aa aa aa];have:=oA hB;omega⟩

theorem oP{l:List aA}(az:ax bQ G bN l)(j4:ah)(j5:ah)(ao:Bool)(j3:∀m∈l,m.key.b.size<140737488355328):
    Fc Tryz.prog 73 [bN,.agg #[sV j4.b,sV j5.b,.bool ao]] G [] (fun v G' M'=>M'=[]∧∃u0,v=u0∧ax bQ G' u0 (aK ⟨j4,j5,ao⟩ l)):=by
 obtain⟨aW,aX,rfl⟩:=az.form
 have hl:=az.aH
 have uT:l.length*72≤140737488355328:=az.bytes
 refine Fc.go [.tmp 4] Tryz.func73 Tryz.ntmps73 rfl (fun w0=>(g9 2 ?_))
 refine W.box (L:=[sV _,sV _,.bool _]) rfl rfl (fun b1=>(g9 15 ?_))
 refine WC.loop (X:=(Nat)×Value×MH) (fun i=>[(6,aT i.1),(3,aq b1),(0,lV aW l.length aX),(5,i.2.1)]) (fun i G Ml=>Ml=((b1,aj 90 [sV j4.b,sV j5.b,.bool ao])::(i.2.2++[]))∧aP bQ 96 G i.2.1 (aK ⟨j4,j5,ao⟩ (l.take i.1)) i.2.2∧i.1≤l.length) (fun i=>l.length-i.1) (0,lV none 0 0,([]:MH)) aZ ?_ ?_
 ·exact⟨rfl,(by exact aP.nil),aa⟩
 rintro⟨i,qm,vg⟩ gG2 G2 _ j7 ⟨rfl,fV,hi⟩
 try dsimp only at fV hi
 have lZ:=zn (s:=⟨j4,j5,ao⟩) (l:=l.take i)
 have Qw:(l.take i).length≤i:=by simp;omega
 refine WC.fr (f:=dO gG2 [(6,aT i),(3,aq b1),(0,lV aW l.length aX),(5,qm)]) rfl (g9 9 ?_)
 refine WC.cd (fun dL ji=> ?_) (fun dL ji=> ?_)
 ·refine g9 5 ?_
  refine WC.dw bi.k9 (d9 [0,1] ?_)
  refine(az.mono j7).a2 (i:=i) aa (fun he3 hm4=>(d9 [2,3,4] ?_))
  refine WD.any [5,9] (by kernel_rfl) rfl ⟨WD.ap ?_,WD.ap ?_,trivial⟩
  ·refine W.ay (tw _ _ _ _ _ _ _ _ _ (j3 _ (List.getElem_mem _))) rfl (W.nn (d9 [6,7,8] ?_))
   refine WD.a1 9 rfl (W.alloc cy (fun b8=>(W.nn (d9 [10,11] ?_))))
   refine g9 7 ?_
   refine WC.cond rfl (fun Bi=> ?_) (fun Bi=> ?_)
   ·refine g9 3 ?_
    refine W.lit (e:=bQ) (l:=[(aA.clip l[i] ⟨j4,j5,ao⟩).1]) (css:=[[iV _,iV _,sV _,sV _,.bool _,sV _]]) cO cX cy rfl rfl rfl rfl rfl rfl ⟨⟨rfl,o7 (by assumption)⟩,trivial⟩ (fun bl9 G9 HK hv9=>(W.app (e:=bQ) cO cX cy rfl jv rfl rfl ((fV.mono HK)) (hv9) (ae (ae ai)) (by show((aK ⟨j4,j5,ao⟩ (l.take i)).length+1)*72≤_;omega) (fun v10 TZ akt=>(W.perm (ae (ae ai)).symm (g9 8 ?_)))))
    refine W.sub (bi.cons _) (g9 2 ?_)
    exact⟨HK,(i+1,v10,TZ),aZ,⟨rfl,(by have h:=akt;rw [Hg aa Bi];exact h),aa⟩,aa⟩
   refine g9 7 ?_
   refine W.sub (bi.cons _) (g9 2 ?_)
   exact⟨Le.rfl,(i+1,qm,vg),aZ,⟨rfl,(by have h:=fV;rw [Hh aa Bi];exact h),aa⟩,aa⟩
  refine W.alloc cy (fun xx=>(W.nn (WD.a1 5 rfl (W.ay (tw _ _ _ _ _ _ _ _ _ (j3 _ (List.getElem_mem _))) rfl (W.nn (d9 [6,7,8,10,11] ?_))))))
  refine g9 7 ?_
  refine WC.cond rfl (fun Bi=> ?_) (fun Bi=> ?_)
  ·refine g9 3 ?_
   refine W.lit (e:=bQ) (l:=[(aA.clip l[i] ⟨j4,j5,ao⟩).1]) (css:=[[iV _,iV _,sV _,sV _,.bool _,sV _]]) cO cX cy rfl rfl rfl rfl rfl rfl ⟨⟨rfl,o7 (by assumption)⟩,trivial⟩ (fun aIz G14 nS HO=>(W.app (e:=bQ) cO cX cy rfl jv rfl rfl ((fV.mono nS)) (HO) (ae (ae ai)) (by show((aK ⟨j4,j5,ao⟩ (l.take i)).length+1)*72≤_;omega) (fun v15 Je Jf=>(W.perm (ae (ae ai)).symm (g9 8 ?_)))))
   refine W.sub (bi.cons _) (g9 2 ?_)
   exact⟨nS,(i+1,v15,Je),aZ,⟨rfl,(by have h:=Jf;rw [Hg aa Bi];exact h),aa⟩,aa⟩
  refine g9 7 ?_
  refine W.sub (bi.cons _) (g9 2 ?_)
  exact⟨Le.rfl,(i+1,qm,vg),aZ,⟨rfl,(by have h:=fV;rw [Hh aa Bi];exact h),aa⟩,aa⟩
 refine g9 11 ?_
 refine WC.cm fV (ae ai) (fun G18 qN yw=>(g9 2 ?_))
 refine⟨rfl,_,rfl,?_⟩
 ·have h:=yw;rw [List.take_of_length_le aa]at h;exact h

theorem Jg{l:List aA}(az:ax bQ G bN l)(j4:ah)(j5:ah)(ao:Bool)(j3:∀m∈l,m.key.b.size<140737488355328):
    Fc Tryz.prog 180 [bN,.agg #[sV j4.b,sV j5.b,.bool ao]] G [] (fun v G' M'=>M'=[]∧∃u0,v=u0∧ax bQ G' u0 (aK ⟨j4,j5,ao⟩ l)):=by
 obtain⟨aW,aX,rfl⟩:=az.form
 have hl:=az.aH
 have uT:l.length*72≤140737488355328:=az.bytes
 refine Fc.go [.tmp 4] Tryz.func180 Tryz.ntmps180 rfl (fun w0=>(g9 2 ?_))
 refine W.box (L:=[sV _,sV _,.bool _]) rfl rfl (fun b19=>(g9 17 ?_))
 refine WC.loop (X:=(Nat)×Value×MH) (fun i=>[(10,lV aW l.length aX),(11,aT l.length),(12,aT i.1),(3,aq b19),(5,i.2.1)]) (fun i G Ml=>Ml=((b19,aj 90 [sV j4.b,sV j5.b,.bool ao])::(i.2.2++[]))∧aP bQ 96 G i.2.1 (aK ⟨j4,j5,ao⟩ (l.take i.1)) i.2.2∧i.1≤l.length) (fun i=>l.length-i.1) (0,lV none 0 0,([]:MH)) aZ ?_ ?_
 ·exact⟨rfl,(by exact aP.nil),aa⟩
 rintro⟨i,qm,vg⟩ aIA G20 _ Au ⟨rfl,fV,hi⟩
 try dsimp only at fV hi
 have lZ:=zn (s:=⟨j4,j5,ao⟩) (l:=l.take i)
 have Qw:(l.take i).length≤i:=by simp;omega
 refine WC.fr (f:=dO aIA [(10,lV aW l.length aX),(11,aT l.length),(12,aT i),(3,aq b19),(5,qm)]) rfl (g9 6 ?_)
 refine WC.cd (fun jc jh=> ?_) (fun jc jh=> ?_)
 ·refine g9 6 ?_
  refine(az.mono Au).a2 (i:=i) aa (fun adE aT1=>(g9 2 ?_))
  refine W.alloc cy (fun Hx=>(g9 7 ?_))
  refine W.ay (DP _ _ _ _ _ _ _ _ _ (j3 _ (List.getElem_mem _))) rfl (g9 3 ?_)
  refine W.alloc cy (fun Tp=>(g9 9 ?_))
  refine WC.cond rfl (fun abb=> ?_) (fun abb=> ?_)
  ·refine g9 3 ?_
   refine W.lit (e:=bQ) (l:=[(aA.clip l[i] ⟨j4,j5,ao⟩).1]) (css:=[[iV _,iV _,sV _,sV _,.bool _,sV _]]) cO cX cy rfl rfl rfl rfl rfl rfl ⟨⟨rfl,o7 (by assumption)⟩,trivial⟩ (fun aT2 G28 HL aku=>(W.app (e:=bQ) cO cX cy rfl jv rfl rfl ((fV.mono HL)) (aku) (ae (ae (ae ai))) (by show((aK ⟨j4,j5,ao⟩ (l.take i)).length+1)*72≤_;omega) (fun v29 Nb TM=>(W.perm (ae (ae (ae ai))).symm (g9 7 ?_)))))
   refine W.sub ((bi.cons _).cons _) (g9 2 ?_)
   exact⟨HL,(i+1,v29,Nb),aZ,⟨rfl,(by have h:=TM;rw [Hg aa abb];exact h),aa⟩,aa⟩
  refine g9 6 ?_
  refine W.sub ((bi.cons _).cons _) (g9 2 ?_)
  exact⟨Le.rfl,(i+1,qm,vg),aZ,⟨rfl,(by have h:=fV;rw [Hh aa abb];exact h),aa⟩,aa⟩
 refine g9 11 ?_
 refine WC.cm fV (ae ai) (fun G32 VJ VK=>(g9 2 ?_))
 refine⟨rfl,_,rfl,?_⟩
 ·have h:=VK;rw [List.take_of_length_le aa]at h;exact h

theorem Jh(az:ax bU G bN l)(i:Int):
    Fc Tryz.prog 68 [bN,iV i] G [] (fun v G' M'=>M'=[]∧∃u0,v=.tuple #[.agg (List.toArray u0),.bool ((bL l i).2)]∧ba G' u0 ((bL l i).1)):=by
 obtain⟨aW,aX,rfl⟩:=az.form
 have hl:=az.aH
 have nJ:∀n∈l,n.Ok:=az.nok
 refine Fc.go [.cell 4 57,.tmp 5] Tryz.func68 Tryz.ntmps68 rfl (fun w0=>(g9 2 ?_))
 refine W.alloc bq (fun b1=>(g9 5 ?_))
 refine W.ok (aM (L:=[iV _,iV _,lV _ _ _,lV _ _ _,sV _,.bool _,iV _,iV _,lV _ _ _,lV _ _ _]) ij bq rfl rfl rfl) (W.alloc bq (fun b2=>(g9 15 ?_)))
 refine WC.loop (X:=(Nat)×List Value) (fun k=>[(7,aT ((wZ (l.take k.1) i).length)),(8,aT k.1),(4,aq b1),(6,aq b2),(0,lV aW l.length aX),(1,iV i)]) (fun k G Ml=>Ml=[(b2,.cells (List.toArray k.2) 57 (0,0)),(b1,aj 57 gR)]∧ba G k.2 ((wZ (l.take k.1) i).getLast?.getD Nd.zero)∧k.1≤l.length) (fun k=>l.length-k.1) (0,(gR:List Value)) aZ ?_ ?_
 ·exact⟨rfl,(by exact⟨_,_,_,_,_,_,_,_,rfl,ax.nil,ax.nil,ax.nil,ax.nil,Nd.c6⟩),aa⟩
 rintro⟨k,C_6⟩ gG3 G3 _ Lv ⟨rfl,lx,hk⟩
 try dsimp only at lx hk
 have hal:=ak9 l i k
 refine match lx with|⟨auK,auL,auM,auN,auO,auP,auQ,auR,e_5,aer,aes,aet,aeu,VL⟩=> ?_
 subst e_5
 refine WC.fr (f:=dO gG3 [(7,aT ((wZ (l.take k) i).length)),(8,aT k),(4,aq b1),(6,aq b2),(0,lV aW l.length aX),(1,iV i)]) rfl (g9 9 ?_)
 refine WC.cd (fun jc jh=> ?_) (fun jc jh=> ?_)
 ·refine g9 8 ?_
  refine(az.mono Lv).aN (i:=k) aa (fun _ _ _ _ _ _ _ _ he6 aQB aQC aQD aQE aOL=>(g9 7 ?_))
  refine WC.cd (fun m7 m8=> ?_) (fun m7 m8=> ?_)
  ·refine g9 4 ?_
   refine(az.mono Lv).aN (i:=k) aa (fun auS auT auU auV auW auX auY auZ VE au0 au1 au2 au3 alZ=>(g9 18 ?_))
   exact⟨Le.rfl,(k+1,(cj ((l)[k]) auS auT auU auV auW auX auY auZ)),⟨(congrArg (fun n:Nat=>Value.int .i64 (n:Int)) (by rw [aay aa m8];simp)),eqv,eqv,eqv,eqv,eqv,trivial⟩,⟨rfl,(by have h0:ba _ _ (l[k]'aa):=(cc au0 au1 au2 au3 alZ);rw [aay aa m8,aaA];exact h0),aa⟩,aa⟩
  refine g9 9 ?_
  exact⟨Le.rfl,(k+1,(cj ((wZ (l.take k) i).getLast?.getD Nd.zero) auK auL auM auN auO auP auQ auR)),⟨(congrArg (fun n:Nat=>Value.int .i64 (n:Int)) (by rw [aaz aa m8])),eqv,eqv,eqv,eqv,eqv,trivial⟩,⟨rfl,(by have h0:ba _ _ ((wZ (l.take k) i).getLast?.getD Nd.zero):=(cc aer aes aet aeu VL);rw [aaz aa m8];exact h0),aa⟩,aa⟩
 refine g9 16 ?_
 exact⟨rfl,_,congrArg (fun b:Bool=>Value.tuple #[.agg (List.toArray _),.bool b]) (GB aa),ba.of (cc aer aes aet aeu VL) (aul aa)⟩

theorem ahl(az:ax bU G bN l)(i:Int)(hS:sW l):
    Fc Tryz.prog 40 [bN,iV i] G [] (fun v G' M'=>M'=[]∧((∃u ss,gi l i=some ss∧v=.tuple #[u,.bool true]∧ax vt G' u ss∧QS l ss)∨(∃u ss,gi l i=none∧v=.tuple #[u,.bool false]∧ax vt G' u ss))):=by
 obtain⟨aW,aX,rfl⟩:=az.form
 have hl:=az.aH
 have Ji:=hS.1
 refine Fc.go [.tmp 4,.tmp 5] Tryz.func40 Tryz.ntmps40 rfl (fun w0=>(g9 10 ?_))
 refine W.cN (Jh az _) rfl (fun _ _ _ _ _ _ _ _ G14 nS yx yy ua yz zR=>(g9 3 ?_))
 refine W.alloc bq (fun b20=>(g9 11 ?_))
 refine WC.cond rfl (fun AV=> ?_) (fun AV=> ?_)
 ·refine g9 9 ?_
  exact⟨rfl,.inr ⟨_,[],UJ (by simpa using AV),rfl,ax.nil⟩⟩
 have hq0:=D3.init (l:=l) (root:=i) (by simpa using AV)
 refine g9 5 ?_
 refine W.ok (aM (L:=[sV _,sV _,.bool _]) kU dY rfl rfl rfl) (W.ok (aM (L:=[iV _,iV _,lV _ _ _,lV _ _ _,sV _,.bool _,iV _,iV _,lV _ _ _,lV _ _ _,sV _,sV _,.bool _,lV _ _ _]) axb H5 rfl rfl rfl) (W.Av (e:=vt) (l:=[(bG l i)]) (css:=[[iV _,iV _,lV _ _ _,lV _ _ _,sV _,.bool _,iV _,iV _,lV _ _ _,lV _ _ _,sV _,sV _,.bool _,lV _ _ _]]) H4 FC H5 rfl rfl rfl rfl rfl rfl ⟨⟨_,_,_,_,_,_,_,_,_,_,rfl,yx,yy,ua,yz,ax.nil,zR⟩,trivial⟩ (fun v21 al0 al1=>(W.perm (ae ai).symm (g9 5 ?_)))))
 refine WC.sub (bi.cons _) (g9 5 ?_)
 refine WC.loop (X:=(Nat×List aC)×Value×MH) (fun x=>[(9,aT x.1.1),(0,lV aW l.length aX),(8,x.2.1)]) (fun x G Ml=>Ml=(x.2.2++[])∧aP vt 92 G x.2.1 (x.1.2) x.2.2∧D3 l i x.1.1 x.1.2∧QS l x.1.2) (fun x=>l.length+1-x.1.1) (((0,[bG l i]):Nat×List aC),v21,al0) aZ ?_ ?_
 ·exact⟨rfl,(by exact al1),hq0,QS.init hS i⟩
 rintro⟨⟨q,out⟩,Qx,M_8⟩ aka G24 _ xC ⟨rfl,kC,hq,hqs⟩
 try dsimp only at kC hq hqs
 have hq1:=hq.le
 have hq2:=hq.len
 have hq3:=hq.pos
 refine WC.fr (f:=dO aka [(9,aT q),(0,lV aW l.length aX),(8,Qx)]) rfl (g9 9 ?_)
 refine WC.cd (fun AX u5=> ?_) (fun AX u5=> ?_)
 ·refine g9 8 ?_
  have q28:=kC.at (i:=q) aa
  refine match q28 with|⟨_,Fp,⟨aev,aew,aex,aey,aez,aeA,aeB,aeC,aeD,aeE,CY,GL,Qy,aeF,au4,aeG,VM⟩⟩=> ?_
  subst CY
  obtain⟨sx,qg⟩:∃y,y=((out)[q]):=⟨_,rfl⟩
  rw [←qg]at Fp GL Qy aeF au4 aeG VM
  refine W.ok (aE (i:=q) H4 FC kC rfl rfl ⟨aa,aa⟩) (W.ok (bM (vs:=[iV _,iV _,lV _ _ _,lV _ _ _,sV _,.bool _,iV _,iV _,lV _ _ _,lV _ _ _,sV _,sV _,.bool _,lV _ _ _]) FC Fp ai rfl rfl rfl (by simp)) (W.alloc H5 (fun b29=>(g9 13 ?_))))
  refine WC.cd (fun PB Qz=> ?_) (fun PB Qz=> ?_)
  ·refine g9 7 ?_
   refine WC.cm kC (ae ai) (fun G30 aIB al2=>(g9 8 ?_))
   exact⟨rfl,.inr ⟨_,_,hq.aHS aa aa,rfl,al2⟩⟩
  refine g9 4 ?_
  obtain⟨aeH,aeI⟩:=VM.2.1
  have QA:=hqs q aa
  rw [←qg]at QA
  have m3:=hS.at QA.nd
  have hnk:sx.n.kids.length≤4000:=m3.1
  have wX:∀m∈sx.n.af,m.key.b.size<140737488355328:=fun m hm=>by have:=m3.2.2.2.2.2.1 m hm;omega
  have j6:∀m∈sx.ms,m.key.b.size<140737488355328:=fun m hm=>by have:=QA.key m hm;omega
  refine g9 7 ?_
  refine WC.cd (fun pU mV=> ?_) (fun pU mV=> ?_)
  ·refine g9 8 ?_
   refine W.sub (bi.cons _) (g9 2 ?_)
   exact⟨Le.rfl,(((q+1,out++[]):Nat×List aC),Qx,M_8),aZ,⟨rfl,(by rw [List.append_nil];exact kC),hq.next aa aa (by rw [←qg];exact pi mV),by dsimp only;rw [List.append_nil];exact hqs⟩,by dsimp only;omega⟩
  refine g9 10 ?_
  refine W.sd 52 (fun h51 QB=> ?_) (fun h51 QB=> ?_)
  ·refine g9 19 ?_
   refine WC.cm kC (ae ai) (fun G31 axt aIC=>(g9 8 ?_))
   exact⟨rfl,.inr ⟨_,_,hq.none aa (by rw [←qg];exact UE mV (.inl QB)),rfl,aIC⟩⟩
  refine g9 13 ?_
  refine W.ay (vo GL Qy) rfl (g9 5 ?_)
  refine WC.cond rfl (fun h60=> ?_) (fun h60=> ?_)
  ·refine g9 7 ?_
   refine WC.cm kC (ae ai) (fun G32 VJ VK=>(g9 8 ?_))
   exact⟨rfl,.inr ⟨_,_,hq.none aa (by rw [←qg];exact UE mV (.inr (by simpa using h60))),rfl,VK⟩⟩
  refine g9 8 ?_
  refine WC.loop (X:=(Nat)×Value×MH) (fun j=>[(11,aT j.1),(10,aq b29),(0,lV aW l.length aX),(9,aT q),(8,j.2.1)]) (fun j G Ml=>Ml=((b29,aj 92 [iV sx.n.slot,iV sx.n.level,lV aev (sx.n.ab).length aew,lV aex (sx.n.kids).length aey,sV sx.n.high.b,.bool sx.n.cW,iV sx.n.right,iV sx.n.seen,lV aez (sx.n.af).length aeA,lV aeB (sx.n.rows).length aeC,sV (sx.s).lo.b,sV (sx.s).hi.b,.bool (sx.s).bT,lV aeD (sx.ms).length aeE])::(j.2.2++[]))∧aP vt 92 G j.2.1 (out++iy l sx j.1) j.2.2∧j.1≤sx.n.kids.length∧(∀j2,j2<j.1→gT l sx j2=true)∧QS l (out++iy l sx j.1)) (fun j=>sx.n.kids.length-j.1) (0,Qx,M_8) aZ ?_ ?_
  ·exact⟨rfl,(by rw [show iy l sx 0=[]from rfl,List.append_nil];exact kC),aa,(fun j2 h=>by omega),by rw [show iy l sx 0=[]from rfl,List.append_nil];exact hqs⟩
  rintro⟨j,Qx,M_8⟩ aID G33 _ tG ⟨rfl,kC,hj,hjk,UA⟩
  try dsimp only at kC hj hjk UA
  have jj:=gG l sx j
  refine WC.fr (f:=dO aID [(11,aT j),(10,aq b29),(0,lV aW l.length aX),(9,aT q),(8,Qx)]) rfl (g9 11 ?_)
  refine WC.cd (fun h68 p68=> ?_) (fun h68 p68=> ?_)
  ·refine g9 11 ?_
   refine(Qy.mono tG).a2 (i:=j) aa (fun aT3 aT4=>(g9 2 ?_))
   refine W.cN (Jh (az.mono aS) (sx.n.kids[j]'aa)) rfl (fun al3 al4 al5 al6 al7 al8 al9 ama TX kV amb amc amd ame ahm=>(g9 3 ?_))
   refine W.alloc bq (fun b44=>(g9 10 ?_))
   refine W.sp 84 rfl (fun h83=> ?_) (fun h83=> ?_)
   ·refine g9 18 ?_
    refine WC.cm (kC.mono kV) (ae (ae ai)) (fun G45 axu aIE=>(g9 12 ?_))
    exact⟨rfl,.inr ⟨_,_,hq.none aa (by rw [←qg];exact UF (j:=j) mV aa (alb aa (by simpa using h83))),rfl,aIE⟩⟩
   refine g9 17 ?_
   refine WC.cn (fun h91 p91=> ?_) (fun h91 p91=> ?_)
   ·refine g9 7 ?_
    refine WC.cm (kC.mono kV) (ae (ae ai)) (fun G46 akA HR=>(g9 12 ?_))
    exact⟨rfl,.inr ⟨_,_,hq.none aa (by rw [←qg];exact UF (j:=j) mV aa (alc aa p91)),rfl,HR⟩⟩
   refine g9 2 ?_
   refine WC.join (X:=(Unit)×Nat) (fun u21=>[(8,Qx),(10,aq b29),(12,aq b44),(0,lV aW l.length aX),(9,aT q),(11,aT j),(14,.pointer (some ⟨u21.2,0,none⟩))]) (fun u21 G Ml=>Ml=((u21.2,aj 90 [sV ((sx.s.bE (ar sx.n.ab (j:Int)))).lo.b,sV ((sx.s.bE (ar sx.n.ab (j:Int)))).hi.b,.bool ((sx.s.bE (ar sx.n.ab (j:Int)))).bT])::((b44,aj 57 (cj ((bL l (sx.n.kids[j])).1) al3 al4 al5 al6 al7 al8 al9 ama))::((b29,aj 92 [iV sx.n.slot,iV sx.n.level,lV aev (sx.n.ab).length aew,lV aex (sx.n.kids).length aey,sV sx.n.high.b,.bool sx.n.cW,iV sx.n.right,iV sx.n.seen,lV aez (sx.n.af).length aeA,lV aeB (sx.n.rows).length aeC,sV (sx.s).lo.b,sV (sx.s).hi.b,.bool (sx.s).bT,lV aeD (sx.ms).length aeE])::(M_8++[]))))) ?_ ?_
   ·refine WC.dw (bi.k9.k9) (d9 [0,1,2,3,4,5] ?_)
    refine WD.any [6,8] (by kernel_rfl) rfl ⟨WD.ap ?_,WD.ap ?_,trivial⟩
    ·refine W.ay (oz (GL.mono aS) _ ⟨aa,aa⟩) rfl (W.nn ?_)
     refine WD.any [7,8] (by kernel_rfl) rfl ⟨WD.ap ?_,WD.ap ?_,trivial⟩
     ·refine W.ay (om _ _ _ _ _ _) rfl (W.nn (WD.a1 8 rfl (W.alloc dY (fun b47=>(W.nn (d9 [9] ?_))))))
      refine g9 2 ?_
      exact⟨Le.rfl,((),b47),aZ,rfl⟩
     refine W.alloc dY (fun b48=>(W.nn (WD.a1 7 rfl (W.ay (om _ _ _ _ _ _) rfl (W.nn (d9 [9] ?_))))))
     refine g9 2 ?_
     exact⟨Le.rfl,((),b48),aZ,rfl⟩
    refine W.alloc dY (fun b49=>(W.nn (WD.a1 6 rfl (W.ay (oz (GL.mono aS) _ ⟨aa,aa⟩) rfl (W.nn (WD.a1 7 rfl (W.ay (om _ _ _ _ _ _) rfl (W.nn (d9 [9] ?_)))))))))
    refine g9 2 ?_
    exact⟨Le.rfl,((),b49),aZ,rfl⟩
   rintro⟨u21,aT5⟩ axv G50 _ VN rfl
   refine WC.seq (WC.dw ((eu.k9.k9).k9) (d9 [0,1,2,3,5,6,7] ?_))
   refine WD.a1 4 rfl (W.cS (oP (aeF.mono aS) _ _ _ wX) rfl (fun amf amg G51 aeJ Jj=>(W.nn (WD.a1 8 rfl (W.cS (oP (aeG.mono aS) _ _ _ j6) rfl (fun aIF aIG G58 B5 aIH=>(W.nn (WD.a1 9 rfl (W.lit (e:=(eSl bQ)) (l:=[(aK (sx.s.bE (ar sx.n.ab (j:Int))) sx.n.af),(aK (sx.s.bE (ar sx.n.ab (j:Int))) sx.ms)]) (css:=[[lV _ _ _],[lV _ _ _]]) akT aw8 aHE rfl rfl rfl rfl rfl rfl ⟨⟨_,rfl,(Jj.mono B5)⟩,⟨_,rfl,aIH⟩,trivial⟩ (fun aT6 G65 aeK aII=>(W.nn (WD.a1 10 rfl (W.cS (aba aII (by first|omega|exact Nat.le_trans (UI hS QA _) aa) (by show 2≤100000;omega)) rfl (fun VO VP G66 CZ FU=>(W.nn (d9 [11] ?_))))))))))))))))
   refine g9 7 ?_
   refine W.ok (aM (L:=[iV _,iV _,lV _ _ _,lV _ _ _,sV _,.bool _,iV _,iV _,lV _ _ _,lV _ _ _,sV _,sV _,.bool _,lV _ _ _]) axb H5 rfl rfl rfl) (W.lit (e:=vt) (l:=[(au l sx j)]) (css:=[[iV _,iV _,lV _ _ _,lV _ _ _,sV _,.bool _,iV _,iV _,lV _ _ _,lV _ _ _,sV _,sV _,.bool _,lV _ _ _]]) H4 FC H5 rfl rfl rfl rfl rfl rfl ⟨ald aa ⟨_,_,_,_,_,_,_,_,_,_,rfl,(amb.mono aS),(amc.mono aS),(amd.mono aS),(ame.mono aS),FU,ahm⟩,trivial⟩ (fun aT7 G73 CT alM=>(W.app (e:=vt) H4 FC H5 rfl aHD rfl rfl ((kC.mono aS)) (alM) (ae (ae (ae ai))) (by show(List.length _+1)*216≤_;rw [List.length_append];omega) (fun v74 HB LU=>(W.perm (ae (ae (ae ai))).symm (g9 8 ?_))))))
   refine W.sub ((bi.cons _).cons _) (g9 2 ?_)
   exact⟨aS,(j+1,v74,HB),aZ,⟨rfl,(by have h0:=LU;rw [FG,←List.append_assoc];exact h0),aa,aaC aa hjk (by simpa using h83) p91,(by rw [FG,←List.append_assoc];exact UA.snoc hS QA (by rw [List.length_append];omega) j)⟩,aa⟩
  refine g9 10 ?_
  refine W.sub (bi.cons _) (g9 2 ?_)
  exact⟨tG,(((q+1,out++iy l sx sx.n.kids.length):Nat×List aC),Qx,M_8),aZ,⟨rfl,(by have h0:=kC;rw [show j=sx.n.kids.length by omega]at h0;exact h0),hq.next aa aa (by rw [←qg];exact UG mV QB (by simpa using h60) (fun j2 h2=>hjk j2 aa)),by dsimp only;rw [show sx.n.kids.length=j by omega];exact UA⟩,by dsimp only;omega⟩
 refine g9 12 ?_
 refine WC.cm kC ai (fun G77 Tx ake=>(g9 2 ?_))
 exact⟨rfl,.inl ⟨_,_,hq.done aa,rfl,ake,hqs⟩⟩

theorem VQ:xw Tryz.prog 68=some 35:=by kernel_rfl
theorem aeL:zvK Tryz.prog 35=some (.pointer none):=by kernel_rfl
theorem yA{c:aQ}(dM:kN bU 57 4 3 145 jQ G a fu):
    Fc Tryz.prog 57 [aq b_s] G ((b_s,aj 99 [iV c.bu,iV c.leaf,iV c.bud,iV c.aL,iV c.rest,aq jQ])::(fu)) (fun v G' M'=>v=.agg (List.toArray [iV c.bu,iV c.leaf,iV c.bud,iV c.aL,iV c.rest])∧M'=(b_s,aj 99 [iV c.bu,iV c.leaf,iV c.bud,iV c.aL,iV c.rest,aq jQ])::fu):=by
 refine Fc.go [.cell 2 23] Tryz.func57 Tryz.ntmps57 rfl (fun w0=>(WC.perm (M':=((b_s,aj 99 [iV c.bu,iV c.leaf,iV c.bud,iV c.aL,iV c.rest,aq jQ])::(fu++[]))) (by simp) (g9 2 ?_)))
 refine W.alloc akN (fun b1=>(g9 6 ?_))
 refine W.ok (bV Cm rfl rfl) (g9 15 ?_)
 refine⟨.inr rfl,[_],⟨⟨_,_,_,_,_,rfl,fJ (i:=0) rfl,akM,(by simp),rfl,rfl⟩,trivial⟩,((b_s,aj 99 [iV c.bu,iV c.leaf,iV c.bud,iV c.aL,iV c.rest,aq jQ])::(fu++[])),bi.k9.cons _,?_⟩
 exact⟨rfl,congrArg _ (List.append_nil _)⟩

theorem su{c:aQ}(h:eJ 57 4 3 145 99 b c G l M):Fc Tryz.prog 57 [aq b] G M (fun v G' M'=>v=.agg (List.toArray [iV c.bu,iV c.leaf,iV c.bud,iV c.aL,iV c.rest])∧M'=M):=by
  obtain⟨hc,hl,b2,Ma,rfl,hA⟩:=h
  exact yA (c:=c) hA
variable {de:MH} {ss:List aC}
theorem Nc{c c2:aQ}(ec:eJ 57 4 3 145 99 b_s c G l de)(t:Tree c2 l ss)(e:Int)(he:e=0)(hC:fe c)(Th:List Int)(Jk:(∀x∈Th,i64 x)∧Th.length≤1000):
    Fc Tryz.prog 31 [aq b_s,iV e] G de (fun v G' M'=>∃aG bx dI Ms Mt Mm,v=.tuple #[aq aG,iV 0]∧M'=(aG,aj 70 [aq b_s,aq bx,.map (some dI),iV 0,iV 0])::(Ms++(Mt++Mm))∧eJ 57 4 3 145 99 b_s c G' l Ms∧dC 119 123 3 Th bx G' (List.replicate c.aL.toNat ([],0)) Mt∧lf ib dI G' ([]:List (Int×Option Nat)) Mm):=by
 refine Fc.go [.tmp 4,.tmp 5] Tryz.func31 Tryz.ntmps31 rfl (fun w0=>(WC.perm (M':=(de++[])) (by simp) (g9 13 ?_)))
 refine WC.cn (fun h8 p8=> ?_) (fun h8 p8=> ?_)
 ·exact absurd he p8
 refine g9 5 ?_
 refine W.call (Mp:=de) (su ec) rfl ai ?_
 intro v5 G2 PG j7 q3
 refine match q3 with|⟨Es,yB⟩=> ?_
 subst Es
 have yB:=yB.symm
 subst yB
 refine W.ok (ahn (L:=[iV _,iV _,iV _,iV _,iV _]) (vs:=jk) atX rfl rfl rfl) (W.call (Mp:=[]) (amh c.aL Th Jk) rfl ai ?_)
 intro v11 G8 CM xB q9
 refine Or.elim q9 (fun q12=> ?_) (fun q13=> ?_)
 ·exact absurd hC.2.2.2.1 q12.1
 refine match q13 with|⟨_,bx,Jl,hT9⟩=> ?_
 subst Jl
 refine g9 21 ?_
 refine W.makeMap (V:=ib) (fun aeM aIJ=>(W.ok (aM (L:=[.pointer _,.pointer _,.map _,iV _,iV _]) aHL aHK rfl rfl rfl) (W.box (L:=[.pointer _,.pointer _,.map _,iV _,iV _]) rfl rfl (fun b17=>(g9 4 ?_)))))
 refine WC.perm (M':=((b17,aj 70 [aq b_s,aq bx,.map (some aeM),iV 0,iV 0])::(de++(CM++([(aeM,Obj.map #[] 0)]++[]))))) (((List.Perm.append_left _ ((List.Perm.append_left _ ((List.Perm.append_left _ ai).trans ai)).trans (dx ai))).trans (dx (dx ai))).cons _) (WC.ret ?_)
 refine⟨.inr rfl,[_,_],⟨rfl,rfl,trivial⟩,((b17,aj 70 [aq b_s,aq bx,.map (some aeM),iV 0,iV 0])::(de++(CM++[(aeM,Obj.map #[] 0)]))),(List.Sublist.append_left (List.Sublist.append_left (List.sublist_append_left _ _) _) _).k9,?_⟩
 exact⟨_,_,_,_,_,_,rfl,congrArg _ (by simp),(eJ.mono aS ec),hT9,aIJ⟩

variable {aG:Nat} {ch:Int} {vT:Option Addr} {wt:Int}
theorem Jm{c c2:aQ}(ec:eJ 57 4 3 145 99 b_s c G l de)(t:Tree c2 l ss){vM:Value} :
    Fc Tryz.prog 33 [aq aG] G ((aG,aj 70 [aq b_s,.pointer vT,vM,iV wt,iV ch])::(de)) (fun v G' M'=>∃n Ms,v=iV n∧i64 n∧M'=(aG,aj 70 [aq b_s,.pointer vT,vM,iV wt,iV ch])::Ms∧eJ 57 4 3 145 99 b_s c G' l Ms):=by
 refine Fc.go [.tmp 2] Tryz.func33 Tryz.ntmps33 rfl (fun w0=>(WC.perm (M':=((aG,aj 70 [aq b_s,.pointer vT,vM,iV wt,iV ch])::(de++[]))) (by simp) (g9 17 ?_)))
 refine W.call (Mp:=de) (I8 ec) rfl (ae ai) ?_
 intro v21 G18 aT8 qN q19
 refine match q19 with|⟨ami,abc⟩=> ?_
 have abc:=abc.symm
 subst abc
 refine W.perm (ae ai).symm ?_
 have aFi:=ami.aH
 have q26:=ami.form
 refine match q26 with|⟨Nf,Ng,pB⟩=> ?_
 subst pB
 refine g9 5 ?_
 refine WC.loop (X:=Nat×Int) (fun x=>[(3,iV x.2),(12,aT x.1),(10,lV Nf (l).length Ng),(11,aT ((l).length))]) (fun x _ Ml=>Ml=((aG,aj 70 [aq b_s,.pointer vT,vM,iV wt,iV ch])::(de++[]))∧x.1≤l.length∧0≤x.2∧x.2≤4000*(x.1:Int)) (fun x=>l.length-x.1) ((0,0):Nat×Int) aZ ?_ ?_
 ·exact⟨rfl,Nat.zero_le _,Int.le_refl _,Int.le_refl _⟩
 rintro⟨k,n⟩ axw G27 _ yC ⟨rfl,hk,xo,hn1⟩
 have aT9:=t.xa.1
 refine WC.fr (f:=dO axw [(3,iV n),(12,aT k),(10,lV Nf (l).length Ng),(11,aT ((l).length))]) rfl (g9 6 ?_)
 refine WC.cd (fun jc jh=> ?_) (fun jc jh=> ?_)
 ·try dsimp only at jh
  refine g9 6 ?_
  refine(ami.mono yC).aN (i:=k) aa (fun _ _ _ _ _ _ _ _ aIK aOM aON aOO aOP aIL=>(g9 2 ?_))
  refine W.alloc bq (fun b32=>(g9 3 ?_))
  have aUa:=(t.xa.2 (l[k]'aa) (List.getElem_mem _)).2.2.1
  refine g9 13 ?_
  refine W.sub (bi.cons _) (g9 2 ?_)
  exact⟨Le.rfl,((k+1,n+((l[k]'aa).af.length:Int)):Nat×Int),aZ,⟨rfl,by dsimp only;omega,by dsimp only;omega,by have h9:=(t.xa.2 (l[k]'aa) (List.getElem_mem _)).2.2.1;dsimp only;omega⟩,by dsimp only;omega⟩
 try dsimp only at jh
 refine g9 12 ?_
 refine⟨.inr rfl,[_],⟨rfl,trivial⟩,((aG,aj 70 [aq b_s,.pointer vT,vM,iV wt,iV ch])::de),(List.sublist_append_left _ _).k9,?_⟩
 exact⟨_,_,rfl,⟨aa,aa⟩,congrArg _ (by simp),(eJ.mono aS ec)⟩

theorem aho(bJ:Int)(aU:Int)(bK:Int)(aI:Int)(aV:Int)(az:ax bU G bN l)(ss:List aC)(t:Tree (⟨bJ,aU,bK,aI,aV⟩:aQ) l ss)(Th:List Int)(Jk:(∀x∈Th,i64 x)∧Th.length≤1000):
    Fc Tryz.prog 6 [.agg #[iV bJ,iV aU,iV bK,iV aI,iV aV],bN] G [] (fun v G' M'=>∃aG b_s bx dI wt Ms Mt Mm,v=.tuple #[aq aG,iV 0]∧M'=(aG,aj 70 [aq b_s,aq bx,.map (some dI),iV wt,iV 0])::(Ms++(Mt++Mm))∧eJ 57 4 3 145 99 b_s (⟨bJ,aU,bK,aI,aV⟩:aQ) G' l Ms∧dC 119 123 3 Th bx G' (List.replicate aI.toNat ([],0)) Mt∧lf ib dI G' ([]:List (Int×Option Nat)) Mm):=by
 obtain⟨aW,aX,rfl⟩:=az.form
 have hl:=az.aH
 refine Fc.go [.tmp 4,.tmp 5] Tryz.func6 Tryz.ntmps6 rfl (fun w0=>(g9 2 ?_))
 refine W.box (L:=[iV _,iV _,iV _,iV _,iV _]) rfl rfl (fun Ly=>(g9 8 ?_))
 refine W.call (Mp:=[]) (ahk (bJ) (aU) (bK) (aI) (aV) az) rfl ai ?_
 intro v37 G34 CU CV q35
 have Qr:=or3 q35
 refine Or.elim Qr (fun q39=> ?_) (fun q40=> ?_)
 ·refine match q39 with|⟨hnl,tV,CW⟩=> ?_
  subst tV
  subst CW
  exact absurd ⟨t.pX,t.pos,aaG t.slot⟩ hnl
 refine Or.elim q40 (fun yn=> ?_) (fun Jd=> ?_)
 ·refine match yn with|⟨hOK,aIM,C0,amj⟩=> ?_
  subst C0
  subst amj
  exact absurd t.q.1.2.2 aIM
 refine match Jd with|⟨hOK,hle,Ep,Vs,hS9⟩=> ?_
 subst Vs
 refine W.perm (ae ai).symm (g9 2 ?_)
 refine W.call (Mp:=CU) (Nc hS9 t 0 rfl t.pX Th Jk) rfl (ae ai) ?_
 intro v51 G48 aei CR q49
 refine match q49 with|⟨aG,bx,dI,wW,Mt9,Mm9,VR,I5,hS8,hT8,hM8⟩=> ?_
 subst VR
 subst I5
 refine W.perm (M':=((aG,aj 70 [aq Ep,aq bx,.map (some dI),iV 0,iV 0])::((Ly,aj 23 [iV bJ,iV aU,iV bK,iV aI,iV aV])::(wW++(Mt9++(Mm9++[])))))) (rj (show mq ((aG,aj 70 [aq Ep,aq bx,.map (some dI),iV 0,iV 0])::((Ly,aj 23 [iV bJ,iV aU,iV bK,iV aI,iV aV])::(wW++(Mt9++(Mm9++[])))))=mq (((aG,aj 70 [aq Ep,aq bx,.map (some dI),iV 0,iV 0])::(wW++(Mt9++Mm9)))++((Ly,aj 23 [iV bJ,iV aU,iV bK,iV aI,iV aV])::[]))by first|(simp only [lN,jR,Jn];done)|(simp only [lN,jR,Jn];ac_rfl))) (g9 18 ?_)
 refine W.call (Mp:=((aG,aj 70 [aq Ep,aq bx,.map (some dI),iV 0,iV 0])::wW)) (Mr:=((Ly,aj 23 [iV bJ,iV aU,iV bK,iV aI,iV aV])::(Mt9++(Mm9++[])))) (Jm hS8 t) rfl (((ae ai).cons _).trans ai) ?_
 intro v58 G55 aeq il q56
 refine match q56 with|⟨amk,QC,C1,aOQ,VD,au5⟩=> ?_
 subst C1
 subst VD
 refine W.perm (M':=((aG,aj 70 [aq Ep,aq bx,.map (some dI),iV 0,iV 0])::((Ly,aj 23 [iV bJ,iV aU,iV bK,iV aI,iV aV])::(QC++(Mt9++(Mm9++[])))))) (((ae ai).cons _).trans ai).symm (g9 13 ?_)
 refine WC.sub (M':=((aG,aj 70 [aq Ep,aq bx,.map (some dI),iV amk,iV 0])::(QC++(Mt9++(Mm9++[]))))) (((List.Sublist.append_left (List.Sublist.append_left (List.Sublist.append_left bi _) _) _).cons _).k9) (WC.ret ?_)
 refine⟨.inr rfl,[_,_],⟨rfl,rfl,trivial⟩,((aG,aj 70 [aq Ep,aq bx,.map (some dI),iV amk,iV 0])::(QC++(Mt9++Mm9))),(List.Sublist.append_left (List.Sublist.append_left (List.sublist_append_left _ _) _) _).k9,?_⟩
 exact⟨_,_,_,_,_,_,_,_,rfl,congrArg _ (by simp),au5,(dC.mono il hT8),(lf.mono il hM8)⟩

variable {gM:MH} {dI:Nat} {mp:List (Int×Option Nat)} {vS:Option Addr}
theorem Nh(xc:lf ib dI G mp gM)(th:Int)(b9:Nat)(ly:¬th<0)(vd:getM mp th=some (some b9)):
    Fc Tryz.prog 9 [aq aG,iV th] G ((aG,aj 70 [.pointer vS,.pointer vT,.map (some dI),iV wt,iV ch])::(gM)) (fun v G' M'=>v=aq b9∧∃Mm,M'=(aG,aj 70 [.pointer vS,.pointer vT,.map (some dI),iV wt,iV ch])::Mm∧lf ib dI G' mp Mm):=by
 refine Fc.go [.tmp 4] Tryz.func9 Tryz.ntmps9 rfl (fun w0=>(WC.perm (M':=((aG,aj 70 [.pointer vS,.pointer vT,.map (some dI),iV wt,iV ch])::(gM++[]))) (by simp) (g9 9 ?_)))
 refine W.ok (bV Cl rfl rfl) (g9 8 ?_)
 refine WC.cd (fun h9 p9=> ?_) (fun h9 p9=> ?_)
 ·exact absurd p9 ly
 refine g9 10 ?_
 refine W.IE (V:=ib) VQ aeL (show ib.R _ (.pointer none) none from rfl) rfl rfl xc (ae ai) (fun v61 axx=> ?_)
 rw [vd]at axx
 have azn:v61=aq b9:=axx
 subst azn
 refine W.ok (bV wx rfl rfl) (g9 12 ?_)
 refine W.IE (V:=ib) VQ aeL (show ib.R _ (.pointer none) none from rfl) rfl rfl xc (ae ai) (fun v63 axy=> ?_)
 rw [vd]at axy
 have azo:v63=aq b9:=axy
 subst azo
 refine g9 4 ?_
 refine⟨.inr rfl,[_],⟨rfl,trivial⟩,((aG,aj 70 [.pointer vS,.pointer vT,.map (some dI),iV wt,iV ch])::gM),(List.sublist_append_left _ _).k9,?_⟩
 exact⟨rfl,_,congrArg _ (by simp),xc⟩

theorem Ni(xc:lf ib dI G mp gM)(th:Int)(ly:¬th<0)(vd:getM mp th=none):
    Fc Tryz.prog 9 [aq aG,iV th] G ((aG,aj 70 [.pointer vS,.pointer vT,.map (some dI),iV wt,iV ch])::(gM)) (fun v G' M'=>∃b9 Mm,v=aq b9∧M'=(b9,aj 78 [aq aG,iV th,.pointer none,iV 0])::((aG,aj 70 [.pointer vS,.pointer vT,.map (some dI),iV wt,iV ch])::Mm)∧lf ib dI G' (kA mp th (some b9)) Mm):=by
 refine Fc.go [.tmp 4] Tryz.func9 Tryz.ntmps9 rfl (fun w0=>(WC.perm (M':=((aG,aj 70 [.pointer vS,.pointer vT,.map (some dI),iV wt,iV ch])::(gM++[]))) (by simp) (g9 9 ?_)))
 refine W.ok (bV Cl rfl rfl) (g9 8 ?_)
 refine WC.cd (fun h9 p9=> ?_) (fun h9 p9=> ?_)
 ·exact absurd p9 ly
 refine g9 10 ?_
 refine W.IE (V:=ib) VQ aeL (show ib.R _ (.pointer none) none from rfl) rfl rfl xc (ae ai) (fun v65 aeN=> ?_)
 rw [vd]at aeN
 have azp:v65=.pointer none:=aeN
 subst azp
 refine W.ok (bV wx rfl rfl) (g9 11 ?_)
 refine W.ok (aM (L:=[.pointer _,iV _,.pointer _,iV _]) aHz aHy rfl rfl rfl) (W.box (L:=[.pointer _,iV _,.pointer _,iV _]) rfl rfl (fun Et=>(W.ak6 (V:=ib) (k:=th) VQ rfl rfl rfl xc (ae (ae ai)) (show ib.R _ (aq Et) (some Et)from rfl) (fun aeO aml=>(W.perm (ae (ae ai)).symm (g9 9 ?_))))))
 refine W.IE (V:=ib) VQ aeL (show ib.R _ (.pointer none) none from rfl) rfl rfl aml (ae (ae ai)) (fun v70 aeP=> ?_)
 rw [mB,if_pos rfl]at aeP
 have azq:v70=aq Et:=aeP
 subst azq
 refine g9 4 ?_
 refine⟨.inr rfl,[_],⟨rfl,trivial⟩,((Et,aj 78 [aq aG,iV th,.pointer none,iV 0])::((aG,aj 70 [.pointer vS,.pointer vT,.map (some dI),iV wt,iV ch])::aeO)),((List.sublist_append_left _ _).k9).k9,?_⟩
 exact⟨Et,_,rfl,congrArg _ (congrArg _ (by simp)),aml⟩

theorem ahp(xc:lf ib dI G mp gM)(th:Int)(ly:th<0):
    Fc Tryz.prog 9 [aq aG,iV th] G ((aG,aj 70 [.pointer vS,.pointer vT,.map (some dI),iV wt,iV ch])::(gM)) (fun v G' M'=>v=.pointer none∧∃Mm,M'=(aG,aj 70 [.pointer vS,.pointer vT,.map (some dI),iV wt,iV ch])::Mm∧lf ib dI G' mp Mm):=by
 refine Fc.go [.tmp 4] Tryz.func9 Tryz.ntmps9 rfl (fun w0=>(WC.perm (M':=((aG,aj 70 [.pointer vS,.pointer vT,.map (some dI),iV wt,iV ch])::(gM++[]))) (by simp) (g9 9 ?_)))
 refine W.ok (bV Cl rfl rfl) (g9 8 ?_)
 refine WC.cd (fun h9 p9=> ?_) (fun h9 p9=> ?_)
 ·refine g9 7 ?_
  refine⟨.inr rfl,[_],⟨rfl,trivial⟩,((aG,aj 70 [.pointer vS,.pointer vT,.map (some dI),iV wt,iV ch])::gM),(List.sublist_append_left _ _).k9,?_⟩
  exact⟨rfl,_,congrArg _ (by simp),xc⟩
 exact absurd ly p9

end Go.Proofs.YtfhnamngaofccaaGreat

namespace Go.Fw
open Go Go.RowKit
section
variable {c:aQ} {l:List Nd} {ss:List aC}
structure Rp (l:List Nd) (ss:List aC) (k:ah) (x:aC) (L:List (List aA)):Prop where
 mem:x∈ss
 has:x.s.has k=true
 all:∀A∈L,ng A∧(∀m∈A,m.R)∧A.length≤4000
 perm:((L.map (aK (ptS k))).flatten).Perm (aK (ptS k) x.ms)
 len:(L.length:Int)=(bG l 0).n.level-x.n.level
end
structure RSt where
 fr:Int
 x:aC
 look:Bool
 L:List (List aA)
 pt:Bool
 dn:Bool
 most:Int
 W:ew
theorem Fc.sub{P:Program}{g:FuncId}{vs:List Value}{G:GH}{M M1 R:MH}{Q:Value→GH→MH→Prop}(hp:(M1++R).Perm M)(h:Fc P g vs G M1 Q):Fc P g vs G M (fun v G' M'=>∃M2,M'=M2++R∧Q v G' M2):=Fc.perm hp (Fc.frame h)
theorem aeQ{a b c:Nat×Obj}{Mt R:MH} :((b::c::Mt)++(a::R)).Perm (a::b::c::(Mt++R)):=rj (by simp only [lN,jR];ac_rfl)
section
variable {W:ew} {th s f h:Int} {p:List Int×Int}
theorem QD(hs:0≤s)(hf:0≤f)(hn:s≠f):oj (W.set f.toNat p) s=oj W s:=by
 unfold oj
 rw [List.getD_eq_getElem?_getD,List.getD_eq_getElem?_getD,List.getElem?_set_ne aa]
theorem VS(hs:lU W s):oj (W.set s.toNat p) s=p:=by
 unfold oj
 rw [List.getD_eq_getElem?_getD,List.getElem?_set_self (dN hs)];rfl
variable {i:Nat}
theorem Jo:lU (W.set i p) s↔lU W s:=by unfold lU;rw [List.length_set]
theorem Nj(hs:lU W s)(h:oj W s=p):W.set s.toNat p=W:=by
 rw [lO hs (dN hs)]at h
 rw [←h];exact List.set_getElem_self _
theorem Jp(hs:lU W s)(h9:oj W s=([th],h)):(hU W th s).2=W.set s.toNat ([],0):=by
 have h1:W[s.toNat]'(dN hs)=([th],h):=by rw [←lO hs (dN hs),h9]
 have h2:eO W th s=true:=by rw [(C2 hs).1,h1];simp
 have h3:xv th [th]=[]:=by unfold xv;simp
 rw [abd h2 hs,h1,h3];rfl
def FV (W:ew) (th:Int) (k:Nat):List ko:=(m5 W k).filter fun h=>decide (h.kM=th)
theorem Bj{k:Nat}(hk:k<W.length):FV W th (k+1)=FV W th k++(Gg (k:Int) W[k]).filter fun h=>decide (h.kM=th):=by
 unfold FV;rw [rX W hk,List.filter_append]
theorem VT:kT W th=FV W th W.length:=rfl
theorem ahq{k:Int}{p:List Int×Int}(h:th∉p.1):(Gg k p).filter (fun h=>decide (h.kM=th))=[]:=by
 unfold Gg
 rw [List.filter_eq_nil_iff]
 intro a ha
 obtain⟨b,hb,rfl⟩:=List.mem_map.1 ha
 have:b≠th:=fun e=>h (e▸hb)
 simpa using this
theorem VU{k:Int}{h:Int} :(Gg k ([th],h)).filter (fun h=>decide (h.kM=th))=[⟨th,k,decide (h=2)⟩]:=by
 unfold Gg;simp
theorem VV{i:Nat} :∀k,k≤W.length→(FV (W.set i ([th],h)) th k).length≤(FV W th k).length+if i<k then 1 else 0
 |0,_=>by simp [FV,m5]
 |k+1,hk=>by
  have ih:=VV (i:=i) k aa
  rw [Bj (by rw [List.length_set];omega),Bj aa,List.length_append,List.length_append,List.getElem_set]
  by_cases e:i=k
  ·rw [if_pos e,VU,if_pos aa]
   rw [if_neg aa]at ih
   simp only [List.length_cons,List.length_nil];omega
  ·rw [if_neg e]
   by_cases h9:i<k
   ·rw [if_pos h9]at ih;rw [if_pos aa];omega
   ·rw [if_neg h9]at ih;rw [if_neg aa];omega
theorem VW:(kT (W.set i ([th],h)) th).length≤(kT W th).length+1:=by
 rw [VT,VT,List.length_set]
 have:=VV (W:=W) (th:=th) (h:=h) (i:=i) W.length (Nat.le_refl _)
 split at this<;>omega
theorem C3{n:Nat} :oj (List.replicate n ([],0)) s=([],0):=by
 unfold oj
 rw [List.getD_eq_getElem?_getD,List.getElem?_replicate]
 split<;>rfl
theorem Bk{n:Nat}{g:ko→Bool} :qj g (List.replicate n ([],0))=[]:=by
 have h:∀k,k≤n→m5 (List.replicate n (([]:List Int),(0:Int))) k=[]:=by
  intro k
  induction k with
  |zero=>intro _;rfl
  |succ k ih=>intro hk;rw [rX _ (by rw [List.length_replicate];omega),ih aa,List.getElem_replicate];rfl
 unfold qj
 rw [h _ (by rw [List.length_replicate];exact Nat.le_refl _)];rfl
end
structure PourOf (c:aQ) (l:List Nd) (ss:List aC) (P:aC) (i:Nat) (a b:Nd) (T:List aA):Prop where
 t:Tree c l ss
 mem:P∈ss
 h0:¬P.n.level=0
 hi:i<P.n.kids.length
 po:oZ c P.n (au l P i).n i a b T
def cA (l:List Nd) (a b:Nd):List Nd:=(l.set a.slot.toNat a).set b.slot.toNat b
namespace PourOf
variable {c:aQ} {l:List Nd} {ss:List aC} {P:aC} {i:Nat} {a b:Nd} {T:List aA}
theorem km(p:PourOf c l ss P i a b T):au l P i∈ss∧(au l P i).n.level=P.n.level-1:=by
 have:=p.t.at p.mem p.h0 p.hi
 exact⟨this.1,this.2.2.2⟩
variable {x:aC}
theorem ne(p:PourOf c l ss P i a b T){y:aC}(hx:x∈ss)(hy:y∈ss)(hl:x.n.level≠y.n.level):x.n.slot≠y.n.slot:=fun e=>hl (by rw [p.t.mC hx hy e])
theorem x9(p:PourOf c l ss P i a b T):(au l P i).n.slot≠P.n.slot:=p.ne p.km.1 p.mem (by have:=p.km.2;omega)
theorem sin(p:PourOf c l ss P i a b T)(hx:x∈ss):0≤x.n.slot∧x.n.slot<l.length:=(p.t.nd hx).1
theorem Eh(p:PourOf c l ss P i a b T)(hx:x∈ss):x.n.seen≤1099511627776:=by
 obtain⟨j,hj,e⟩:=List.getElem_of_mem (p.t.nd hx).2.2
 rw [←e];exact(p.t.slot j hj).2
theorem al(p:PourOf c l ss P i a b T):a.slot=P.n.slot∧a.level=P.n.level∧a.ab=P.n.ab∧a.kids=P.n.kids∧a.high=P.n.high∧a.cW=P.n.cW∧a.right=P.n.right∧a.seen=P.n.seen∧a.rows=P.n.rows∧a.af=bP P.n.ab i T P.n.af:=by
 rw [p.po.ea];exact⟨rfl,rfl,rfl,rfl,rfl,rfl,rfl,rfl,rfl,rfl⟩
theorem bl(p:PourOf c l ss P i a b T):b.slot=(au l P i).n.slot∧b.level=(au l P i).n.level∧b.ab=(au l P i).n.ab∧b.kids=(au l P i).n.kids∧b.high=(au l P i).n.high∧b.cW=(au l P i).n.cW∧b.right=(au l P i).n.right:=by
 rw [p.po.eb];exact⟨rfl,rfl,rfl,rfl,rfl,rfl,rfl⟩
theorem rt(p:PourOf c l ss P i a b T):rising P.n.ab=true∧P.n.kids.length=P.n.ab.length+1:=cE (cx (p.t.kids p.mem) p.h0).2.2.1
theorem pin(p:PourOf c l ss P i a b T):P.n.kK c.bu c.bud:=p.t.inner p.mem p.h0
theorem kne(p:PourOf c l ss P i a b T):(au l P i).s.empty=false:=by
 cases h:(au l P i).s.empty
 ·rfl
 ·exfalso
  have hz:(au l P i).s=Span.zero:=by
   have:=fj P.s (ar P.n.ab (i:Int))
   have e:(au l P i).s=(au l P i).s.norm:=this.symm
   rw [e];unfold Span.norm;rw [if_pos h]
  have sK:=p.t.fo p.km.1
  obtain⟨⟨p1,p2⟩,_⟩:=sK.2.1
  rw [hz]at p1 p2
  exact(sK.1.2.2.1 p1).1 p2
theorem sps(p:PourOf c l ss P i a b T):(iT P.n i).bT=(au l P i).s.bT∧(iT P.n i).hi=(au l P i).s.hi∧∀q,(au l P i).s.has q=true→(iT P.n i).has q=true:=by
 have lR:=p.kne
 obtain⟨⟨p1,p2⟩,_⟩:=(p.t.fo p.mem).2.1
 have hP:∀q,P.s.has q=(P.n.has q&& !q.lt P.s.lo):=fun q=>by
  unfold Nd.has Span.has
  rw [p1,p2,Bool.and_comm]
 have hA:∀q,(au l P i).s.has q=((iT P.n i).has q&& !q.lt P.s.lo):=fun q=>by
  show(P.s.bE (ar P.n.ab (i:Int))).has q=_
  rw [cu,zI,hP]
  cases P.n.has q<;>cases (ar P.n.ab (i:Int)).has q<;>simp
 have gx:(au l P i).s.has (au l P i).s.lo=true:=by have:=Span.empty_eq (au l P i).s;rw [lR]at this;simpa using this
 have aIN:(iT P.n i).has (au l P i).s.lo=true:=by rw [hA,Bool.and_eq_true]at gx;exact gx.1
 have e:=FJ (s:=iT P.n i) (a:=(au l P i).s) (k:=(au l P i).s.lo) (fj _ _) (fj _ _) aIN fun q=>by
  cases h1:(au l P i).s.has q
  ·symm
   cases h2:(iT P.n i).has q
   ·rfl
   ·cases h3:q.lt (au l P i).s.lo
    ·exfalso
     have h4:=gx
     rw [hA,Bool.and_eq_true]at h4
     have h5:q.lt P.s.lo=false:=ah.le_trans (by simpa using h4.2) h3
     rw [hA,h2,h5]at h1;cases h1
    ·rfl
  ·have h2:=h1
   rw [hA,Bool.and_eq_true]at h2
   rw [h2.1,(cD.1 h1).1];rfl
 exact⟨by rw [e],by rw [e],fun q hq=>by rw [hA,Bool.and_eq_true]at hq;exact hq.1⟩
theorem abe(p:PourOf c l ss P i a b T):∀m∈P.n.af,∀q,m.span.has q=true→P.s.has q=true:=fun m hm q hq=>by
 obtain⟨_,_,_,p5⟩:=(p.t.fo p.mem).2.1
 obtain⟨j,hj,rfl⟩:=List.getElem_of_mem hm
 have:=congrArg (fun s:Span=>s.has q) (p5 j hj)
 rw [cu,kP,hq,Bool.true_and]at this
 exact this
theorem FM(p:PourOf c l ss P i a b T)(q:ah):(au l P i).s.has q=(P.s.has q&&(ar P.n.ab (i:Int)).has q):=by
 show(P.s.bE (ar P.n.ab (i:Int))).has q=_
 rw [cu]
theorem mv(p:PourOf c l ss P i a b T):ni P.n.ab i P.n.af T:=by
 obtain⟨n,_,_,rfl⟩:=p.po.take
 exact Ea p.rt.1 (by have:=p.rt.2;have:=p.hi;omega) p.pin.2.2.1 n
theorem lZ(p:PourOf c l ss P i a b T):aK (au l P i).s P.n.af=T++aK (au l P i).s a.af:=by
 rw [p.al.2.2.2.2.2.2.2.2.2]
 refine p.mv.MI p.rt.1 (by have:=p.rt.2;have:=p.hi;omega) p.pin.2.2.1 (fun q hq=> ?_) fun m hm q h1 h2=> ?_
 ·rw [p.FM,Bool.and_eq_true]at hq;exact hq.2
 ·rw [p.FM,p.abe m hm q h1,h2];rfl
theorem wA(p:PourOf c l ss P i a b T){t:Span}(ht:∀k,t.has k=true→(ar P.n.ab (i:Int)).has k=false):aK t a.af=aK t P.n.af:=by
 rw [p.al.2.2.2.2.2.2.2.2.2]
 exact p.mv.aaO p.rt.1 (by have:=p.rt.2;have:=p.hi;omega) p.pin.2.2.1 ht
theorem may(p:PourOf c l ss P i a b T):MJ c P.n (au l P i).n i:=by
 have sK:=p.t.fo p.km.1
 obtain⟨⟨p1,p2⟩,_⟩:=sK.2.1
 have hl:=p.t.lvl p.mem
 have h0:=p.h0
 have hi:=p.hi
 obtain⟨s1,s2,s3⟩:=p.sps
 refine⟨⟨(p.t.fo p.mem).1,sK.1,aa,p.km.2,aa,aa⟩,⟨by rw [s1];exact p1,by rw [s2];exact p2⟩,fun j hj he=> ?_⟩
 have hm:=List.getElem_mem hj
 have Ee:(P.n.af[j].span.bE (au l P i).s).empty=false:=by
  cases h1:(P.n.af[j].span.bE (au l P i).s).empty
  ·rfl
  ·have h2:(P.n.af[j].span.bE (iT P.n i)).empty=true:=dW.2 fun q=>by
    have h3:=dW.1 h1 q
    rw [cu]at h3⊢
    cases h4:P.n.af[j].span.has q
    ·rfl
    ·rw [h4,Bool.true_and]at h3
     rw [Bool.true_and]
     cases h5:(iT P.n i).has q
     ·rfl
     ·rw [zI,Bool.and_eq_true]at h5
      rw [p.FM,p.abe _ hm q h4,h5.2]at h3;cases h3
   rw [h2]at he;cases he
 have hc:(P.n.af[j].clip (au l P i).s).2=true:=by
  cases h1:(P.n.af[j].clip (au l P i).s).2
  ·rw [nh.1 h1]at Ee;cases Ee
  ·rfl
 have xu:(P.n.af[j].clip (au l P i).s).1∈(au l P i).ms:=by
  rw [(p.t.zE p.mem (p.t.vF P p.mem) i).1]
  exact List.mem_append_left _ (List.mem_filterMap.2 ⟨_,hm,if_pos hc⟩)
 obtain⟨q,hq,e⟩:=List.getElem_of_mem xu
 have:=sK.2.2.2 q hq
 rw [e,eG hc]at this
 exact this
noncomputable def nP (P:aC) (a:Nd):aC:=⟨a,P.s,P.ms⟩
noncomputable def nK (l:List Nd) (P:aC) (i:Nat) (a b:Nd):aC:=⟨b,(au l P i).s,aK (au l P i).s a.af++aK (au l P i).s P.ms⟩
noncomputable def gP (l:List Nd) (P:aC) (i:Nat) (a b:Nd) (x:aC):aC:=if x.n.slot=(au l P i).n.slot then nK l P i a b else if x.n.slot=P.n.slot then nP P a else x
theorem g_k:gP l P i a b (au l P i)=nK l P i a b:=if_pos rfl
theorem g_p(p:PourOf c l ss P i a b T):gP l P i a b P=nP P a:=by unfold gP;rw [if_neg p.x9.symm,if_pos rfl]
theorem QE(h1:x.n.slot≠P.n.slot)(h2:x.n.slot≠(au l P i).n.slot):gP l P i a b x=x:=by unfold gP;rw [if_neg h2,if_neg h1]
theorem three(p:PourOf c l ss P i a b T){Q:aC→Prop}(hk:Q (au l P i))(hp:Q P)(hx:∀x∈ss,x.n.slot≠P.n.slot→x.n.slot≠(au l P i).n.slot→Q x):∀x∈ss,Q x:=fun x hm=>by
 by_cases c1:x.n.slot=(au l P i).n.slot
 ·rw [p.t.mC hm p.km.1 c1];exact hk
 ·by_cases c2:x.n.slot=P.n.slot
  ·rw [p.t.mC hm p.mem c2];exact hp
  ·exact hx x hm c2 c1
theorem zS(p:PourOf c l ss P i a b T):∀x∈ss,(gP l P i a b x).n.slot=x.n.slot∧(gP l P i a b x).n.level=x.n.level∧(gP l P i a b x).n.right=x.n.right∧(gP l P i a b x).n.ab=x.n.ab∧(gP l P i a b x).n.kids=x.n.kids∧(gP l P i a b x).s=x.s:=by
 obtain⟨a1,a2,a3,a4,a5,a6,a7,_⟩:=p.al
 obtain⟨b1,b2,b3,b4,b5,b6,b7⟩:=p.bl
 refine p.three ?_ ?_ fun x hx h1 h2=> ?_
 ·rw [g_k];exact⟨b1,b2,b7,b3,b4,rfl⟩
 ·rw [p.g_p];exact⟨a1,a2,a7,a3,a4,rfl⟩
 ·rw [QE h1 h2];exact⟨rfl,rfl,rfl,rfl,rfl,rfl⟩
theorem aL(p:PourOf c l ss P i a b T):eQ (cA l a b):=by
 have hk:=p.sin p.km.1
 have hp:=p.sin p.mem
 have tk:=zJ p.may p.po
 obtain⟨⟨xl,CD,exl⟩,_⟩:=IP tk.vF p.po.ne
 have h1:=rh p.t.slot (x:=a) (by rw [p.al.1];exact hp) (by rw [p.al.2.2.2.2.2.2.2.1];exact p.Eh p.mem)
 refine rh h1 (x:=b) (by rw [List.length_set,p.bl.1];exact hk) ?_
 rw [p.po.seen,exl]
 have hm:xl∈aK (au l P i).s P.n.af:=by rw [p.lZ];exact List.mem_append_left _ CD
 obtain⟨m,hm,e⟩:=jG hm
 obtain⟨j,hj,rfl⟩:=List.getElem_of_mem hm
 have:=(p.pin.2.2.2.2.2.2 j hj).1
 have:=p.Eh p.mem
 omega
theorem len(p:PourOf c l ss P i a b T):(cA l a b).length=l.length:=by unfold cA;rw [List.length_set,List.length_set]
theorem find(p:PourOf c l ss P i a b T)(s:Int):bL (cA l a b) s=(if s=(au l P i).n.slot then b else if s=P.n.slot then a else ag l s,decide (0≤s∧s<(l.length:Int))):=by
 have hk:=p.sin p.km.1
 have hp:=p.sin p.mem
 rw [pn p.aL,p.len]
 congr 1
 unfold cA
 rw [kR (by rw [List.length_set,p.bl.1];exact hk),p.bl.1,kR (by rw [p.al.1];exact hp),p.al.1]
theorem QF(p:PourOf c l ss P i a b T)(hx:x∈ss):bL (cA l a b) x.n.slot=((gP l P i a b x).n,true):=by
 have hs:=p.sin hx
 rw [p.find,decide_eq_true ⟨hs.1,hs.2⟩]
 congr 1
 revert hs
 refine p.three (Q:=fun x=>0≤x.n.slot∧x.n.slot<(l.length:Int)→(if x.n.slot=(au l P i).n.slot then b else if x.n.slot=P.n.slot then a else ag l x.n.slot)=(gP l P i a b x).n) (fun hs=> ?_) (fun hs=> ?_) (fun x hx h1 h2 hs=> ?_) x hx
 ·rw [if_pos rfl,g_k];rfl
 ·rw [if_neg p.x9.symm,if_pos rfl,p.g_p];rfl
 ·rw [if_neg h2,if_neg h1,QE h1 h2];exact(p.t.nd hx).2.1.symm
variable {j:Nat}
theorem jP(p:PourOf c l ss P i a b T)(hx:x∈ss)(h0:¬x.n.level=0)(hj:j<x.n.kids.length):x.n.kids.getD j 0=(au l x j).n.slot:=by
 have e:=(p.t.at hx h0 hj)
 rw [List.getD_eq_getElem?_getD,List.getElem?_eq_getElem hj,e.2.2.1,(di p.t.slot e.2.1).1];rfl
theorem kms(p:PourOf c l ss P i a b T):(au l P i).ms=T++(aK (au l P i).s a.af++aK (au l P i).s P.ms):=by
 rw [(p.t.zE p.mem (p.t.vF P p.mem) i).1,p.lZ,List.append_assoc]
theorem azr(p:PourOf c l ss P i a b T)(hx:x∈ss)(h0:¬x.n.level=0)(hj:j<x.n.kids.length):au (cA l a b) (gP l P i a b x) j=gP l P i a b (au l x j):=by
 have hy:=(p.t.at hx h0 hj).1
 obtain⟨s1,s2,s3,s4,s5,s6⟩:=p.zS x hx
 obtain⟨y1,y2,y3,y4,y5,y6⟩:=p.zS _ hy
 have en:(au (cA l a b) (gP l P i a b x) j).n=(gP l P i a b (au l x j)).n:=by
  show(bL _ ((gP l P i a b x).n.kids.getD j 0)).1=_
  rw [s5,p.jP hx h0 hj,p.QF hy]
 have es:(au (cA l a b) (gP l P i a b x) j).s=(au l x j).s:=by
  show(gP l P i a b x).s.bE (ar (gP l P i a b x).n.ab (j:Int))=_
  rw [s4,s6];rfl
 have em:cC [aK (au l x j).s (gP l P i a b x).n.af,aK (au l x j).s (gP l P i a b x).ms]=(gP l P i a b (au l x j)).ms:=by
  have rQ:cC [aK (au l x j).s x.n.af,aK (au l x j).s x.ms]=(au l x j).ms:=rfl
  by_cases c1:x.n.slot=(au l P i).n.slot
  ·have ex:=p.t.mC hx p.km.1 c1
   have n1:(au l x j).n.slot≠P.n.slot:=p.ne hy p.mem (by have:=(p.t.at hx h0 hj).2.2.2;have:=p.km.2;rw [ex]at*;omega)
   have n2:(au l x j).n.slot≠(au l P i).n.slot:=p.ne hy p.km.1 (by have:=(p.t.at hx h0 hj).2.2.2;rw [ex]at*;omega)
   rw [QE n1 n2,←rQ,ex,g_k]
   have hI:=p.po.inner (by rw [←ex];exact h0)
   show cC [aK _ b.af,aK _ (aK (au l P i).s a.af++aK (au l P i).s P.ms)]=_
   have h2:=(p.t.two p.km.1 (au l (au l P i) j).s)
   rw [h2.1]
   have h3:=h2.2
   have e1:aK (au l (au l P i) j).s (au l P i).ms=aK (au l (au l P i) j).s T++aK (au l (au l P i) j).s (aK (au l P i).s a.af++aK (au l P i).s P.ms):=by rw [p.kms];exact ff _ _ _
   have e2:aK (au l (au l P i) j).s b.af=aK (au l (au l P i) j).s (au l P i).n.af++aK (au l (au l P i) j).s T:=by rw [hI.2.1];exact ff _ _ _
   rw [e1,←List.append_assoc,←e2]at h3⊢
   obtain⟨r1,r2,r3⟩:=rb h3
   exact(oF r1 r2 r3).1
  ·by_cases c2:x.n.slot=P.n.slot
   ·have ex:=p.t.mC hx p.mem c2
    subst ex
    rw [p.g_p]
    show cC [aK _ a.af,aK _ x.ms]=_
    by_cases e:j=i
    ·subst e
     rw [g_k]
     have h3:=(p.t.two p.mem (au l x j).s).2
     rw [p.lZ,List.append_assoc]at h3
     obtain⟨r1,r2,r3⟩:=rb (rb h3).2.1
     exact(oF r1 r2 r3).1
    ·have lR:(au l x j).n.slot≠(au l x i).n.slot:=fun e2=>e (by
      have jj:=(cx (p.t.kids p.mem) p.h0)
      exact p.t.GD p.mem (i:=j) (j:=i) (by rw [jj.1,gG];exact hj) (by rw [jj.1,gG];exact p.hi) (by rw [(p.t.mE p.mem p.h0).2,(p.t.mE p.mem p.h0).2];exact e2))
     have n1:(au l x j).n.slot≠x.n.slot:=p.ne hy hx (by have:=(p.t.at hx h0 hj).2.2.2;omega)
     rw [QE n1 lR,←rQ,p.wA fun q hq=> ?_]
     have h1:=Iy (l:=l) (cx (p.t.kids p.mem) p.h0).2.2.1 hj q
     rw [hq]at h1
     have h2:=h1.symm
     rw [Bool.and_eq_true,decide_eq_true_eq]at h2
     rw [eL p.rt.1 q (by have:=p.rt.2;have:=p.hi;omega),decide_eq_false aa]
   ·rw [QE c2 c1,rQ]
    have nO:au l x j∈bB l x:=by rw [(cx (p.t.kids hx) h0).1];exact List.mem_map.2 ⟨j,List.mem_range.2 hj,rfl⟩
    have aeR:au l P i∈bB l P:=by rw [(cx (p.t.kids p.mem) p.h0).1];exact List.mem_map.2 ⟨i,List.mem_range.2 p.hi,rfl⟩
    have n2:(au l x j).n.slot≠(au l P i).n.slot:=fun e=>c2 (by rw [p.t.parent hx p.mem nO aeR e])
    by_cases c3:(au l x j).n.slot=P.n.slot
    ·rw [p.t.mC hy p.mem c3,p.g_p];rfl
    ·rw [QE c3 n2]
 have e3:(au (cA l a b) (gP l P i a b x) j).ms=cC [aK (au (cA l a b) (gP l P i a b x) j).s (gP l P i a b x).n.af,aK (au (cA l a b) (gP l P i a b x) j).s (gP l P i a b x).ms]:=rfl
 rw [es,em]at e3
 cases hA:au (cA l a b) (gP l P i a b x) j
 cases hB:gP l P i a b (au l x j)
 rw [hA]at en es e3
 rw [hB]at en e3 y6
 simp only at en es e3 y6
 rw [en,es,e3,y6]
theorem each(p:PourOf c l ss P i a b T)(hx:x∈ss):(dz (cA l a b) (gP l P i a b x)).isSome=true∧bB (cA l a b) (gP l P i a b x)=(bB l x).map (gP l P i a b):=by
 obtain⟨s1,s2,s3,s4,s5,s6⟩:=p.zS x hx
 by_cases h0:x.n.level=0
 ·rw [pi (by rw [s2];exact h0),fD (by rw [s2];exact h0),fD h0];exact⟨rfl,rfl⟩
 ·obtain⟨h1,h2,h3,h4⟩:=cx (p.t.kids hx) h0
  obtain⟨g1,g2⟩:=qZ (l:=cA l a b) (x:=gP l P i a b x) (by rw [s2];exact h2) (by rw [s4,s5];exact h3) fun j hj=>by
   rw [s5]at hj
   have e:=p.t.at hx h0 hj
   unfold gT
   rw [s5,p.jP hx h0 hj,p.QF e.1]
   simp only [Bool.true_and,decide_eq_true_eq]
   rw [(p.zS _ e.1).2.1,s2];exact e.2.2.2
  refine⟨g1,?_⟩
  rw [g2,h1,s5]
  unfold iy
  rw [List.map_map]
  exact List.map_congr_left fun j hj=>p.azr hx h0 (List.mem_range.1 hj)
theorem aaW(p:PourOf c l ss P i a b T):gP l P i a b (bG l 0)=bG (cA l a b) 0:=by
 have e0:=p.t.qY
 have aeR:au l P i∈bB l P:=by rw [(cx (p.t.kids p.mem) p.h0).1];exact List.mem_map.2 ⟨i,List.mem_range.2 p.hi,rfl⟩
 have n2:(bG l 0).n.slot≠(au l P i).n.slot:=(p.t.D9 p.mem aeR).symm
 have hf:=p.QF p.t.root
 rw [e0]at hf
 by_cases c1:(bG l 0).n.slot=P.n.slot
 ·have eP:=p.t.mC p.t.root p.mem c1
  have:bG (cA l a b) 0=⟨(gP l P i a b (bG l 0)).n,Span.all,[]⟩:=by unfold bG at hf⊢;rw [hf]
  rw [this,eP,p.g_p,←eP];rfl
 ·rw [QE c1 n2]at hf⊢
  show(⟨(bL l 0).1,_,_⟩:aC)=⟨(bL _ 0).1,_,_⟩
  rw [hf];rfl
theorem Nk{g:aC→aC}{K K':aC→List aC} :∀ {L:List aC},(∀x∈L,K' (g x)=(K x).map g)→(L.map g).flatMap K'=(L.flatMap K).map g
 |[],_=>rfl
 |x::L,h=>by
  rw [List.map_cons,List.flatMap_cons,List.flatMap_cons,List.map_append,h x (by simp),Nk fun z hz=>h z (List.mem_cons_of_mem _ hz)]
theorem fix(p:PourOf c l ss P i a b T):ss.map (gP l P i a b)=bG (cA l a b) 0::(ss.map (gP l P i a b)).flatMap (bB (cA l a b)):=by
 rw [Nk fun x hx=>(p.each hx).2]
 conv=>lhs;rw [p.t.fix]
 rw [List.map_cons,p.aaW]
theorem keys(p:PourOf c l ss P i a b T):(ss.map (gP l P i a b)).map aC.key=ss.map aC.key:=by
 rw [List.map_map]
 refine List.map_congr_left fun x hx=> ?_
 obtain⟨s1,s2,s3,_⟩:=p.zS x hx
 show((gP l P i a b x).n.slot,(gP l P i a b x).n.level,(gP l P i a b x).n.right)=_
 rw [s1,s2,s3];rfl
theorem perm(p:PourOf c l ss P i a b T):((ss.map (gP l P i a b)).map fun x:aC=>x.n.slot).Perm ((cA l a b).map fun n:Nd=>n.slot):=by
 have h1:(ss.map (gP l P i a b)).map (fun x:aC=>x.n.slot)=ss.map (fun x:aC=>x.n.slot):=by
  rw [List.map_map]
  exact List.map_congr_left fun x hx=>(p.zS x hx).1
 rw [h1]
 have h4:((cA l a b).map fun n:Nd=>n.slot)=(l.map fun n:Nd=>n.slot):=by rw [kS p.aL,kS p.t.slot,p.len]
 rw [h4];exact p.t.GC
theorem tin(p:PourOf c l ss P i a b T):∀m∈T,∀q,m.span.has q=true→(au l P i).s.has q=true:=fun m hm q hq=>by
 have Lr:=(dD.iff.1 p.pin.2.2.1).1
 obtain⟨x,hx,h1,rfl⟩:=iI (show m∈aK (au l P i).s P.n.af by rw [p.lZ];exact List.mem_append_left _ hm)
 exact(xZ (Lr x hx) h1 hq).2
theorem VX{m:aA}{s:Span}(h:∀q,m.span.has q=true→s.has q=true):m.span.bE s=m.span.norm:=by
 rw [←fj]
 exact oE fun q=>by
  rw [cu]
  cases hq:m.span.has q
  ·rfl
  ·rw [h q hq];rfl
theorem Qi(p:PourOf c l ss P i a b T):∀x∈ss,vz c (gP l P i a b x):=by
 have hm:=(ML p.may p.po).1
 have sK:=p.t.fo p.km.1
 have sP:=p.t.fo p.mem
 have tk:=zJ p.may p.po
 obtain⟨⟨xl,CD,exl⟩,_⟩:=IP tk.vF p.po.ne
 obtain⟨a1,a2,a3,a4,a5,a6,a7,a8,a9,a10⟩:=p.al
 obtain⟨b1,b2,b3,b4,b5,b6,b7⟩:=p.bl
 have Ed:=(dD.iff.1 p.pin.2.2.1).1
 refine p.three ?_ ?_ fun x hx h1 h2=> ?_
 ·rw [g_k]
  refine⟨hm.1.2.1,⟨⟨by show b.cW=_;rw [b6];exact sK.2.1.1.1,by show b.high=_;rw [b5];exact sK.2.1.1.2⟩,fun j hj=> ?_,fun j hj=> ?_,fun j hj=> ?_⟩,by show b.slot<_;rw [b1];exact sK.2.2.1,fun j hj=> ?_⟩
  ·have xu:=List.getElem_mem hj
   have all:∀y∈b.rows,(au l P i).s.has y.key=true:=by
    have rQ:∀y∈(au l P i).n.rows,(au l P i).s.has y.key=true:=fun y hy=>by obtain⟨q,hq,rfl⟩:=List.getElem_of_mem hy;exact sK.2.1.2.1 q hq
    by_cases h0:(au l P i).n.level=0
    ·rw [(p.po.leaf h0).2.1]
     exact U7 (p.t.leaf p.km.1 h0).2.2.1 tk.R rQ p.tin
    ·rw [(p.po.inner h0).1];exact rQ
   exact all _ xu
  ·have all:∀y∈b.ab,(au l P i).s.has y=true∧y≠(au l P i).s.lo:=fun y hy=>by
    rw [b3]at hy
    obtain⟨q,hq,rfl⟩:=List.getElem_of_mem hy
    exact sK.2.1.2.2.1 q hq
   exact all _ (List.getElem_mem hj)
  ·have rQ:∀y∈(au l P i).n.af,y.span.bE (au l P i).s=y.span.norm:=fun y hy=>by obtain⟨q,hq,rfl⟩:=List.getElem_of_mem hy;exact sK.2.1.2.2.2 q hq
   have all:∀y∈b.af,y.span.bE (au l P i).s=y.span.norm:=fun y hy=>by
    by_cases h0:(au l P i).n.level=0
    ·rw [(p.po.leaf h0).1]at hy;exact rQ y hy
    ·rw [(p.po.inner h0).2.1]at hy
     rcases List.mem_append.1 hy with hy|hy
     ·exact rQ y hy
     ·exact VX (p.tin y hy)
   exact all _ (List.getElem_mem hj)
  ·show b.seen<_
   rw [p.po.seen,exl]
   have hr:=p.t.vF _ p.km.1
   rw [p.kms]at hr
   exact(rb hr).2.2 xl CD _ (List.getElem_mem hj)
 ·rw [p.g_p]
  refine⟨hm.1.1,⟨⟨by show a.cW=_;rw [a6];exact sP.2.1.1.1,by show a.high=_;rw [a5];exact sP.2.1.1.2⟩,fun j hj=> ?_,fun j hj=> ?_,fun j hj=> ?_⟩,by show a.slot<_;rw [a1];exact sP.2.2.1,fun j hj=> ?_⟩
  ·have all:∀y∈a.rows,P.s.has y.key=true:=fun y hy=>by
    rw [a9]at hy
    obtain⟨q,hq,rfl⟩:=List.getElem_of_mem hy
    exact sP.2.1.2.1 q hq
   exact all _ (List.getElem_mem hj)
  ·have all:∀y∈a.ab,P.s.has y=true∧y≠P.s.lo:=fun y hy=>by
    rw [a3]at hy
    obtain⟨q,hq,rfl⟩:=List.getElem_of_mem hy
    exact sP.2.1.2.2.1 q hq
   exact all _ (List.getElem_mem hj)
  ·have all:∀y∈a.af,y.span.bE P.s=y.span.norm:=fun y hy=>by
    rw [a10]at hy
    obtain⟨_,m,hm,_,h3⟩:=Qc (oK sP.1) Ed hy
    exact VX fun q hq=>p.abe m hm q (h3 q hq)
   exact all _ (List.getElem_mem hj)
  ·show a.seen<_
   rw [a8];exact sP.2.2.2 j hj
 ·rw [QE h1 h2];exact p.t.fo hx
theorem tree(p:PourOf c l ss P i a b T):Tree c (cA l a b) (ss.map (gP l P i a b)):=by
 have hsm:=p.t.xa
 have hm:=(ML p.may p.po).1
 refine II p.t.pX (by rw [p.len];exact p.t.pos) (aaV p.t.pX (by rw [p.len];exact hsm.1) fun n hn=> ?_) p.aL p.fix (fun z hz=> ?_) p.perm ?_ (by rw [p.len];exact p.t.q.1.2.2) fun z hz=> ?_
 ·have rQ:∀n∈l,n.R c.bu c.leaf c.bud:=fun n hn=>by
   have:=(p.t.perm.mem_iff).2 hn
   obtain⟨x,hx,rfl⟩:=List.mem_map.1 this
   exact(p.t.fo hx).1
  unfold cA at hn
  rcases List.mem_or_eq_of_mem_set hn with hn|rfl
  ·rcases List.mem_or_eq_of_mem_set hn with hn|rfl
   ·exact rQ n hn
   ·exact hm.1.1
  ·exact hm.1.2.1
 ·obtain⟨x,hx,rfl⟩:=List.mem_map.1 hz
  exact(p.each hx).1
 ·rw [p.keys];exact(pq ss).1 p.t.q.1.2.1
 ·obtain⟨x,hx,rfl⟩:=List.mem_map.1 hz
  exact p.Qi x hx
theorem view(p:PourOf c l ss P i a b T)(h0:(au l P i).n.level=0):mc (nK l P i a b)=mc (au l P i):=by
 have hR:=p.t.rows p.km.1
 have tk:=zJ p.may p.po
 unfold mc
 show cJ (b.rows.filter fun p=>(au l P i).s.has p.key) (aK (au l P i).s (aK (au l P i).s a.af++aK (au l P i).s P.ms))=_
 rw [(p.po.leaf h0).2.1,←qX hR.Pv fun m hm=>by have:=(tk.R m hm).1.2.1;omega]
 conv=>rhs;rw [p.kms,ff]
 unfold cJ
 rw [List.foldl_append]
theorem map(p:PourOf c l ss P i a b T):mD (cA l a b)=mD l:=by
 rw [zF p.tree.P5,zF p.t.P5]
 rw [show ss.map (gP l P i a b)=ss.flatMap fun x=>[gP l P i a b x]from List.map_eq_flatMap]
 refine vN (p.three ?_ ?_ fun x hx h1 h2=> ?_)
 ·rw [g_k]
  by_cases h0:(au l P i).n.level=0
  ·have h1:(nK l P i a b).n.level=0:=by show b.level=0;rw [p.bl.2.1];exact h0
   simp [du,List.filter_cons,h0,h1,p.view h0]
  ·have h1:¬(nK l P i a b).n.level=0:=by show ¬b.level=0;rw [p.bl.2.1];exact h0
   simp [du,List.filter_cons,h0,h1]
 ·rw [p.g_p]
  have h0:=p.h0
  have h1:¬(nP P a).n.level=0:=by show ¬a.level=0;rw [p.al.2.1];exact h0
  simp [du,List.filter_cons,h0,h1]
 ·rw [QE h1 h2]
end PourOf
structure azs where
 kind:Int
 n:Nd
instance : Inhabited azs := ⟨⟨0, Nd.zero⟩⟩
variable {l:List Nd}
theorem rk{i:Int}(h:0≤i∧i<l.length):ag l i=l[i.toNat]'aa:=by
 have:=jN (l:=l) (k:=i.toNat) aa
 rwa [show((i.toNat:Nat):Int)=i by omega]at this
def aw (l:List Nd) (a i:Int):Nd:=ag l ((ag l a).kids.getD i.toNat 0)
noncomputable def ic (c:aQ) (l:List Nd) (a i:Int):(Int×Int×Int)×List Nd:=
 if cg c (ag l a) (aw l a i) i=3 then(if(cz c l a i).1=0 then((3,a,0),(cz c l a i).2)else((0,a,(cz c l a i).1),(cz c l a i).2))
 else if cg c (ag l a) (aw l a i) i=4 then((4,a,0),cA l (bj c.leaf c.bud (ag l a) (aw l a i) i).1 (bj c.leaf c.bud (ag l a) (aw l a i) i).2.1)
 else if cg c (ag l a) (aw l a i) i=5 then((5,(aw l a i).slot,0),l)
 else((0,a,0),l)
noncomputable def dP (c:aQ) (l:List Nd) (a:Int) (k:ah):(Int×Int×Int)×List Nd:=
 if(ak c (ag l a) k).1=0 then((0,a,0),l)
 else if(ak c (ag l a) k).1=1 then(if(cG c l).1=0 then((1,a,0),(cG c l).2)else((0,a,(cG c l).1),(cG c l).2))
 else ic c l a (ak c (ag l a) k).2
variable {a:Int}
theorem sv{c:aQ}{k:ah}(h:(ak c (ag l a) k).1=0):dP c l a k=((0,a,0),l):=if_pos h
theorem zT{c:aQ}{k:ah}(h:(ak c (ag l a) k).1=1)(h2:(cG c l).1=0):dP c l a k=((1,a,0),(cG c l).2):=by unfold dP;rw [if_neg aa,if_pos h,if_pos h2]
theorem zU{c:aQ}{k:ah}(h:(ak c (ag l a) k).1=1)(h2:¬(cG c l).1=0):dP c l a k=((0,a,(cG c l).1),(cG c l).2):=by unfold dP;rw [if_neg aa,if_pos h,if_neg h2]
theorem je{c:aQ}{k:ah}(h:(ak c (ag l a) k).1=2):dP c l a k=ic c l a (ak c (ag l a) k).2:=by unfold dP;rw [if_neg aa,if_neg aa]
section
variable {c:aQ} {l:List Nd} {a i:Int}
theorem Bl(h:cg c (ag l a) (aw l a i) i=3)(h2:(cz c l a i).1=0):ic c l a i=((3,a,0),(cz c l a i).2):=by unfold ic;rw [if_pos h,if_pos h2]
theorem Bm(h:cg c (ag l a) (aw l a i) i=3)(h2:¬(cz c l a i).1=0):ic c l a i=((0,a,(cz c l a i).1),(cz c l a i).2):=by unfold ic;rw [if_pos h,if_neg h2]
theorem pZ(h:cg c (ag l a) (aw l a i) i=4):ic c l a i=((4,a,0),cA l (bj c.leaf c.bud (ag l a) (aw l a i) i).1 (bj c.leaf c.bud (ag l a) (aw l a i) i).2.1):=by unfold ic;rw [if_neg aa,if_pos h]
theorem Bn(h:cg c (ag l a) (aw l a i) i=5):ic c l a i=((5,(aw l a i).slot,0),l):=by unfold ic;rw [if_neg aa,if_neg aa,if_pos h]
theorem Bo(h:cg c (ag l a) (aw l a i) i=0):ic c l a i=((0,a,0),l):=by unfold ic;rw [if_neg aa,if_neg aa,if_neg aa]
theorem fz(c:aQ)(p k:Nd)(i:Int):cg c p k i=0∨cg c p k i=3∨(cg c p k i=4∧0<bW c.leaf c.bud p k i)∨cg c p k i=5:=by
 unfold cg
 split
 ·split
  ·exact .inl rfl
  ·exact .inr (.inl rfl)
 ·split
  ·rename_i h;exact .inr (.inr (.inl ⟨rfl,h⟩))
  ·split
   ·exact .inr (.inr (.inr rfl))
   ·split
    ·split
     ·exact .inl rfl
     ·exact .inr (.inl rfl)
    ·exact .inl rfl
end
theorem gj(c:aQ)(n:Nd)(k:ah):(ak c n k).1=0∨(ak c n k).1=1∨((ak c n k).1=2∧¬n.level=0∧((ak c n k).2=(fF n.ab n.af).1∨(ak c n k).2=((aJ n.ab k:Nat):Int))):=by
 unfold ak
 split
 ·exact .inl rfl
 ·rename_i h0
  split
  ·exact .inr (.inl rfl)
  ·refine .inr (.inr ⟨rfl,h0,?_⟩)
   dsimp only
   split
   ·exact .inl rfl
   ·exact .inr rfl
variable {a:Int} {l:List Nd} {ss:List aC}
theorem Tree.rl{c:aQ}(t:Tree c l ss)(ha:0≤a∧a<l.length):∃P∈ss,P.n=ag l a:=by
 have hm:ag l a∈l:=by rw [rk ha];exact List.getElem_mem _
 have:=(t.perm.mem_iff).2 hm
 obtain⟨P,hP,e⟩:=List.mem_map.1 this
 exact⟨P,hP,e⟩
structure vR (c:aQ) (l:List Nd) (ss:List aC) (a i:Int) (P:aC):Prop where
 mem:P∈ss
 n:P.n=ag l a
 h0:¬P.n.level=0
 hi:0≤i∧i<(P.n.kids.length:Int)
 slot:P.n.slot=a
 Ba:(au l P i.toNat).n=aw l a i
 x3:0≤(ag l a).kids.getD i.toNat 0∧(ag l a).kids.getD i.toNat 0<(l.length:Int)
 x9:(aw l a i).slot=(ag l a).kids.getD i.toNat 0
 kof:fk (ag l a) (aw l a i) i
variable {i:Int}
theorem nu{c:aQ}(t:Tree c l ss)(ha:0≤a∧a<l.length)(h0:¬(ag l a).level=0)(hi:0≤i∧i<((ag l a).kids.length:Int)):∃P,vR c l ss a i P:=by
 obtain⟨P,hP,e⟩:=t.rl ha
 have hP0:¬P.n.level=0:=by rw [e];exact h0
 have hj:i.toNat<P.n.kids.length:=by rw [e];omega
 have h1:=t.at hP hP0 hj
 have ek:(ag l a).kids.getD i.toNat 0=P.n.kids[i.toNat]:=by rw [←e,List.getD_eq_getElem?_getD,List.getElem?_eq_getElem hj];rfl
 have hs:=(di t.slot ha).1
 have j3:=(di t.slot h1.2.1).1
 have hl:=t.lvl hP
 refine⟨P,hP,e,hP0,by rw [e];exact hi,by rw [e,hs],by rw [h1.2.2.1];unfold aw;rw [ek],by rw [ek];exact h1.2.1,by unfold aw;rw [ek];exact j3,?_⟩
 unfold fk aw
 rw [ek,←h1.2.2.1,h1.2.2.2,←e]
 exact⟨aa,rfl,aa,by rw [e];exact hi.2⟩
theorem kD{c:aQ}(t:Tree c l ss){k:ah}(ha:0≤a∧a<l.length)(h:(ak c (ag l a) k).1=2):¬(ag l a).level=0∧0≤(ak c (ag l a) k).2∧(ak c (ag l a) k).2<((ag l a).kids.length:Int):=by
 obtain⟨P,hP,e⟩:=t.rl ha
 rcases gj c (ag l a) k with h1|h1|⟨_,h0,h1⟩
 ·omega
 ·omega
 ·refine⟨h0,?_⟩
  have hr:=(cE (cx (t.kids hP) (by rw [e];exact h0)).2.2.1).2
  rw [e]at hr
  rcases h1 with h1|h1
  ·rw [h1]
   have:=aa1 (P:=(ag l a).ab) (l:=(ag l a).af)
   omega
  ·rw [h1]
   have:aJ (ag l a).ab k≤(ag l a).ab.length:=List.length_filter_le _ _
   omega
theorem vR.Nl{c:aQ}{P:aC}(t:Tree c l ss)(s:vR c l ss a i P)(h:0<bW c.leaf c.bud (ag l a) (aw l a i) i):
  ∃T,PourOf c l ss P i.toNat (bj c.leaf c.bud (ag l a) (aw l a i) i).1 (bj c.leaf c.bud (ag l a) (aw l a i) i).2.1 T:=by
 rcases U3 c (ag l a) (aw l a i) i with e|⟨hk,T,hp,e⟩
 ·have:=aef c.leaf c.bud (ag l a) (aw l a i) i
  rw [e]at this
  dsimp only at this
  omega
 ·refine⟨T,t,s.mem,s.h0,by have:=s.hi;omega,?_⟩
  have hc:((i.toNat:Nat):Int)=i:=by have:=s.hi;omega
  rw [s.Ba,s.n,hc]
  exact hp
theorem ahr{c:aQ}(t:Tree c l ss)(ha:0≤a∧a<l.length)(h0:¬(ag l a).level=0)(hi:0≤i∧i<((ag l a).kids.length:Int)):∃T,Tree c (ic c l a i).2 T∧mD (ic c l a i).2=mD l:=by
 obtain⟨P,s⟩:=nu t ha h0 hi
 rcases fz c (ag l a) (aw l a i) i with h|h|⟨h,h2⟩|h
 ·rw [Bo h];exact⟨ss,t,rfl⟩
 ·obtain⟨T,h1,h2⟩:=MV t a i
  by_cases h3:(cz c l a i).1=0
  ·rw [Bl h h3];exact⟨T,h1,h2⟩
  ·rw [Bm h h3];exact⟨T,h1,h2⟩
 ·rw [pZ h]
  obtain⟨T,p⟩:=s.Nl t h2
  exact⟨_,p.tree,p.map⟩
 ·rw [Bn h];exact⟨ss,t,rfl⟩
theorem rm{c:aQ}(t:Tree c l ss)(ha:0≤a∧a<l.length)(k:ah):∃T,Tree c (dP c l a k).2 T∧mD (dP c l a k).2=mD l:=by
 rcases gj c (ag l a) k with h|h|⟨h,_⟩
 ·rw [sv h];exact⟨ss,t,rfl⟩
 ·obtain⟨T,h1,h2⟩:=MU t
  by_cases h3:(cG c l).1=0
  ·rw [zT h h3];exact⟨T,h1,h2⟩
  ·rw [zU h h3];exact⟨T,h1,h2⟩
 ·rw [je h]
  obtain⟨h0,hi⟩:=kD t ha h
  exact ahr t ha h0 hi
theorem ub{K:(Int×Int×Int)×List Nd}{w n e w0 n0 e0:Int}{L:List Nd}(hE:K=((w0,n0,e0),L))(h1:w=w0)(h2:n=n0)(h3:e=e0):
  Value.tuple #[.int .i64 w,.int .i64 n,.int .i64 e]=.tuple #[.int .i64 K.1.1,.int .i64 K.1.2.1,.int .i64 K.1.2.2]:=by rw [hE,h1,h2,h3]
theorem abf{c:aQ}{p k:Nd}(h3:¬cg c p k i=3)(h4:¬cg c p k i=4)(h5:¬cg c p k i=5):cg c p k i=0:=by
 rcases fz c p k i with h|h|⟨h,_⟩|h
 ·exact h
 ·exact absurd h h3
 ·exact absurd h h4
 ·exact absurd h h5
theorem azt{c:aQ}{n:Nd}{k:ah}(h1:¬(ak c n k).1=1)(h2:¬(ak c n k).1=2):(ak c n k).1=0:=by
 rcases gj c n k with h|h|⟨h,_⟩
 ·exact h
 ·exact absurd h h1
 ·exact absurd h h2
theorem amm{α:Type}{e:dV α}{T:TypeId}{G:GH}{v:Value}{l:List α}{Ms:MH}{x:α}{i:Nat}(h:aP e T G v l Ms)(hi:i<l.length)(hx:l[i]=x):∃cs,sH Ms v e.k i cs∧e.R G cs x:=by
 subst hx
 exact h.at hi
theorem abg(c:aQ)(l:List Nd):l.length≤(cG c l).2.length:=by
 unfold cG
 split
 ·exact Nat.le_refl _
 ·split
  ·exact Nat.le_refl _
  ·unfold iR
   simp
theorem Bp(c:aQ)(l:List Nd)(p i:Int):l.length≤(cz c l p i).2.length:=by
 unfold cz
 split
 ·exact Nat.le_refl _
 ·unfold mh
  split
  ·exact Nat.le_refl _
  ·split
   ·exact Nat.le_refl _
   ·split
    ·exact Nat.le_refl _
    ·split
     ·exact Nat.le_refl _
     ·unfold yc
      simp
theorem Jq(l:List Nd)(a b:Nd):l.length≤(cA l a b).length:=by unfold cA;simp
theorem ahs(c:aQ)(l:List Nd)(a i:Int):l.length≤(ic c l a i).2.length:=by
 have hp:=Bp c l a i
 rcases fz c (ag l a) (aw l a i) i with h|h|⟨h,h2⟩|h
 ·rw [Bo h];exact Nat.le_refl _
 ·by_cases h3:(cz c l a i).1=0
  ·rw [Bl h h3];exact hp
  ·rw [Bm h h3];exact hp
 ·rw [pZ h];exact Jq _ _ _
 ·rw [Bn h];exact Nat.le_refl _
theorem abh(c:aQ)(l:List Nd)(a:Int)(k:ah):l.length≤(dP c l a k).2.length:=by
 have hl:=abg c l
 rcases gj c (ag l a) k with h|h|⟨h,_⟩
 ·rw [sv h];exact Nat.le_refl _
 ·by_cases h3:(cG c l).1=0
  ·rw [zT h h3];exact hl
  ·rw [zU h h3];exact hl
 ·rw [je h];exact ahs c l a _
theorem rn{c:aQ}(t:Tree c l ss)(ha:0≤a∧a<l.length)(k:ah):0≤(dP c l a k).1.2.1∧(dP c l a k).1.2.1<((dP c l a k).2.length:Int):=by
 have hg:=abh c l a k
 rcases gj c (ag l a) k with h|h|⟨h,_⟩
 ·rw [sv h];exact ha
 ·by_cases h3:(cG c l).1=0
  ·rw [zT h h3]at hg⊢;exact⟨ha.1,by show a<_;dsimp only at hg⊢;omega⟩
  ·rw [zU h h3]at hg⊢;exact⟨ha.1,by show a<_;dsimp only at hg⊢;omega⟩
 ·obtain⟨h0,hi⟩:=kD t ha h
  obtain⟨P,s⟩:=nu t ha h0 hi
  have hpg:=Bp c l a (ak c (ag l a) k).2
  rw [je h]
  rcases fz c (ag l a) (aw l a (ak c (ag l a) k).2) (ak c (ag l a) k).2 with h|h|⟨h,h2⟩|h
  ·rw [Bo h];exact ha
  ·by_cases h3:(cz c l a (ak c (ag l a) k).2).1=0
   ·rw [Bl h h3];exact⟨ha.1,by dsimp only;omega⟩
   ·rw [Bm h h3];exact⟨ha.1,by dsimp only;omega⟩
  ·rw [pZ h]
   have:=Jq l (bj c.leaf c.bud (ag l a) (aw l a (ak c (ag l a) k).2) (ak c (ag l a) k).2).1 (bj c.leaf c.bud (ag l a) (aw l a (ak c (ag l a) k).2) (ak c (ag l a) k).2).2.1
   exact⟨ha.1,by dsimp only;omega⟩
  ·rw [Bn h]
   show 0≤(aw _ _ _).slot∧(aw _ _ _).slot<_
   rw [s.x9]
   exact s.x3
noncomputable def sw (c:aQ) (k:ah):Nat→List Nd→Int→Int→Option (Int×Int×List Nd)
 |0,_,_,_=>none
 |m+1,l,a,n=>if(dP c l a k).1.1=0 then some (n,(dP c l a k).1.2.2,(dP c l a k).2)else sw c k m (dP c l a k).2 (dP c l a k).1.2.1 (if(dP c l a k).1.1=5 then n else n+1)
variable {m:Nat}
theorem jm{c:aQ}{k:ah}{n:Int}(h:(dP c l a k).1.1=0):sw c k (m+1) l a n=some (n,(dP c l a k).1.2.2,(dP c l a k).2):=if_pos h
theorem zV{c:aQ}{k:ah}{n:Int}(h:(dP c l a k).1.1=5):sw c k (m+1) l a n=sw c k m (dP c l a k).2 (dP c l a k).1.2.1 n:=by
 show(if _ then _ else _)=_
 rw [if_neg aa,if_pos h]
theorem ny{c:aQ}{k:ah}{n:Int}(h:¬(dP c l a k).1.1=0)(h2:¬(dP c l a k).1.1=5):sw c k (m+1) l a n=sw c k m (dP c l a k).2 (dP c l a k).1.2.1 (n+1):=by
 show(if _ then _ else _)=_
 rw [if_neg h,if_neg h2]
structure QG where
 most:Int
 W:ew
 l:List Nd
 ch:Int
structure ed where
 a:Int
 kd:Int
 i:Int
 g:Nat
 bH:Int
 fin:ah
 e:Int
 dn:Bool
 most:Int
 W:ew
 l:List Nd
abbrev ed.k (s:ed):QG:=⟨s.most,s.W,s.l,s.bH⟩
def QH (th:Int) (s:ed) (e:Int):ed:={ s with e:=e,dn:=true,W:=lM s.W th }
noncomputable def oB (th:Int) (s:ed) (x:Int) (g:Nat):Bool×ed:=
 if(cH s.W th x true).1=true then(true,{ s with g:=g,W:=(cH s.W th x true).2,most:=fh (cH s.W th x true).2 th s.most })else(false,{ s with W:=(cH s.W th x true).2 })
noncomputable def nz (c:aQ) (k:ah) (th:Int) (s:ed):ed:=
 if(ak c (ag s.l s.a) k).1=1 then(if(cG c s.l).1=0 then { s with l:=(cG c s.l).2,bH:=s.bH+1 } else QH th { s with l:=(cG c s.l).2 } (cG c s.l).1)
 else if(ak c (ag s.l s.a) k).1=2 then { s with i:=(ak c (ag s.l s.a) k).2,kd:=(ag s.l s.a).kids.getD (ak c (ag s.l s.a) k).2.toNat 0,g:=2 }
 else QH th s 0
noncomputable def yD (c:aQ) (th:Int) (s:ed):ed:=
 if cg c (ag s.l s.a) (aw s.l s.a s.i) s.i=3 then(if(cz c s.l s.a s.i).1=0 then { s with l:=(cz c s.l s.a s.i).2,bH:=s.bH+1,W:=(hU s.W th s.kd).2 } else QH th { s with l:=(cz c s.l s.a s.i).2 } (cz c s.l s.a s.i).1)
 else if cg c (ag s.l s.a) (aw s.l s.a s.i) s.i=4 then { s with l:=cA s.l (bj c.leaf c.bud (ag s.l s.a) (aw s.l s.a s.i) s.i).1 (bj c.leaf c.bud (ag s.l s.a) (aw s.l s.a s.i) s.i).2.1,bH:=s.bH+1,W:=(hU s.W th s.kd).2 }
 else if cg c (ag s.l s.a) (aw s.l s.a s.i) s.i=5 then { s with a:=s.kd,W:=(hU s.W th s.a).2 }
 else QH th s 0
noncomputable def gH (c:aQ) (k:ah) (th:Int) (s:ed):Bool×ed:=
 if s.dn=true then(false,s)
 else if s.g=0 then oB th s s.a 1
 else if s.g=1 then(true,nz c k th s)
 else if s.g=2 then oB th s s.kd 3
 else(true,yD c th { s with fin:=(aw s.l s.a s.i).high,g:=1 })
def gr (TT TO TI TH TC te tB ti tb TS:TypeId) (Th:List Int) (c:aQ) (th:Int) (bh bc bs bt:Nat) (vM:Value) (w0:Int) (G:GH) (s:QG) (Ms:MH):Prop:=
 ∃vw wt Mt gZ,(s.ch=0→wt=w0)∧Ms.Perm ((bh,.cells (List.toArray [.pointer (some ⟨bc,0,none⟩),.int .i64 th,.pointer vw,.int .i64 s.most]) TH (0,0))::(bc,.cells (List.toArray [.pointer (some ⟨bs,0,none⟩),.pointer (some ⟨bt,0,none⟩),vM,.int .i64 wt,.int .i64 s.ch]) TC (0,0))::(Mt++gZ))
  ∧dC TT TO TI Th bt G s.W Mt∧eJ te tB ti tb TS bs c G s.l gZ
def fnF (f0 f1 f2 f3:FuncId) (g:Nat):FuncId:=if g=0 then f0 else if g=1 then f1 else if g=2 then f2 else f3
def nC (TT TO TI TH TC te tB ti tb TS TY:TypeId) (f0 f1 f2 f3:FuncId) (Th:List Int) (c:aQ) (k:ah) (th:Int) (bf bh bc bs bt:Nat) (vM:Value) (w0:Int) (G:GH) (s:ed) (Ms:MH):Prop:=
 ∃Mk,Ms=(bf,.cells (List.toArray [.int .i64 s.a,.int .i64 s.kd,.int .i64 s.i,.pointer (some ⟨bc,0,none⟩),.pointer (some ⟨bh,0,none⟩),.string k.b,.func (.func (fnF f0 f1 f2 f3 s.g)) #[] #[],.int .i64 s.bH,.string s.fin.b,.int .i64 s.e,.bool s.dn]) TY (0,0))::Mk
  ∧gr TT TO TI TH TC te tB ti tb TS Th c th bh bc bs bt vM w0 G s.k Mk
def gu (TT TO TI TH TC te tB ti tb TS TY:TypeId) (f0 f1 f2 f3:FuncId) (Th:List Int) (c:aQ) (k:ah) (th:Int) (bf bh bc bs bt bm:Nat) (mp:List (Int×Option Nat)) (w0:Int) (G:GH) (s:ed) (Ms:MH):Prop:=
 ∃My Mm Mx,Ms.Perm (My++(Mm++Mx))∧nC TT TO TI TH TC te tB ti tb TS TY f0 f1 f2 f3 Th c k th bf bh bc bs bt (.map (some bm)) w0 G s My∧lf ib bm G mp Mm
section
variable {TT TO TI TH TC te tB ti tb TS TY:TypeId} {f0 f1 f2 f3:FuncId} {Th:List Int} {c:aQ} {k:ah} {th:Int} {bf bh bc bs bt bm:Nat} {vM:Value} {w0:Int} {mp:List (Int×Option Nat)} {G G':GH} {s s':ed} {q q':QG} {Ms:MH}
theorem gr.mono(hl:Le G G')(h:gr TT TO TI TH TC te tB ti tb TS Th c th bh bc bs bt vM w0 G q Ms):gr TT TO TI TH TC te tB ti tb TS Th c th bh bc bs bt vM w0 G' q Ms:=by
 obtain⟨vw,wt,Mt,gZ,hw,hp,hT,hS⟩:=h
 exact⟨vw,wt,Mt,gZ,hw,hp,hT.mono hl,hS.mono hl⟩
theorem gr.cast(e:q'=q)(h:gr TT TO TI TH TC te tB ti tb TS Th c th bh bc bs bt vM w0 G q Ms):gr TT TO TI TH TC te tB ti tb TS Th c th bh bc bs bt vM w0 G q' Ms:=e▸h
theorem nC.cast(e:s'=s)(h:nC TT TO TI TH TC te tB ti tb TS TY f0 f1 f2 f3 Th c k th bf bh bc bs bt vM w0 G s Ms):nC TT TO TI TH TC te tB ti tb TS TY f0 f1 f2 f3 Th c k th bf bh bc bs bt vM w0 G s' Ms:=e▸h
theorem nC.mono(hl:Le G G')(h:nC TT TO TI TH TC te tB ti tb TS TY f0 f1 f2 f3 Th c k th bf bh bc bs bt vM w0 G s Ms):nC TT TO TI TH TC te tB ti tb TS TY f0 f1 f2 f3 Th c k th bf bh bc bs bt vM w0 G' s Ms:=by
 obtain⟨Mk,e,hK⟩:=h
 exact⟨Mk,e,hK.mono hl⟩
theorem gu.mono(hl:Le G G')(h:gu TT TO TI TH TC te tB ti tb TS TY f0 f1 f2 f3 Th c k th bf bh bc bs bt bm mp w0 G s Ms):gu TT TO TI TH TC te tB ti tb TS TY f0 f1 f2 f3 Th c k th bf bh bc bs bt bm mp w0 G' s Ms:=by
 obtain⟨My,Mm,Mx,hp,hY,hM⟩:=h
 exact⟨My,Mm,Mx,hp,hY.mono hl,hM.mono hl⟩
theorem gu.cast(e:s'=s)(h:gu TT TO TI TH TC te tB ti tb TS TY f0 f1 f2 f3 Th c k th bf bh bc bs bt bm mp w0 G s Ms):gu TT TO TI TH TC te tB ti tb TS TY f0 f1 f2 f3 Th c k th bf bh bc bs bt bm mp w0 G s' Ms:=e▸h
end
variable {Ms:MH} {Mt:MH} {b:Nat×Obj} {d:Nat×Obj}
theorem aeS:((d::Ms)++(b::Mt)).Perm (b::d::(Mt++Ms)):=rj (by simp only [lN,jR];ac_rfl)
theorem zW:((d::Mt)++(b::Ms)).Perm (b::d::(Mt++Ms)):=rj (by simp only [lN,jR];ac_rfl)
theorem lP:(Ms++(b::d::Mt)).Perm (b::d::(Mt++Ms)):=rj (by simp only [lN,jR];ac_rfl)
variable {Mm:MH} {y:Nat×Obj}
theorem lQ{Mk:MH} :(Mk++(y::Mm)).Perm ((y::Mk)++Mm):=List.perm_middle
variable {Mx:MH} {My:MH}
theorem sy:((d::Mm)++(y::b::(Mx++My))).Perm ((y::b::d::Mx)++(Mm++My)):=rj (by simp only [lN,jR];ac_rfl)
theorem au6:((y::b::d::Mm)++Mx).Perm ((y::b::d::Mx)++(Mm++[])):=rj (by simp only [lN,jR,Jn];ac_rfl)
theorem au7{z:Nat×Obj} :((z::d::Mm)++(y::b::(Mx++My))).Perm ((z::b::d::Mx)++(Mm++(y::My))):=rj (by simp only [lN,jR];ac_rfl)
theorem au8{z:Nat×Obj} :((z::d::Mm)++(y::b::(Mx++My))).Perm ((y::b::d::Mx)++(Mm++(z::My))):=rj (by simp only [lN,jR];ac_rfl)
structure FOk (s:ed):Prop where
 g:s.g=0∨s.g=1∨s.g=2∨s.g=3
 pos:0≤s.a∧s.a<(s.l.length:Int)
 bH:0≤s.bH∧s.bH<1000000
 Ba:s.g=3→¬(ag s.l s.a).level=0∧(0≤s.i∧s.i<((ag s.l s.a).kids.length:Int))∧s.kd=(ag s.l s.a).kids.getD s.i.toNat 0
section
variable {c:aQ} {k:ah} {th a kd i bH e mo:Int} {fin:ah} {W:ew} {l:List Nd}
theorem Jr{s:ed}(h:s.dn=true):gH c k th s=(false,s):=if_pos h
variable {W':ew}
theorem Js(h:cH W th a true=(true,W')):gH c k th ⟨a,kd,i,0,bH,fin,e,false,mo,W,l⟩=(true,⟨a,kd,i,1,bH,fin,e,false,fh W' th mo,W',l⟩):=by
 show oB _ _ _ _=_
 unfold oB
 rw [h];rfl
theorem aht(h:cH W th a true=(false,W')):gH c k th ⟨a,kd,i,0,bH,fin,e,false,mo,W,l⟩=(false,⟨a,kd,i,0,bH,fin,e,false,mo,W',l⟩):=by
 show oB _ _ _ _=_
 unfold oB
 rw [h];rfl
theorem Nm(h:cH W th kd true=(true,W')):gH c k th ⟨a,kd,i,2,bH,fin,e,false,mo,W,l⟩=(true,⟨a,kd,i,3,bH,fin,e,false,fh W' th mo,W',l⟩):=by
 show oB _ _ _ _=_
 unfold oB
 rw [h];rfl
theorem abi(h:cH W th kd true=(false,W')):gH c k th ⟨a,kd,i,2,bH,fin,e,false,mo,W,l⟩=(false,⟨a,kd,i,2,bH,fin,e,false,mo,W',l⟩):=by
 show oB _ _ _ _=_
 unfold oB
 rw [h];rfl
theorem VY(h:(ak c (ag l a) k).1=1)(h2:(cG c l).1=0):gH c k th ⟨a,kd,i,1,bH,fin,e,false,mo,W,l⟩=(true,⟨a,kd,i,1,bH+1,fin,e,false,mo,W,(cG c l).2⟩):=by
 show(true,nz _ _ _ _)=_
 unfold nz
 rw [if_pos h,if_pos h2]
theorem Nn(h:(ak c (ag l a) k).1=1)(h2:¬(cG c l).1=0):gH c k th ⟨a,kd,i,1,bH,fin,e,false,mo,W,l⟩=(true,⟨a,kd,i,1,bH,fin,(cG c l).1,true,mo,lM W th,(cG c l).2⟩):=by
 show(true,nz _ _ _ _)=_
 unfold nz
 rw [if_pos h,if_neg h2];rfl
theorem aeT(h:(ak c (ag l a) k).1=2):gH c k th ⟨a,kd,i,1,bH,fin,e,false,mo,W,l⟩=(true,⟨a,(ag l a).kids.getD (ak c (ag l a) k).2.toNat 0,(ak c (ag l a) k).2,2,bH,fin,e,false,mo,W,l⟩):=by
 show(true,nz _ _ _ _)=_
 unfold nz
 rw [if_neg (by dsimp only;omega),if_pos h]
theorem QI(h:(ak c (ag l a) k).1=0):gH c k th ⟨a,kd,i,1,bH,fin,e,false,mo,W,l⟩=(true,⟨a,kd,i,1,bH,fin,0,true,mo,lM W th,l⟩):=by
 show(true,nz _ _ _ _)=_
 unfold nz
 rw [if_neg (by dsimp only;omega),if_neg (by dsimp only;omega)];rfl
theorem VZ(h:cg c (ag l a) (aw l a i) i=3)(h2:(cz c l a i).1=0):gH c k th ⟨a,kd,i,3,bH,fin,e,false,mo,W,l⟩=(true,⟨a,kd,i,1,bH+1,(aw l a i).high,e,false,mo,(hU W th kd).2,(cz c l a i).2⟩):=by
 show(true,yD _ _ _)=_
 unfold yD
 rw [if_pos h,if_pos h2]
theorem No(h:cg c (ag l a) (aw l a i) i=3)(h2:¬(cz c l a i).1=0):gH c k th ⟨a,kd,i,3,bH,fin,e,false,mo,W,l⟩=(true,⟨a,kd,i,1,bH,(aw l a i).high,(cz c l a i).1,true,mo,lM W th,(cz c l a i).2⟩):=by
 show(true,yD _ _ _)=_
 unfold yD
 rw [if_pos h,if_neg h2];rfl
theorem rq(h:cg c (ag l a) (aw l a i) i=4):gH c k th ⟨a,kd,i,3,bH,fin,e,false,mo,W,l⟩=(true,⟨a,kd,i,1,bH+1,(aw l a i).high,e,false,mo,(hU W th kd).2,cA l (bj c.leaf c.bud (ag l a) (aw l a i) i).1 (bj c.leaf c.bud (ag l a) (aw l a i) i).2.1⟩):=by
 show(true,yD _ _ _)=_
 unfold yD
 rw [if_neg (by dsimp only;omega),if_pos h]
theorem V0(h:cg c (ag l a) (aw l a i) i=5):gH c k th ⟨a,kd,i,3,bH,fin,e,false,mo,W,l⟩=(true,⟨kd,kd,i,1,bH,(aw l a i).high,e,false,mo,(hU W th a).2,l⟩):=by
 show(true,yD _ _ _)=_
 unfold yD
 rw [if_neg (by dsimp only;omega),if_neg (by dsimp only;omega),if_pos h]
theorem V1(h:cg c (ag l a) (aw l a i) i=0):gH c k th ⟨a,kd,i,3,bH,fin,e,false,mo,W,l⟩=(true,⟨a,kd,i,1,bH,(aw l a i).high,0,true,mo,lM W th,l⟩):=by
 show(true,yD _ _ _)=_
 unfold yD
 rw [if_neg (by dsimp only;omega),if_neg (by dsimp only;omega),if_neg (by dsimp only;omega)];rfl
end
def FcD (P:Program) (g:FuncId) (args:List Value) (G:GH) (M:MH) (Q:Value→GH→MH→Prop):Prop:=
 iA P g∧∀w,Real w (fun b=>b∈M.map (·.1)) G M w→∀u,CallsD P g args.toArray u w fun e u' w'=>u'=u∧∃v G' M',e=Ending.returned v∧Real w (fun b=>b∈M.map (·.1)) G' M' w'∧Le G G'∧Eu w.heap.size M G G'∧Q v G' M'
theorem FcD.intro{P:Program}{g:FuncId}{fn:Func}{c:Code}{n:Nat}{rs:List ResultVar}{args:List Value}{G:GH}{M:MH}{Q:Value→GH→MH→Prop}
  (lZ:iA P g)(hf:P.funcs[g]?=some fn)(hb:fn.body=some c)(hn:fn.ntmps=n)(hr:fn.results.toList=rs)(hl:Nat.ble args.length n=true)
  (h:∀w0,WC ⟨P,n,w0,fun b=>b∈M.map (·.1),G⟩ c (fun e f G' M'=>(e=.normal∨e=.ret)∧∃vs,mW P f M' rs vs∧∃wP,wP.Sublist M'∧Q (pack vs) G' wP) (dO (fun _=>undef) (An 0 args)) G M):
  FcD P g args G M Q:=⟨lZ,fun w hw u=>callsD_of_wp hf hb (Fc.body hn hr hl h w hw)⟩
section
variable {P:Program} {ops:Array Oper}
structure zX (T:Act→Act):Prop where
 tmps:∀a,(T a).tmps=a.tmps
 put:∀a d v,T (Act.put a d v)=(T a).put d v
 QJ:∀(a:Act) (d:Deferred),T { a with defers:=d::a.defers } ={ T a with defers:=d::(T a).defers }
theorem zX.eval{T:Act→Act}(h:zX T)(a:Act):(T a).eval=a.eval:=by funext x;cases x<;>simp [Act.eval,h.tmps]
theorem abj:zX id:=⟨fun _=>rfl,fun _ _ _=>rfl,fun _ _=>rfl⟩
def Jt (ds:List Deferred) (a:Act):Act:={ a with defers:=a.defers++ds }
theorem V2(ds:List Deferred):zX (Jt ds):=⟨fun _=>rfl,fun a d v=>by cases d<;>rfl,fun _ _=>rfl⟩
theorem au9{T:Act→Act}(hT:zX T){o:Oper}{a:Act}{next next':Act→World→Prop}{Q Q':Exit→Act→World→Prop}(hn:∀a w,next a w→next' (T a) w)(hq:∀e a w,Q e a w→e=.normal):
  ∀ {res:Result Next},o.upon P a next Q res→o.upon P (T a) next' Q' res
 | .ok (.value v) w',h=>by have:=hn _ _ h;rw [hT.put]at this;exact this
 | .ok .skip w',h=>by have:=hn _ _ h;rw [hT.put]at this;exact this
 | .ok (.defer d) w',h=>by have:=hn _ _ h;rw [hT.put,hT.QJ]at this;exact this
 | .ok (.enter f args) w',h=>Calls.mono h fun e w'' hr=>by
   cases e with
   |returned v=>have:=hn _ _ hr;rw [hT.put]at this;exact this
   |panicked chain=>exact absurd (hq _ _ _ hr) (by simp)
   |outgrown=>obtain⟨a,w,h⟩:=hr;exact absurd (hq _ _ _ h) (by simp)
 | .ok (.row row args) w',h=>fun c cs=>let ⟨v,w'',hr,hs⟩:=h c cs;⟨v,w'',by have:=hn _ _ hr;rw [hT.put]at this;exact this,hs⟩
 | .ok (.round ..) w',h=>h.elim
 | .halt (.panic v) w',h=>absurd (hq _ _ _ h) (by simp)
 | .halt (.exit _) w',h=>h.elim
 | .halt (.stuck _) w',h=>h.elim
theorem QK{T:Act→Act}(hT:zX T){Q1 Q:Exit→Act→World→Prop}{l2:List Oper}(hQ:∀e a w,Q1 e a w→e=.normal∧wpList P ops Q l2 (T a) w):
  ∀ {l1:List Oper} {a:Act} {w:World},wpList P ops Q1 l1 a w→wpList P ops Q (l1++l2) (T a) w
 |[],a,w,h=>(hQ _ _ _ h).2
 |o::l1,a,w,h=>by
  have ih:∀a w,wpList P ops Q1 l1 a w→wpList P ops Q (l1++l2) (T a) w:=fun a w h=>QK hT hQ h
  unfold wpList at h
  rw [List.cons_append]
  unfold wpList
  rw [hT.tmps]
  by_cases hw:Region.wanted o (yielded ops a.tmps)=true
  ·rw [if_pos hw]at h⊢
   rcases h with h|⟨_,a,w,h⟩
   ·left
    unfold Oper.wp at h⊢
    rw [hT.eval]
    exact au9 hT ih (fun e a w h=>(hQ _ _ _ h).1) h
   ·exact absurd (hQ _ _ _ h).1 (by simp)
  ·rw [if_neg hw]at h⊢
   have:=ih _ _ h
   rw [hT.put]at this;exact this
end
theorem Fc.QJ{P:Program}{g g2:FuncId}{fn:Func}{n i0 i1 i2 i3:Nat}{o0 o1 o2 o3 L1:List Oper}{aYR:List Operand}{ats:Array TypeId}{ty:TypeId}{pos:String}{aft:Array Edge}{rs:List ResultVar}{args:List Value}{G:GH}{M:MH}{Q:Value→GH→MH→Prop}{od:Oper}
  (lZ:iA P g)(hf:P.funcs[g]?=some fn)(hb:fn.body=some (.seq (.region i0 o0.toArray false) (.seq (.region i1 L1.toArray false) (.seq (.region i2 o2.toArray false) (.seq (.region i3 o3.toArray false) .ret)))))(hn:fn.ntmps=n)(hr:fn.results.toList=rs)(hl:Nat.ble args.length n=true)
  (hL:L1=o1++[od])(ho:od=⟨none,.defer { callee:=.value (.func g2),args:=aYR.toArray,argTypes:=ats },ty,pos,aft,none⟩)
  (h:∀w0,W ⟨P,n,w0,fun b=>b∈M.map (·.1),G⟩ o0.toArray false o0 (dO (fun _=>undef) (An 0 args)) G M fun f0 G0 M0=>W ⟨P,n,w0,fun b=>b∈M.map (·.1),G⟩ L1.toArray false o1 f0 G0 M0
   fun f1 G1 M1=>∃vs,aYR.map (ev f1)=vs∧W ⟨P,n,w0,fun b=>b∈M.map (·.1),G⟩ o2.toArray false o2 f1 G1 M1 fun f2 G2 M2=>W ⟨P,n,w0,fun b=>b∈M.map (·.1),G⟩ o3.toArray false o3 f2 G2 M2
    fun f2 G2 M2=>∃Mp Mr Q2,(Mp++Mr).Perm M2∧FcD P g2 vs G2 Mp Q2∧∀v G3 M3,Le G2 G3→Q2 v G3 M3→∃rvs M4,mW P f2 (M3++Mr) rs rvs∧(M3++Mr).Perm M4∧Q (pack rvs) G3 M4):Fc P g args G M Q:=by
 refine⟨lZ,fun w hw=> ?_⟩
 suffices H:∀R:Ending→World→Prop,(∀v G' M' w',Real w (fun b=>b∈M.map (·.1)) G' M' w'→Le G G'→Eu w.heap.size M G G'→Q v G' M'→R (.returned v) w')→Calls P g args.toArray w R from
  H _ fun v G' M' w' h1 h2 h3 h4=>⟨v,G',M',rfl,h1,h2,h3,h4⟩
 intro R hR
 refine calls_of_wp_defers hf hb ?_
 subst hn
 subst hr
 subst ho
 subst hL
 have hi0:=Is.start (fn:=fn) (args:=args) (by simpa using hl)
 refine wp_seq (wp_region_lit (h w _ w _ hi0 ⟨hw,Le.rfl,fun b h1 h2=>absurd h1 h2⟩ ?_))
 intro f0 G0 M0 a0 w0 hi0 hr0 hW1
 refine wp_seq (wp_region_lit ?_)
 refine QK abj (Q1:=fun e a w1=>e=.normal∧wpList P _ _ [_] a w1) (fun e a w h=>h) ?_
 refine hW1 a0 w0 _ hi0 hr0 ?_
 rintro f1 G1 M1 a1 w1 pV hr1 ⟨vs,hvs,hW2⟩
 refine⟨rfl,?_⟩
 have fc:(execOp (ev f1) ⟨none,.defer { callee:=.value (.func g2),args:=aYR.toArray,argTypes:=ats },ty,pos,aft,none⟩).run P w1=.ok (.defer ⟨.fn (.func g2) #[],vs.toArray⟩) w1:=by
  simp [execOp,resolve,ev,Deferred.ofValue,hvs]
 refine wpList_plain rfl fun K' eA=> ?_
 unfold Oper.wp
 rw [pV.eval,fc]
 refine eA _ _ ?_
 have aIO:({ a1 with defers:=⟨.fn (.func g2) #[],vs.toArray⟩::a1.defers } :Act)=Jt [⟨.fn (.func g2) #[],vs.toArray⟩] a1:=by unfold Jt;rw [pV.QJ];rfl
 show(Code.seq _ (.seq _ .ret)).wp P _ ({ a1 with defers:=⟨.fn (.func g2) #[],vs.toArray⟩::a1.defers } :Act) w1
 rw [aIO]
 have key:∀(o:List Oper) (a:Act) (w:World) (Q1 Q':Exit→Act→World→Prop),wpList P o.toArray Q1 o a w→(∀e a w,Q1 e a w→e=.normal∧Q' .normal (Jt [⟨.fn (.func g2) #[],vs.toArray⟩] a) w)→wpList P o.toArray Q' o (Jt [⟨.fn (.func g2) #[],vs.toArray⟩] a) w:=fun o a w Q1 Q' h9 hQ=>by
  have:=QK (P:=P) (V2 [⟨.fn (.func g2) #[],vs.toArray⟩]) (l2:=[]) (Q:=Q') (fun e a w h=>hQ e a w h) h9
  rwa [List.append_nil]at this
 refine wp_seq (wp_region_lit (key _ _ _ (fun e a w=>e=.normal∧wpList P o3.toArray (fun e a w2=>e=.normal∧Leaves P fn a.tmps R [⟨.fn (.func g2) #[],vs.toArray⟩] .returning w2∧a.defers=[]) o3 a w) _ (hW2 a1 w1 _ pV hr1 fun f2 G2 M2 a2 w2 gS Qb hW3=>⟨rfl,hW3 a2 w2 _ gS Qb ?_⟩) ?_))
 ·rintro f2 G2 M2 a2 w2 gS Qb ⟨Mp,Mr,Q2,hM,hD,hk⟩
  refine⟨rfl,leaves_cons (f:=g2) (args:=vs.toArray) (by simp) (by simp [invoke,hD.1 _ w2]) ?_,gS.QJ⟩
  have oi:=Qb.r.perm hM
  have hwp:Real w2 (fun b=>b∈(Mp.map (·.1))) G2 Mp w2:=by
   have hs:=oi.sub (M':=Mp) (List.sublist_append_left _ _)
   exact⟨rfl,rfl,rfl,Nat.le_refl _,fun _ _ _=>rfl,Qb.r.ro,hs.mu,hs.o9,hs.nd,fun p hp=>.inr (List.mem_map_of_mem hp)⟩
  refine(hD.2 w2 hwp .returning).mono ?_
  rintro e u' w' ⟨rfl,v,G3,M3,rfl,h2,h3,h4,h5⟩
  have h6:=Real.call oi h2 h4
  obtain⟨rvs,M4,amn,jt,hq⟩:=hk v G3 M3 h3 h5
  refine⟨_,C4 (P:=P) (w:=w') gS h6.mu amn,hR _ _ _ _ (h6.perm jt.symm) (Qb.le.trans h3) ?_ hq⟩
  intro b hb jr
  cases hg:G2 b with
  |none=>
   rcases h4 b hg jr with h7|h7
   ·exact .inl (Nat.le_trans Qb.r.size h7)
   ·obtain⟨p,hp,e⟩:=List.mem_map.1 h7
    rcases oi.lo p (by simp [hp])with h8|h8
    ·exact .inl (e▸h8)
    ·exact .inr (e▸h8)
  |some o=>exact Qb.nw b hb (by simp [hg])
 ·rintro e a w ⟨rfl,h9⟩
  refine⟨rfl,wp_seq (wp_region_lit (key _ _ _ _ _ h9 ?_))⟩
  rintro e a w ⟨rfl,h8,h7⟩
  refine⟨rfl,wp_ret ?_⟩
  show Leaves P fn a.tmps R (a.defers++_) .returning w
  rw [h7];exact h8
end Go.Fw
namespace Go.Proofs.YtfhnamngaofccaaGreat
open Go Go.Fw Go.RowKit
attribute [local irreducible] Ok W WC
variable {G:GH}
theorem V3{tZ:List Value}{a:Nd}(dM:ba G tZ a)(k:ah):
    Fc Tryz.prog 114 [.agg (List.toArray tZ),sV k.b] G [] (fun v _ _=>v=.bool (a.cW||k.lt a.high)):=by
 obtain⟨_,_,_,_,_,_,_,_,rfl,gK,gL,fG,fR,eW⟩:=dM
 refine Fc.go [.tmp 4] Tryz.func114 Tryz.ntmps114 rfl (fun w0=>(g9 2 ?_))
 refine W.box (L:=[iV _,iV _,lV _ _ _,lV _ _ _,sV _,.bool _,iV _,iV _,lV _ _ _,lV _ _ _]) rfl rfl (fun b1=>(g9 8 ?_))
 refine W.sp 7 rfl (fun ahu=> ?_) (fun ahu=> ?_)
 ·refine g9 10 ?_
  refine congrArg Value.bool ?_
  simp_all
 refine g9 7 ?_
 refine W.ay (hX _ _) rfl (g9 6 ?_)
 refine congrArg Value.bool ?_
 simp_all

variable {jn:List Value}
theorem Np(cf:Int)(cl:Int)(cb:Int)(cs:Int)(cr:Int){n:Nd}(ru:ba G jn n):
    Fc Tryz.prog 74 [.agg #[iV cf,iV cl,iV cb,iV cs,iV cr],.agg (List.toArray jn)] G [] (fun v _ _=>v=.bool (decide (n.Hk cl))):=by
 obtain⟨V4,V5,V6,V7,V8,V9,Wa,Wb,rfl,cZ,dJ,dZ,dB,cQ⟩:=ru
 have h1:=cZ.aH
 have h2:=dJ.aH
 have h3:=dZ.aH
 have h4:=dB.aH
 refine Fc.go [.tmp 4] Tryz.func74 Tryz.ntmps74 rfl (fun w0=>(g9 2 ?_))
 refine W.box (L:=[iV _,iV _,iV _,iV _,iV _]) rfl rfl (fun b2=>(W.box (L:=[iV _,iV _,lV _ _ _,lV _ _ _,sV _,.bool _,iV _,iV _,lV _ _ _,lV _ _ _]) rfl rfl (fun b3=>(g9 19 ?_))))
 refine W.sd 18 (fun iu fM=> ?_) (fun iu fM=> ?_)
 ·refine g9 24 ?_
  refine congrArg Value.bool ?_
  exact(decide_eq_false fun h=>by obtain⟨q1,q2,q3,q4⟩:=h;omega).symm
 refine g9 14 ?_
 refine W.sd 26 (fun rM xD=> ?_) (fun rM xD=> ?_)
 ·refine g9 16 ?_
  refine congrArg Value.bool ?_
  exact(decide_eq_false fun h=>by obtain⟨q1,q2,q3,q4⟩:=h;omega).symm
 refine g9 5 ?_
 refine W.ay (aab dB) rfl (g9 5 ?_)
 refine WC.cond rfl (fun jJ=> ?_) (fun jJ=> ?_)
 ·refine g9 8 ?_
  refine congrArg Value.bool ?_
  exact(decide_eq_false fun h=>by obtain⟨q1,q2,q3,q4⟩:=h;simp [q3]at jJ).symm
 refine g9 9 ?_
 refine WC.loop (X:=Nat) (fun k=>[(5,aT k),(2,aq b2),(3,aq b3)]) (fun k _ Ml=>Ml=[(b3,aj 57 (cj n V4 V5 V6 V7 V8 V9 Wa Wb)),(b2,aj 23 [iV cf,iV cl,iV cb,iV cs,iV cr])]∧∀i (h:i<n.rows.length),i<k→n.has n.rows[i].key=true) (fun k=>n.rows.length-k) 0 aZ ?_ ?_
 ·exact⟨rfl,fun i _ h=>by omega⟩
 rintro k gG4 G4 _ Qu ⟨rfl,hk⟩
 refine g9 10 ?_
 refine WC.cd (fun ve oO=> ?_) (fun ve oO=> ?_)
 ·refine g9 10 ?_
  refine(dB.mono Qu).a1 (i:=k) aa (fun he5=>(g9 3 ?_))
  refine W.ay (V3 (fy Qu cZ dJ dZ dB cQ) _) rfl (g9 3 ?_)
  refine WC.cond rfl (fun pU=> ?_) (fun pU=> ?_)
  ·refine g9 12 ?_
   refine congrArg Value.bool ?_
   exact(decide_eq_false fun h=>by obtain⟨q1,q2,q3,q4⟩:=h;have:=q4 k aa;simp_all [Nd.has]).symm
  refine g9 9 ?_
  exact⟨Le.rfl,k+1,aZ,⟨rfl,fun i h hi=>by
      by_cases e:i=k
      ·subst e;have h1:=pU;show(n.cW||_)=true;cases ht:n.cW<;>simp_all
      ·exact hk i h aa⟩,aa⟩
 refine g9 12 ?_
 refine congrArg Value.bool ?_
 exact(decide_eq_true ⟨aa,aa,by simpa using jJ,fun i h=>hk i h aa⟩).symm

theorem Ju(cf:Int)(cl:Int)(cb:Int)(cs:Int)(cr:Int){n:Nd}(ru:ba G jn n):
    Fc Tryz.prog 75 [.agg #[iV cf,iV cl,iV cb,iV cs,iV cr],.agg (List.toArray jn)] G [] (fun v _ _=>v=.bool (decide (n.kK cf cb))):=by
 obtain⟨V4,V5,V6,V7,V8,V9,Wa,Wb,rfl,cZ,dJ,dZ,dB,cQ⟩:=ru
 have h1:=cZ.aH
 have h2:=dJ.aH
 have h3:=dZ.aH
 have h4:=dB.aH
 refine Fc.go [.tmp 4] Tryz.func75 Tryz.ntmps75 rfl (fun w0=>(g9 2 ?_))
 refine W.box (L:=[iV _,iV _,iV _,iV _,iV _]) rfl rfl (fun b8=>(W.box (L:=[iV _,iV _,lV _ _ _,lV _ _ _,sV _,.bool _,iV _,iV _,lV _ _ _,lV _ _ _]) rfl rfl (fun b9=>(g9 11 ?_))))
 refine W.sd 13 (fun dL ji=> ?_) (fun dL ji=> ?_)
 ·refine g9 46 ?_
  refine congrArg Value.bool ?_
  exact(decide_eq_false fun h=>by obtain⟨⟨q1,q2,q3⟩,q4,q5,q6,q7,q8,q9⟩:=h;omega).symm
 refine g9 10 ?_
 refine W.sd 19 (fun iu fM=> ?_) (fun iu fM=> ?_)
 ·refine g9 40 ?_
  refine congrArg Value.bool ?_
  exact(decide_eq_false fun h=>by obtain⟨⟨q1,q2,q3⟩,q4,q5,q6,q7,q8,q9⟩:=h;omega).symm
 refine g9 14 ?_
 refine W.sd 27 (fun pN xA=> ?_) (fun pN xA=> ?_)
 ·refine g9 32 ?_
  refine congrArg Value.bool ?_
  exact(decide_eq_false fun h=>by obtain⟨⟨q1,q2,q3⟩,q4,q5,q6,q7,q8,q9⟩:=h;omega).symm
 refine g9 9 ?_
 refine W.ay (vo cZ dJ) rfl (g9 4 ?_)
 refine W.sp 35 rfl (fun j8=> ?_) (fun j8=> ?_)
 ·refine g9 24 ?_
  refine congrArg Value.bool ?_
  exact(decide_eq_false fun h=>by obtain⟨⟨q1,q2,q3⟩,q4,q5,q6,q7,q8,q9⟩:=h;simp [q4]at j8).symm
 refine g9 5 ?_
 refine W.ay (akw dZ) rfl (g9 4 ?_)
 refine W.sp 41 rfl (fun nr=> ?_) (fun nr=> ?_)
 ·refine g9 18 ?_
  refine congrArg Value.bool ?_
  exact(decide_eq_false fun h=>by obtain⟨⟨q1,q2,q3⟩,q4,q5,q6,q7,q8,q9⟩:=h;simp [q5]at nr).symm
 have oJ:dD n.af:=by simpa using nr
 have hs:=oJ.ayL
 refine g9 5 ?_
 refine W.ay (HN dZ (by assumption)) rfl (g9 9 ?_)
 refine WC.cd (fun pU mV=> ?_) (fun pU mV=> ?_)
 ·refine g9 8 ?_
  refine congrArg Value.bool ?_
  exact(decide_eq_false fun h=>by obtain⟨⟨q1,q2,q3⟩,q4,q5,q6,q7,q8,q9⟩:=h;omega).symm
 refine g9 9 ?_
 refine WC.loop (X:=Nat) (fun k=>[(5,aT k),(2,aq b8),(3,aq b9)]) (fun k _ Ml=>Ml=[(b9,aj 57 (cj n V4 V5 V6 V7 V8 V9 Wa Wb)),(b8,aj 23 [iV cf,iV cl,iV cb,iV cs,iV cr])]∧∀i (h:i<n.kids.length),i<k→0≤n.kids[i]) (fun k=>n.kids.length-k) 0 aZ ?_ ?_
 ·exact⟨rfl,fun i _ h=>by omega⟩
 rintro k akh G10 _ pe ⟨rfl,wX⟩
 refine g9 10 ?_
 refine WC.cond rfl (fun Ev=> ?_) (fun Ev=> ?_)
 ·have vU:=va Ev
  refine g9 9 ?_
  refine(dJ.mono pe).a2 (i:=k) aa (fun wk aIP=>(g9 5 ?_))
  refine WC.cd (fun HM tH=> ?_) (fun HM tH=> ?_)
  ·refine g9 12 ?_
   refine congrArg Value.bool ?_
   exact(decide_eq_false fun h=>by obtain⟨⟨q1,q2,q3⟩,q4,q5,q6,q7,q8,q9⟩:=h;have:=q7 k aa;omega).symm
  refine g9 9 ?_
  exact⟨Le.rfl,k+1,aZ,⟨rfl,fun i h hi=>by
      by_cases e:i=k
      ·subst e;omega
      ·exact wX i h aa⟩,aa⟩
 have vU:=sU Ev
 refine g9 12 ?_
 refine WC.loop (X:=Nat) (fun k=>[(6,aT k),(2,aq b8),(3,aq b9)]) (fun k _ Ml=>Ml=[(b9,aj 57 (cj n V4 V5 V6 V7 V8 V9 Wa Wb)),(b8,aj 23 [iV cf,iV cl,iV cb,iV cs,iV cr])]∧∀i (h:i<n.ab.length),i<k→n.parts n.ab[i]) (fun k=>n.ab.length-k) 0 aZ ?_ ?_
 ·exact⟨rfl,fun i _ h=>by omega⟩
 rintro k axz G15 _ sn ⟨rfl,j6⟩
 refine g9 10 ?_
 refine WC.cond rfl (fun DV=> ?_) (fun DV=> ?_)
 ·have p66:=va DV
  refine g9 9 ?_
  refine(cZ.mono (pe.trans sn)).a1 (i:=k) aa (fun awZ=>(g9 4 ?_))
  refine W.sd 75 (fun h74 Bq=> ?_) (fun h74 Bq=> ?_)
  ·refine g9 33 ?_
   refine congrArg Value.bool ?_
   exact(decide_eq_false fun h=>by obtain⟨⟨q1,q2,q3⟩,q4,q5,q6,q7,q8,q9⟩:=h;exact(q8 k aa).1 (ah.ext' Bq)).symm
  refine g9 7 ?_
  refine(cZ.mono (pe.trans sn)).a1 (i:=k) aa (fun Ft=>(g9 9 ?_))
  refine W.sd 84 (fun h82 p82=> ?_) (fun h82 p82=> ?_)
  ·refine g9 24 ?_
   refine congrArg Value.bool ?_
   exact(decide_eq_false fun h=>by obtain⟨⟨q1,q2,q3⟩,q4,q5,q6,q7,q8,q9⟩:=h;have:=(q8 k aa).2.1;omega).symm
  refine g9 9 ?_
  refine(cZ.mono (pe.trans sn)).a1 (i:=k) aa (fun H6=>(g9 4 ?_))
  refine W.ay (V3 (fy aS cZ dJ dZ dB cQ) _) rfl (g9 5 ?_)
  refine WC.cond rfl (fun h92=> ?_) (fun h92=> ?_)
  ·refine g9 12 ?_
   refine congrArg Value.bool ?_
   exact(decide_eq_false fun h=>by obtain⟨⟨q1,q2,q3⟩,q4,q5,q6,q7,q8,q9⟩:=h;have:=(q8 k aa).2.2;simp_all [Nd.has]).symm
  refine g9 9 ?_
  exact⟨Le.rfl,k+1,aZ,⟨rfl,fun i h hi=>by
      by_cases e:i=k
      ·subst e;exact⟨fun e=>Bq (congrArg ah.b e),aa,by show(n.cW||_)=true;cases ht:n.cW<;>simp_all⟩
      ·exact j6 i h aa⟩,aa⟩
 have p66:=sU DV
 refine g9 12 ?_
 refine WC.loop (X:=Nat) (fun k=>[(7,aT k),(2,aq b8),(3,aq b9)]) (fun k _ Ml=>Ml=[(b9,aj 57 (cj n V4 V5 V6 V7 V8 V9 Wa Wb)),(b8,aj 23 [iV cf,iV cl,iV cb,iV cs,iV cr])]∧∀i (h:i<n.af.length),i<k→n.fits n.af[i]) (fun k=>n.af.length-k) 0 aZ ?_ ?_
 ·exact⟨rfl,fun i _ h=>by omega⟩
 rintro k ak4 G25 _ qf ⟨rfl,sN⟩
 refine g9 10 ?_
 refine WC.cond rfl (fun h98=> ?_) (fun h98=> ?_)
 ·have Wc:=va h98
  have hkk:n.af[k].key.b.size<140737488355328:=by have:=(hs _ (List.getElem_mem (by omega:k<n.af.length))).1;omega
  refine g9 9 ?_
  refine(dZ.mono ((pe.trans sn).trans qf)).a2 (i:=k) aa (fun axd aUb=>(g9 2 ?_))
  refine W.ay (my _ _ _ _ _ _ (by first|assumption|omega|(dsimp only;omega))) rfl (W.alloc dY (fun b31=>(g9 8 ?_)))
  refine(dZ.mono ((pe.trans sn).trans qf)).a2 (i:=k) aa (fun Uq axA=>(g9 7 ?_))
  refine W.sd 116 (fun aIQ aIR=> ?_) (fun aIQ aIR=> ?_)
  ·refine g9 30 ?_
   refine congrArg Value.bool ?_
   exact(decide_eq_false fun h=>by obtain⟨⟨q1,q2,q3⟩,q4,q5,q6,q7,q8,q9⟩:=h;have:=(q9 k aa).1;omega).symm
  refine g9 8 ?_
  refine W.sp 120 rfl (fun aIS=> ?_) (fun aIS=> ?_)
  ·refine g9 6 ?_
   refine W.sp 123 rfl (fun ava=> ?_) (fun ava=> ?_)
   ·refine g9 25 ?_
    refine congrArg Value.bool ?_
    exact(decide_eq_false fun h=>by obtain⟨⟨q1,q2,q3⟩,q4,q5,q6,q7,q8,q9⟩:=h;have:=(q9 k aa).2;simp_all).symm
   refine g9 9 ?_
   refine W.ay (hX _ _) rfl (g9 7 ?_)
   refine WC.cond rfl (fun aIT=> ?_) (fun aIT=> ?_)
   ·refine g9 12 ?_
    refine congrArg Value.bool ?_
    exact(decide_eq_false fun h=>by obtain⟨⟨q1,q2,q3⟩,q4,q5,q6,q7,q8,q9⟩:=h;have:=(q9 k aa).2;simp_all).symm
   refine g9 7 ?_
   refine W.sub (bi.cons _) (g9 2 ?_)
   exact⟨Le.rfl,k+1,aZ,⟨rfl,fun i h hi=>by
      by_cases e:i=k
      ·subst e;exact⟨aa,by cases ht:n.cW<;>simp_all⟩
      ·exact sN i h aa⟩,aa⟩
  refine g9 22 ?_
  refine W.sub (bi.cons _) (g9 2 ?_)
  exact⟨Le.rfl,k+1,aZ,⟨rfl,fun i h hi=>by
      by_cases e:i=k
      ·subst e;exact⟨aa,by cases ht:n.cW<;>simp_all⟩
      ·exact sN i h aa⟩,aa⟩
 have Wc:=sU h98
 refine g9 12 ?_
 refine congrArg Value.bool ?_
 exact(decide_eq_true ⟨⟨aa,aa,aa⟩,by simpa using j8,oJ,aa,fun i h=>wX i h aa,fun i h=>j6 i h aa,fun i h=>sN i h aa⟩).symm

theorem abk(cf:Int)(cl:Int)(cb:Int)(cs:Int)(cr:Int){n:Nd}(ru:ba G jn n):
    Fc Tryz.prog 43 [.agg #[iV cf,iV cl,iV cb,iV cs,iV cr],.agg (List.toArray jn)] G [] (fun v _ _=>v=.bool (decide (n.R cf cl cb))):=by
 obtain⟨_,_,_,_,_,_,_,_,rfl,cZ,dJ,dZ,dB,cQ⟩:=ru
 have h1:=cZ.aH
 have h2:=dJ.aH
 have h3:=dZ.aH
 have h4:=dB.aH
 refine Fc.go [.tmp 4] Tryz.func43 Tryz.ntmps43 rfl (fun w0=>(g9 2 ?_))
 refine W.box (L:=[iV _,iV _,iV _,iV _,iV _]) rfl rfl (fun b37=>(W.box (L:=[iV _,iV _,lV _ _ _,lV _ _ _,sV _,.bool _,iV _,iV _,lV _ _ _,lV _ _ _]) rfl rfl (fun b38=>(g9 10 ?_))))
 refine W.sd 8 (fun h7 p7=> ?_) (fun h7 p7=> ?_)
 ·refine g9 34 ?_
  refine congrArg Value.bool ?_
  exact(decide_eq_false fun h=>by obtain⟨⟨q1,q2,q3⟩,q4,q5,q6⟩:=h;omega).symm
 refine g9 8 ?_
 refine W.sd 13 (fun qH p11=> ?_) (fun qH p11=> ?_)
 ·refine g9 29 ?_
  refine congrArg Value.bool ?_
  exact(decide_eq_false fun h=>by obtain⟨⟨q1,q2,q3⟩,q4,q5,q6⟩:=h;omega).symm
 refine g9 8 ?_
 refine W.sd 18 (fun fU gX=> ?_) (fun fU gX=> ?_)
 ·refine g9 24 ?_
  refine congrArg Value.bool ?_
  exact(decide_eq_false fun h=>by obtain⟨⟨q1,q2,q3⟩,q4,q5,q6⟩:=h;omega).symm
 refine g9 6 ?_
 refine W.sp 21 rfl (fun uc=> ?_) (fun uc=> ?_)
 ·refine g9 8 ?_
  refine W.sm 25 (fun rM xD=> ?_) (fun rM xD=> ?_)
  ·refine g9 19 ?_
   refine congrArg Value.bool ?_
   exact(decide_eq_false fun h=>by obtain⟨⟨q1,q2,q3⟩,q4,q5,q6⟩:=h;exact xD (congrArg ah.b (q4 (by assumption)).1)).symm
  refine g9 13 ?_
  refine WC.cn (fun wT pO=> ?_) (fun wT pO=> ?_)
  ·refine g9 8 ?_
   refine congrArg Value.bool ?_
   exact(decide_eq_false fun h=>by obtain⟨⟨q1,q2,q3⟩,q4,q5,q6⟩:=h;have:=(q4 (by assumption)).2;omega).symm
  refine g9 37 ?_
  refine WC.cd (fun Ev vU=> ?_) (fun Ev vU=> ?_)
  ·refine g9 4 ?_
   refine W.ay (Np _ _ _ _ _ (cc cZ dJ dZ dB cQ)) rfl (g9 6 ?_)
   refine congrArg Value.bool ?_
   exact decide_eq_decide.2 ⟨fun q=>⟨⟨aa,aa,aa⟩,fun _=>⟨ah.ext' xD,pO⟩,fun h=>absurd (uc.symm.trans h) (by decide),by rw [if_pos vU];exact q⟩,fun h=>by have h:=h.2.2.2;rw [if_pos vU]at h;exact h⟩
  refine g9 6 ?_
  refine W.ay (Ju _ _ _ _ _ (cc cZ dJ dZ dB cQ)) rfl (g9 5 ?_)
  refine congrArg Value.bool ?_
  exact decide_eq_decide.2 ⟨fun q=>⟨⟨aa,aa,aa⟩,fun _=>⟨ah.ext' xD,pO⟩,fun h=>absurd (uc.symm.trans h) (by decide),by rw [if_neg vU];exact q⟩,fun h=>by have h:=h.2.2.2;rw [if_neg vU]at h;exact h⟩
 refine g9 31 ?_
 refine W.sd 39 (fun AY tA=> ?_) (fun AY tA=> ?_)
 ·refine g9 25 ?_
  refine congrArg Value.bool ?_
  exact(decide_eq_false fun h=>by obtain⟨⟨q1,q2,q3⟩,q4,q5,q6⟩:=h;exact(q5 (by assumption)).1 (ah.ext' tA)).symm
 refine g9 12 ?_
 refine W.sd 45 (fun h43 Gn=> ?_) (fun h43 Gn=> ?_)
 ·refine g9 17 ?_
  refine congrArg Value.bool ?_
  exact(decide_eq_false fun h=>by obtain⟨⟨q1,q2,q3⟩,q4,q5,q6⟩:=h;have:=(q5 (by assumption)).2.1;omega).symm
 refine g9 11 ?_
 refine WC.cd (fun h48 p48=> ?_) (fun h48 p48=> ?_)
 ·refine g9 8 ?_
  refine congrArg Value.bool ?_
  exact(decide_eq_false fun h=>by obtain⟨⟨q1,q2,q3⟩,q4,q5,q6⟩:=h;have:=(q5 (by assumption)).2.2;omega).symm
 refine g9 10 ?_
 refine WC.cd (fun Ev vU=> ?_) (fun Ev vU=> ?_)
 ·refine g9 4 ?_
  refine W.ay (Np _ _ _ _ _ (cc cZ dJ dZ dB cQ)) rfl (g9 6 ?_)
  refine congrArg Value.bool ?_
  exact decide_eq_decide.2 ⟨fun q=>⟨⟨aa,aa,aa⟩,fun h=>absurd (uc.symm.trans h) (by decide),fun _=>⟨fun e=>tA (congrArg ah.b e),aa,aa⟩,by rw [if_pos vU];exact q⟩,fun h=>by have h:=h.2.2.2;rw [if_pos vU]at h;exact h⟩
 refine g9 6 ?_
 refine W.ay (Ju _ _ _ _ _ (cc cZ dJ dZ dB cQ)) rfl (g9 5 ?_)
 refine congrArg Value.bool ?_
 exact decide_eq_decide.2 ⟨fun q=>⟨⟨aa,aa,aa⟩,fun h=>absurd (uc.symm.trans h) (by decide),fun _=>⟨fun e=>tA (congrArg ah.b e),aa,aa⟩,by rw [if_neg vU];exact q⟩,fun h=>by have h:=h.2.2.2;rw [if_neg vU]at h;exact h⟩

end Go.Proofs.YtfhnamngaofccaaGreat
