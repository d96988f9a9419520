/- Walks of rows with a bound, and of leaves. -/
import Derived.Test.YthhpfadbojfdnaaGreatQiV3
set_option maxRecDepth 100000
set_option maxHeartbeats 1600000
set_option linter.unusedVariables false
set_option linter.unusedSimpArgs false
set_option linter.unnecessarySimpa false
namespace Go.Proofs.YthhpfadbojfdnaaGreat
open Go Go.Fw Go.RowKit
attribute [local irreducible] Ok W WC
variable {G:GH}
theorem apI(ek:Int)(ev:af):
    Fc Tryz.prog 101 [.agg #[iV ek,sV ev.b]] G [] (fun v _ _=>v=.bool (decide (ek=1)||decide (ek=2))):=by
 refine Fc.go [.tmp 2] Tryz.func101 Tryz.ntmps101 rfl (fun w0=>(g9 2 ?_))
 refine W.box (L:=[iV _,sV _]) rfl rfl (fun b1=>(g9 9 ?_))
 refine W.sd 6 (fun h5 p5=> ?_) (fun h5 p5=> ?_)
 ·refine g9 9 ?_
  refine ax Value.bool ?_
  simp_all
 refine g9 12 ?_
 refine ax Value.bool ?_
 simp_all

variable {l:List aG} {dH:Value}
theorem MN(aQ:az aU G dH l)(k:af)(ek:Int)(ev:af)(n:Int)(hr:gW l):
    Fc Tryz.prog 67 [dH,sV k.b,.agg #[iV ek,sV ev.b],iV n] G [] (fun v _ _=>v=.bool (qP l k (⟨ek,ev⟩:bG) n)):=by
 obtain⟨dz,dA,rfl⟩:=aQ.form
 refine Fc.go [.tmp 8] Tryz.func67 Tryz.ntmps67 rfl (fun w0=>(g9 2 ?_))
 refine W.box (L:=[iV _,sV _]) rfl rfl (fun b2=>(g9 7 ?_))
 refine W.aH (amb aQ _ (by assumption)) rfl (g9 11 ?_)
 refine W.sp 18 rfl (fun aFb=> ?_) (fun aFb=> ?_)
 ·refine g9 15 ?_
  refine ax Value.bool ?_
  simp_all [qP]
 refine g9 3 ?_
 refine W.aH (apI _ _) rfl (g9 4 ?_)
 refine W.sp 23 rfl (fun Cw=> ?_) (fun Cw=> ?_)
 ·refine g9 10 ?_
  refine ax Value.bool ?_
  simp_all [qP]
 refine g9 14 ?_
 refine ax Value.bool ?_
 simp_all [qP]

theorem aaa(aQ:az aU G dH l)(ms:Int)(mk:Int)(dU:af)(jI:af)(mo:Bool)(mv:af)(n:Int)(hP:bc l)(hk:aD.fit (⟨ms,mk,dU,jI,mo,mv⟩:aD)):
    Fc Tryz.prog 152 [dH,.agg #[iV ms,iV mk,sV dU.b,sV jI.b,.bool mo,sV mv.b],iV n] G [] (fun v _ _=>v=.bool (eD l (⟨ms,mk,dU,jI,mo,mv⟩:aD) n)):=by
 obtain⟨dz,dA,rfl⟩:=aQ.form
 have wD:=hk.1
 dsimp only at wD
 have hr:=hP.o8
 have hl:=aQ.bq
 refine Fc.go [.tmp 6] Tryz.func152 Tryz.ntmps152 rfl (fun w0=>(g9 2 ?_))
 refine W.box (L:=[iV _,iV _,sV _,sV _,.bool _,sV _]) rfl rfl (fun b3=>(g9 9 ?_))
 refine W.sd 10 (fun h9 p9=> ?_) (fun h9 p9=> ?_)
 ·refine g9 15 ?_
  refine ax Value.bool ?_
  simp_all [eD]
 refine g9 13 ?_
 refine W.aH (HQ ms mk dU jI mo mv dU aa) rfl (g9 3 ?_)
 refine W.aH (MN aQ _ _ _ _ (by assumption)) rfl (g9 6 ?_)
 refine ax Value.bool ?_
 simp_all [eD]

theorem Bs(aQ:az aU G dH l)(ms:Int)(mk:Int)(dU:af)(jI:af)(mo:Bool)(mv:af)(n:Int)(hP:bc l)(hn:l.length≤1000000)(hk:aD.fit (⟨ms,mk,dU,jI,mo,mv⟩:aD)):
    Fc Tryz.prog 119 [dH,.agg #[iV ms,iV mk,sV dU.b,sV jI.b,.bool mo,sV mv.b],iV n] G [] (fun v G' M'=>M'=[]∧∃r:List aG×Bool,r=mZ l (⟨ms,mk,dU,jI,mo,mv⟩:aD) n∧∃u0,v=.tuple #[u0,.bool (r.2)]∧az aU G' u0 (r.1)):=by
 obtain⟨dz,dA,rfl⟩:=aQ.form
 refine Fc.go [.tmp 6,.tmp 7] Tryz.func119 Tryz.ntmps119 rfl (fun w0=>(g9 2 ?_))
 refine W.box (L:=[iV _,iV _,sV _,sV _,.bool _,sV _]) rfl rfl (fun b4=>(g9 10 ?_))
 refine W.aH (aaa aQ _ _ _ _ _ _ _ (by first|assumption|omega|(simp;omega)|(exact bc.fold (by assumption) (by assumption))) (by first|assumption|exact It (by assumption))) rfl (g9 3 ?_)
 refine WC.cond rfl (fun jC=> ?_) (fun jC=> ?_)
 ·refine g9 9 ?_
  refine⟨rfl,_,(A0 (by simpa using jC)).symm,_,rfl,?_⟩
  ·exact az.nil
 refine g9 6 ?_
 refine W.cS (Uj aQ _ _ _ _ _ _ (by first|assumption|omega|(simp;omega)|(exact bc.fold (by assumption) (by assumption))) (by first|assumption|omega|(simp;omega)|(exact bc.fold (by assumption) (by assumption))) (by first|assumption|exact It (by assumption))) rfl (fun aOv aOw G5 hG5 hv6=>(g9 6 ?_))
 refine⟨rfl,_,(sx (by simpa using jC)).symm,_,rfl,?_⟩
 ·exact hv6

theorem aiK(a:af)(b:af):
    Fc Tryz.prog 163 [sV a.b,sV b.b] G [] (fun v _ _=>v=aK (c8 a b)):=by
 have ha:=a.le
 have hb:=b.le
 refine Fc.go [.tmp 4] Tryz.func163 Tryz.ntmps163 rfl (fun w0=>(g9 12 ?_))
 refine WC.loop (X:=Nat) (fun k=>[(5,aK k),(0,sV a.b),(1,sV b.b)]) (fun k _ Ml=>Ml=[]∧k≤a.b.size∧k≤b.b.size∧∀i,i<k→a.b[i]?=b.b[i]?) (fun k=>a.b.size-k) 0 ct ?_ ?_
 ·exact⟨rfl,aa,aa,fun i hi=>by omega⟩
 rintro k Xe G1 _ pX ⟨rfl,wD,zA,hk3⟩
 refine g9 8 ?_
 refine W.ok (Tf rfl rfl) (g9 2 ?_)
 refine W.sd 13 (fun jC uK=> ?_) (fun jC uK=> ?_)
 ·refine g9 5 ?_
  refine W.ok (To (i:=k) st9 rfl rfl ⟨aa,aa⟩) (g9 5 ?_)
  refine W.ok (To (i:=k) st9 rfl rfl ⟨aa,aa⟩) (g9 5 ?_)
  refine WC.cd (fun j1 nh=> ?_) (fun j1 nh=> ?_)
  ·refine g9 10 ?_
   exact⟨Le.rfl,k+1,ct,⟨rfl,aa,aa,aiL hk3 aa aa nh⟩,aa⟩
  refine g9 13 ?_
  refine ax (Value.int .i64) ?_
  exact ax Nat.cast (Xs hk3 aa aa nh).symm
 refine g9 24 ?_
 refine ax (Value.int .i64) ?_
 exact ax Nat.cast (Xr wD zA hk3 aa).symm

theorem ae6(a:af)(b:af):
    Fc Tryz.prog 134 [sV a.b,sV b.b] G [] (fun v _ _=>v=.tuple #[sV (af.b ((js a b).1)),.bool ((js a b).2)]):=by
 have ha:=a.le
 have hb:=b.le
 refine Fc.go [.tmp 4,.tmp 5] Tryz.func134 Tryz.ntmps134 rfl (fun w0=>(g9 11 ?_))
 refine W.ok (HP rfl rfl) (g9 2 ?_)
 refine WC.cond rfl (fun h8=> ?_) (fun h8=> ?_)
 ·refine g9 9 ?_
  show Value.tuple #[Value.string _,Value.bool _]=_
  rw [L4 (by simpa [af.lt]using h8)];rfl
 have ko:a.lt b=true:=by simpa [af.lt]using h8
 have hcm:=PI ko
 have qc:=CT a b
 refine g9 7 ?_
 refine W.aH (aiK _ _) rfl (g9 1 ?_)
 refine W.ok (O0 (0) (c8 a b+1) st9 rfl rfl ⟨_,_,rfl,aa⟩ ⟨aa,aa⟩) (g9 6 ?_)
 show Value.tuple #[Value.string _,Value.bool _]=_
 rw [L3 ko]

theorem Lj(aQ:az aU G dH l):
    Fc Tryz.prog 103 [dH] G [] (fun v G' M'=>M'=[]∧∃r:List aG×List aG×af×Bool,r=iY l∧∃u0 u1,v=.tuple #[u0,u1,sV (af.b (r.2.2.1)),.bool (r.2.2.2)]∧az aU G' u0 (r.1)∧az aU G' u1 (r.2.1)):=by
 obtain⟨dz,dA,rfl⟩:=aQ.form
 have hl:=aQ.bq
 have hlb:l.length*32≤140737488355328:=aQ.bytes
 refine Fc.go [.tmp 2,.tmp 3,.tmp 4,.tmp 5] Tryz.func103 Tryz.ntmps103 rfl (fun w0=>(g9 16 ?_))
 refine WC.cd (fun h9 p9=> ?_) (fun h9 p9=> ?_)
 ·refine g9 11 ?_
  refine⟨rfl,_,(PK aa).symm,_,_,rfl,?_,?_⟩
  ·exact az.nil
  exact az.nil
 refine g9 7 ?_
 refine W.ok (zE rfl rfl aa aa aa) (g9 8 ?_)
 refine aQ.a1 (i:=(l.length+1) / 2-1) aa (fun he2=>(W.ok (bd (i:=(l.length+1) / 2-1) dR ei aQ rfl rfl ⟨aa,aa⟩) (g9 4 ?_)))
 refine aQ.a1 (i:=(l.length+1) / 2) aa (fun he5=>(W.ok (bd (i:=(l.length+1) / 2) dR ei aQ rfl rfl ⟨aa,aa⟩) (g9 2 ?_)))
 refine W.aH (ae6 _ _) rfl (g9 7 ?_)
 refine WC.dw bB (d9 [0,1] ?_)
 have hs8:=az.slice aQ (lo:=0) (hi:=(l.length+1) / 2) aa aa
 refine WD.tk 2 rfl (ok_slice (0) ((l.length+1) / 2) dR ei aQ rfl rfl ⟨_,_,rfl,aa⟩ ⟨aa,aa⟩) (d9 [4,5] ?_)
 have ct:=az.slice aQ (lo:=(l.length+1) / 2) (hi:=l.length) aa aa
 refine WD.tk 6 rfl (ok_slice ((l.length+1) / 2) (l.length) dR ei aQ rfl ⟨_,_,rfl,aa⟩ rfl ⟨aa,aa⟩) (d9 [8] ?_)
 refine WD.a1 3 rfl (W.cS (ie hs8) rfl (fun I4 I5 TX tI BQ=>(W.nn (WD.a1 7 rfl (W.cS (ie (ct.mono tI)) rfl (fun ae7 ae8 TU B6 DX=>(W.nn (d9 [9,10,11,12] ?_))))))))
 refine g9 4 ?_
 refine⟨rfl,_,(sg aa).symm,_,_,rfl,?_,?_⟩
 ·exact az.cast ((BQ.mono B6)) (by simp)
 exact az.cast (DX) (by simp)

theorem apJ(n:Nat)(hb:n*32≤140737488355328):
    Fc Tryz.prog 182 [lV none 0 0,aK n] G [] (fun v G' M'=>aE aU 50 G' v ([]) M'):=by
 refine Fc.go [.tmp 4] Tryz.func182 Tryz.ntmps182 rfl (fun w0=>(g9 12 ?_))
 refine WC.cd (fun h6 p6=> ?_) (fun h6 p6=> ?_)
 ·exact absurd p6 aa
 refine g9 7 ?_
 refine W.ok (uv dR rfl) (W.mv (W.ok (rW (e:=aU) dR az.nil rfl) (W.ok (lm rfl rfl (by simp)) (W.ok (lm rfl rfl (by simp;omega)) (g9 9 ?_)))))
 refine WC.cd (fun iQ mz=> ?_) (fun iQ mz=> ?_)
 ·refine g9 3 ?_
  refine W.ok (uv dR rfl) (W.ok (Bw dR ei rfl rfl) (W.mv (W.Tm (e:=aU) (n:=n) dR ei nX rfl HF Tryz.underlying3 rfl (iv (by simp)) (by simp at mz;omega) hb rfl (fun b_1 c_1 aBX aeU=>(W.mv (W.ok (rW (e:=aU) dR az.nil rfl) (W.ok (Hh dR ei rfl rfl) (g9 10 ?_))))))))
  refine⟨.inr rfl,[_],⟨rfl,trivial⟩,_,aI _ _,?_⟩
  exact aeU
 refine g9 10 ?_
 exact aE.nil

theorem ae9{l:List (List aG)}(aQ:az (JK aU) G dH l)(hb:l.flatten.length*32≤140737488355328):
    Fc Tryz.prog 159 [dH] G [] (fun v G' M'=>M'=[]∧∃u0,v=u0∧az aU G' u0 (l.flatten)):=by
 obtain⟨dz,dA,rfl⟩:=aQ.form
 have hl:=aQ.bq
 refine Fc.go [.tmp 2] Tryz.func159 Tryz.ntmps159 rfl (fun w0=>(g9 19 ?_))
 refine WC.loop (X:=Nat) (fun j=>[(3,aK ((l.take j).flatten.length)),(9,lV dz l.length dA),(10,aK l.length),(11,aK j),(0,lV dz l.length dA)]) (fun j _ Ml=>Ml=[]∧j≤l.length) (fun j=>l.length-j) 0 ⟨rfl,eqv,eqv,eqv,eqv,trivial⟩ ?_ ?_
 ·exact⟨rfl,aa⟩
 rintro j aTg G24 _ Vv ⟨rfl,hj⟩
 have hlj:=nE l j
 have aBY:=nE l (j+1)
 refine g9 6 ?_
 refine WC.cd (fun jC uK=> ?_) (fun jC uK=> ?_)
 ·have Ko:=dY (l:=l) (j:=j) aa
  refine g9 6 ?_
  have q28:=(aQ.mono Vv).at (i:=j) aa
  refine match q28 with|⟨_,ap9,⟨_,aej,aMv⟩⟩=> ?_
  subst aej
  obtain⟨aMw,aMx,rfl⟩:=aMv.form
  refine g9 20 ?_
  refine WC.cd (fun j1 nh=> ?_) (fun j1 nh=> ?_)
  ·exact absurd nh aa
  refine g9 8 ?_
  exact⟨Le.rfl,j+1,⟨(iv (by rw [dY aa];omega)),eqv,eqv,eqv,eqv,trivial⟩,⟨rfl,aa⟩,aa⟩
 refine g9 8 ?_
 refine W.call (Mp:=[]) (apJ _ (by rw [w6 aa];omega)) rfl ah ?_
 rintro v30 Jl oC tH Po
 refine g9 12 ?_
 refine WC.loop (X:=(Nat)×Value×MH) (fun i=>[(25,lV dz l.length dA),(26,aK l.length),(27,aK i.1),(6,i.2.1)]) (fun i G Ml=>Ml=(i.2.2++[])∧aE aU 50 G i.2.1 ((l.take i.1).flatten) i.2.2∧i.1≤l.length) (fun i=>l.length-i.1) (0,v30,oC) ct ?_ ?_
 ·exact⟨rfl,(by simpa using Po),aa⟩
 rintro⟨i,LI,M_6⟩ atW G33 _ lq ⟨rfl,lE,hi⟩
 try dsimp only at lE hi
 have hli:=nE l i
 have aws:=nE l (i+1)
 refine WC.fr (f:=gk atW [(25,lV dz l.length dA),(26,aK l.length),(27,aK i),(6,LI)]) rfl (g9 6 ?_)
 refine WC.cd (fun ya Tj=> ?_) (fun ya Tj=> ?_)
 ·have hil:=dY (l:=l) (j:=i) aa
  refine g9 6 ?_
  have Ks:=(aQ.mono ((Vv.trans tH).trans lq)).at (i:=i) aa
  refine match Ks with|⟨_,aIq,⟨_,Jz,aB9⟩⟩=> ?_
  subst Jz
  obtain⟨aMy,aMz,rfl⟩:=aB9.form
  refine g9 8 ?_
  refine W.app (e:=aU) dR ei nX rfl HF rfl rfl (lE) (aB9) ah (by show((l.take i).flatten.length+l[i].length)*32≤140737488355328;omega) (fun v38 BS Fo=>(g9 9 ?_))
  exact⟨Le.rfl,(i+1,v38,BS),ct,⟨rfl,(by have h:=Fo;rw [Bx aa];exact h),aa⟩,aa⟩
 refine g9 11 ?_
 refine WC.du lE ah (fun G41 BR BU=>(g9 2 ?_))
 refine⟨rfl,_,rfl,?_⟩
 ·have h:=BU;rw [w6 aa]at h;exact h

variable {uL:Value}
theorem Z6{a:List aG}(cJ:az aU G uL a){v_b:Value}{b:List aG}(O2:az aU G v_b b)(hb:(a.length+b.length)*32≤140737488355328):
    Fc Tryz.prog 129 [uL,v_b] G [] (fun v G' M'=>M'=[]∧∃u0,v=u0∧az aU G' u0 (a++b)):=by
 obtain⟨CA,CB,rfl⟩:=cJ.form
 obtain⟨aqe,aqf,rfl⟩:=O2.form
 refine Fc.go [.tmp 4] Tryz.func129 Tryz.ntmps129 rfl (fun w0=>(g9 9 ?_))
 refine W.lit (e:=(JK aU)) (l:=[a,b]) (css:=[[lV _ _ _],[lV _ _ _]]) ap2 OR aGz rfl rfl rfl rfl rfl rfl ⟨⟨_,rfl,cJ⟩,⟨_,rfl,O2⟩,trivial⟩ (fun aTh G42 ajh aaG=>(W.cS (ae9 aaG (by simp;omega)) rfl (fun aMA aMB G43 Wg aMC=>(g9 5 ?_))))
 refine⟨rfl,_,rfl,?_⟩
 ·exact az.cast (aMC) (by simp)

variable {bj:MH} {eE:MH} {E8:Value} {pJ:Value}
theorem aeW{s:List af}(cC:aE cy 9 G E8 s bj)(i:Nat){u:List af}(gF:aE cy 9 G pJ u eE)(hi:i≤s.length)(hu:0<u.length)(hw:(s.length+u.length)*16≤140737488355328):
    Fc Tryz.prog 135 [E8,aK i,pJ] G (bj++eE) (fun v G' M'=>aE cy 9 G' v ((s.take i++u)++s.drop i) M'):=by
 have hs:=cC.bq
 have Xh:=gF.bq
 have FW:=cC.fS
 refine Fc.go [.tmp 6] Tryz.func135 Tryz.ntmps135 rfl (fun w0=>(WC.perm (M':=(bj++(eE++[]))) (by simp) (g9 9 ?_)))
 refine W.ok (ew (i) (s.length) dL gi cC rfl ⟨_,_,rfl,aa⟩ rfl ⟨aa,.inl aa⟩) (g9 16 ?_)
 refine WC.cd (fun iQ mz=> ?_) (fun iQ mz=> ?_)
 ·exact absurd mz aa
 refine g9 17 ?_
 refine WC.cd (fun AJ wA=> ?_) (fun AJ wA=> ?_)
 ·refine g9 4 ?_
  refine W.du gF (bJ ah) (fun G1 pX Pf=> ?_)
  have q3:=Pf.form
  refine match q3 with|⟨_,_,e_2⟩=> ?_
  subst e_2
  refine W.app (e:=cy) dL gi wy rfl by9 rfl rfl ((cC.mono pX)) (Pf) ah (hw) (fun v4 Ms5 ho6=>(g9 5 ?_))
  refine⟨.inr rfl,[_],⟨rfl,trivial⟩,_,aI _ _,?_⟩
  have h:=ho6
  rw [show(s.take i++u)++s.drop i=s++u from by rw [fI aa,yj aa,cx]]
  exact h
 refine g9 7 ?_
 refine W.ok (Ok.int (n:=((s.length+u.length:Nat):Int)) (dZ rfl rfl aa) aa) (W.mv ?_)
 have q7:=cC.zx
 refine match q7 with|⟨aAa,Pg⟩=> ?_
 refine W.ok (Ph (c:=nY E8) dL Pg) (g9 3 ?_)
 refine WC.cd (fun Xf Kk=> ?_) (fun Xf Kk=> ?_)
 ·refine g9 4 ?_
  refine W.ok (ew (0) (i) dL gi cC rfl rfl ⟨_,_,rfl,aa⟩ ⟨aa,.inl aa⟩) (g9 2 ?_)
  refine W.ok (Ok.int (n:=((s.length+u.length:Nat):Int)) (dZ rfl rfl aa) aa) (W.mv (W.ok (Ok.int (n:=((s.length+u.length-i:Nat):Int)) (lm rfl rfl aa) aa) (W.aqq (e:=cy) (i:=i) (c:=s.length+u.length-i) dL gi wy rfl by9 Tryz.underlying3 cC ah rfl rfl aa aa aa aa (by rw [show i+(s.length+u.length-i)=s.length+u.length from by omega];exact hw) rfl (fun v40 Uh CC=>(g9 7 ?_)))))
  refine W.ok (fL (i) (i+(s.length+u.length-i)) dL gi CC rfl ⟨_,_,rfl,aa⟩ rfl ⟨aa,by have:=iu.fS CC;omega⟩) (W.mv (W.AM (i) (by simp;omega) dL gi CC ah (Src.Er gF (bJ (bJ ah)) aa) rfl rfl aa aa (fun z45 ajc CD=>(g9 3 ?_))))
  refine WC.dw iD (d9 [0,1,2] ?_)
  refine WD.tk 3 rfl (Ok.int (n:=((i+u.length:Nat):Int)) (dZ rfl rfl aa) aa) (WD.tk 4 rfl (fL (i+u.length) (i+(s.length+u.length-i)) dL gi CD rfl ⟨_,_,rfl,aa⟩ rfl ⟨aa,by have:=iu.fS CD;omega⟩) (d9 [5,6] ?_))
  refine WD.tk 7 rfl (ew (i) (s.length) dL gi cC rfl ⟨_,_,rfl,aa⟩ rfl ⟨aa,.inl aa⟩) (WD.a1 8 rfl (W.AM (i+u.length) (by simp;omega) dL gi CD ah (Src.Pj (lo:=i) cC (bJ ah) aa aa) rfl rfl (by simp;omega) aa (fun z54 aAb aaz=>(W.nn (g9 10 ?_)))))
  refine⟨.inr rfl,[_],⟨rfl,trivial⟩,_,aI _ _,?_⟩
  have h:=(aaz.Ui (by simp;omega))
  rw [cx]at h
  exact h
 refine g9 7 ?_
 refine W.ok (Ok.int (n:=((s.length+u.length:Nat):Int)) (dZ rfl rfl aa) aa) (W.ok (ew 0 (s.length+u.length) dL gi cC rfl rfl ⟨_,_,rfl,aa⟩ ⟨aa,.inr aa⟩) ?_)
 have lp:=iu.extend (m:=u.length) (aE.open cC aa) aa hw aa
 refine g9 10 ?_
 refine W.ok (Ok.int (n:=((i+u.length:Nat):Int)) (dZ rfl rfl aa) aa) (W.ok (fL (i+u.length) (s.length+u.length) dL gi lp rfl ⟨_,_,rfl,aa⟩ rfl ⟨aa,by have:=iu.fS lp;omega⟩) ?_)
 have aAc:=iu.fS lp
 refine W.ok (AN (fn:=Tryz.f164) (tR:=4) (lo:=i+u.length) (hi:=s.length+u.length) Tryz.func164 (by kernel_rfl) (by kernel_rfl) (by kernel_rfl) (by kernel_rfl) dL gi gF lp ((bO _ ah).trans (bJ ah)) aa aa rfl rfl rfl) (g9 5 ?_)
 refine WC.dw iD (d9 [0,1,2] ?_)
 refine WD.tk 3 rfl (Ok.int (n:=((i+u.length:Nat):Int)) (dZ rfl rfl aa) aa) (WD.tk 4 rfl (fL (i+u.length) (s.length+u.length) dL gi lp rfl ⟨_,_,rfl,aa⟩ rfl ⟨aa,by have:=iu.fS lp;omega⟩) (d9 [5,6] ?_))
 refine WD.tk 7 rfl (fL (i) (s.length+u.length) dL gi lp rfl ⟨_,_,rfl,aa⟩ rfl ⟨aa,by have:=iu.fS lp;omega⟩) (WD.a1 8 rfl (W.FX (i:=i) dL gi lp ah rfl rfl aa (fun z77 aqr CE=>(W.nn (g9 6 ?_)))))
 refine W.ok (fL (i) (s.length+u.length) dL gi CE rfl ⟨_,_,rfl,aa⟩ rfl ⟨aa,by have:=iu.fS CE;omega⟩) (W.mv (W.AM (i) (by simp;omega) dL gi CE ah (Src.Er gF (bJ ah) aa) rfl rfl aa aa (fun z82 aaA aaB=>(g9 10 ?_))))
 refine⟨.inr rfl,[_],⟨rfl,trivial⟩,_,aI _ _,?_⟩
 exact(aaB.Ui aa)

theorem aeX{s:List Int}(cC:aE bE 3 G E8 s bj)(i:Nat){u:List Int}(gF:aE bE 3 G pJ u eE)(hi:i≤s.length)(hu:0<u.length)(hw:(s.length+u.length)*8≤140737488355328):
    Fc Tryz.prog 137 [E8,aK i,pJ] G (bj++eE) (fun v G' M'=>aE bE 3 G' v ((s.take i++u)++s.drop i) M'):=by
 have hs:=cC.bq
 have Xh:=gF.bq
 have FW:=cC.fS
 refine Fc.go [.tmp 6] Tryz.func137 Tryz.ntmps137 rfl (fun w0=>(WC.perm (M':=(bj++(eE++[]))) (by simp) (g9 9 ?_)))
 refine W.ok (ew (i) (s.length) dG cV cC rfl ⟨_,_,rfl,aa⟩ rfl ⟨aa,.inl aa⟩) (g9 16 ?_)
 refine WC.cd (fun iQ mz=> ?_) (fun iQ mz=> ?_)
 ·exact absurd mz aa
 refine g9 17 ?_
 refine WC.cd (fun AJ wA=> ?_) (fun AJ wA=> ?_)
 ·refine g9 4 ?_
  refine W.du gF (bJ ah) (fun G8 H9 I7=> ?_)
  have q10:=I7.form
  refine match q10 with|⟨_,_,FV⟩=> ?_
  subst FV
  refine W.app (e:=bE) dG cV ng rfl HI rfl rfl ((cC.mono H9)) (I7) ah (hw) (fun v11 HS O3=>(g9 5 ?_))
  refine⟨.inr rfl,[_],⟨rfl,trivial⟩,_,aI _ _,?_⟩
  have h:=O3
  rw [show(s.take i++u)++s.drop i=s++u from by rw [fI aa,yj aa,cx]]
  exact h
 refine g9 7 ?_
 refine W.ok (Ok.int (n:=((s.length+u.length:Nat):Int)) (dZ rfl rfl aa) aa) (W.mv ?_)
 have yg:=cC.zx
 refine match yg with|⟨aAa,Pg⟩=> ?_
 refine W.ok (Ph (c:=nY E8) dG Pg) (g9 3 ?_)
 refine WC.cd (fun Xf Kk=> ?_) (fun Xf Kk=> ?_)
 ·refine g9 4 ?_
  refine W.ok (ew (0) (i) dG cV cC rfl rfl ⟨_,_,rfl,aa⟩ ⟨aa,.inl aa⟩) (g9 2 ?_)
  refine W.ok (Ok.int (n:=((s.length+u.length:Nat):Int)) (dZ rfl rfl aa) aa) (W.mv (W.ok (Ok.int (n:=((s.length+u.length-i:Nat):Int)) (lm rfl rfl aa) aa) (W.aqq (e:=bE) (i:=i) (c:=s.length+u.length-i) dG cV ng rfl HI Tryz.underlying3 cC ah rfl rfl aa aa aa aa (by rw [show i+(s.length+u.length-i)=s.length+u.length from by omega];exact hw) rfl (fun v40 Uh CC=>(g9 7 ?_)))))
  refine W.ok (fL (i) (i+(s.length+u.length-i)) dG cV CC rfl ⟨_,_,rfl,aa⟩ rfl ⟨aa,by have:=iu.fS CC;omega⟩) (W.mv (W.AM (i) (by simp;omega) dG cV CC ah (Src.Er gF (bJ (bJ ah)) aa) rfl rfl aa aa (fun z45 ajc CD=>(g9 3 ?_))))
  refine WC.dw iD (d9 [0,1,2] ?_)
  refine WD.tk 3 rfl (Ok.int (n:=((i+u.length:Nat):Int)) (dZ rfl rfl aa) aa) (WD.tk 4 rfl (fL (i+u.length) (i+(s.length+u.length-i)) dG cV CD rfl ⟨_,_,rfl,aa⟩ rfl ⟨aa,by have:=iu.fS CD;omega⟩) (d9 [5,6] ?_))
  refine WD.tk 7 rfl (ew (i) (s.length) dG cV cC rfl ⟨_,_,rfl,aa⟩ rfl ⟨aa,.inl aa⟩) (WD.a1 8 rfl (W.AM (i+u.length) (by simp;omega) dG cV CD ah (Src.Pj (lo:=i) cC (bJ ah) aa aa) rfl rfl (by simp;omega) aa (fun z54 aAb aaz=>(W.nn (g9 10 ?_)))))
  refine⟨.inr rfl,[_],⟨rfl,trivial⟩,_,aI _ _,?_⟩
  have h:=(aaz.Ui (by simp;omega))
  rw [cx]at h
  exact h
 refine g9 7 ?_
 refine W.ok (Ok.int (n:=((s.length+u.length:Nat):Int)) (dZ rfl rfl aa) aa) (W.ok (ew 0 (s.length+u.length) dG cV cC rfl rfl ⟨_,_,rfl,aa⟩ ⟨aa,.inr aa⟩) ?_)
 have lp:=iu.extend (m:=u.length) (aE.open cC aa) aa hw aa
 refine g9 10 ?_
 refine W.ok (Ok.int (n:=((i+u.length:Nat):Int)) (dZ rfl rfl aa) aa) (W.ok (fL (i+u.length) (s.length+u.length) dG cV lp rfl ⟨_,_,rfl,aa⟩ rfl ⟨aa,by have:=iu.fS lp;omega⟩) ?_)
 have aAc:=iu.fS lp
 refine W.ok (AN (fn:=Tryz.f166) (tR:=4) (lo:=i+u.length) (hi:=s.length+u.length) Tryz.func166 (by kernel_rfl) (by kernel_rfl) (by kernel_rfl) (by kernel_rfl) dG cV gF lp ((bO _ ah).trans (bJ ah)) aa aa rfl rfl rfl) (g9 5 ?_)
 refine WC.dw iD (d9 [0,1,2] ?_)
 refine WD.tk 3 rfl (Ok.int (n:=((i+u.length:Nat):Int)) (dZ rfl rfl aa) aa) (WD.tk 4 rfl (fL (i+u.length) (s.length+u.length) dG cV lp rfl ⟨_,_,rfl,aa⟩ rfl ⟨aa,by have:=iu.fS lp;omega⟩) (d9 [5,6] ?_))
 refine WD.tk 7 rfl (fL (i) (s.length+u.length) dG cV lp rfl ⟨_,_,rfl,aa⟩ rfl ⟨aa,by have:=iu.fS lp;omega⟩) (WD.a1 8 rfl (W.FX (i:=i) dG cV lp ah rfl rfl aa (fun z77 aqr CE=>(W.nn (g9 6 ?_)))))
 refine W.ok (fL (i) (s.length+u.length) dG cV CE rfl ⟨_,_,rfl,aa⟩ rfl ⟨aa,by have:=iu.fS CE;omega⟩) (W.mv (W.AM (i) (by simp;omega) dG cV CE ah (Src.Er gF (bJ ah) aa) rfl rfl aa aa (fun z82 aaA aaB=>(g9 10 ?_))))
 refine⟨.inr rfl,[_],⟨rfl,trivial⟩,_,aI _ _,?_⟩
 exact(aaB.Ui aa)

theorem aw6{s:List af}(cC:aE cy 9 G E8 s bj)(i:Nat)(j:Nat)(tS:i<j∧j≤s.length):
    Fc Tryz.prog 183 [E8,aK i,aK j] G bj (fun v G' M'=>aE cy 9 G' v (s.take i++s.drop j) M'):=by
 have hs:=cC.bq
 obtain⟨aAd,aAe⟩:=tS
 refine Fc.go [.tmp 6] Tryz.func183 Tryz.ntmps183 rfl (fun w0=>(WC.perm (M':=(bj++[])) (by simp) (g9 12 ?_)))
 have q15:=cC.zx
 refine match q15 with|⟨aAf,Pk⟩=> ?_
 have aqt:=cC.fS
 refine W.okx (FY i j s.length dL gi Pk ⟨_,_,rfl,aa⟩ ⟨_,_,rfl,aa⟩ ⟨_,_,rfl,aa⟩ ⟨aa,aa,aa⟩) (fun u13=>(g9 10 ?_))
 refine WC.cd (fun iQ mz=> ?_) (fun iQ mz=> ?_)
 ·exact absurd mz aa
 refine g9 10 ?_
 refine WC.dw iD (d9 [0,1] ?_)
 refine WD.tk 2 rfl (ew (0) (i) dL gi cC rfl rfl ⟨_,_,rfl,aa⟩ ⟨aa,.inl aa⟩) (d9 [3,4] ?_)
 refine WD.tk 5 rfl (ew (j) (s.length) dL gi cC rfl ⟨_,_,rfl,aa⟩ rfl ⟨aa,.inl aa⟩) (WD.a1 6 rfl (W.Xi (e:=cy) (i:=i) (j:=j) dL gi wy rfl cC ah rfl rfl aa aa aa (fun v26 aqu Fj aaC aaD=>(W.nn (d9 [7] ?_)))))
 refine g9 8 ?_
 have aAg:(s.take i++s.drop j).length=i+(s.length-j):=by simp;omega
 refine W.ok (ew (s.take i++s.drop j).length s.length dL gi Fj rfl ⟨_,_,rfl,aa⟩ ⟨_,_,rfl,aa⟩ ⟨aa,.inr aa⟩) (W.Xj (e:=cy) (lo:=(s.take i++s.drop j).length) (hi:=s.length) dL gi wy rfl rfl Fj ah rfl aa aaC aaD aa (fun oC Pl=>(g9 9 ?_)))
 refine⟨.inr rfl,[_],⟨rfl,trivial⟩,_,aI _ _,?_⟩
 exact Pl

theorem aw7{s:List Int}(cC:aE bE 3 G E8 s bj)(i:Nat)(j:Nat)(tS:i<j∧j≤s.length):
    Fc Tryz.prog 184 [E8,aK i,aK j] G bj (fun v G' M'=>aE bE 3 G' v (s.take i++s.drop j) M'):=by
 have hs:=cC.bq
 obtain⟨aAd,aAe⟩:=tS
 refine Fc.go [.tmp 6] Tryz.func184 Tryz.ntmps184 rfl (fun w0=>(WC.perm (M':=(bj++[])) (by simp) (g9 12 ?_)))
 have RC:=cC.zx
 refine match RC with|⟨aAf,Pk⟩=> ?_
 have aqt:=cC.fS
 refine W.okx (FY i j s.length dG cV Pk ⟨_,_,rfl,aa⟩ ⟨_,_,rfl,aa⟩ ⟨_,_,rfl,aa⟩ ⟨aa,aa,aa⟩) (fun u13=>(g9 10 ?_))
 refine WC.cd (fun iQ mz=> ?_) (fun iQ mz=> ?_)
 ·exact absurd mz aa
 refine g9 10 ?_
 refine WC.dw iD (d9 [0,1] ?_)
 refine WD.tk 2 rfl (ew (0) (i) dG cV cC rfl rfl ⟨_,_,rfl,aa⟩ ⟨aa,.inl aa⟩) (d9 [3,4] ?_)
 refine WD.tk 5 rfl (ew (j) (s.length) dG cV cC rfl ⟨_,_,rfl,aa⟩ rfl ⟨aa,.inl aa⟩) (WD.a1 6 rfl (W.Xi (e:=bE) (i:=i) (j:=j) dG cV ng rfl cC ah rfl rfl aa aa aa (fun v26 aqu Fj aaC aaD=>(W.nn (d9 [7] ?_)))))
 refine g9 8 ?_
 have aAg:(s.take i++s.drop j).length=i+(s.length-j):=by simp;omega
 refine W.ok (ew (s.take i++s.drop j).length s.length dG cV Fj rfl ⟨_,_,rfl,aa⟩ ⟨_,_,rfl,aa⟩ ⟨aa,.inr aa⟩) (W.Xj (e:=bE) (lo:=(s.take i++s.drop j).length) (hi:=s.length) dG cV ng rfl rfl Fj ah rfl aa aaC aaD aa (fun oC Pl=>(g9 9 ?_)))
 refine⟨.inr rfl,[_],⟨rfl,trivial⟩,_,aI _ _,?_⟩
 exact Pl

variable {a:List af}
theorem vn(cJ:az cy G uL a):
    Fc Tryz.prog 136 [uL] G [] (fun v G' M'=>aE cy 9 G' v (a) M'):=by
 obtain⟨CA,CB,rfl⟩:=cJ.form
 have ha:=cJ.bytes
 refine Fc.go [.tmp 2] Tryz.func136 Tryz.ntmps136 rfl (fun w0=>(g9 9 ?_))
 refine W.ok (oB dL rfl rfl) (g9 2 ?_)
 refine WC.cond rfl (fun h4=> ?_) (fun h4=> ?_)
 ·have hn:=az.isNone cJ h4
  subst hn
  refine g9 8 ?_
  exact aE.nil
 refine g9 4 ?_
 refine W.HR (e:=cy) dL gi wy rfl (fun v17 aAh aqv=>(W.mv (W.app (e:=cy) dL gi wy rfl by9 rfl rfl (aqv) (cJ) ah (by simpa using ha) (fun v20 CN Fm=>(g9 4 ?_)))))
 refine⟨.inr rfl,[_],⟨rfl,trivial⟩,_,aI _ _,?_⟩
 have h:=Fm
 rw [iU]at h
 exact h

theorem vo{a:List Int}(cJ:az bE G uL a):
    Fc Tryz.prog 138 [uL] G [] (fun v G' M'=>aE bE 3 G' v (a) M'):=by
 obtain⟨CA,CB,rfl⟩:=cJ.form
 have ha:=cJ.bytes
 refine Fc.go [.tmp 2] Tryz.func138 Tryz.ntmps138 rfl (fun w0=>(g9 9 ?_))
 refine W.ok (oB dG rfl rfl) (g9 2 ?_)
 refine WC.cond rfl (fun h4=> ?_) (fun h4=> ?_)
 ·have hn:=az.isNone cJ h4
  subst hn
  refine g9 8 ?_
  exact aE.nil
 refine g9 4 ?_
 refine W.HR (e:=bE) dG cV ng rfl (fun v23 ach aMD=>(W.mv (W.app (e:=bE) dG cV ng rfl HI rfl rfl (aMD) (cJ) ah (by simpa using ha) (fun v26 CK LZ=>(g9 4 ?_)))))
 refine⟨.inr rfl,[_],⟨rfl,trivial⟩,_,aI _ _,?_⟩
 have h:=LZ
 rw [iU]at h
 exact h

theorem axg{Cv:Value}{p:List af}(jr:az cy G Cv p){mJ:Value}{c:List Int}(gd:az bE G mJ c)(i:Nat)(k:af)(nv:Int)(hb1:(p.length+1)*16≤140737488355328)(hb2:(c.length+1)*8≤140737488355328)(hi:i64 ((i:Nat):Int))(hv:i64 nv):
    Fc Tryz.prog 104 [Cv,mJ,aK i,sV k.b,iV nv] G [] (fun v G' M'=>M'=[]∧∃r:List af×List Int,r=qS p c i k nv∧∃u0 u1,v=.tuple #[u0,u1]∧az cy G' u0 (r.1)∧az bE G' u1 (r.2)):=by
 obtain⟨LQ,LR,rfl⟩:=jr.form
 obtain⟨gR,gS,rfl⟩:=gd.form
 have hp:=jr.bq
 have hc:=gd.bq
 have Pf:=hv.1
 have Rw:=hv.2
 refine Fc.go [.tmp 10,.tmp 11] Tryz.func104 Tryz.ntmps104 rfl (fun w0=>(g9 10 ?_))
 refine W.aH (lH jr _ (by first|assumption|exact⟨aa,aa⟩)) rfl (W.alloc fR (fun b30=>(g9 9 ?_)))
 refine W.sd 18 (fun rX lI=> ?_) (fun rX lI=> ?_)
 ·exfalso;omega
 refine g9 10 ?_
 refine W.sd 24 (fun AJ wA=> ?_) (fun AJ wA=> ?_)
 ·refine g9 23 ?_
  refine⟨rfl,_,(ID (.inl aa)).symm,_,_,rfl,?_,?_⟩
  ·exact az.nil
  exact az.nil
 refine g9 5 ?_
 refine W.aH (uJ _ _ _ _) rfl (g9 4 ?_)
 refine W.sp 30 rfl (fun ya=> ?_) (fun ya=> ?_)
 ·refine g9 17 ?_
  refine⟨rfl,_,(ID (.inr (.inl (by simpa using ya)))).symm,_,_,rfl,?_,?_⟩
  ·exact az.nil
  exact az.nil
 refine g9 11 ?_
 refine WC.cd (fun Xb Kf=> ?_) (fun Xb Kf=> ?_)
 ·refine g9 9 ?_
  refine⟨rfl,_,(ID (.inr (.inr (af.ext' Kf)))).symm,_,_,rfl,?_,?_⟩
  ·exact az.nil
  exact az.nil
 have gH:=EA (p:=p) (i:=i) (k:=k) (by simpa using ya)
 have hb:=IE (p:=p) (c:=c) (i:=i) (k:=k) (v:=nv) aa (by simpa using ya) (fun e=>Kf (ax af.b e))
 refine g9 5 ?_
 refine W.call (Mp:=[]) (vn jr) rfl ah ?_
 rintro YW G31 aaJ aqG PD
 refine W.perm (ag ah).symm (g9 2 ?_)
 refine W.re (e:=cy) (l:=[_]) (css:=[[sV _]]) dL gi wy rfl rfl rfl rfl rfl rfl ⟨rfl,trivial⟩ (fun v35 auP auQ=>(W.perm (ag ah).symm (W.call (Mp:=aaJ++auP) (aeW PD _ auQ (by first|assumption|omega) (by first|assumption|omega|simp) (by first|assumption|omega|(simp;omega))) rfl ((nJ (ci _ _ _)).trans ((bO _ (ag ah)).trans (ag (bJ ah)))) ?_)))
 rintro v39 G38 Uh oD aME
 refine W.perm (ag ah).symm (W.mv (W.call (Mp:=[]) (vo (gd.mono aO)) rfl ah ?_))
 rintro v43 G42 Pz ajh axc
 refine W.perm (ag ah).symm (W.mv (W.ok (Ok.int (n:=((i+1:Nat):Int)) (dZ rfl rfl aa) aa) (W.mv (W.re (e:=bE) (l:=[_]) (css:=[[iV _]]) dG cV ng rfl rfl rfl rfl rfl rfl ⟨⟨rfl,aa,aa⟩,trivial⟩ (fun v46 akn aMF=>(W.perm (ag ah).symm (W.call (Mp:=Pz++akn) (aeX axc _ aMF (by first|assumption|omega) (by first|assumption|omega|simp) (by first|assumption|omega|(simp;omega))) rfl ((nJ (ci _ _ _)).trans ((bO _ (ag ah)).trans (ag (bJ ah)))) ?_)))))))
 rintro v50 G49 aAq aqL ajn
 refine W.perm (ag ah).symm (g9 4 ?_)
 refine WC.du (aME.mono aO) (ag (bJ ah)) (fun G53 zD FC=>(WC.du (ajn.mono zD) (ag ah) (fun G54 z8 Wb=>(g9 2 ?_))))
 refine⟨rfl,_,hb.symm,_,_,rfl,?_,?_⟩
 ·exact(FC.mono z8)
 exact Wb

theorem x5(cJ:az cy G uL a):
    Fc Tryz.prog 136 [uL] G [] (fun v G' M'=>M'=[]∧∃u0,v=u0∧az cy G' u0 (a)):=by
 obtain⟨CA,CB,rfl⟩:=cJ.form
 have ha:=cJ.bytes
 refine Fc.go [.tmp 2] Tryz.func136 Tryz.ntmps136 rfl (fun w0=>(g9 9 ?_))
 refine W.ok (oB dL rfl rfl) (g9 2 ?_)
 refine WC.cond rfl (fun h4=> ?_) (fun h4=> ?_)
 ·have hn:=az.isNone cJ h4
  subst hn
  refine g9 8 ?_
  refine⟨rfl,_,rfl,?_⟩
  ·exact az.nil
 refine g9 4 ?_
 refine W.HR (e:=cy) dL gi wy rfl (fun v1 H0 Nm=>(W.mv (W.app (e:=cy) dL gi wy rfl by9 rfl rfl (Nm) (cJ) ah (by simpa using ha) (fun v4 Ms5 ho6=>(g9 3 ?_)))))
 refine WC.du ho6 ah (fun G7 TG hv7=>(g9 2 ?_))
 refine⟨rfl,_,rfl,?_⟩
 ·exact hv7

theorem x6{a:List Int}(cJ:az bE G uL a):
    Fc Tryz.prog 138 [uL] G [] (fun v G' M'=>M'=[]∧∃u0,v=u0∧az bE G' u0 (a)):=by
 obtain⟨CA,CB,rfl⟩:=cJ.form
 have ha:=cJ.bytes
 refine Fc.go [.tmp 2] Tryz.func138 Tryz.ntmps138 rfl (fun w0=>(g9 9 ?_))
 refine W.ok (oB dG rfl rfl) (g9 2 ?_)
 refine WC.cond rfl (fun h4=> ?_) (fun h4=> ?_)
 ·have hn:=az.isNone cJ h4
  subst hn
  refine g9 8 ?_
  refine⟨rfl,_,rfl,?_⟩
  ·exact az.nil
 refine g9 4 ?_
 refine W.HR (e:=bE) dG cV ng rfl (fun v8 Ms9 Fh=>(W.mv (W.app (e:=bE) dG cV ng rfl HI rfl rfl (Fh) (cJ) ah (by simpa using ha) (fun v11 HS O3=>(g9 3 ?_)))))
 refine WC.du O3 ah (fun G14 vY HT=>(g9 2 ?_))
 refine⟨rfl,_,rfl,?_⟩
 ·exact HT

theorem iP{FF:List Value}{a:Nd}(cJ:cc G FF a):
    Fc Tryz.prog 112 [.agg (List.toArray FF)] G [] (fun v G' M'=>M'=[]∧∃u0,v=.agg (List.toArray u0)∧cc G' u0 (a)):=by
 obtain⟨_,_,_,_,_,_,_,_,rfl,ru,rv,mE,nq,iM⟩:=cJ
 refine Fc.go [.cell 2 98] Tryz.func112 Tryz.ntmps112 rfl (fun w0=>(g9 2 ?_))
 refine W.box (L:=[iV _,iV _,lV _ _ _,lV _ _ _,sV _,.bool _,iV _,iV _,lV _ _ _,lV _ _ _]) rfl rfl (fun yT=>(W.alloc cK (fun b16=>(g9 3 ?_))))
 refine WC.dw ((bB.cons _).k9) (d9 [0,3] ?_)
 refine WD.any [1,4] (by kernel_rfl) rfl ⟨WD.ap ?_,WD.ap ?_,trivial⟩
 ·refine g9 1 ?_
  refine W.nn ?_
  refine WD.any [2,4] (by kernel_rfl) rfl ⟨WD.ap ?_,WD.ap ?_,trivial⟩
  ·refine W.cS (x5 ru) rfl (fun ae7 ae8 TU B6 DX=>(W.nn (WD.a1 4 rfl (g9 1 ?_))))
   refine W.nn (d9 [6] ?_)
   refine WD.a1 5 rfl (W.cS (x6 (rv.mono B6)) rfl (fun aMG aMH G24 Vv H5=>(W.nn (d9 [7,8,9] ?_))))
   refine g9 3 ?_
   refine WC.dw ((bB.cons _).k9) (d9 [0,3] ?_)
   refine WD.any [1,4] (by kernel_rfl) rfl ⟨WD.ap ?_,WD.ap ?_,trivial⟩
   ·refine g9 1 ?_
    refine W.nn ?_
    refine WD.any [2,4] (by kernel_rfl) rfl ⟨WD.ap ?_,WD.ap ?_,trivial⟩
    ·refine W.cS (jZ (mE.mono aO)) rfl (fun ae2 ae3 G31 aqG alS=>(W.nn (WD.a1 4 rfl (g9 1 ?_))))
     refine W.nn (d9 [6] ?_)
     refine WD.a1 5 rfl (W.cS (ie (nq.mono aO)) rfl (fun afa afb G38 oD VN=>(W.nn (d9 [7,8,9] ?_))))
     refine g9 10 ?_
     refine⟨rfl,_,rfl,?_⟩
     ·exact⟨_,_,_,_,_,_,_,_,rfl,(DX.mono aO),(H5.mono aO),(alS.mono oD),VN,(by assumption)⟩
    refine g9 1 ?_
    refine W.nn (WD.a1 2 rfl (W.cS (jZ (mE.mono aO)) rfl (fun DZ D0 G45 RO Nc=>(W.nn (d9 [6] ?_)))))
    refine WD.a1 5 rfl (W.cS (ie (nq.mono aO)) rfl (fun au5 au6 G52 aMI FC=>(W.nn (d9 [7,8,9] ?_))))
    refine g9 10 ?_
    refine⟨rfl,_,rfl,?_⟩
    ·exact⟨_,_,_,_,_,_,_,_,rfl,(DX.mono aO),(H5.mono aO),(Nc.mono aMI),FC,(by assumption)⟩
   refine g9 1 ?_
   refine W.nn (WD.a1 1 rfl (g9 1 ?_))
   refine W.nn (WD.a1 2 rfl (W.cS (jZ (mE.mono aO)) rfl (fun aMJ aMK G59 LW axh=>(W.nn (d9 [6] ?_)))))
   refine WD.a1 5 rfl (W.cS (ie (nq.mono aO)) rfl (fun aML aMM G66 V4 avN=>(W.nn (d9 [7,8,9] ?_))))
   refine g9 10 ?_
   refine⟨rfl,_,rfl,?_⟩
   ·exact⟨_,_,_,_,_,_,_,_,rfl,(DX.mono aO),(H5.mono aO),(axh.mono V4),avN,(by assumption)⟩
  refine g9 1 ?_
  refine W.nn (WD.a1 2 rfl (W.cS (x5 ru) rfl (fun aMN aMO G73 alk axi=>(W.nn (d9 [6] ?_)))))
  refine WD.a1 5 rfl (W.cS (x6 (rv.mono alk)) rfl (fun aMP aMQ G80 aBt VB=>(W.nn (d9 [7,8,9] ?_))))
  refine g9 3 ?_
  refine WC.dw ((bB.cons _).k9) (d9 [0,3] ?_)
  refine WD.any [1,4] (by kernel_rfl) rfl ⟨WD.ap ?_,WD.ap ?_,trivial⟩
  ·refine g9 1 ?_
   refine W.nn ?_
   refine WD.any [2,4] (by kernel_rfl) rfl ⟨WD.ap ?_,WD.ap ?_,trivial⟩
   ·refine W.cS (jZ (mE.mono aO)) rfl (fun aMR aMS G87 yM axj=>(W.nn (WD.a1 4 rfl (g9 1 ?_))))
    refine W.nn (d9 [6] ?_)
    refine WD.a1 5 rfl (W.cS (ie (nq.mono aO)) rfl (fun aMT aMU G94 SW aMV=>(W.nn (d9 [7,8,9] ?_))))
    refine g9 10 ?_
    refine⟨rfl,_,rfl,?_⟩
    ·exact⟨_,_,_,_,_,_,_,_,rfl,(axi.mono aO),(VB.mono aO),(axj.mono SW),aMV,(by assumption)⟩
   refine g9 1 ?_
   refine W.nn (WD.a1 2 rfl (W.cS (jZ (mE.mono aO)) rfl (fun aFZ aF0 aMe Z5 aiJ=>(W.nn (d9 [6] ?_)))))
   refine WD.a1 5 rfl (W.cS (ie (nq.mono aO)) rfl (fun aF1 aF2 aBv ZR aFc=>(W.nn (d9 [7,8,9] ?_))))
   refine g9 10 ?_
   refine⟨rfl,_,rfl,?_⟩
   ·exact⟨_,_,_,_,_,_,_,_,rfl,(axi.mono aO),(VB.mono aO),(aiJ.mono ZR),aFc,(by assumption)⟩
  refine g9 1 ?_
  refine W.nn (WD.a1 1 rfl (g9 1 ?_))
  refine W.nn (WD.a1 2 rfl (W.cS (jZ (mE.mono aO)) rfl (fun aF3 aF4 aKz aD8 aFd=>(W.nn (d9 [6] ?_)))))
  refine WD.a1 5 rfl (W.cS (ie (nq.mono aO)) rfl (fun aF5 aF6 aTi aFe aFf=>(W.nn (d9 [7,8,9] ?_))))
  refine g9 10 ?_
  refine⟨rfl,_,rfl,?_⟩
  ·exact⟨_,_,_,_,_,_,_,_,rfl,(axi.mono aO),(VB.mono aO),(aFd.mono aFe),aFf,(by assumption)⟩
 refine g9 1 ?_
 refine W.nn (WD.a1 1 rfl (g9 1 ?_))
 refine W.nn (WD.a1 2 rfl (W.cS (x5 ru) rfl (fun aF7 aF8 aTj aFg GF=>(W.nn (d9 [6] ?_)))))
 refine WD.a1 5 rfl (W.cS (x6 (rv.mono aFg)) rfl (fun aF9 aGa aMW axk aiM=>(W.nn (d9 [7,8,9] ?_))))
 refine g9 3 ?_
 refine WC.dw ((bB.cons _).k9) (d9 [0,3] ?_)
 refine WD.any [1,4] (by kernel_rfl) rfl ⟨WD.ap ?_,WD.ap ?_,trivial⟩
 ·refine g9 1 ?_
  refine W.nn ?_
  refine WD.any [2,4] (by kernel_rfl) rfl ⟨WD.ap ?_,WD.ap ?_,trivial⟩
  ·refine W.cS (jZ (mE.mono aO)) rfl (fun aGb aGc aTk aPw aiN=>(W.nn (WD.a1 4 rfl (g9 1 ?_))))
   refine W.nn (d9 [6] ?_)
   refine WD.a1 5 rfl (W.cS (ie (nq.mono aO)) rfl (fun aGd aGe aTl aFh aFi=>(W.nn (d9 [7,8,9] ?_))))
   refine g9 10 ?_
   refine⟨rfl,_,rfl,?_⟩
   ·exact⟨_,_,_,_,_,_,_,_,rfl,(GF.mono aO),(aiM.mono aO),(aiN.mono aFh),aFi,(by assumption)⟩
  refine g9 1 ?_
  refine W.nn (WD.a1 2 rfl (W.cS (jZ (mE.mono aO)) rfl (fun aGf aGg aTm aPx aFj=>(W.nn (d9 [6] ?_)))))
  refine WD.a1 5 rfl (W.cS (ie (nq.mono aO)) rfl (fun aGh aGi aHQ YL aFk=>(W.nn (d9 [7,8,9] ?_))))
  refine g9 10 ?_
  refine⟨rfl,_,rfl,?_⟩
  ·exact⟨_,_,_,_,_,_,_,_,rfl,(GF.mono aO),(aiM.mono aO),(aFj.mono YL),aFk,(by assumption)⟩
 refine g9 1 ?_
 refine W.nn (WD.a1 1 rfl (g9 1 ?_))
 refine W.nn (WD.a1 2 rfl (W.cS (jZ (mE.mono aO)) rfl (fun aGj aGk aTn aPy aFl=>(W.nn (d9 [6] ?_)))))
 refine WD.a1 5 rfl (W.cS (ie (nq.mono aO)) rfl (fun aGl aGm aHU DH aFm=>(W.nn (d9 [7,8,9] ?_))))
 refine g9 10 ?_
 refine⟨rfl,_,rfl,?_⟩
 ·exact⟨_,_,_,_,_,_,_,_,rfl,(GF.mono aO),(aiM.mono aO),(aFl.mono DH),aFm,(by assumption)⟩

theorem Wl{yN:List Value}{n:Nd}(lA:cc G yN n)(i:Nat)(k:af)(nv:Int)(hz:n.ab.length≤1000000∧n.kids.length≤1000000)(hi:i64 ((i:Nat):Int))(hv:i64 nv):
    Fc Tryz.prog 172 [.agg (List.toArray yN),aK i,sV k.b,iV nv] G [] (fun v G' M'=>M'=[]∧∃r:Nd×Bool,r=jg n i k nv∧∃u0,v=.tuple #[.agg (List.toArray u0),.bool (r.2)]∧cc G' u0 (r.1)):=by
 obtain⟨_,_,_,_,_,_,_,_,rfl,fk,eX,nr,fH,jO⟩:=lA
 have h1:=fk.bq
 have h2:=eX.bq
 have h3:=nr.bq
 have h4:=fH.bq
 obtain⟨hz1,hz2⟩:=hz
 have Pf:=hv.1
 have Rw:=hv.2
 have tw:=hi.1
 have jY:=hi.2
 have b1:n.ab.length*16≤140737488355328:=fk.bytes
 have b2:n.kids.length*8≤140737488355328:=eX.bytes
 refine Fc.go [.cell 8 98,.tmp 9] Tryz.func172 Tryz.ntmps172 rfl (fun w0=>(g9 2 ?_))
 refine W.box (L:=[iV _,iV _,lV _ _ _,lV _ _ _,sV _,.bool _,iV _,iV _,lV _ _ _,lV _ _ _]) rfl rfl (fun aTo=>(W.alloc cK (fun aTp=>(g9 11 ?_))))
 refine WC.cd (fun tQ zo=> ?_) (fun tQ zo=> ?_)
 ·refine g9 2 ?_
  refine W.ok (aY (L:=[iV _,iV _,lV _ _ _,lV _ _ _,sV _,.bool _,iV _,iV _,lV _ _ _,lV _ _ _]) HN cK rfl rfl rfl) (g9 7 ?_)
  refine⟨rfl,_,(KP (.inl zo)).symm,_,rfl,?_⟩
  ·exact⟨_,_,_,_,_,_,_,_,rfl,az.nil,az.nil,az.nil,az.nil,Nd.oF⟩
 refine g9 11 ?_
 refine W.call (Mp:=[]) (axg fk eX _ _ _ (by first|assumption|omega|(simp;omega)) (by first|assumption|omega|(simp;omega)) (by first|assumption|exact⟨aa,aa⟩) (by assumption)) rfl ah ?_
 intro _ aTq _ aFn aMX
 refine match aMX with|⟨aib,_,aFo,_,_,aFp,axl,axm⟩=> ?_
 subst aib
 subst aFo
 subst aFp
 have aMY:=axl.form
 refine match aMY with|⟨aGn,aGo,aFq⟩=> ?_
 subst aFq
 have aMZ:=axm.form
 refine match aMZ with|⟨aGp,aGq,aFr⟩=> ?_
 subst aFr
 refine g9 15 ?_
 refine WC.cd (fun vU yc=> ?_) (fun vU yc=> ?_)
 ·refine g9 2 ?_
  refine W.ok (aY (L:=[iV _,iV _,lV _ _ _,lV _ _ _,sV _,.bool _,iV _,iV _,lV _ _ _,lV _ _ _]) HN cK rfl rfl rfl) (g9 7 ?_)
  refine⟨rfl,_,(KP (.inr aa)).symm,_,rfl,?_⟩
  ·exact⟨_,_,_,_,_,_,_,_,rfl,az.nil,az.nil,az.nil,az.nil,Nd.oF⟩
 refine g9 5 ?_
 refine W.cN (iP (gE aFn fk eX nr fH jO)) rfl (fun _ _ _ _ _ _ _ _ aTr axn aGr aGs apK apL aFs=>(W.alloc cK (fun aTs=>(g9 22 ?_))))
 refine⟨rfl,_,(KQ zo aa).symm,_,rfl,?_⟩
 ·exact⟨_,_,_,_,_,_,_,_,rfl,(axl.mono axn),(axm.mono axn),apK,apL,jO⟩

variable {kP:MH} {a:List Nd×List Bool} {j6:Nat} {bA:Nat} {Jt:List Value} {x:Nd}
theorem adM{c:aX}(cJ:bY dm 98 4 3 149 j6 G a kP)(TW:cc G Jt x):
    Fc Tryz.prog 79 [aC bA,.agg (List.toArray Jt)] G ((bA,ar 100 [iV c.fan,iV c.leaf,iV c.aT,iV c.bp,iV c.rest,aC j6])::(kP)) (fun v G' M'=>v=iV (xn a x.slot x).1∧P0 98 4 3 149 100 bA G' c (xn a x.slot x).2 M'):=by
 obtain⟨_,_,_,_,_,_,_,_,rfl,R1,R2,R3,R4,GS⟩:=TW
 refine Fc.go [.tmp 4] Tryz.func79 Tryz.ntmps79 rfl (fun w0=>(WC.perm (M':=((bA,ar 100 [iV c.fan,iV c.leaf,iV c.aT,iV c.bp,iV c.rest,aC j6])::(kP++[]))) (by simp) (g9 2 ?_)))
 refine W.box (L:=[iV _,iV _,lV _ _ _,lV _ _ _,sV _,.bool _,iV _,iV _,lV _ _ _,lV _ _ _]) rfl rfl (fun b1=>(g9 7 ?_))
 refine W.ok (fx HM rfl rfl) (g9 6 ?_)
 refine WC.dw (iD.k9.k9) (d9 [0,1,2,3,4,5,6] ?_)
 refine WD.a1 7 rfl (W.cN (iP (gp R1 R2 R3 R4 GS)) rfl (fun _ _ _ _ _ _ _ _ G2 lJ azM azN azO azP axo=>(W.nn (WD.a1 8 rfl (W.call (Mp:=kP) (aDs (bY.mono lJ cJ) _ (gp azM azN azO azP axo)) rfl (ag (ag ah)) ?_)))))
 intro v11 G8 Pq H9 q9
 refine match q9 with|⟨z3,aM0⟩=> ?_
 subst z3
 refine W.perm (ag (ag ah)).symm (W.nn (d9 [9] ?_))
 refine g9 3 ?_
 refine⟨.inr rfl,[_],⟨rfl,trivial⟩,_,bB.k9.cons _,?_⟩
 exact⟨rfl,_,_,ax _ (cx _),aM0⟩

theorem V8{c:aX}(cJ:bY dm 98 4 3 149 j6 G a kP)(i:Int):
    Fc Tryz.prog 88 [aC bA,iV i] G ((bA,ar 100 [iV c.fan,iV c.leaf,iV c.aT,iV c.bp,iV c.rest,aC j6])::(kP)) (fun v G' M'=>(∃cs,v=.tuple #[.agg (List.toArray cs),.bool (da a.2 i)]∧cc G' cs (BW a i Nd.zero))∧M'=(bA,ar 100 [iV c.fan,iV c.leaf,iV c.aT,iV c.bp,iV c.rest,aC j6])::kP):=by
 refine Fc.go [.cell 4 98,.tmp 5] Tryz.func88 Tryz.ntmps88 rfl (fun w0=>(WC.perm (M':=((bA,ar 100 [iV c.fan,iV c.leaf,iV c.aT,iV c.bp,iV c.rest,aC j6])::(kP++[]))) (by simp) (g9 2 ?_)))
 refine W.alloc cK (fun b14=>(g9 7 ?_))
 refine W.ok (fx HM rfl rfl) (g9 12 ?_)
 refine W.call (Mp:=kP) (aDt cJ _) rfl (ag (ag ah)) ?_
 intro v18 G15 adO B9 RC
 refine match RC with|⟨⟨_,z9,⟨_,_,_,_,_,_,_,_,uN,axp,axq,axr,axs,apM⟩⟩,aiO⟩=> ?_
 subst z9
 subst uN
 have aiO:=aiO.symm
 subst aiO
 refine W.perm (ag (ag ah)).symm (g9 3 ?_)
 refine W.alloc cK (fun b22=>(g9 7 ?_))
 refine W.cN (iP (gp axp axq axr axs apM)) rfl (fun _ _ _ _ _ _ _ _ G23 aex aeJ aeK aeL Tg Ws=>(g9 6 ?_))
 refine⟨.inr rfl,[_,_],⟨⟨_,_,_,_,_,rfl,cY (i:=1) rfl,jQ,(by simp),rfl,rfl⟩,rfl,trivial⟩,_,(bB.k9.cons _).cons _,?_⟩
 exact⟨⟨_,rfl,(gp aeJ aeK aeL Tg Ws)⟩,ax _ (cx _)⟩

theorem anR{c:aX}(cJ:bY dm 98 4 3 149 j6 G a kP):
    Fc Tryz.prog 123 [aC bA] G ((bA,ar 100 [iV c.fan,iV c.leaf,iV c.aT,iV c.bp,iV c.rest,aC j6])::(kP)) (fun v G' M'=>v=iV ((de a.2).length:Int)∧M'=(bA,ar 100 [iV c.fan,iV c.leaf,iV c.aT,iV c.bp,iV c.rest,aC j6])::kP):=by
 refine Fc.go [.tmp 2] Tryz.func123 Tryz.ntmps123 rfl (fun w0=>(WC.perm (M':=((bA,ar 100 [iV c.fan,iV c.leaf,iV c.aT,iV c.bp,iV c.rest,aC j6])::(kP++[]))) (by simp) (g9 9 ?_)))
 refine W.ok (fx HM rfl rfl) (g9 11 ?_)
 refine W.call (Mp:=kP) (azb cJ) rfl (ag ah) ?_
 intro YW Jl oC tH LA
 refine match LA with|⟨tp,aiP⟩=> ?_
 subst tp
 have aiP:=aiP.symm
 subst aiP
 refine W.perm (ag ah).symm (g9 4 ?_)
 refine⟨.inr rfl,[_],⟨rfl,trivial⟩,_,bB.k9,?_⟩
 exact⟨rfl,ax _ (cx _)⟩

theorem V7{c:aX}(cJ:bY dm 98 4 3 149 j6 G a kP)(TW:cc G Jt x):
    Fc Tryz.prog 39 [aC bA,.agg (List.toArray Jt)] G ((bA,ar 100 [iV c.fan,iV c.leaf,iV c.aT,iV c.bp,iV c.rest,aC j6])::(kP)) (fun v G' M'=>v=.tuple #[iV (KG a x).1.1,iV (KG a x).1.2]∧P0 98 4 3 149 100 bA G' c (KG a x).2 M'):=by
 obtain⟨MX,MY,MZ,M0,M3,M4,M5,M6,rfl,R1,R2,R3,R4,GS⟩:=TW
 have hal:a.2.length≤4096:=by obtain⟨f,_,_,h,_⟩:=cJ;exact h
 have hai:=afR (x:=Nd.zero) hal
 refine Fc.go [.tmp 4,.tmp 5] Tryz.func39 Tryz.ntmps39 rfl (fun w0=>(WC.perm (M':=((bA,ar 100 [iV c.fan,iV c.leaf,iV c.aT,iV c.bp,iV c.rest,aC j6])::(kP++[]))) (by simp) (g9 2 ?_)))
 refine W.box (L:=[iV _,iV _,lV _ _ _,lV _ _ _,sV _,.bool _,iV _,iV _,lV _ _ _,lV _ _ _]) rfl rfl (fun b35=>(g9 8 ?_))
 refine W.ok (fx HM rfl rfl) (g9 11 ?_)
 refine W.ok (aY (L:=[iV _,iV _,lV _ _ _,lV _ _ _,sV _,.bool _,iV _,iV _,lV _ _ _,lV _ _ _]) HN cK rfl rfl rfl) (W.call (Mp:=kP) (aut cJ (x:=Nd.zero) ⟨_,_,_,_,_,_,_,_,rfl,az.nil,az.nil,az.nil,az.nil,Nd.oF⟩) rfl (ag (ag ah)) ?_)
 intro v39 G36 HZ CL Ks
 refine match Ks with|⟨Py,Fl⟩=> ?_
 subst Py
 refine W.perm (ag (ag ah)).symm (g9 14 ?_)
 refine WC.cn (fun j1 nh=> ?_) (fun j1 nh=> ?_)
 ·refine g9 9 ?_
  refine⟨.inr rfl,[_,_],⟨rfl,rfl,trivial⟩,_,bB.k9.cons _,?_⟩
  have hE:=aa6 (a:=a) (x:=x) nh
  exact⟨ax (fun r:Int×Int=>Value.tuple #[iV r.1,iV r.2]) (ax Prod.fst hE).symm,P0.cast ⟨_,_,ax _ (cx _),Fl⟩ (ax Prod.snd hE).symm⟩
 refine g9 14 ?_
 refine W.call (Mp:=((bA,ar 100 [iV c.fan,iV c.leaf,iV c.aT,iV c.bp,iV c.rest,aC j6])::HZ)) (Mr:=((b35,ar 98 [iV (ff (a) Nd.zero).1.1,iV x.level,lV MX x.ab.length MY,lV MZ x.kids.length M0,sV x.high.b,.bool x.fp,iV x.right,iV x.seen,lV M3 x.aj.length M4,lV M5 x.rows.length M6])::[])) (adM (c:=c) Fl (show cc _ _ { x with slot:=(ff a Nd.zero).1.1 } from⟨_,_,_,_,_,_,_,_,rfl,(R1.mono CL),(R2.mono CL),(R3.mono CL),(R4.mono CL),⟨hai,GS.2⟩⟩)) rfl (((ag ah).cons _).trans ((List.Perm.swap _ _ _).trans (ah.cons _))) ?_
 intro v45 G42 Pz ajh q43
 refine match q43 with|⟨zC,aM1⟩=> ?_
 subst zC
 refine W.perm (ag ah).symm (g9 5 ?_)
 refine⟨.inr rfl,[_,_],⟨rfl,rfl,trivial⟩,_,bB.cons _,?_⟩
 have hE:=aa5 (a:=a) (x:=x) nh
 exact⟨ax (fun r:Int×Int=>Value.tuple #[iV r.1,iV r.2]) (ax Prod.fst hE).symm,P0.cast (by have h:=aM1;rw [cx];exact h) (ax Prod.snd hE).symm⟩

theorem ahQ{c:aX}(cJ:bY dm 98 4 3 149 j6 G a kP):
    Fc Tryz.prog 110 [aC bA] G ((bA,ar 100 [iV c.fan,iV c.leaf,iV c.aT,iV c.bp,iV c.rest,aC j6])::(kP)) (fun v G' M'=>az dm G' v ((kp a.2).map (fun i=>BW a i Nd.zero))∧M'=(bA,ar 100 [iV c.fan,iV c.leaf,iV c.aT,iV c.bp,iV c.rest,aC j6])::kP):=by
 have hal:a.2.length≤4096:=by obtain⟨f,_,_,h,_⟩:=cJ;exact h
 have Xh:=PX a.2 a.2.length
 rw [←aa2]at Xh
 refine Fc.go [.tmp 2] Tryz.func110 Tryz.ntmps110 rfl (fun w0=>(WC.perm (M':=((bA,ar 100 [iV c.fan,iV c.leaf,iV c.aT,iV c.bp,iV c.rest,aC j6])::(kP++[]))) (by simp) (g9 14 ?_)))
 refine W.ok (fx HM rfl rfl) (g9 12 ?_)
 refine W.call (Mp:=kP) (azc cJ) rfl (ag ah) ?_
 intro v51 G48 LV CM Xo
 refine match Xo with|⟨Um,He⟩=> ?_
 have He:=He.symm
 subst He
 refine W.perm (ag ah).symm ?_
 have q54:=Um.form
 refine match q54 with|⟨afc,afd,DN⟩=> ?_
 subst DN
 refine g9 5 ?_
 refine WC.loop (X:=(Nat)×Value×MH) (fun k=>[(16,aK k.1),(0,aC bA),(14,lV afc ((kp (a).2)).length afd),(15,aK (((kp (a).2)).length)),(3,k.2.1)]) (fun k G Ml=>Ml=((bA,ar 100 [iV c.fan,iV c.leaf,iV c.aT,iV c.bp,iV c.rest,aC j6])::(k.2.2++(kP++[])))∧aE dm 98 G k.2.1 (((kp a.2).take k.1).map (fun i=>BW a i Nd.zero)) k.2.2∧k.1≤(kp a.2).length) (fun k=>(kp a.2).length-k.1) (0,lV none 0 0,([]:MH)) ct ?_ ?_
 ·exact⟨rfl,(by simpa using aE.nil),aa⟩
 rintro⟨k,v_3,Y8⟩ aA6 G55 _ B7 ⟨rfl,wg,hk⟩
 try dsimp only at wg hk
 refine WC.fr (f:=gk aA6 [(16,aK k),(0,aC bA),(14,lV afc ((kp (a).2)).length afd),(15,aK (((kp (a).2)).length)),(3,v_3)]) rfl (g9 6 ?_)
 refine WC.cd (fun rX lI=> ?_) (fun rX lI=> ?_)
 ·refine g9 6 ?_
  refine(Um.mono B7).a2 (i:=k) aa (fun aTt aTu=>(g9 9 ?_))
  refine W.call (Mp:=((bA,ar 100 [iV c.fan,iV c.leaf,iV c.aT,iV c.bp,iV c.rest,aC j6])::kP)) (Mr:=(Y8++[])) (V8 (c:=c) (bY.mono aO cJ) _) rfl (((bJ ah).cons _).trans ah) ?_
  intro v63 G60 alq alm q61
  refine match q61 with|⟨⟨_,Ih,⟨_,_,_,_,_,_,_,_,aeC,azQ,azR,azS,azT,axt⟩⟩,Ja⟩=> ?_
  subst Ih
  subst aeC
  subst Ja
  refine W.perm (M':=((bA,ar 100 [iV c.fan,iV c.leaf,iV c.aT,iV c.bp,iV c.rest,aC j6])::(kP++(Y8++[])))) ((ah.cons _).trans ah).symm (g9 3 ?_)
  refine W.alloc cK (fun b68=>(g9 7 ?_))
  refine W.lit (e:=dm) (l:=[(BW a ((kp a.2)[k]'_) Nd.zero)]) (css:=[[iV _,iV _,lV _ _ _,lV _ _ _,sV _,.bool _,iV _,iV _,lV _ _ _,lV _ _ _]]) mI jQ cK rfl rfl rfl rfl rfl rfl ⟨(gp azQ azR azS azT axt),trivial⟩ (fun aTv G69 awx avq=>(W.app (e:=dm) mI jQ cK rfl HL rfl rfl ((wg.mono aO)) (avq) (ag (ag (bJ ah))) (by show(List.length _+1)*152≤_;rw [dt,bV];omega) (fun v70 at0 at1=>(W.perm (ag (ag ah)).symm (g9 7 ?_)))))
  refine W.sub (bB.cons _) (g9 2 ?_)
  exact⟨aO,(k+1,v70,at0),ct,⟨rfl,(by have h:=at1;rw [iA aa,bU];exact h),aa⟩,aa⟩
 refine g9 11 ?_
 refine WC.du wg (ag ah) (fun G73 alk aM2=>(WC.ret ?_))
 refine⟨.inr rfl,[_],⟨rfl,trivial⟩,_,bB.k9,?_⟩
 exact⟨az.cast aM2 (by rw [fI aa]),ax _ (cx _)⟩

theorem Bq(ms:Int)(mk:Int)(dU:af)(jI:af)(mo:Bool)(mv:af):
    Fc Tryz.prog 169 [.agg #[iV ms,iV mk,sV dU.b,sV jI.b,.bool mo,sV mv.b]] G [] (fun v _ _=>v=iV (aD.size (⟨ms,mk,dU,jI,mo,mv⟩:aD))):=by
 have h1:=dU.le
 have h2:=mv.le
 refine Fc.go [.tmp 2] Tryz.func169 Tryz.ntmps169 rfl (fun w0=>(g9 2 ?_))
 refine W.box (L:=[iV _,iV _,sV _,sV _,.bool _,sV _]) rfl rfl (fun b1=>(g9 11 ?_))
 refine WC.cd (fun h5 p5=> ?_) (fun h5 p5=> ?_)
 ·refine g9 8 ?_
  refine ax (Value.int .i64) ?_
  rw [aD.size,if_pos p5]
 refine g9 17 ?_
 refine ax (Value.int .i64) ?_
 rw [aD.size,if_neg p5]

variable {l:List aD}
theorem apN(aQ:az dy G dH l)(hs:∀m∈l,m.key.b.size≤16∧m.val.b.size≤16):
    Fc Tryz.prog 179 [dH] G [] (fun v _ _=>v=iV (bX l)):=by
 obtain⟨dz,dA,rfl⟩:=aQ.form
 have hl:=aQ.bq
 refine Fc.go [.tmp 2] Tryz.func179 Tryz.ntmps179 rfl (fun w0=>(g9 19 ?_))
 refine WC.loop (X:=Nat) (fun k=>[(3,iV (bX (l.take k))),(8,aK k),(6,lV dz l.length dA),(7,aK ((l).length))]) (fun k _ Ml=>Ml=[]∧k≤l.length∧0≤bX (l.take k)∧bX (l.take k)≤36*k) (fun k=>l.length-k) 0 ct ?_ ?_
 ·exact⟨rfl,aa,by simp [bX],by simp [bX]⟩
 rintro k gG2 G2 _ lJ ⟨rfl,hk,h0,h36⟩
 refine g9 6 ?_
 refine WC.cd (fun h9 p9=> ?_) (fun h9 p9=> ?_)
 ·have hz:=aaS (l:=l) (k:=k) aa
  have hz2:=Ik (hs l[k] (bN _))
  have he:aD.size ⟨l[k].aW,l[k].kind,l[k].key,l[k].hi,l[k].bQ,l[k].val⟩=l[k].size:=rfl
  refine g9 6 ?_
  refine(aQ.mono lJ).a2 (i:=k) aa (fun he3 hm4=>(g9 2 ?_))
  refine W.alloc gL (fun b8=>(g9 6 ?_))
  refine W.aH (Bq _ _ _ _ _ _) rfl (g9 8 ?_)
  refine W.sub (bB.cons _) (g9 2 ?_)
  exact⟨Le.rfl,k+1,⟨(iv aa),eqv,eqv,eqv,trivial⟩,⟨rfl,aa,aa,aa⟩,aa⟩
 refine g9 13 ?_
 refine ax (Value.int .i64) ?_
 rw [fI aa]

theorem apO(aQ:az dy G dH l)(ms:Int)(mk:Int)(dU:af)(jI:af)(mo:Bool)(mv:af)(n:Int)(hs:∀m∈l,m.key.b.size≤16∧m.val.b.size≤16)(hn:0≤n∧n≤9223372036854775807):
    Fc Tryz.prog 153 [dH,.agg #[iV ms,iV mk,sV dU.b,sV jI.b,.bool mo,sV mv.b],iV n] G [] (fun v _ _=>v=.bool (decide (aD.size (⟨ms,mk,dU,jI,mo,mv⟩:aD)≤n-bX l))):=by
 obtain⟨dz,dA,rfl⟩:=aQ.form
 have hl:=aQ.bq
 have hz0:=wG hs
 refine Fc.go [.tmp 6] Tryz.func153 Tryz.ntmps153 rfl (fun w0=>(g9 2 ?_))
 refine W.box (L:=[iV _,iV _,sV _,sV _,.bool _,sV _]) rfl rfl (fun b9=>(g9 6 ?_))
 refine W.aH (Bq _ _ _ _ _ _) rfl (g9 2 ?_)
 refine W.aH (apN aQ (by assumption)) rfl (g9 7 ?_)
 rfl

theorem azU(ms:Int)(mk:Int)(dU:af)(jI:af)(mo:Bool)(mv:af):
    Fc Tryz.prog 190 [.agg #[iV ms,iV mk,sV dU.b,sV jI.b,.bool mo,sV mv.b]] G [] (fun v _ _=>v=.bool (decide (mk=4))):=by
 refine Fc.go [.tmp 2] Tryz.func190 Tryz.ntmps190 rfl (fun w0=>(g9 2 ?_))
 refine W.box (L:=[iV _,iV _,sV _,sV _,.bool _,sV _]) rfl rfl (fun b10=>(g9 13 ?_))
 rfl

theorem azV(aQ:az dy G dH l):
    Fc Tryz.prog 189 [dH,.func (.func 190) #[] #[]] G [] (fun v _ _=>v=iV (kz xi l)):=by
 obtain⟨dz,dA,rfl⟩:=aQ.form
 have hl:=aQ.bq
 refine Fc.go [.tmp 4] Tryz.func189 Tryz.ntmps189 rfl (fun w0=>(g9 14 ?_))
 refine WC.loop (X:=Nat) (fun k=>[(8,aK k),(0,lV dz l.length dA),(1,.func (.func 190) #[] #[]),(7,aK ((l).length))]) (fun k _ Ml=>Ml=[]∧k≤l.length∧∀j (h:j<l.length),j<k→xi l[j]=false) (fun k=>l.length-k) 0 ct ?_ ?_
 ·exact⟨rfl,aa,fun j _ h=>by omega⟩
 rintro k az8 G11 _ Fi ⟨rfl,hk,hj⟩
 refine g9 6 ?_
 refine WC.cd (fun h9 p9=> ?_) (fun h9 p9=> ?_)
 ·refine g9 15 ?_
  refine(aQ.mono Fi).a2 (i:=k) aa (fun Ue aTw=>(g9 2 ?_))
  refine W.yv (fst:=[]) (caps:=[]) rfl (azU _ _ _ _ _ _) rfl (g9 2 ?_)
  refine WC.cond rfl (fun iQ=> ?_) (fun iQ=> ?_)
  ·refine g9 13 ?_
   refine ax (Value.int .i64) ?_
   exact(O8 (q:=xi) aa iQ hj).symm
  refine g9 8 ?_
  exact⟨Le.rfl,k+1,ct,⟨rfl,aa,fun j h wC=>by
      by_cases e2:j=k
      ·subst e2;exact iQ
      ·exact hj j h aa⟩,aa⟩
 refine g9 12 ?_
 refine ax (Value.int .i64) ?_
 exact(O9 (q:=xi) (fun j h=>hj j aa aa)).symm

theorem V5(aQ:az dy G dH l):
    Fc Tryz.prog 168 [dH] G [] (fun v G' M'=>M'=[]∧∃u0,v=u0∧az dy G' u0 (aM l)):=by
 obtain⟨dz,dA,rfl⟩:=aQ.form
 have hl:=aQ.bq
 have hix:=Pc xi l
 refine Fc.go [.tmp 2] Tryz.func168 Tryz.ntmps168 rfl (fun w0=>(g9 8 ?_))
 refine W.aH (azV aQ) rfl (g9 16 ?_)
 refine WC.cd (fun h8 p8=> ?_) (fun h8 p8=> ?_)
 ·refine g9 3 ?_
  refine W.cS (jZ aQ) rfl (fun ae7 ae8 TU B6 DX=>(g9 7 ?_))
  refine⟨rfl,_,rfl,?_⟩
  ·exact az.cast DX (agJ p8)
 refine g9 6 ?_
 refine WC.cd (fun jC uK=> ?_) (fun jC uK=> ?_)
 ·refine g9 9 ?_
  have aM3:=az.slice aQ (lo:=0) (hi:=1) aa aa
  refine W.ok (ok_slice (0) (1) gQ im aQ rfl rfl ⟨_,_,rfl,aa⟩ ⟨aa,aa⟩) (W.cS (jZ aM3) rfl (fun awD awE G25 H4 aeD=>(g9 5 ?_)))
  refine⟨rfl,_,rfl,?_⟩
  ·exact az.cast aeD (agK p8 uK)
 refine g9 7 ?_
 have aM4:=az.slice aQ (lo:=0) (hi:=(kz xi l).toNat) aa aa
 refine W.ok (ok_slice (0) ((kz xi l).toNat) gQ im aQ rfl rfl ⟨_,_,rfl,aa⟩ ⟨aa,aa⟩) (W.cS (jZ aM4) rfl (fun aM5 aM6 G33 lq awL=>(g9 5 ?_)))
 refine⟨rfl,_,rfl,?_⟩
 ·exact az.cast awL (ab1 p8 uK)

theorem alZ{v_P:Value}{P:List af}(h_P:az cy G v_P P)(aQ:az dy G dH l)(i:Int)(ni:∀m∈l,m.key.b.size<140737488355328)(hr:rising P=true)(hi:i64 i):
    Fc Tryz.prog 191 [v_P,dH,iV i] G [] (fun v G' M'=>M'=[]∧∃u0,v=u0∧az dy G' u0 (aJ P l i)):=by
 obtain⟨adI,adJ,rfl⟩:=h_P.form
 obtain⟨dz,dA,rfl⟩:=aQ.form
 have hl:=aQ.bq
 have hlb:l.length*72≤140737488355328:=aQ.bytes
 have j8:=Gv l
 have hkf:∀m∈aM l,m.key.b.size<140737488355328:=fun m h=>ni m (A4 h)
 refine Fc.go [.tmp 6] Tryz.func191 Tryz.ntmps191 rfl (fun w0=>(g9 14 ?_))
 refine W.aH (lH h_P _ hi) rfl (W.alloc fR (fun b40=>(g9 7 ?_)))
 refine W.cS (V5 aQ) rfl (fun H7 H8 G41 BR aaG=>(g9 5 ?_))
 refine WC.loop (X:=(Nat)×Value×MH) (fun k=>[(19,aK k.1),(8,aC b40),(0,lV adI P.length adJ),(2,iV i),(17,lV H7 (aM (l)).length H8),(18,aK ((aM (l)).length)),(7,k.2.1)]) (fun k G Ml=>Ml=((b40,ar 73 [sV (aA P i).lo.b,sV (aA P i).hi.b,.bool (aA P i).bQ])::(k.2.2++[]))∧aE dy 81 G k.2.1 (((aM l).take k.1).filterMap (uU P i)) k.2.2∧k.1≤(aM l).length) (fun k=>(aM l).length-k.1) (0,lV none 0 0,([]:MH)) ct ?_ ?_
 ·exact⟨rfl,(by exact aE.nil),aa⟩
 rintro⟨k,v_7,Jo⟩ aM7 G48 _ CM ⟨rfl,pA,hk⟩
 try dsimp only at pA hk
 have hfm:=ajN (uU P i) (aM l) k
 refine WC.fr (f:=gk aM7 [(19,aK k),(8,aC b40),(0,lV adI P.length adJ),(2,iV i),(17,lV H7 (aM (l)).length H8),(18,aK ((aM (l)).length)),(7,v_7)]) rfl (g9 6 ?_)
 refine WC.cd (fun j1 nh=> ?_) (fun j1 nh=> ?_)
 ·refine g9 6 ?_
  refine(aaG.mono CM).a2 (i:=k) aa (fun aTx aTy=>(g9 2 ?_))
  refine W.alloc gL (fun b54=>(g9 9 ?_))
  refine W.aH (mL (h_P.mono aO) _ hr) rfl (g9 4 ?_)
  refine WC.cn (fun ya Tj=> ?_) (fun ya Tj=> ?_)
  ·refine g9 7 ?_
   refine W.sub (bB.cons _) (g9 2 ?_)
   exact⟨Le.rfl,(k+1,v_7,Jo),ct,⟨rfl,(by have h:=pA;rw [ar7 aa (fun hh=>absurd hh.1 Tj)];exact h),aa⟩,aa⟩
  refine g9 6 ?_
  refine W.aH (Kh _ _ _ _ _ _ _ _ _ (hkf _ (bN (by omega:k<(aM l).length)))) rfl (g9 3 ?_)
  refine W.alloc gL (fun b55=>(g9 9 ?_))
  refine WC.cond rfl (fun aiQ=> ?_) (fun aiQ=> ?_)
  ·refine g9 3 ?_
   refine W.lit (e:=dy) (l:=[(aD.clip (aM l)[k] (aA P i)).1]) (css:=[[iV _,iV _,sV _,sV _,.bool _,sV _]]) gQ im gL rfl rfl rfl rfl rfl rfl ⟨⟨rfl,PH (by assumption)⟩,trivial⟩ (fun aI3 G56 Jr auo=>(W.app (e:=dy) gQ im gL rfl BL rfl rfl ((pA.mono Jr)) (auo) (ag (ag (ag ah))) (by show(List.length _+1)*72≤_;omega) (fun v57 adw ak3=>(W.perm (ag (ag (ag ah))).symm (g9 7 ?_)))))
   refine W.sub ((bB.cons _).cons _) (g9 2 ?_)
   exact⟨Jr,(k+1,v57,adw),ct,⟨rfl,(by have h:=ak3;rw [aCY aa Tj aiQ];exact h),aa⟩,aa⟩
  refine g9 6 ?_
  refine W.sub ((bB.cons _).cons _) (g9 2 ?_)
  exact⟨Le.rfl,(k+1,v_7,Jo),ct,⟨rfl,(by have h:=pA;rw [ar7 aa (fun hh=>absurd (aiQ.symm.trans hh.2) (by simp))];exact h),aa⟩,aa⟩
 refine g9 11 ?_
 refine WC.du pA (ag ah) (fun G60 alm axh=>(g9 2 ?_))
 refine⟨rfl,_,rfl,?_⟩
 ·have h:=axh;rw [fI aa]at h;exact h

theorem wN{a:List aD}(cJ:az dy G uL a):
    Fc Tryz.prog 146 [uL] G [] (fun v G' M'=>aE dy 81 G' v (a) M'):=by
 obtain⟨CA,CB,rfl⟩:=cJ.form
 have ha:=cJ.bytes
 refine Fc.go [.tmp 2] Tryz.func146 Tryz.ntmps146 rfl (fun w0=>(g9 9 ?_))
 refine W.ok (oB gQ rfl rfl) (g9 2 ?_)
 refine WC.cond rfl (fun h4=> ?_) (fun h4=> ?_)
 ·have hn:=az.isNone cJ h4
  subst hn
  refine g9 8 ?_
  exact aE.nil
 refine g9 4 ?_
 refine W.HR (e:=dy) gQ im gL rfl (fun v61 alq aw5=>(W.mv (W.app (e:=dy) gQ im gL rfl BL rfl rfl (aw5) (cJ) ah (by simpa using ha) (fun v64 atY adf=>(g9 4 ?_)))))
 refine⟨.inr rfl,[_],⟨rfl,trivial⟩,_,aI _ _,?_⟩
 have h:=adf
 rw [iU]at h
 exact h

theorem S6(aQ:az dy G dH l)(ms:Int)(mk:Int)(dU:af)(jI:af)(mo:Bool)(mv:af)(n:Int)(hs:∀m∈l,m.key.b.size≤16∧m.val.b.size≤16)(hn:0≤n∧n≤9223372036854775807)(hmi:i64 ms∧i64 mk)(kZ:l.length≤1000000):
    Fc Tryz.prog 120 [dH,.agg #[iV ms,iV mk,sV dU.b,sV jI.b,.bool mo,sV mv.b],iV n] G [] (fun v G' M'=>M'=[]∧∃r:List aD×Bool,r=B1 n l (⟨ms,mk,dU,jI,mo,mv⟩:aD)∧∃u0,v=.tuple #[u0,.bool (r.2)]∧az dy G' u0 (r.1)):=by
 obtain⟨dz,dA,rfl⟩:=aQ.form
 have hl:=aQ.bq
 have hlb:l.length*72≤140737488355328:=aQ.bytes
 refine Fc.go [.tmp 6,.tmp 7] Tryz.func120 Tryz.ntmps120 rfl (fun w0=>(g9 2 ?_))
 refine W.box (L:=[iV _,iV _,sV _,sV _,.bool _,sV _]) rfl rfl (fun b67=>(g9 10 ?_))
 refine W.aH (apO aQ _ _ _ _ _ _ _ (by assumption) aa) rfl (g9 2 ?_)
 refine W.sp 13 rfl (fun jC=> ?_) (fun jC=> ?_)
 ·have Ji:¬(aD.size (⟨ms,mk,dU,jI,mo,mv⟩:aD)≤n-bX l):=by simpa using jC
  refine g9 28 ?_
  refine⟨rfl,_,(ajO (ar8 Ji)).symm,_,rfl,?_⟩
  ·exact az.nil
 have Ji:aD.size (⟨ms,mk,dU,jI,mo,mv⟩:aD)≤n-bX l:=by simpa using jC
 refine g9 8 ?_
 refine W.sd 17 (fun iQ mz=> ?_) (fun iQ mz=> ?_)
 ·refine g9 9 ?_
  refine aQ.a2 (i:=l.length-1) aa (fun aK3 aTz=>(W.ok (bd (i:=l.length-1) gQ im aQ rfl rfl ⟨aa,aa⟩) (g9 15 ?_)))
  refine WC.cd (fun Cx w8=> ?_) (fun Cx w8=> ?_)
  ·refine g9 9 ?_
   refine⟨rfl,_,(ajO (ar9 aa (by dsimp only;omega))).symm,_,rfl,?_⟩
   ·exact az.nil
  refine g9 3 ?_
  refine WC.dw bB.k9 (d9 [0,2] ?_)
  refine WD.any [1,3] (by kernel_rfl) rfl ⟨WD.ap ?_,WD.ap ?_,trivial⟩
  ·refine W.call (Mp:=[]) (wN aQ) rfl ah ?_
   rintro v74 G73 aBq alk aCa
   refine W.perm (ag ah).symm ?_
   have q80:=aCa.form
   refine match q80 with|⟨aTA,aTB,avY⟩=> ?_
   subst avY
   refine W.nn (WD.a1 3 rfl (W.re (e:=dy) (l:=[(⟨ms,mk,dU,jI,mo,mv⟩:aD)]) (css:=[[iV _,iV _,sV _,sV _,.bool _,sV _]]) gQ im gL rfl rfl rfl rfl rfl rfl ⟨⟨rfl,hmi⟩,trivial⟩ (fun v81 aaA aCb=>(W.perm (ag ah).symm ?_))))
   have q87:=aCb.form
   refine match q87 with|⟨aTC,aTD,aM8⟩=> ?_
   subst aM8
   refine W.nn (WD.a1 4 rfl (W.du aCb (ag ah) (fun G88 aeY axj=>(W.app (e:=dy) gQ im gL rfl BL rfl rfl ((aCa.mono aeY)) (axj) (ag ah) (by show(List.length _+List.length _)*72≤_;simp;omega) (fun v89 aw8 alD=>(W.perm (ag ah).symm ?_))))))
   have q95:=alD.form
   refine match q95 with|⟨aTE,aTF,axe⟩=> ?_
   subst axe
   refine W.nn (d9 [5,6] ?_)
   refine g9 2 ?_
   refine WC.du alD (ag ah) (fun G96 aw9 aM9=>(g9 2 ?_))
   refine⟨rfl,_,(EH (wW.2 ⟨Ji,fun h=>by dsimp only;omega⟩)).symm,_,rfl,?_⟩
   ·exact aM9
  refine W.re (e:=dy) (l:=[(⟨ms,mk,dU,jI,mo,mv⟩:aD)]) (css:=[[iV _,iV _,sV _,sV _,.bool _,sV _]]) gQ im gL rfl rfl rfl rfl rfl rfl ⟨⟨rfl,hmi⟩,trivial⟩ (fun v97 acO RE=>(W.perm (ag ah).symm ?_))
  have acP:=RE.form
  refine match acP with|⟨ag7,ag8,ag9⟩=> ?_
  subst ag9
  refine W.nn (WD.a1 1 rfl (W.call (Mp:=[]) (wN aQ) rfl ah ?_))
  rintro aBu aBh aue R6 GP
  refine W.perm (ag ah).symm ?_
  have adh:=GP.form
  refine match adh with|⟨aDo,aDp,Bp⟩=> ?_
  subst Bp
  refine W.nn (WD.a1 4 rfl (W.du (RE.mono R6) (ag (bJ ah)) (fun aTG aFt aFu=>(W.app (e:=dy) gQ im gL rfl BL rfl rfl ((GP.mono aFt)) (aFu) (ag ah) (by show(List.length _+List.length _)*72≤_;simp;omega) (fun aTH axf Z9=>(W.perm (ag ah).symm ?_))))))
  have as3:=Z9.form
  refine match as3 with|⟨aPz,aPA,ahb⟩=> ?_
  subst ahb
  refine W.nn (d9 [5,6] ?_)
  refine g9 2 ?_
  refine WC.du Z9 (ag ah) (fun aTI aPB aFv=>(g9 2 ?_))
  refine⟨rfl,_,(EH (wW.2 ⟨Ji,fun h=>by dsimp only;omega⟩)).symm,_,rfl,?_⟩
  ·exact aFv
 refine g9 19 ?_
 refine WC.dw bB.k9 (d9 [0,2] ?_)
 refine WD.any [1,3] (by kernel_rfl) rfl ⟨WD.ap ?_,WD.ap ?_,trivial⟩
 ·refine W.call (Mp:=[]) (wN aQ) rfl ah ?_
  rintro aTJ aTK aPC aPD axu
  refine W.perm (ag ah).symm ?_
  have aNa:=axu.form
  refine match aNa with|⟨aPE,aPF,aFw⟩=> ?_
  subst aFw
  refine W.nn (WD.a1 3 rfl (W.re (e:=dy) (l:=[(⟨ms,mk,dU,jI,mo,mv⟩:aD)]) (css:=[[iV _,iV _,sV _,sV _,.bool _,sV _]]) gQ im gL rfl rfl rfl rfl rfl rfl ⟨⟨rfl,hmi⟩,trivial⟩ (fun aTL aPG axv=>(W.perm (ag ah).symm ?_))))
  have aNb:=axv.form
  refine match aNb with|⟨aPH,aPI,aFx⟩=> ?_
  subst aFx
  refine W.nn (WD.a1 4 rfl (W.du axv (ag ah) (fun aMW axk aFy=>(W.app (e:=dy) gQ im gL rfl BL rfl rfl ((axu.mono axk)) (aFy) (ag ah) (by show(List.length _+List.length _)*72≤_;simp;omega) (fun aTM aPJ axw=>(W.perm (ag ah).symm ?_))))))
  have aNc:=axw.form
  refine match aNc with|⟨aPK,aPL,aFz⟩=> ?_
  subst aFz
  refine W.nn (d9 [5,6] ?_)
  refine g9 2 ?_
  refine WC.du axw (ag ah) (fun aTN aPM aiN=>(g9 2 ?_))
  refine⟨rfl,_,(EH (wW.2 ⟨Ji,fun h=>by omega⟩)).symm,_,rfl,?_⟩
  ·exact aiN
 refine W.re (e:=dy) (l:=[(⟨ms,mk,dU,jI,mo,mv⟩:aD)]) (css:=[[iV _,iV _,sV _,sV _,.bool _,sV _]]) gQ im gL rfl rfl rfl rfl rfl rfl ⟨⟨rfl,hmi⟩,trivial⟩ (fun aTO aPN axx=>(W.perm (ag ah).symm ?_))
 have aNd:=axx.form
 refine match aNd with|⟨aPO,aPP,aFA⟩=> ?_
 subst aFA
 refine W.nn (WD.a1 1 rfl (W.call (Mp:=[]) (wN aQ) rfl ah ?_))
 rintro aHO aTP RF aFB Lw
 refine W.perm (ag ah).symm ?_
 have ati:=Lw.form
 refine match ati with|⟨RG,RH,RI⟩=> ?_
 subst RI
 refine W.nn (WD.a1 4 rfl (W.du (axx.mono aFB) (ag (bJ ah)) (fun aKC awr aFC=>(W.app (e:=dy) gQ im gL rfl BL rfl rfl ((Lw.mono awr)) (aFC) (ag ah) (by show(List.length _+List.length _)*72≤_;simp;omega) (fun aTQ aEg axy=>(W.perm (ag ah).symm ?_))))))
 have aNe:=axy.form
 refine match aNe with|⟨aPQ,aPR,aFD⟩=> ?_
 subst aFD
 refine W.nn (d9 [5,6] ?_)
 refine g9 2 ?_
 refine WC.du axy (ag ah) (fun aTR aPS aFE=>(g9 2 ?_))
 refine⟨rfl,_,(EH (wW.2 ⟨Ji,fun h=>by omega⟩)).symm,_,rfl,?_⟩
 ·exact aFE

theorem aiR{l:List aG}(aQ:az aU G dH l){yw:Value}{ms:List aD}(rZ:az dy G yw ms)(n:Int)(hP:bc l)(hn:l.length+ms.length≤1000000)(hR:∀m∈ms,m.R):
    Fc Tryz.prog 192 [dH,yw,iV n] G [] (fun v G' M'=>M'=[]∧∃r:List aG×Nat,r=ed n l ms∧∃u0,v=.tuple #[u0,aK r.2]∧az aU G' u0 (r.1)):=by
 obtain⟨dz,dA,rfl⟩:=aQ.form
 obtain⟨xc,xd,rfl⟩:=rZ.form
 have hl:=aQ.bq
 have hlm:=rZ.bq
 refine Fc.go [.tmp 6,.tmp 7] Tryz.func192 Tryz.ntmps192 rfl (fun w0=>(g9 9 ?_))
 refine W.cS (ie aQ) rfl (fun Yy Yz G1 pX Rw=>(g9 12 ?_))
 refine WC.loop (X:=(Nat)×Value) (fun k=>[(17,aK k.1),(1,lV xc ms.length xd),(2,iV n),(15,lV xc ms.length xd),(16,aK ((ms).length)),(8,k.2)]) (fun k G Ml=>Ml=[]∧az aU G k.2 (cq l (ms.take k.1))∧k.1≤ms.length∧kI n l ms k.1) (fun k=>ms.length-k.1) (0,lV Yy ((l)).length Yz) ct ?_ ?_
 ·exact⟨rfl,(by simpa [cq]using Rw),aa,kI.zero n l ms⟩
 rintro⟨k,v_8⟩ gG8 G8 _ H9 ⟨rfl,al0,hk,hd⟩
 try dsimp only at al0 hk hd
 have hm:∀m∈ms,m.fit:=fun m h=>It (Mi (hR m h))
 have hPk:=bc.aqE (ms:=ms.take k) hP (fun m h=>hm m (gu h))
 have Xm:=Pp (ms:=ms.take k) hP (fun m h=>hm m (gu h))
 have o9:(ms.take k).length≤k:=by simp;omega
 refine WC.fr (f:=gk gG8 [(17,aK k),(1,lV xc ms.length xd),(2,iV n),(15,lV xc ms.length xd),(16,aK ((ms).length)),(8,v_8)]) rfl (g9 6 ?_)
 refine WC.cd (fun Y1 Y2=> ?_) (fun Y1 Y2=> ?_)
 ·refine g9 7 ?_
  refine(rZ.mono (pX.trans H9)).a2 (i:=k) aa (fun he9 aTS=>(g9 2 ?_))
  refine W.alloc gL (fun b14=>(g9 9 ?_))
  refine W.call (Mp:=[]) (Bs al0 ms[k].aW ms[k].kind ms[k].key ms[k].hi ms[k].bQ ms[k].val _ hPk aa (hm _ (bN _))) rfl ah ?_
  intro _ G15 _ B9 q17
  refine match q17 with|⟨CJ,_,Ao,_,z9,rq⟩=> ?_
  subst CJ
  subst Ao
  subst z9
  have Kp:=rq.form
  refine match Kp with|⟨adU,adV,uN⟩=> ?_
  subst uN
  refine g9 14 ?_
  refine WC.cond rfl (fun vU=> ?_) (fun vU=> ?_)
  ·have vK:eD (cq l (ms.take k)) ms[k] n=false:=by
     cases h:eD (cq l (ms.take k)) ms[k] n
     ·rfl
     exfalso;rw [sx h]at vU;simp at vU
   refine g9 16 ?_
   refine⟨rfl,_,(hd.stop aa vK).symm,_,rfl,?_⟩
   ·exact(al0.mono B9)
  have vK:eD (cq l (ms.take k)) ms[k] n=true:=by
    by_cases h:eD (cq l (ms.take k)) ms[k] n=true
    ·exact h
    exfalso;rw [A0 (by simpa using h)]at vU;simp at vU
  refine g9 11 ?_
  refine W.sub (bB.cons _) (g9 2 ?_)
  exact⟨B9,(k+1,lV adU ((mZ (cq l (ms.take k)) ms[k] n).1).length adV),ct,⟨rfl,(by exact az.cast rq (by rw [sx vK,CG aa])),aa,hd.succ aa vK⟩,aa⟩
 refine g9 16 ?_
 refine⟨rfl,_,((hd.all aa).trans (by rw [show k=ms.length from by omega])).symm,_,rfl,?_⟩
 ·have h:=al0;rw [fI aa]at h;exact h

variable {Ak:List Value} {Al:List Value} {k:Nd} {p:Nd}
theorem GV(jr:cc G Al p)(SO:cc G Ak k)(i:Int):
    Fc Tryz.prog 173 [.agg (List.toArray Al),.agg (List.toArray Ak),iV i] G [] (fun v _ _=>v=.bool (decide (ku p k i))):=by
 obtain⟨_,_,_,_,_,_,_,_,rfl,mr,oi,mw,oY,il⟩:=jr
 obtain⟨_,_,_,_,_,_,_,_,rfl,oj,om,oq,ot,iO⟩:=SO
 have hlk:=oi.bq
 obtain⟨aJF,aJG⟩:=il.2.1
 refine Fc.go [.tmp 6] Tryz.func173 Tryz.ntmps173 rfl (fun w0=>(g9 2 ?_))
 refine W.box (L:=[iV _,iV _,lV _ _ _,lV _ _ _,sV _,.bool _,iV _,iV _,lV _ _ _,lV _ _ _]) rfl rfl (fun b1=>(W.box (L:=[iV _,iV _,lV _ _ _,lV _ _ _,sV _,.bool _,iV _,iV _,lV _ _ _,lV _ _ _]) rfl rfl (fun b2=>(g9 9 ?_))))
 refine W.sd 10 (fun h9 p9=> ?_) (fun h9 p9=> ?_)
 ·refine g9 14 ?_
  refine W.sd 18 (fun iQ mz=> ?_) (fun iQ mz=> ?_)
  ·refine g9 6 ?_
   refine W.sd 22 (fun j1 nh=> ?_) (fun j1 nh=> ?_)
   ·refine g9 16 ?_
    refine ax Value.bool ?_
    exact rL.2 ⟨fun h=>⟨aa,mz,aa,h⟩,fun h=>h.2.2.2⟩
   refine g9 11 ?_
   refine ax Value.bool ?_
   exact(gr fun h=>by unfold ku at h;omega).symm
  refine g9 15 ?_
  refine ax Value.bool ?_
  exact(gr fun h=>by unfold ku at h;omega).symm
 refine g9 23 ?_
 refine ax Value.bool ?_
 exact(gr fun h=>by unfold ku at h;omega).symm

theorem Wf(cf:Int)(cl:Int)(cb:Int)(cs:Int)(cr:Int)(jr:cc G Al p)(SO:cc G Ak k)(i:Int)(hb:0≤cb∧cb≤9223372036854775807)(hr:rising p.ab=true)(uj:∀q∈p.ab,q.b.size≤16)(pM:∀m∈p.aj,m.R)(ox:∀m∈k.aj,m.key.b.size≤16∧m.val.b.size≤16)(uk:bc k.rows)(hi:i64 i)(kr:k.aj.length+p.aj.length≤100000∧k.rows.length≤100000):
    Fc Tryz.prog 174 [.agg #[iV cf,iV cl,iV cb,iV cs,iV cr],.agg (List.toArray Al),.agg (List.toArray Ak),iV i] G [] (fun v G' M'=>M'=[]∧∃r:Nd×Nat,r=bF cl cb k (aJ p.ab p.aj i)∧∃u0 u1,v=.tuple #[.agg (List.toArray u0),u1]∧cc G' u0 (r.1)∧az dy G' u1 ((aJ p.ab p.aj i).take r.2)):=by
 obtain⟨Ca,Cb,Cc,Ce,yO,yP,Cf,Cg,rfl,mr,oi,mw,oY,il⟩:=jr
 obtain⟨_,_,_,_,_,_,_,_,rfl,oj,om,oq,ot,iO⟩:=SO
 have hfR:∀m∈(aJ p.ab p.aj i),m.R:=QP uj pM
 have j8:=ab4 p.ab p.aj i
 have hpk:∀m∈p.aj,m.key.b.size<140737488355328:=fun m h=>by have:=(fg (pM m h)).1;omega
 have LN:=KJ cl (aJ p.ab p.aj i) k.rows
 refine Fc.go [.cell 8 98,.tmp 9] Tryz.func174 Tryz.ntmps174 rfl (fun w0=>(g9 2 ?_))
 refine W.box (L:=[iV _,iV _,iV _,iV _,iV _]) rfl rfl (fun b3=>(W.box (L:=[iV _,iV _,lV _ _ _,lV _ _ _,sV _,.bool _,iV _,iV _,lV _ _ _,lV _ _ _]) rfl rfl (fun b4=>(W.box (L:=[iV _,iV _,lV _ _ _,lV _ _ _,sV _,.bool _,iV _,iV _,lV _ _ _,lV _ _ _]) rfl rfl (fun b5=>(W.alloc cK (fun b6=>(g9 10 ?_))))))))
 refine W.cS (alZ mr mw i hpk hr hi) rfl (fun JY JZ G7 TG I7=>(g9 6 ?_))
 refine W.cN (iP (a:=k) (gE TG oj om oq ot iO)) rfl (fun axz axA axB axC axD axE axF axG G14 vY SL SM JL SN We=>(g9 11 ?_))
 refine WC.cd (fun h26 p26=> ?_) (fun h26 p26=> ?_)
 ·refine g9 12 ?_
  refine W.call (Mp:=[]) (aiR SN (I7.mono vY) cl uk aa hfR) rfl ah ?_
  intro _ G20 _ zz Kp
  refine match Kp with|⟨Af,_,xe,_,vg,BP⟩=> ?_
  subst Af
  subst xe
  subst vg
  have DK:=BP.form
  refine match DK with|⟨aqz,aqA,xW⟩=> ?_
  subst xW
  refine g9 9 ?_
  refine WC.dw (((bB.k9.k9).k9).cons _) (d9 [0,1,2] ?_)
  have aNf:=az.slice (I7.mono (vY.trans zz)) (lo:=0) (hi:=(ed cl k.rows (aJ p.ab p.aj i)).2) aa aa
  refine WD.tk 3 rfl (ok_slice (0) ((ed cl k.rows (aJ p.ab p.aj i)).2) gQ im (I7.mono aO) rfl rfl ⟨_,_,rfl,aa⟩ ⟨aa,aa⟩) (d9 [4,5] ?_)
  refine g9 5 ?_
  refine⟨rfl,_,(QN p26).symm,_,_,rfl,?_,?_⟩
  ·exact⟨_,_,_,_,_,_,_,_,rfl,(SL.mono zz),(SM.mono zz),(JL.mono zz),BP,iO⟩
  exact az.cast aNf (by rw [yk])
 refine g9 11 ?_
 refine WC.loop (X:=(Nat)×List Value) (fun j=>[(43,aK j.1),(4,aC b3),(6,aC b5),(8,aC b6),(10,lV JY ((aJ p.ab p.aj i)).length JZ),(41,lV JY ((aJ p.ab p.aj i)).length JZ),(42,aK (((aJ p.ab p.aj i)).length))]) (fun j G Ml=>Ml=[(b6,ar 98 xf),(b5,.cells (List.toArray j.2) 98 (0,0)),(b4,ar 98 (j7 p Ca Cb Cc Ce yO yP Cf Cg)),(b3,ar 23 [iV cf,iV cl,iV cb,iV cs,iV cr])]∧cc G j.2 ({ k with aj:=(k.aj++(aJ p.ab p.aj i).take j.1) })∧j.1≤(aJ p.ab p.aj i).length∧m8 cb k.aj (aJ p.ab p.aj i) j.1) (fun j=>(aJ p.ab p.aj i).length-j.1) (0,((j7 (k) axz axA axB axC axD axE axF axG):List Value)) ct ?_ ?_
 ·exact⟨rfl,(by dsimp only;rw [Ay,cx];exact(gp SL SM JL SN We)),aa,m8.zero _ _ _⟩
 rintro⟨j,C_6⟩ aNg Jl _ tH ⟨rfl,lE,hj,hd⟩
 try dsimp only at lE hj hd
 have hsj:∀m∈(k.aj++(aJ p.ab p.aj i).take j),m.key.b.size≤16∧m.val.b.size≤16:=fun m h=>by
   rcases cP.1 h with h|h
   ·exact ox m h
   exact fg (hfR m (gu h))
 have hlj:(k.aj++(aJ p.ab p.aj i).take j).length≤100000:=by rw [bP,bV];omega
 refine match lE with|⟨axH,axI,axJ,axK,_,_,axL,axM,Ab,Tp,Tq,Tr,Tu,apP⟩=> ?_
 subst Ab
 refine WC.fr (f:=gk aNg [(43,aK j),(4,aC b3),(6,aC b5),(8,aC b6),(10,lV JY ((aJ p.ab p.aj i)).length JZ),(41,lV JY ((aJ p.ab p.aj i)).length JZ),(42,aK (((aJ p.ab p.aj i)).length))]) rfl (g9 6 ?_)
 refine WC.cd (fun h44 TY=> ?_) (fun h44 TY=> ?_)
 ·refine g9 7 ?_
  refine(I7.mono (vY.trans tH)).a2 (i:=j) aa (fun aJj aTT=>(g9 2 ?_))
  refine W.alloc gL (fun b37=>(g9 11 ?_))
  refine W.call (Mp:=[]) (S6 Tr ((aJ p.ab p.aj i)[j]'aa).aW ((aJ p.ab p.aj i)[j]'aa).kind ((aJ p.ab p.aj i)[j]'aa).key ((aJ p.ab p.aj i)[j]'aa).hi ((aJ p.ab p.aj i)[j]'aa).bQ ((aJ p.ab p.aj i)[j]'aa).val cb hsj hb (by assumption) (by show List.length (k.aj++(aJ p.ab p.aj i).take j)≤_;omega)) rfl ah ?_
  intro _ G38 _ oD q40
  refine match q40 with|⟨Py,_,aek,_,Ah,VN⟩=> ?_
  subst Py
  subst aek
  subst Ah
  have q45:=VN.form
  refine match q45 with|⟨afa,afb,Dw⟩=> ?_
  subst Dw
  refine g9 14 ?_
  refine WC.cond rfl (fun h58=> ?_) (fun h58=> ?_)
  ·have Ln:fX cb (k.aj++(aJ p.ab p.aj i).take j) ((aJ p.ab p.aj i)[j]'aa)=false:=by rw [←Q0];simpa using h58
   have kq:=hd.stop aa Ln
   refine WC.seq (WC.dw ((((bB.k9.k9).k9).cons _).k9) (d9 [0,1,2] ?_))
   have aNh:=az.slice (I7.mono ((vY.trans tH).trans oD)) (lo:=0) (hi:=j) aa aa
   refine WD.tk 3 rfl (ok_slice (0) (j) gQ im (I7.mono aO) rfl rfl ⟨_,_,rfl,aa⟩ ⟨aa,aa⟩) (d9 [4,5] ?_)
   refine g9 10 ?_
   refine⟨rfl,_,(QO p26 kq).symm,_,_,rfl,?_,?_⟩
   ·exact(gE oD Tp Tq Tr Tu iO)
   exact az.cast aNh (by rw [yk])
  have Ln:fX cb (k.aj++(aJ p.ab p.aj i).take j) ((aJ p.ab p.aj i)[j]'aa)=true:=by rw [←Q0];simpa using h58
  have mA:k.aj++(aJ p.ab p.aj i).take (j+1)=(B1 cb (k.aj++(aJ p.ab p.aj i).take j) ((aJ p.ab p.aj i)[j]'aa)).1:=by rw [EH Ln,iA aa,ci]
  refine g9 12 ?_
  refine W.sub (bB.cons _) (g9 2 ?_)
  exact⟨oD,(j+1,[iV ({ k with aj:=(k.aj++(aJ p.ab p.aj i).take j) }).slot,iV ({ k with aj:=(k.aj++(aJ p.ab p.aj i).take j) }).level,lV axH (({ k with aj:=(k.aj++(aJ p.ab p.aj i).take j) }).ab).length axI,lV axJ (({ k with aj:=(k.aj++(aJ p.ab p.aj i).take j) }).kids).length axK,sV ({ k with aj:=(k.aj++(aJ p.ab p.aj i).take j) }).high.b,.bool ({ k with aj:=(k.aj++(aJ p.ab p.aj i).take j) }).fp,iV ({ k with aj:=(k.aj++(aJ p.ab p.aj i).take j) }).right,iV ({ k with aj:=(k.aj++(aJ p.ab p.aj i).take j) }).seen,lV afa ((B1 cb (k.aj++(aJ p.ab p.aj i).take j) ((aJ p.ab p.aj i)[j]'aa)).1).length afb,lV axL (({ k with aj:=(k.aj++(aJ p.ab p.aj i).take j) }).rows).length axM]),ct,⟨rfl,(by dsimp only;rw [mA];exact⟨_,_,_,_,_,_,_,_,rfl,(Tp.mono oD),(Tq.mono oD),VN,(Tu.mono oD),apP⟩),aa,hd.succ aa Ln⟩,aa⟩
 refine g9 15 ?_
 refine⟨rfl,_,(QO p26 (hd.all aa)).symm,_,_,rfl,?_,?_⟩
 ·exact(gp Tp Tq Tr Tu iO)
 exact az.cast (I7.mono aO) (fI aa).symm

theorem x8(cf:Int)(cl:Int)(cb:Int)(cs:Int)(cr:Int)(jr:cc G Al p)(SO:cc G Ak k)(i:Int)(hb:0≤cb∧cb≤9223372036854775807)(hr:rising p.ab=true)(uj:∀q∈p.ab,q.b.size≤16)(pM:∀m∈p.aj,m.R)(ox:∀m∈k.aj,m.key.b.size≤16∧m.val.b.size≤16)(uk:bc k.rows)(hi:i64 i)(kr:k.aj.length+p.aj.length≤100000∧k.rows.length≤100000):
    Fc Tryz.prog 170 [.agg #[iV cf,iV cl,iV cb,iV cs,iV cr],.agg (List.toArray Al),.agg (List.toArray Ak),iV i] G [] (fun v _ _=>v=aK (c9 cl cb p k i)):=by
 obtain⟨_,_,_,_,_,_,_,_,rfl,mr,oi,mw,oY,il⟩:=jr
 obtain⟨_,_,_,_,_,_,_,_,rfl,oj,om,oq,ot,iO⟩:=SO
 refine Fc.go [.tmp 8] Tryz.func170 Tryz.ntmps170 rfl (fun w0=>(g9 2 ?_))
 refine W.box (L:=[iV _,iV _,iV _,iV _,iV _]) rfl rfl (fun b47=>(W.box (L:=[iV _,iV _,lV _ _ _,lV _ _ _,sV _,.bool _,iV _,iV _,lV _ _ _,lV _ _ _]) rfl rfl (fun b48=>(W.box (L:=[iV _,iV _,lV _ _ _,lV _ _ _,sV _,.bool _,iV _,iV _,lV _ _ _,lV _ _ _]) rfl rfl (fun b49=>(g9 9 ?_))))))
 refine W.aH (GV (p:=p) (k:=k) (gp mr oi mw oY il) (gp oj om oq ot iO) i) rfl (g9 3 ?_)
 refine WC.cond rfl (fun tQ=> ?_) (fun tQ=> ?_)
 ·refine g9 8 ?_
  refine ax (Value.int .i64) (ax Nat.cast ?_)
  exact(ab3 (by simpa using tQ)).symm
 refine g9 8 ?_
 refine W.call (Mp:=[]) (Wf cf cl cb cs cr (p:=p) (k:=k) (gp mr oi mw oY il) (gp oj om oq ot iO) i hb hr uj pM ox uk hi kr) rfl ah ?_
 intro _ G50 _ VO q53
 refine match q53 with|⟨Jq,_,PF,_,_,Sy,DS,Wa⟩=> ?_
 subst Jq
 subst PF
 subst Sy
 refine match DS with|⟨_,_,_,_,_,_,_,_,adY,aee,aef,aeg,aeh,Wk⟩=> ?_
 subst adY
 have q59:=Wa.form
 refine match q59 with|⟨au3,au4,PA⟩=> ?_
 subst PA
 refine g9 3 ?_
 refine W.alloc cK (fun b60=>(g9 13 ?_))
 refine ax (Value.int .i64) (ax Nat.cast ?_)
 rw [xA (by simpa using tQ),Gw]

theorem Na(ms:Int)(mk:Int)(dU:af)(jI:af)(mo:Bool)(mv:af)(df:af)(dh:af)(so:Bool)(hk:dU.b.size<140737488355328):
    Fc Tryz.prog 175 [.agg #[iV ms,iV mk,sV dU.b,sV jI.b,.bool mo,sV mv.b],.agg #[sV df.b,sV dh.b,.bool so]] G [] (fun v _ _=>v=.tuple #[.agg (List.toArray ((bw (⟨ms,mk,dU,jI,mo,mv⟩:aD) ⟨df,dh,so⟩).1.cells)),.bool ((bw (⟨ms,mk,dU,jI,mo,mv⟩:aD) ⟨df,dh,so⟩).2)]):=by
 refine Fc.go [.cell 4 81,.tmp 5] Tryz.func175 Tryz.ntmps175 rfl (fun w0=>(g9 2 ?_))
 refine W.box (L:=[iV _,iV _,sV _,sV _,.bool _,sV _]) rfl rfl (fun b61=>(W.box (L:=[sV _,sV _,.bool _]) rfl rfl (fun b62=>(W.alloc gL (fun b63=>(g9 10 ?_))))))
 refine WC.cond rfl (fun w7=> ?_) (fun w7=> ?_)
 ·refine g9 2 ?_
  refine W.ok (aY (L:=[iV _,iV _,sV _,sV _,.bool _,sV _]) apY gL rfl rfl rfl) (g9 7 ?_)
  show Value.tuple #[Value.agg (List.toArray [_,_,_,_,_,_]),Value.bool _]=_
  rw [bw,if_pos (by assumption)];rfl
 refine g9 7 ?_
 refine W.ok (aY (L:=[sV _,sV _,.bool _]) zm fR rfl rfl rfl) (W.aH (Kh _ _ _ _ _ _ _ af.nil _ (by first|assumption|omega|(dsimp only;omega))) rfl (g9 8 ?_))
 show Value.tuple #[Value.agg (List.toArray [_,_,_,_,_,_]),Value.bool _]=_
 rw [bw,if_neg (by simp_all)];rfl

theorem EY(cf:Int)(cl:Int)(cb:Int)(cs:Int)(cr:Int)(jr:cc G Al p)(SO:cc G Ak k)(i:Int)(hb:0≤cb∧cb≤9223372036854775807)(hr:rising p.ab=true)(uj:∀q∈p.ab,q.b.size≤16)(pM:∀m∈p.aj,m.R)(ox:∀m∈k.aj,m.key.b.size≤16∧m.val.b.size≤16)(uk:bc k.rows)(hi:i64 i)(kr:k.aj.length+p.aj.length≤100000∧k.rows.length≤100000):
    Fc Tryz.prog 171 [.agg #[iV cf,iV cl,iV cb,iV cs,iV cr],.agg (List.toArray Al),.agg (List.toArray Ak),iV i] G [] (fun v _ _=>v=.bool (decide (ku p k i∧0<(aJ p.ab p.aj i).length∧c9 cl cb p k i=0))):=by
 obtain⟨_,_,_,_,_,_,_,_,rfl,mr,oi,mw,oY,il⟩:=jr
 obtain⟨_,_,_,_,_,_,_,_,rfl,oj,om,oq,ot,iO⟩:=SO
 have hpk:∀m∈p.aj,m.key.b.size<140737488355328:=fun m h=>by have:=(fg (pM m h)).1;omega
 refine Fc.go [.tmp 8] Tryz.func171 Tryz.ntmps171 rfl (fun w0=>(g9 2 ?_))
 refine W.box (L:=[iV _,iV _,iV _,iV _,iV _]) rfl rfl (fun b64=>(W.box (L:=[iV _,iV _,lV _ _ _,lV _ _ _,sV _,.bool _,iV _,iV _,lV _ _ _,lV _ _ _]) rfl rfl (fun b65=>(W.box (L:=[iV _,iV _,lV _ _ _,lV _ _ _,sV _,.bool _,iV _,iV _,lV _ _ _,lV _ _ _]) rfl rfl (fun b66=>(g9 8 ?_))))))
 refine W.aH (GV (p:=p) (k:=k) (gp mr oi mw oY il) (gp oj om oq ot iO) i) rfl (W.mv ?_)
 refine W.sp 13 rfl (fun jC=> ?_) (fun jC=> ?_)
 ·refine g9 11 ?_
  refine W.cS (alZ mr mw i hpk hr hi) rfl (fun au7 au8 G67 MO ak9=>(g9 6 ?_))
  refine W.sd 23 (fun Cw p21=> ?_) (fun Cw p21=> ?_)
  ·refine g9 9 ?_
   refine W.aH (x8 cf cl cb cs cr (p:=p) (k:=k) (gE MO mr oi mw oY il) (gE MO oj om oq ot iO) i hb hr uj pM ox uk hi kr) rfl (g9 8 ?_)
   refine ax Value.bool ?_
   first|(simp_all;done)|(simp_all;omega)
  refine g9 12 ?_
  refine ax Value.bool ?_
  first|(simp_all;done)|(simp_all;omega)
 refine g9 22 ?_
 refine ax Value.bool ?_
 first|(simp_all;done)|(simp_all;omega)

end Go.Proofs.YthhpfadbojfdnaaGreat
