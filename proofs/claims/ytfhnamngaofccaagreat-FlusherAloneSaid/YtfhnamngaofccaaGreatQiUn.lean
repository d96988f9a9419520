/- Walks of nodes in two. -/
import Derived.Test.YtfhnamngaofccaaGreatQiU3
set_option maxRecDepth 100000
set_option maxHeartbeats 1600000
set_option linter.unusedVariables false
set_option linter.unusedSimpArgs false
set_option linter.unnecessarySimpa false
namespace Go.Proofs.YtfhnamngaofccaaGreat
open Go Go.Fw Go.RowKit
attribute [local irreducible] Ok W WC
variable {G:GH}
theorem abl{Lm:Value}{p:List ah}(js:ax dg G Lm p){ox:Value}{c:List Int}(gh:ax bY G ox c):
    Fc Tryz.prog 179 [Lm,ox] G [] (fun v G' M'=>M'=[]∧∃r:List ah×List Int×ah×List ah×List Int×Bool,r=gg p c∧∃u0 u1 u2 u3,v=.tuple #[u0,u1,sV (ah.b (r.2.2.1)),u2,u3,.bool (r.2.2.2.2.2)]∧ax dg G' u0 (r.1)∧ax bY G' u1 (r.2.1)∧ax dg G' u2 (r.2.2.2.1)∧ax bY G' u3 (r.2.2.2.2.1)):=by
 obtain⟨adW,adX,rfl⟩:=js.form
 obtain⟨fZ,gd,rfl⟩:=gh.form
 have hp:=js.aH
 have hc:=gh.aH
 refine Fc.go [.tmp 4,.tmp 5,.tmp 6,.tmp 7,.tmp 8,.tmp 9] Tryz.func179 Tryz.ntmps179 rfl (fun w0=>(g9 17 ?_))
 refine W.sd 14 (fun jc jh=> ?_) (fun jc jh=> ?_)
 ·refine g9 23 ?_
  refine⟨rfl,_,(DH aa).symm,_,_,_,_,rfl,?_,?_,?_,?_⟩
  ·exact ax.nil
  ·exact ax.nil
  ·exact ax.nil
  exact ax.nil
 refine g9 15 ?_
 refine WC.cn (fun gD lX=> ?_) (fun gD lX=> ?_)
 ·refine g9 13 ?_
  refine⟨rfl,_,(DH aa).symm,_,_,_,_,rfl,?_,?_,?_,?_⟩
  ·exact ax.nil
  ·exact ax.nil
  ·exact ax.nil
  exact ax.nil
 refine g9 7 ?_
 refine W.ok (qO rfl rfl aa aa aa) (g9 4 ?_)
 refine WC.dw bi (d9 [0,1,2] ?_)
 have A1:=ax.slice js (lo:=0) (hi:=((c.length+1) / 2)-1) aa aa
 refine WD.tk 3 rfl (ok_slice (0) (((c.length+1) / 2)-1) dt ft js rfl rfl ⟨_,_,rfl,aa⟩ ⟨aa,aa⟩) (d9 [5,6] ?_)
 have hs2:=ax.slice gh (lo:=0) (hi:=((c.length+1) / 2)) aa aa
 refine WD.tk 7 rfl (ok_slice (0) (((c.length+1) / 2)) cq ci gh rfl rfl ⟨_,_,rfl,aa⟩ ⟨aa,aa⟩) (d9 [9,10,11] ?_)
 refine js.a1 (i:=((c.length+1) / 2)-1) aa (fun he3=>(WD.tk 12 rfl (aY (i:=((c.length+1) / 2)-1) dt ft js rfl rfl ⟨aa,aa⟩) (d9 [13,14,15] ?_)))
 have hs6:=ax.slice js (lo:=((c.length+1) / 2)) (hi:=p.length) aa aa
 refine WD.tk 16 rfl (ok_slice (((c.length+1) / 2)) (p.length) dt ft js rfl ⟨_,_,rfl,aa⟩ rfl ⟨aa,aa⟩) (d9 [18,19] ?_)
 have hs7:=ax.slice gh (lo:=((c.length+1) / 2)) (hi:=c.length) aa aa
 refine WD.tk 20 rfl (ok_slice (((c.length+1) / 2)) (c.length) cq ci gh rfl ⟨_,_,rfl,aa⟩ rfl ⟨aa,aa⟩) (WD.a1 4 rfl (W.cS (rv A1) rfl (fun QL QM G8 xB hv9=>(W.nn (WD.a1 8 rfl (W.cS (ry (hs2.mono xB)) rfl (fun Wd We G15 sn Nq=>(W.nn (WD.a1 17 rfl (W.cS (rv (hs6.mono aS)) rfl (fun aIU aIV G22 axB amo=>(W.nn (WD.a1 21 rfl (W.cS (ry (hs7.mono aS)) rfl (fun aIW aIX T2 jM al2=>(W.nn (d9 [22,23,24,25,26,27] ?_)))))))))))))))))
 refine g9 4 ?_
 refine⟨rfl,_,(LI aa).symm,_,_,_,_,rfl,?_,?_,?_,?_⟩
 ·exact ax.cast ((hv9.mono aS)) (by simp)
 ·exact ax.cast ((Nq.mono aS)) (by simp)
 ·exact ax.cast ((amo.mono jM)) (by simp)
 exact ax.cast (al2) (by simp)

variable {bN:Value}
theorem GM{l:List ah}(az:ax dg G bN l)(i:Nat)(j:Nat)(kn:i≤j∧j≤l.length):
    Fc Tryz.prog 153 [bN,aT i,aT j] G [] (fun v G' M'=>M'=[]∧∃u0,v=u0∧ax dg G' u0 ((l.take j).drop i)):=by
 obtain⟨aW,aX,rfl⟩:=az.form
 have hl:=az.aH
 have uT:l.length*16≤140737488355328:=az.bytes
 obtain⟨hi,hj⟩:=kn
 refine Fc.go [.tmp 6] Tryz.func153 Tryz.ntmps153 rfl (fun w0=>(g9 7 ?_))
 refine W.mz (e:=dg) dt ft vk rfl (fun v36 aeU HI=>(g9 3 ?_))
 have aIY:=ax.slice az (lo:=i) (hi:=j) aa aa
 refine W.ok (ok_slice (i) (j) dt ft az rfl ⟨_,_,rfl,aa⟩ ⟨_,_,rfl,aa⟩ ⟨aa,aa⟩) (W.app (e:=dg) dt ft vk rfl Hq rfl rfl (HI) (aIY) ai (by show(0+((l.take j).drop i).length)*16≤_;simp;omega) (fun v40 axC amp=>(g9 3 ?_)))
 refine WC.cm amp ai (fun G43 AD aIZ=>(g9 2 ?_))
 refine⟨rfl,_,rfl,?_⟩
 ·exact aIZ

theorem C5{l:List Int}(az:ax bY G bN l)(i:Nat)(j:Nat)(kn:i≤j∧j≤l.length):
    Fc Tryz.prog 154 [bN,aT i,aT j] G [] (fun v G' M'=>M'=[]∧∃u0,v=u0∧ax bY G' u0 ((l.take j).drop i)):=by
 obtain⟨aW,aX,rfl⟩:=az.form
 have hl:=az.aH
 have uT:l.length*8≤140737488355328:=az.bytes
 obtain⟨hi,hj⟩:=kn
 refine Fc.go [.tmp 6] Tryz.func154 Tryz.ntmps154 rfl (fun w0=>(g9 7 ?_))
 refine W.mz (e:=bY) cq ci kp rfl (fun v44 wl Nr=>(g9 3 ?_))
 have aI0:=ax.slice az (lo:=i) (hi:=j) aa aa
 refine W.ok (ok_slice (i) (j) cq ci az rfl ⟨_,_,rfl,aa⟩ ⟨_,_,rfl,aa⟩ ⟨aa,aa⟩) (W.app (e:=bY) cq ci kp rfl tq rfl rfl (Nr) (aI0) ai (by show(0+((l.take j).drop i).length)*8≤_;simp;omega) (fun v48 FW amq=>(g9 3 ?_)))
 refine WC.cm amq ai (fun G51 aeJ Jv=>(g9 2 ?_))
 refine⟨rfl,_,rfl,?_⟩
 ·exact Jv

variable {a:Nd} {tZ:List Value}
theorem Wf(dM:ba G tZ a)(j3:∀m∈a.af,m.key.b.size<140737488355328):
    Fc Tryz.prog 163 [.agg (List.toArray tZ)] G [] (fun v G' M'=>M'=[]∧∃r:Nd×Nd×ah×Bool,r=dh a∧∃u0 u1,v=.tuple #[.agg (List.toArray u0),.agg (List.toArray u1),sV (ah.b (r.2.2.1)),.bool (r.2.2.2)]∧ba G' u0 (r.1)∧ba G' u1 (r.2.1)):=by
 obtain⟨_,_,_,_,_,_,_,_,rfl,gK,gL,fG,fR,eW⟩:=dM
 refine Fc.go [.cell 2 57,.cell 3 57,.tmp 4,.tmp 5] Tryz.func163 Tryz.ntmps163 rfl (fun w0=>(g9 2 ?_))
 refine W.box (L:=[iV _,iV _,lV _ _ _,lV _ _ _,sV _,.bool _,iV _,iV _,lV _ _ _,lV _ _ _]) rfl rfl (fun sZ=>(W.alloc bq (fun b53=>(W.alloc bq (fun VC=>(g9 5 ?_))))))
 refine WC.dw ((bi.k9.cons _).cons _) (d9 [0,1,2,3] ?_)
 refine g9 10 ?_
 refine WC.cd (fun eM jd=> ?_) (fun eM jd=> ?_)
 ·refine g9 4 ?_
  refine W.call (Mp:=[]) (agL fR) rfl ai ?_
  intro _ G55 _ il q58
  refine match q58 with|⟨C1,_,VD,_,_,Wg,FX,aeV⟩=> ?_
  subst C1
  subst VD
  subst Wg
  have q63:=FX.form
  refine match q63 with|⟨aI1,aI2,amr⟩=> ?_
  subst amr
  have q65:=aeV.form
  refine match q65 with|⟨aI3,aI4,Jw⟩=> ?_
  subst Jw
  refine g9 14 ?_
  refine WC.dw ((bi.k9.cons _).cons _) (d9 [2,3] ?_)
  refine WD.any [0,1] (by kernel_rfl) rfl ⟨WD.ap ?_,WD.ap ?_,trivial⟩
  ·refine g9 1 ?_
   refine W.nn ?_
   refine WD.any [1,4] (by kernel_rfl) rfl ⟨WD.ap ?_,WD.ap ?_,trivial⟩
   ·refine g9 1 ?_
    refine W.nn (d9 [4,5,6,7] ?_)
    refine g9 5 ?_
    refine⟨rfl,_,(nX jd).symm,_,_,rfl,?_,?_⟩
    ·exact⟨_,_,_,_,_,_,_,_,rfl,(gK.mono il),(gL.mono il),(fG.mono il),FX,eW⟩
    exact⟨_,_,_,_,_,_,_,_,rfl,(gK.mono il),(gL.mono il),(fG.mono il),aeV,eW⟩
   refine g9 1 ?_
   refine W.nn (WD.a1 1 rfl (g9 1 ?_))
   refine W.nn (d9 [5,6,7] ?_)
   refine g9 5 ?_
   refine⟨rfl,_,(nX jd).symm,_,_,rfl,?_,?_⟩
   ·exact⟨_,_,_,_,_,_,_,_,rfl,(gK.mono il),(gL.mono il),(fG.mono il),FX,eW⟩
   exact⟨_,_,_,_,_,_,_,_,rfl,(gK.mono il),(gL.mono il),(fG.mono il),aeV,eW⟩
  refine g9 1 ?_
  refine W.nn (WD.a1 0 rfl (g9 1 ?_))
  refine W.nn (d9 [4,5,6,7] ?_)
  refine g9 5 ?_
  refine⟨rfl,_,(nX jd).symm,_,_,rfl,?_,?_⟩
  ·exact⟨_,_,_,_,_,_,_,_,rfl,(gK.mono il),(gL.mono il),(fG.mono il),FX,eW⟩
  exact⟨_,_,_,_,_,_,_,_,rfl,(gK.mono il),(gL.mono il),(fG.mono il),aeV,eW⟩
 refine g9 9 ?_
 refine W.ay (aat gK gL) rfl (g9 3 ?_)
 refine WC.cond rfl (fun jJ=> ?_) (fun jJ=> ?_)
 ·refine WC.seq (WC.dw ((bi.k9.cons _).cons _) ?_)
  refine WD.any [0,1] (by kernel_rfl) rfl ⟨WD.ap ?_,WD.ap ?_,trivial⟩
  ·refine g9 1 ?_
   refine W.nn ?_
   refine WD.any [1,2] (by kernel_rfl) rfl ⟨WD.ap ?_,WD.ap ?_,trivial⟩
   ·refine g9 1 ?_
    refine W.nn (d9 [2,3,4,5] ?_)
    refine g9 5 ?_
    refine⟨rfl,_,(qC jd (by simpa using jJ)).symm,_,_,rfl,?_,?_⟩
    ·exact(cc gK gL fG fR eW)
    exact(cc gK gL fG fR eW)
   refine g9 1 ?_
   refine W.nn (WD.a1 1 rfl (g9 1 ?_))
   refine W.nn (d9 [3,4,5] ?_)
   refine g9 5 ?_
   refine⟨rfl,_,(qC jd (by simpa using jJ)).symm,_,_,rfl,?_,?_⟩
   ·exact(cc gK gL fG fR eW)
   exact(cc gK gL fG fR eW)
  refine g9 1 ?_
  refine W.nn (WD.a1 0 rfl (g9 1 ?_))
  refine W.nn (d9 [2,3,4,5] ?_)
  refine g9 5 ?_
  refine⟨rfl,_,(qC jd (by simpa using jJ)).symm,_,_,rfl,?_,?_⟩
  ·exact(cc gK gL fG fR eW)
  exact(cc gK gL fG fR eW)
 refine g9 8 ?_
 refine W.call (Mp:=[]) (abl gK gL) rfl ai ?_
 intro _ G66 _ CZ q71
 refine match q71 with|⟨Jb,_,amt,_,_,_,_,Wh,FU,Wi,FR,aeW⟩=> ?_
 subst Jb
 subst amt
 subst Wh
 have q76:=FU.form
 refine match q76 with|⟨VO,VP,amu⟩=> ?_
 subst amu
 have q78:=Wi.form
 refine match q78 with|⟨amv,amw,aI5⟩=> ?_
 subst aI5
 have q80:=FR.form
 refine match q80 with|⟨aI6,aI7,Wj⟩=> ?_
 subst Wj
 have q82:=aeW.form
 refine match q82 with|⟨aI8,aI9,aJa⟩=> ?_
 subst aJa
 refine g9 20 ?_
 refine WC.dw ((bi.k9.cons _).cons _) (d9 [0,1,2] ?_)
 refine WD.tk 3 rfl (aM (L:=[sV _,sV _,.bool _]) kU dY rfl rfl rfl) (d9 [5,6,7] ?_)
 refine WD.tk 8 rfl (aM (L:=[sV _,sV _,.bool _]) kU dY rfl rfl rfl) (WD.a1 4 rfl (W.cS (Jg (fG.mono CZ) ah.nil _ _ (by assumption)) rfl (fun aJb aJc G83 FY Ty=>(W.nn (d9 [10] ?_)))))
 refine WD.a1 9 rfl (W.cS (Jg (fG.mono aS) _ ah.nil _ (by assumption)) rfl (fun aJd aJe G90 Ns amx=>(W.nn (d9 [11,12,13] ?_))))
 refine g9 3 ?_
 refine WC.dw ((bi.k9.cons _).cons _) (d9 [2,3] ?_)
 refine WD.any [0,1] (by kernel_rfl) rfl ⟨WD.ap ?_,WD.ap ?_,trivial⟩
 ·refine g9 1 ?_
  refine W.nn ?_
  refine WD.any [1,4] (by kernel_rfl) rfl ⟨WD.ap ?_,WD.ap ?_,trivial⟩
  ·refine g9 1 ?_
   refine W.nn (d9 [4,5,6,7] ?_)
   refine g9 4 ?_
   refine⟨rfl,_,(nY jd (by simpa using jJ)).symm,_,_,rfl,?_,?_⟩
   ·exact⟨_,_,_,_,_,_,_,_,rfl,(FU.mono aS),(Wi.mono aS),(Ty.mono Ns),(fR.mono aS),eW⟩
   exact⟨_,_,_,_,_,_,_,_,rfl,(FR.mono aS),(aeW.mono aS),amx,(fR.mono aS),eW⟩
  refine g9 1 ?_
  refine W.nn (WD.a1 1 rfl (g9 1 ?_))
  refine W.nn (d9 [5,6,7] ?_)
  refine g9 4 ?_
  refine⟨rfl,_,(nY jd (by simpa using jJ)).symm,_,_,rfl,?_,?_⟩
  ·exact⟨_,_,_,_,_,_,_,_,rfl,(FU.mono aS),(Wi.mono aS),(Ty.mono Ns),(fR.mono aS),eW⟩
  exact⟨_,_,_,_,_,_,_,_,rfl,(FR.mono aS),(aeW.mono aS),amx,(fR.mono aS),eW⟩
 refine g9 1 ?_
 refine W.nn (WD.a1 0 rfl (g9 1 ?_))
 refine W.nn (d9 [4,5,6,7] ?_)
 refine g9 4 ?_
 refine⟨rfl,_,(nY jd (by simpa using jJ)).symm,_,_,rfl,?_,?_⟩
 ·exact⟨_,_,_,_,_,_,_,_,rfl,(FU.mono aS),(Wi.mono aS),(Ty.mono Ns),(fR.mono aS),eW⟩
 exact⟨_,_,_,_,_,_,_,_,rfl,(FR.mono aS),(aeW.mono aS),amx,(fR.mono aS),eW⟩

theorem yE(dM:ba G tZ a)(i:Int)(hi:i64 i)(j3:∀m∈a.af,m.key.b.size<140737488355328):
    Fc Tryz.prog 142 [.agg (List.toArray tZ),iV i] G [] (fun v G' M'=>M'=[]∧∃r:Nd×Nd×ah×Bool,r=aB a i∧∃u0 u1,v=.tuple #[.agg (List.toArray u0),.agg (List.toArray u1),sV (ah.b (r.2.2.1)),.bool (r.2.2.2)]∧ba G' u0 (r.1)∧ba G' u1 (r.2.1)):=by
 obtain⟨_,_,_,_,_,_,_,_,rfl,gK,gL,fG,fR,eW⟩:=dM
 refine Fc.go [.cell 4 57,.cell 5 57,.tmp 6,.tmp 7] Tryz.func142 Tryz.ntmps142 rfl (fun w0=>(g9 2 ?_))
 refine W.box (L:=[iV _,iV _,lV _ _ _,lV _ _ _,sV _,.bool _,iV _,iV _,lV _ _ _,lV _ _ _]) rfl rfl (fun b97=>(W.alloc bq (fun b98=>(W.alloc bq (fun b99=>(g9 7 ?_))))))
 refine W.cM (Wf (cc gK gL fG fR eW) (by assumption)) rfl (fun _ _ _ _ _ _ _ _ _ _ _ _ _ _ _ _ axD amy Ew Ex Ey Ez azu EA EB EC ED azv=>(g9 18 ?_))
 refine WC.cond rfl (fun fU=> ?_) (fun fU=> ?_)
 ·refine g9 2 ?_
  refine W.ok (aM (L:=[iV _,iV _,lV _ _ _,lV _ _ _,sV _,.bool _,iV _,iV _,lV _ _ _,lV _ _ _]) ij bq rfl rfl rfl) (W.ok (aM (L:=[iV _,iV _,lV _ _ _,lV _ _ _,sV _,.bool _,iV _,iV _,lV _ _ _,lV _ _ _]) ij bq rfl rfl rfl) (g9 9 ?_))
  refine⟨rfl,_,(nZ (by simpa using fU)).symm,_,_,rfl,?_,?_⟩
  ·exact⟨_,_,_,_,_,_,_,_,rfl,ax.nil,ax.nil,ax.nil,ax.nil,Nd.c6⟩
  exact⟨_,_,_,_,_,_,_,_,rfl,ax.nil,ax.nil,ax.nil,ax.nil,Nd.c6⟩
 refine g9 22 ?_
 refine WC.dw ((bi.k9.cons _).cons _) (d9 [4] ?_)
 refine WD.any [0,2] (by kernel_rfl) rfl ⟨WD.ap ?_,WD.ap ?_,trivial⟩
 ·refine g9 1 ?_
  refine W.nn ?_
  refine WD.any [1,2] (by kernel_rfl) rfl ⟨WD.ap ?_,WD.ap ?_,trivial⟩
  ·refine W.cN (fK (show ba _ _ { (dh a).1 with high:=(dh a).2.2.1,cW:=false,right:=i } from⟨_,_,_,_,_,_,_,_,rfl,Ew,Ex,Ey,Ez,(tc (by assumption) hi)⟩)) rfl (fun _ _ _ _ _ _ _ _ aJf Br ahv ahw ahx ahy azw=>(W.nn (WD.a1 2 rfl (g9 1 ?_))))
   refine W.nn (WD.a1 3 rfl (W.cN (fK (show ba _ _ { (dh a).2.1 with slot:=i } from⟨_,_,_,_,_,_,_,_,rfl,(EA.mono Br),(EB.mono Br),(EC.mono Br),(ED.mono Br),(qw (by assumption) hi)⟩)) rfl (fun _ _ _ _ _ _ _ _ aJg Jx ahz ahA ahB ahC azx=>(W.nn (d9 [5,6,7,8] ?_)))))
   refine g9 4 ?_
   refine⟨rfl,_,(iH (by simpa using fU)).symm,_,_,rfl,?_,?_⟩
   ·exact⟨_,_,_,_,_,_,_,_,rfl,(ahv.mono Jx),(ahw.mono Jx),(ahx.mono Jx),(ahy.mono Jx),tc (by assumption) hi⟩
   exact⟨_,_,_,_,_,_,_,_,rfl,ahz,ahA,ahB,ahC,qw (by assumption) hi⟩
  refine g9 1 ?_
  refine W.nn (WD.a1 1 rfl (W.cN (fK (show ba _ _ { (dh a).1 with high:=(dh a).2.2.1,cW:=false,right:=i } from⟨_,_,_,_,_,_,_,_,rfl,Ew,Ex,Ey,Ez,(tc (by assumption) hi)⟩)) rfl (fun _ _ _ _ _ _ _ _ aJh Jy ahD ahE ahF ahG azy=>(W.nn (WD.a1 3 rfl (W.cN (fK (show ba _ _ { (dh a).2.1 with slot:=i } from⟨_,_,_,_,_,_,_,_,rfl,(EA.mono Jy),(EB.mono Jy),(EC.mono Jy),(ED.mono Jy),(qw (by assumption) hi)⟩)) rfl (fun _ _ _ _ _ _ _ _ aUc QN ahH ahI ahJ ahK azz=>(W.nn (d9 [5,6,7,8] ?_)))))))))
  refine g9 4 ?_
  refine⟨rfl,_,(iH (by simpa using fU)).symm,_,_,rfl,?_,?_⟩
  ·exact⟨_,_,_,_,_,_,_,_,rfl,(ahD.mono QN),(ahE.mono QN),(ahF.mono QN),(ahG.mono QN),tc (by assumption) hi⟩
  exact⟨_,_,_,_,_,_,_,_,rfl,ahH,ahI,ahJ,ahK,qw (by assumption) hi⟩
 refine g9 1 ?_
 refine W.nn (WD.a1 0 rfl (g9 1 ?_))
 refine W.nn (WD.a1 1 rfl (W.cN (fK (show ba _ _ { (dh a).1 with high:=(dh a).2.2.1,cW:=false,right:=i } from⟨_,_,_,_,_,_,_,_,rfl,Ew,Ex,Ey,Ez,(tc (by assumption) hi)⟩)) rfl (fun _ _ _ _ _ _ _ _ aJi EE ahL ahM ahN ahO azA=>(W.nn (WD.a1 3 rfl (W.cN (fK (show ba _ _ { (dh a).2.1 with slot:=i } from⟨_,_,_,_,_,_,_,_,rfl,(EA.mono EE),(EB.mono EE),(EC.mono EE),(ED.mono EE),(qw (by assumption) hi)⟩)) rfl (fun _ _ _ _ _ _ _ _ axE rz EF EG EH EI Jz=>(W.nn (d9 [5,6,7,8] ?_)))))))))
 refine g9 4 ?_
 refine⟨rfl,_,(iH (by simpa using fU)).symm,_,_,rfl,?_,?_⟩
 ·exact⟨_,_,_,_,_,_,_,_,rfl,(ahL.mono rz),(ahM.mono rz),(ahN.mono rz),(ahO.mono rz),tc (by assumption) hi⟩
 exact⟨_,_,_,_,_,_,_,_,rfl,EF,EG,EH,EI,qw (by assumption) hi⟩

variable {jn:List Value}
theorem mL{n:Nd}(ru:ba G jn n)(i:Int)(hi:i64 i)(j3:∀m∈n.af,m.key.b.size<140737488355328):
    Fc Tryz.prog 129 [.agg (List.toArray jn),iV i] G [] (fun v G' M'=>M'=[]∧∃r:Nd×Nd×ah×Bool,r=aB n i∧∃u0 u1,v=.tuple #[.agg (List.toArray u0),.agg (List.toArray u1),sV (ah.b (r.2.2.1)),.bool (r.2.2.2)]∧ba G' u0 (r.1)∧ba G' u1 (r.2.1)):=by
 obtain⟨_,_,_,_,_,_,_,_,rfl,cZ,dJ,dZ,dB,cQ⟩:=ru
 have h1:=cZ.aH
 have h2:=dJ.aH
 have h3:=dZ.aH
 have h4:=dB.aH
 have b1:n.ab.length*16≤140737488355328:=cZ.bytes
 have b2:n.kids.length*8≤140737488355328:=dJ.bytes
 have b4:n.rows.length*32≤140737488355328:=dB.bytes
 refine Fc.go [.cell 4 57,.cell 5 57,.tmp 6,.tmp 7] Tryz.func129 Tryz.ntmps129 rfl (fun w0=>(g9 2 ?_))
 refine W.box (L:=[iV _,iV _,lV _ _ _,lV _ _ _,sV _,.bool _,iV _,iV _,lV _ _ _,lV _ _ _]) rfl rfl (fun aUd=>(W.alloc bq (fun aUe=>(W.alloc bq (fun aUf=>(g9 5 ?_))))))
 refine WC.dw ((bi.k9.k9).k9) (d9 [0,1] ?_)
 refine WD.any [2,3] (by kernel_rfl) rfl ⟨WD.ap ?_,WD.ap ?_,trivial⟩
 ·refine W.alloc bq (fun aUg=>(W.nn (WD.a1 3 rfl (W.alloc bq (fun aUh=>(W.nn (d9 [4,5,6] ?_)))))))
  refine g9 10 ?_
  refine WC.cd (fun iu fM=> ?_) (fun iu fM=> ?_)
  ·refine g9 9 ?_
   refine WC.cd (fun mS Ce=> ?_) (fun mS Ce=> ?_)
   ·refine g9 2 ?_
    refine W.ok (aM (L:=[iV _,iV _,lV _ _ _,lV _ _ _,sV _,.bool _,iV _,iV _,lV _ _ _,lV _ _ _]) ij bq rfl rfl rfl) (W.ok (aM (L:=[iV _,iV _,lV _ _ _,lV _ _ _,sV _,.bool _,iV _,iV _,lV _ _ _,lV _ _ _]) ij bq rfl rfl rfl) (g9 10 ?_))
    refine⟨rfl,_,(uU fM aa).symm,_,_,rfl,?_,?_⟩
    ·exact⟨_,_,_,_,_,_,_,_,rfl,ax.nil,ax.nil,ax.nil,ax.nil,Nd.c6⟩
    exact⟨_,_,_,_,_,_,_,_,rfl,ax.nil,ax.nil,ax.nil,ax.nil,Nd.c6⟩
   refine g9 8 ?_
   refine W.ok (Ok.int (n:=((((n.rows.length+1) / 2):Nat):Int)) (qO rfl rfl aa aa aa) aa) (g9 8 ?_)
   refine W.ok (Ok.int (n:=((((n.rows.length+1) / 2)-1:Nat):Int)) (kG rfl rfl aa) aa) (dB.a1 (i:=((n.rows.length+1) / 2)-1) aa (fun aQF=>(W.ok (aY (i:=((n.rows.length+1) / 2)-1) cv bX dB rfl rfl ⟨aa,aa⟩) (g9 5 ?_))))
   refine dB.a1 (i:=((n.rows.length+1) / 2)) aa (fun aQG=>(W.ok (aY (i:=((n.rows.length+1) / 2)) cv bX dB rfl rfl ⟨aa,aa⟩) (g9 2 ?_)))
   refine W.ay (Ci _ _) rfl (g9 8 ?_)
   refine W.mz (e:=bA) cv bX eV rfl (fun aUi aQH azB=>(W.perm (ae (ae (ae (ae (ae ai))))).symm (g9 3 ?_)))
   have azC:=ax.slice dB (lo:=0) (hi:=((n.rows.length+1) / 2)) aa aa
   refine W.ok (ok_slice (0) (((n.rows.length+1) / 2)) cv bX dB rfl rfl ⟨_,_,rfl,aa⟩ ⟨aa,aa⟩) (W.app (e:=bA) cv bX eV rfl lT rfl rfl (azB) (azC) (ae (ae (ae (ae (ae ai))))) (by show(0+((n.rows.take ((n.rows.length+1) / 2)).drop 0).length)*32≤_;simp;omega) (fun aUj aQI azD=>(W.perm (ae (ae (ae (ae (ae ai))))).symm (g9 1 ?_))))
   refine W.cm azD (ae (ae (ae (ae (ae ai))))) (fun aUk amz azE=> ?_)
   have amA:=ax.cast azE (l':=n.rows.take ((n.rows.length+1) / 2)) (by simp)
   have aJj:=amA.form
   refine match aJj with|⟨_,_,azF⟩=> ?_
   subst azF
   refine g9 4 ?_
   refine W.mz (e:=bA) cv bX eV rfl (fun axF aQJ azG=>(W.perm (ae (ae (ae (ae (ae ai))))).symm (g9 3 ?_)))
   have azH:=ax.slice (dB.mono amz) (lo:=((n.rows.length+1) / 2)) (hi:=n.rows.length) aa aa
   refine W.ok (ok_slice (((n.rows.length+1) / 2)) (n.rows.length) cv bX (dB.mono amz) rfl ⟨_,_,rfl,aa⟩ rfl ⟨aa,aa⟩) (W.app (e:=bA) cv bX eV rfl lT rfl rfl (azG) (azH) (ae (ae (ae (ae (ae ai))))) (by show(0+((n.rows.take n.rows.length).drop ((n.rows.length+1) / 2)).length)*32≤_;simp;omega) (fun aUl abm azI=>(W.perm (ae (ae (ae (ae (ae ai))))).symm (g9 1 ?_))))
   refine W.cm azI (ae (ae (ae (ae (ae ai))))) (fun aUm azJ azK=> ?_)
   have amB:=ax.cast azK (l':=n.rows.drop ((n.rows.length+1) / 2)) (by simp)
   have amC:=amB.form
   refine match amC with|⟨_,_,azL⟩=> ?_
   subst azL
   refine g9 31 ?_
   refine WC.dw ((((bi.k9.cons _).cons _).k9).k9) (d9 [0,1,2,3,4,5,6] ?_)
   refine g9 4 ?_
   refine⟨rfl,_,(uV fM aa).symm,_,_,rfl,?_,?_⟩
   ·exact⟨_,_,_,_,_,_,_,_,rfl,(cZ.mono aS),(dJ.mono aS),(dZ.mono aS),(amA.mono azJ),⟨cQ.1,cQ.2.1,hi,cQ.2.2.2⟩⟩
   exact⟨_,_,_,_,_,_,_,_,rfl,(cZ.mono aS),(dJ.mono aS),(dZ.mono aS),amB,⟨hi,cQ.2⟩⟩
  refine g9 8 ?_
  refine W.sd 64 (fun h63 p63=> ?_) (fun h63 p63=> ?_)
  ·refine g9 12 ?_
   refine W.ok (aM (L:=[iV _,iV _,lV _ _ _,lV _ _ _,sV _,.bool _,iV _,iV _,lV _ _ _,lV _ _ _]) ij bq rfl rfl rfl) (W.ok (aM (L:=[iV _,iV _,lV _ _ _,lV _ _ _,sV _,.bool _,iV _,iV _,lV _ _ _,lV _ _ _]) ij bq rfl rfl rfl) (g9 10 ?_))
   refine⟨rfl,_,(og fM aa).symm,_,_,rfl,?_,?_⟩
   ·exact⟨_,_,_,_,_,_,_,_,rfl,ax.nil,ax.nil,ax.nil,ax.nil,Nd.c6⟩
   exact⟨_,_,_,_,_,_,_,_,rfl,ax.nil,ax.nil,ax.nil,ax.nil,Nd.c6⟩
  refine g9 9 ?_
  refine W.ay (vo cZ dJ) rfl (g9 5 ?_)
  refine WC.cond rfl (fun QO=> ?_) (fun QO=> ?_)
  ·refine g9 2 ?_
   refine W.ok (aM (L:=[iV _,iV _,lV _ _ _,lV _ _ _,sV _,.bool _,iV _,iV _,lV _ _ _,lV _ _ _]) ij bq rfl rfl rfl) (W.ok (aM (L:=[iV _,iV _,lV _ _ _,lV _ _ _,sV _,.bool _,iV _,iV _,lV _ _ _,lV _ _ _]) ij bq rfl rfl rfl) (g9 10 ?_))
   refine⟨rfl,_,(og fM (.inr (by simpa using QO))).symm,_,_,rfl,?_,?_⟩
   ·exact⟨_,_,_,_,_,_,_,_,rfl,ax.nil,ax.nil,ax.nil,ax.nil,Nd.c6⟩
   exact⟨_,_,_,_,_,_,_,_,rfl,ax.nil,ax.nil,ax.nil,ax.nil,Nd.c6⟩
  have hri:ee n.ab n.kids.length=true:=by simpa using QO
  have lZ:=(cE hri).2
  refine g9 8 ?_
  refine W.ok (Ok.int (n:=((((n.kids.length+1) / 2):Nat):Int)) (qO rfl rfl aa aa aa) aa) (g9 8 ?_)
  refine W.ok (Ok.int (n:=((((n.kids.length+1) / 2)-1:Nat):Int)) (kG rfl rfl aa) aa) (cZ.a1 (i:=((n.kids.length+1) / 2)-1) aa (fun aQK=>(W.ok (aY (i:=((n.kids.length+1) / 2)-1) dt ft cZ rfl rfl ⟨aa,aa⟩) (g9 5 ?_))))
  refine WC.dw ((((bi.k9.k9).k9).cons _).k9) (d9 [0,1,2] ?_)
  refine WD.tk 3 rfl (Ok.int (n:=((((n.kids.length+1) / 2)-1:Nat):Int)) (kG rfl rfl aa) aa) (d9 [5,6,7] ?_)
  refine WD.a1 4 rfl (W.call (Mp:=[]) (GM cZ 0 _ ⟨aa,aa⟩) rfl ai ?_)
  intro _ aUn _ azM aJk
  refine match aJk with|⟨azN,_,azO,azP⟩=> ?_
  subst azN
  subst azO
  have amD:=ax.cast azP (l':=n.ab.take (((n.kids.length+1) / 2)-1)) (by simp)
  have aJl:=amD.form
  refine match aJl with|⟨aFj,aFk,azQ⟩=> ?_
  subst azQ
  refine W.nn (d9 [9] ?_)
  refine WD.a1 8 rfl (W.call (Mp:=[]) (C5 (dJ.mono azM) 0 _ ⟨aa,aa⟩) rfl ai ?_)
  intro _ aUo _ aQL aJm
  refine match aJm with|⟨azR,_,azS,azT⟩=> ?_
  subst azR
  subst azS
  have amE:=ax.cast azT (l':=n.kids.take ((n.kids.length+1) / 2)) (by simp)
  have aJn:=amE.form
  refine match aJn with|⟨aFl,aFm,azU⟩=> ?_
  subst azU
  refine W.nn (d9 [10,11,12] ?_)
  refine g9 3 ?_
  refine WC.dw ((((bi.k9.k9).k9).k9).cons _) (d9 [0,1,2,3,4,5,7,8,9,10,11,12] ?_)
  refine WD.a1 6 rfl (W.call (Mp:=[]) (GM (cZ.mono aS) _ _ ⟨aa,aa⟩) rfl ai ?_)
  intro _ aJo _ azV amF
  refine match amF with|⟨azW,_,azX,azY⟩=> ?_
  subst azW
  subst azX
  have amG:=ax.cast azY (l':=n.ab.drop ((n.kids.length+1) / 2)) (by simp)
  have amH:=amG.form
  refine match amH with|⟨aFn,aFo,abn⟩=> ?_
  subst abn
  refine W.nn (d9 [14] ?_)
  refine WD.a1 13 rfl (W.call (Mp:=[]) (C5 (dJ.mono aS) _ _ ⟨aa,aa⟩) rfl ai ?_)
  intro _ aUp _ aQM aJp
  refine match aJp with|⟨abo,_,JA,azZ⟩=> ?_
  subst abo
  subst JA
  have amI:=ax.cast azZ (l':=n.kids.drop ((n.kids.length+1) / 2)) (by simp)
  have Wk:=amI.form
  refine match Wk with|⟨aFp,aFq,abp⟩=> ?_
  subst abp
  refine W.nn (d9 [15,16,17] ?_)
  refine g9 7 ?_
  refine W.ok (aM (L:=[sV _,sV _,.bool _]) kU dY rfl rfl rfl) (W.cS (oP (dZ.mono aS) ah.nil _ _ (by assumption)) rfl (fun aFr aFs aJq abq az0=>(g9 8 ?_)))
  refine W.ok (aM (L:=[sV _,sV _,.bool _]) kU dY rfl rfl rfl) (W.cS (oP (dZ.mono aS) _ ah.nil _ (by assumption)) rfl (fun aFt aFu aJr amJ az1=>(g9 32 ?_)))
  refine WC.dw ((((bi.k9.cons _).cons _).k9).k9) (d9 [0,1,2,3,4,5,6] ?_)
  refine g9 4 ?_
  refine⟨rfl,_,(uW fM aa hri lZ).symm,_,_,rfl,?_,?_⟩
  ·exact⟨_,_,_,_,_,_,_,_,rfl,(amD.mono aS),(amE.mono aS),(az0.mono amJ),(dB.mono aS),⟨cQ.1,cQ.2.1,hi,cQ.2.2.2⟩⟩
  exact⟨_,_,_,_,_,_,_,_,rfl,(amG.mono aS),(amI.mono aS),az1,(dB.mono aS),⟨hi,cQ.2⟩⟩
 refine W.alloc bq (fun aUq=>(W.nn (WD.a1 2 rfl (W.alloc bq (fun aUr=>(W.nn (d9 [4,5,6] ?_)))))))
 refine g9 10 ?_
 refine WC.cd (fun iu fM=> ?_) (fun iu fM=> ?_)
 ·refine g9 9 ?_
  refine WC.cd (fun mS Ce=> ?_) (fun mS Ce=> ?_)
  ·refine g9 2 ?_
   refine W.ok (aM (L:=[iV _,iV _,lV _ _ _,lV _ _ _,sV _,.bool _,iV _,iV _,lV _ _ _,lV _ _ _]) ij bq rfl rfl rfl) (W.ok (aM (L:=[iV _,iV _,lV _ _ _,lV _ _ _,sV _,.bool _,iV _,iV _,lV _ _ _,lV _ _ _]) ij bq rfl rfl rfl) (g9 10 ?_))
   refine⟨rfl,_,(uU fM aa).symm,_,_,rfl,?_,?_⟩
   ·exact⟨_,_,_,_,_,_,_,_,rfl,ax.nil,ax.nil,ax.nil,ax.nil,Nd.c6⟩
   exact⟨_,_,_,_,_,_,_,_,rfl,ax.nil,ax.nil,ax.nil,ax.nil,Nd.c6⟩
  refine g9 8 ?_
  refine W.ok (Ok.int (n:=((((n.rows.length+1) / 2):Nat):Int)) (qO rfl rfl aa aa aa) aa) (g9 8 ?_)
  refine W.ok (Ok.int (n:=((((n.rows.length+1) / 2)-1:Nat):Int)) (kG rfl rfl aa) aa) (dB.a1 (i:=((n.rows.length+1) / 2)-1) aa (fun aQN=>(W.ok (aY (i:=((n.rows.length+1) / 2)-1) cv bX dB rfl rfl ⟨aa,aa⟩) (g9 5 ?_))))
  refine dB.a1 (i:=((n.rows.length+1) / 2)) aa (fun aQO=>(W.ok (aY (i:=((n.rows.length+1) / 2)) cv bX dB rfl rfl ⟨aa,aa⟩) (g9 2 ?_)))
  refine W.ay (Ci _ _) rfl (g9 8 ?_)
  refine W.mz (e:=bA) cv bX eV rfl (fun aJs aQP az2=>(W.perm (ae (ae (ae (ae (ae ai))))).symm (g9 3 ?_)))
  have az3:=ax.slice dB (lo:=0) (hi:=((n.rows.length+1) / 2)) aa aa
  refine W.ok (ok_slice (0) (((n.rows.length+1) / 2)) cv bX dB rfl rfl ⟨_,_,rfl,aa⟩ ⟨aa,aa⟩) (W.app (e:=bA) cv bX eV rfl lT rfl rfl (az2) (az3) (ae (ae (ae (ae (ae ai))))) (by show(0+((n.rows.take ((n.rows.length+1) / 2)).drop 0).length)*32≤_;simp;omega) (fun aUs abr az4=>(W.perm (ae (ae (ae (ae (ae ai))))).symm (g9 1 ?_))))
  refine W.cm az4 (ae (ae (ae (ae (ae ai))))) (fun aUt amK az5=> ?_)
  have amL:=ax.cast az5 (l':=n.rows.take ((n.rows.length+1) / 2)) (by simp)
  have amM:=amL.form
  refine match amM with|⟨_,_,az6⟩=> ?_
  subst az6
  refine g9 4 ?_
  refine W.mz (e:=bA) cv bX eV rfl (fun aJt az7 abt=>(W.perm (ae (ae (ae (ae (ae ai))))).symm (g9 3 ?_)))
  have az8:=ax.slice (dB.mono amK) (lo:=((n.rows.length+1) / 2)) (hi:=n.rows.length) aa aa
  refine W.ok (ok_slice (((n.rows.length+1) / 2)) (n.rows.length) cv bX (dB.mono amK) rfl ⟨_,_,rfl,aa⟩ rfl ⟨aa,aa⟩) (W.app (e:=bA) cv bX eV rfl lT rfl rfl (abt) (az8) (ae (ae (ae (ae (ae ai))))) (by show(0+((n.rows.take n.rows.length).drop ((n.rows.length+1) / 2)).length)*32≤_;simp;omega) (fun aUu aQQ az9=>(W.perm (ae (ae (ae (ae (ae ai))))).symm (g9 1 ?_))))
  refine W.cm az9 (ae (ae (ae (ae (ae ai))))) (fun aUv aAa aAb=> ?_)
  have amN:=ax.cast aAb (l':=n.rows.drop ((n.rows.length+1) / 2)) (by simp)
  have aJu:=amN.form
  refine match aJu with|⟨_,_,abu⟩=> ?_
  subst abu
  refine g9 31 ?_
  refine WC.dw ((((bi.k9.cons _).cons _).k9).k9) (d9 [0,1,2,3,4,5,6] ?_)
  refine g9 4 ?_
  refine⟨rfl,_,(uV fM aa).symm,_,_,rfl,?_,?_⟩
  ·exact⟨_,_,_,_,_,_,_,_,rfl,(cZ.mono aS),(dJ.mono aS),(dZ.mono aS),(amL.mono aAa),⟨cQ.1,cQ.2.1,hi,cQ.2.2.2⟩⟩
  exact⟨_,_,_,_,_,_,_,_,rfl,(cZ.mono aS),(dJ.mono aS),(dZ.mono aS),amN,⟨hi,cQ.2⟩⟩
 refine g9 8 ?_
 refine W.sd 64 (fun h63 p63=> ?_) (fun h63 p63=> ?_)
 ·refine g9 12 ?_
  refine W.ok (aM (L:=[iV _,iV _,lV _ _ _,lV _ _ _,sV _,.bool _,iV _,iV _,lV _ _ _,lV _ _ _]) ij bq rfl rfl rfl) (W.ok (aM (L:=[iV _,iV _,lV _ _ _,lV _ _ _,sV _,.bool _,iV _,iV _,lV _ _ _,lV _ _ _]) ij bq rfl rfl rfl) (g9 10 ?_))
  refine⟨rfl,_,(og fM aa).symm,_,_,rfl,?_,?_⟩
  ·exact⟨_,_,_,_,_,_,_,_,rfl,ax.nil,ax.nil,ax.nil,ax.nil,Nd.c6⟩
  exact⟨_,_,_,_,_,_,_,_,rfl,ax.nil,ax.nil,ax.nil,ax.nil,Nd.c6⟩
 refine g9 9 ?_
 refine W.ay (vo cZ dJ) rfl (g9 5 ?_)
 refine WC.cond rfl (fun QO=> ?_) (fun QO=> ?_)
 ·refine g9 2 ?_
  refine W.ok (aM (L:=[iV _,iV _,lV _ _ _,lV _ _ _,sV _,.bool _,iV _,iV _,lV _ _ _,lV _ _ _]) ij bq rfl rfl rfl) (W.ok (aM (L:=[iV _,iV _,lV _ _ _,lV _ _ _,sV _,.bool _,iV _,iV _,lV _ _ _,lV _ _ _]) ij bq rfl rfl rfl) (g9 10 ?_))
  refine⟨rfl,_,(og fM (.inr (by simpa using QO))).symm,_,_,rfl,?_,?_⟩
  ·exact⟨_,_,_,_,_,_,_,_,rfl,ax.nil,ax.nil,ax.nil,ax.nil,Nd.c6⟩
  exact⟨_,_,_,_,_,_,_,_,rfl,ax.nil,ax.nil,ax.nil,ax.nil,Nd.c6⟩
 have hri:ee n.ab n.kids.length=true:=by simpa using QO
 have lZ:=(cE hri).2
 refine g9 8 ?_
 refine W.ok (Ok.int (n:=((((n.kids.length+1) / 2):Nat):Int)) (qO rfl rfl aa aa aa) aa) (g9 8 ?_)
 refine W.ok (Ok.int (n:=((((n.kids.length+1) / 2)-1:Nat):Int)) (kG rfl rfl aa) aa) (cZ.a1 (i:=((n.kids.length+1) / 2)-1) aa (fun aQR=>(W.ok (aY (i:=((n.kids.length+1) / 2)-1) dt ft cZ rfl rfl ⟨aa,aa⟩) (g9 5 ?_))))
 refine WC.dw ((((bi.k9.k9).k9).k9).cons _) (d9 [0,1,2] ?_)
 refine WD.tk 3 rfl (Ok.int (n:=((((n.kids.length+1) / 2)-1:Nat):Int)) (kG rfl rfl aa) aa) (d9 [5,6,7] ?_)
 refine WD.a1 4 rfl (W.call (Mp:=[]) (GM cZ 0 _ ⟨aa,aa⟩) rfl ai ?_)
 intro _ aUw _ aAc amO
 refine match amO with|⟨aAd,_,aAe,aAf⟩=> ?_
 subst aAd
 subst aAe
 have amP:=ax.cast aAf (l':=n.ab.take (((n.kids.length+1) / 2)-1)) (by simp)
 have aJv:=amP.form
 refine match aJv with|⟨aFv,aFw,aAg⟩=> ?_
 subst aAg
 refine W.nn (d9 [9] ?_)
 refine WD.a1 8 rfl (W.call (Mp:=[]) (C5 (dJ.mono aAc) 0 _ ⟨aa,aa⟩) rfl ai ?_)
 intro _ aUx _ aQS Wl
 refine match Wl with|⟨aAh,_,aAi,aAj⟩=> ?_
 subst aAh
 subst aAi
 have amQ:=ax.cast aAj (l':=n.kids.take ((n.kids.length+1) / 2)) (by simp)
 have aJw:=amQ.form
 refine match aJw with|⟨aFx,aFy,abv⟩=> ?_
 subst abv
 refine W.nn (d9 [10,11,12] ?_)
 refine g9 3 ?_
 refine WC.dw ((((bi.k9.k9).k9).cons _).k9) (d9 [0,1,2,3,4,5,7,8,9,10,11,12] ?_)
 refine WD.a1 6 rfl (W.call (Mp:=[]) (GM (cZ.mono aS) _ _ ⟨aa,aa⟩) rfl ai ?_)
 intro _ aUy _ aQT aJx
 refine match aJx with|⟨aAk,_,abw,aAl⟩=> ?_
 subst aAk
 subst abw
 have amR:=ax.cast aAl (l':=n.ab.drop ((n.kids.length+1) / 2)) (by simp)
 have aJy:=amR.form
 refine match aJy with|⟨aFz,aFA,abx⟩=> ?_
 subst abx
 refine W.nn (d9 [14] ?_)
 refine WD.a1 13 rfl (W.call (Mp:=[]) (C5 (dJ.mono aS) _ _ ⟨aa,aa⟩) rfl ai ?_)
 intro _ aJz _ aAm aJA
 refine match aJA with|⟨aAn,_,aAo,aAp⟩=> ?_
 subst aAn
 subst aAo
 have amS:=ax.cast aAp (l':=n.kids.drop ((n.kids.length+1) / 2)) (by simp)
 have amT:=amS.form
 refine match amT with|⟨aFB,aFC,aAq⟩=> ?_
 subst aAq
 refine W.nn (d9 [15,16,17] ?_)
 refine g9 7 ?_
 refine W.ok (aM (L:=[sV _,sV _,.bool _]) kU dY rfl rfl rfl) (W.cS (oP (dZ.mono aS) ah.nil _ _ (by assumption)) rfl (fun aFD aFE aUz aQU aAr=>(g9 8 ?_)))
 refine W.ok (aM (L:=[sV _,sV _,.bool _]) kU dY rfl rfl rfl) (W.cS (oP (dZ.mono aS) _ ah.nil _ (by assumption)) rfl (fun aFF aFG aUA aAs aAt=>(g9 32 ?_)))
 refine WC.dw ((((bi.k9.cons _).cons _).k9).k9) (d9 [0,1,2,3,4,5,6] ?_)
 refine g9 4 ?_
 refine⟨rfl,_,(uW fM aa hri lZ).symm,_,_,rfl,?_,?_⟩
 ·exact⟨_,_,_,_,_,_,_,_,rfl,(amP.mono aS),(amQ.mono aS),(aAr.mono aAs),(dB.mono aS),⟨cQ.1,cQ.2.1,hi,cQ.2.2.2⟩⟩
 exact⟨_,_,_,_,_,_,_,_,rfl,(amR.mono aS),(amS.mono aS),aAt,(dB.mono aS),⟨hi,cQ.2⟩⟩

theorem Nt{n:Nd}(ru:ba G jn n)(x:Int)(y:Int)(hx:i64 x)(hy:i64 y)(oQ:i64 (n.level+1))(j3:∀m∈n.af,m.key.b.size<140737488355328):
    Fc Tryz.prog 105 [.agg (List.toArray jn),iV x,iV y] G [] (fun v G' M'=>M'=[]∧∃r:Nd×Nd×Nd×Bool,r=cP n x y∧∃u0 u1 u2,v=.tuple #[.agg (List.toArray u0),.agg (List.toArray u1),.agg (List.toArray u2),.bool (r.2.2.2)]∧ba G' u0 (r.1)∧ba G' u1 (r.2.1)∧ba G' u2 (r.2.2.1)):=by
 obtain⟨_,_,_,_,_,_,_,_,rfl,cZ,dJ,dZ,dB,cQ⟩:=ru
 have D6:=hx.1
 have vB:=hx.2
 have hy1:=hy.1
 have hy2:=hy.2
 have aeH:=oQ.1
 have aeI:=oQ.2
 refine Fc.go [.cell 6 57,.cell 7 57,.cell 8 57,.tmp 9] Tryz.func105 Tryz.ntmps105 rfl (fun w0=>(g9 2 ?_))
 refine W.box (L:=[iV _,iV _,lV _ _ _,lV _ _ _,sV _,.bool _,iV _,iV _,lV _ _ _,lV _ _ _]) rfl rfl (fun b1=>(W.alloc bq (fun b2=>(W.alloc bq (fun b3=>(W.alloc bq (fun b4=>(g9 7 ?_))))))))
 refine W.cM (yE (cc cZ dJ dZ dB cQ) _ (by assumption) (by assumption)) rfl (fun _ _ _ _ _ _ _ _ _ _ _ _ _ _ _ _ G5 xb aeX aeY aOR aeZ aJB GN GO ae0 GP amU=>(g9 18 ?_))
 refine WC.cond rfl (fun gD=> ?_) (fun gD=> ?_)
 ·refine g9 2 ?_
  refine W.ok (aM (L:=[iV _,iV _,lV _ _ _,lV _ _ _,sV _,.bool _,iV _,iV _,lV _ _ _,lV _ _ _]) ij bq rfl rfl rfl) (W.ok (aM (L:=[iV _,iV _,lV _ _ _,lV _ _ _,sV _,.bool _,iV _,iV _,lV _ _ _,lV _ _ _]) ij bq rfl rfl rfl) (W.ok (aM (L:=[iV _,iV _,lV _ _ _,lV _ _ _,sV _,.bool _,iV _,iV _,lV _ _ _,lV _ _ _]) ij bq rfl rfl rfl) (g9 9 ?_)))
  refine⟨rfl,_,(IX (by simpa using gD)).symm,_,_,_,rfl,?_,?_,?_⟩
  ·exact⟨_,_,_,_,_,_,_,_,rfl,ax.nil,ax.nil,ax.nil,ax.nil,Nd.c6⟩
  ·exact⟨_,_,_,_,_,_,_,_,rfl,ax.nil,ax.nil,ax.nil,ax.nil,Nd.c6⟩
  exact⟨_,_,_,_,_,_,_,_,rfl,ax.nil,ax.nil,ax.nil,ax.nil,Nd.c6⟩
 refine g9 5 ?_
 refine W.cN (fK (fy xb cZ dJ dZ dB cQ)) rfl (fun _ _ _ _ _ _ _ _ G14 nS yx yy ua yz zR=>(g9 15 ?_))
 refine W.lit (e:=dg) (l:=[_]) (css:=[[sV _]]) dt ft vk rfl rfl rfl rfl rfl rfl ⟨rfl,trivial⟩ (fun aUB G20 Au tE=>(g9 2 ?_))
 refine W.lit (e:=bY) (l:=[_,_]) (css:=[[iV _],[iV _]]) cq ci kp rfl rfl rfl rfl rfl rfl ⟨⟨rfl,aa,aa⟩,⟨rfl,aa,aa⟩,trivial⟩ (fun aUC G21 xM HP=>(g9 23 ?_))
 refine WC.cn (fun PB Qz=> ?_) (fun PB Qz=> ?_)
 ·refine g9 16 ?_
  refine WC.dw (((bi.k9.k9).k9).k9) (d9 [0,1,2,3,4,5,6] ?_)
  refine g9 4 ?_
  refine⟨rfl,_,(MS (by simpa using gD) Qz).symm,_,_,_,rfl,?_,?_,?_⟩
  ·exact⟨_,_,_,_,_,_,_,_,rfl,(tE.mono xM),HP,(ua.mono aS),ax.nil,⟨cQ.1,oQ,cQ.2.2⟩⟩
  ·exact⟨_,_,_,_,_,_,_,_,rfl,(aeX.mono aS),(aeY.mono aS),ax.nil,(aeZ.mono aS),⟨hx,(show Nd.Ok (aB n y).1 from by assumption).2.1,(show Nd.Ok (aB n y).1 from by assumption).2.2.1,(show i64 0 from⟨by decide,by decide⟩)⟩⟩
  exact⟨_,_,_,_,_,_,_,_,rfl,(GN.mono aS),(GO.mono aS),ax.nil,(GP.mono aS),⟨(show Nd.Ok (aB n y).2.1 from by assumption).1,(show Nd.Ok (aB n y).2.1 from by assumption).2.1,(show Nd.Ok (aB n y).2.1 from by assumption).2.2.1,(show i64 0 from⟨by decide,by decide⟩)⟩⟩
 refine g9 14 ?_
 refine WC.dw (((bi.k9.k9).k9).k9) (d9 [0,1,2,3,4,5,6] ?_)
 refine g9 4 ?_
 refine⟨rfl,_,(MT (by simpa using gD) Qz).symm,_,_,_,rfl,?_,?_,?_⟩
 ·exact⟨_,_,_,_,_,_,_,_,rfl,(tE.mono xM),HP,ax.nil,ax.nil,⟨cQ.1,oQ,cQ.2.2⟩⟩
 ·exact⟨_,_,_,_,_,_,_,_,rfl,(aeX.mono aS),(aeY.mono aS),ax.nil,(aeZ.mono aS),⟨hx,(show Nd.Ok (aB n y).1 from by assumption).2.1,(show Nd.Ok (aB n y).1 from by assumption).2.2.1,(show Nd.Ok (aB n y).1 from by assumption).2.2.2⟩⟩
 exact⟨_,_,_,_,_,_,_,_,rfl,(GN.mono aS),(GO.mono aS),ax.nil,(GP.mono aS),⟨(show Nd.Ok (aB n y).2.1 from by assumption).1,(show Nd.Ok (aB n y).2.1 from by assumption).2.1,(show Nd.Ok (aB n y).2.1 from by assumption).2.2.1,(show Nd.Ok (aB n y).2.1 from by assumption).2.2.2⟩⟩

theorem ahP{n:Nd}(ru:ba G jn n)(x:Int)(y:Int)(hx:i64 x)(hy:i64 y)(oQ:i64 (n.level+1))(j3:∀m∈n.af,m.key.b.size<140737488355328):
    Fc Tryz.prog 126 [.agg (List.toArray jn),iV x,iV y] G [] (fun v G' M'=>M'=[]∧∃r:Nd×Nd×Nd×Bool,r=cP n x y∧∃u0 u1 u2,v=.tuple #[.agg (List.toArray u0),.agg (List.toArray u1),.agg (List.toArray u2),.bool (r.2.2.2)]∧ba G' u0 (r.1)∧ba G' u1 (r.2.1)∧ba G' u2 (r.2.2.1)):=by
 obtain⟨_,_,_,_,_,_,_,_,rfl,cZ,dJ,dZ,dB,cQ⟩:=ru
 have D6:=hx.1
 have vB:=hx.2
 have hy1:=hy.1
 have hy2:=hy.2
 have aeH:=oQ.1
 have aeI:=oQ.2
 refine Fc.go [.cell 6 57,.cell 7 57,.cell 8 57,.tmp 9] Tryz.func126 Tryz.ntmps126 rfl (fun w0=>(g9 2 ?_))
 refine W.box (L:=[iV _,iV _,lV _ _ _,lV _ _ _,sV _,.bool _,iV _,iV _,lV _ _ _,lV _ _ _]) rfl rfl (fun kW=>(W.alloc bq (fun b23=>(W.alloc bq (fun b24=>(W.alloc bq (fun b25=>(g9 7 ?_))))))))
 refine W.cM (mL (cc cZ dJ dZ dB cQ) _ (by assumption) (by assumption)) rfl (fun _ _ _ _ _ _ _ _ _ _ _ _ _ _ _ _ G26 LY Wm Wn aJC Wo aFH Wp Wq aJD Wr aFI=>(g9 5 ?_))
 refine W.alloc bq (fun b35=>(W.alloc bq (fun b36=>(g9 13 ?_))))
 refine WC.cond rfl (fun rM=> ?_) (fun rM=> ?_)
 ·refine g9 2 ?_
  refine W.ok (aM (L:=[iV _,iV _,lV _ _ _,lV _ _ _,sV _,.bool _,iV _,iV _,lV _ _ _,lV _ _ _]) ij bq rfl rfl rfl) (W.ok (aM (L:=[iV _,iV _,lV _ _ _,lV _ _ _,sV _,.bool _,iV _,iV _,lV _ _ _,lV _ _ _]) ij bq rfl rfl rfl) (W.ok (aM (L:=[iV _,iV _,lV _ _ _,lV _ _ _,sV _,.bool _,iV _,iV _,lV _ _ _,lV _ _ _]) ij bq rfl rfl rfl) (g9 9 ?_)))
  refine⟨rfl,_,(IX (by simpa using rM)).symm,_,_,_,rfl,?_,?_,?_⟩
  ·exact⟨_,_,_,_,_,_,_,_,rfl,ax.nil,ax.nil,ax.nil,ax.nil,Nd.c6⟩
  ·exact⟨_,_,_,_,_,_,_,_,rfl,ax.nil,ax.nil,ax.nil,ax.nil,Nd.c6⟩
  exact⟨_,_,_,_,_,_,_,_,rfl,ax.nil,ax.nil,ax.nil,ax.nil,Nd.c6⟩
 refine g9 5 ?_
 refine W.alloc bq (fun b37=>(g9 15 ?_))
 refine W.lit (e:=dg) (l:=[_]) (css:=[[sV _]]) dt ft vk rfl rfl rfl rfl rfl rfl ⟨rfl,trivial⟩ (fun axG TX kV Fs=>(g9 8 ?_))
 refine W.lit (e:=bY) (l:=[_,_]) (css:=[[iV _],[iV _]]) cq ci kp rfl rfl rfl rfl rfl rfl ⟨⟨rfl,aa,aa⟩,⟨rfl,aa,aa⟩,trivial⟩ (fun aJE G39 yF C6=>(g9 37 ?_))
 refine WC.cd (fun pU mV=> ?_) (fun pU mV=> ?_)
 ·refine g9 6 ?_
  refine WC.dw ((((((bi.k9.cons _).cons _).cons _).k9).k9).k9) (d9 [0,1,2,3,4,5,6] ?_)
  refine g9 4 ?_
  refine⟨rfl,_,(MT (by simpa using rM) mV).symm,_,_,_,rfl,?_,?_,?_⟩
  ·exact⟨_,_,_,_,_,_,_,_,rfl,(Fs.mono yF),C6,ax.nil,ax.nil,⟨cQ.1,oQ,cQ.2.2⟩⟩
  ·exact⟨_,_,_,_,_,_,_,_,rfl,(Wm.mono aS),(Wn.mono aS),ax.nil,(Wo.mono aS),⟨hx,(show Nd.Ok (aB n y).1 from by assumption).2.1,(show Nd.Ok (aB n y).1 from by assumption).2.2.1,(show Nd.Ok (aB n y).1 from by assumption).2.2.2⟩⟩
  exact⟨_,_,_,_,_,_,_,_,rfl,(Wp.mono aS),(Wq.mono aS),ax.nil,(Wr.mono aS),⟨(show Nd.Ok (aB n y).2.1 from by assumption).1,(show Nd.Ok (aB n y).2.1 from by assumption).2.1,(show Nd.Ok (aB n y).2.1 from by assumption).2.2.1,(show Nd.Ok (aB n y).2.1 from by assumption).2.2.2⟩⟩
 refine g9 12 ?_
 refine WC.dw ((((((bi.k9.cons _).cons _).cons _).k9).k9).k9) (d9 [0,1,2,3,4,5,6] ?_)
 refine g9 4 ?_
 refine⟨rfl,_,(MS (by simpa using rM) mV).symm,_,_,_,rfl,?_,?_,?_⟩
 ·exact⟨_,_,_,_,_,_,_,_,rfl,(Fs.mono yF),C6,(dZ.mono aS),ax.nil,⟨cQ.1,oQ,cQ.2.2⟩⟩
 ·exact⟨_,_,_,_,_,_,_,_,rfl,(Wm.mono aS),(Wn.mono aS),ax.nil,(Wo.mono aS),⟨hx,(show Nd.Ok (aB n y).1 from by assumption).2.1,(show Nd.Ok (aB n y).1 from by assumption).2.2.1,(show i64 0 from⟨by decide,by decide⟩)⟩⟩
 exact⟨_,_,_,_,_,_,_,_,rfl,(Wp.mono aS),(Wq.mono aS),ax.nil,(Wr.mono aS),⟨(show Nd.Ok (aB n y).2.1 from by assumption).1,(show Nd.Ok (aB n y).2.1 from by assumption).2.1,(show Nd.Ok (aB n y).2.1 from by assumption).2.2.1,(show i64 0 from⟨by decide,by decide⟩)⟩⟩

theorem ud(bJ:Int)(aU:Int)(bK:Int)(aI:Int)(aV:Int){n:Nd}(ru:ba G jn n):
    Fc Tryz.prog 102 [.agg #[iV bJ,iV aU,iV bK,iV aI,iV aV],.agg (List.toArray jn)] G [] (fun v _ _=>v=.bool (cw (⟨bJ,aU,bK,aI,aV⟩:aQ) n)):=by
 obtain⟨_,_,_,_,_,_,_,_,rfl,cZ,dJ,dZ,dB,cQ⟩:=ru
 have h1:=cZ.aH
 have h2:=dJ.aH
 have h3:=dZ.aH
 have h4:=dB.aH
 refine Fc.go [.tmp 4] Tryz.func102 Tryz.ntmps102 rfl (fun w0=>(g9 2 ?_))
 refine W.box (L:=[iV _,iV _,iV _,iV _,iV _]) rfl rfl (fun b40=>(W.box (L:=[iV _,iV _,lV _ _ _,lV _ _ _,sV _,.bool _,iV _,iV _,lV _ _ _,lV _ _ _]) rfl rfl (fun b41=>(g9 11 ?_))))
 refine WC.cd (fun h7 p7=> ?_) (fun h7 p7=> ?_)
 ·refine g9 14 ?_
  refine congrArg Value.bool ?_
  first|(rw [cw,if_pos p7];done)|(rw [cw,if_pos p7];first|(simp_all;done)|(simp_all;omega))
 refine g9 15 ?_
 refine congrArg Value.bool ?_
 first|(rw [cw,if_neg p7];done)|(rw [cw,if_neg p7];first|(simp_all;done)|(simp_all;omega))

theorem ue(bJ:Int)(aU:Int)(bK:Int)(aI:Int)(aV:Int){n:Nd}(ru:ba G jn n):
    Fc Tryz.prog 123 [.agg #[iV bJ,iV aU,iV bK,iV aI,iV aV],.agg (List.toArray jn)] G [] (fun v _ _=>v=.bool (cw (⟨bJ,aU,bK,aI,aV⟩:aQ) n)):=by
 obtain⟨_,_,_,_,_,_,_,_,rfl,cZ,dJ,dZ,dB,cQ⟩:=ru
 have h1:=cZ.aH
 have h2:=dJ.aH
 have h3:=dZ.aH
 have h4:=dB.aH
 refine Fc.go [.tmp 4] Tryz.func123 Tryz.ntmps123 rfl (fun w0=>(WC.sr (W.box (L:=[iV _,iV _,iV _,iV _,iV _]) rfl rfl (fun b42=>(W.box (L:=[iV _,iV _,lV _ _ _,lV _ _ _,sV _,.bool _,iV _,iV _,lV _ _ _,lV _ _ _]) rfl rfl (fun b43=>(W.as (W.ns (W.fb Gz rfl (W.ok (ow 0 jk ci rfl) (W.ok (adA rfl rfl) (W.mv ?_))))))))))))
 refine W.sd 8 (fun h7 p7=> ?_) (fun h7 p7=> ?_)
 ·refine W.y9 h7 rfl (W.fb adU rfl (W.y9 h7 rfl (W.ok (ow 0 lc9 aw9 rfl) (W.y9 h7 rfl (W.ok (uR cv dB rfl) (W.y9 h7 rfl (W.fb adT rfl (W.y9 h7 rfl (W.ok (ow 1 jk ci rfl) (W.y9 h7 rfl (W.ok (Gu rfl rfl) (W.ok (nV rfl h7) (W.mv ?_)))))))))))))
  refine W.sd 16 (fun gl gm=> ?_) (fun gl gm=> ?_)
  ·refine W.n8 gl rfl (W.n8 gl rfl (W.n8 gl rfl (W.n8 gl rfl (W.Pm rfl rfl (W.Pm rfl rfl (W.Pm rfl rfl (W.Pm rfl rfl (W.Pm rfl rfl (W.Pm rfl rfl (W.n8 gl rfl (W.ok (nV rfl gl) (W.an (WC.ret ?_)))))))))))))
   refine⟨.inr rfl,[_],⟨rfl,trivial⟩,[],eu,?_⟩
   refine congrArg Value.bool ?_
   first|(rw [cw,if_pos p7];done)|(rw [cw,if_pos p7];first|(simp_all;done)|(simp_all;omega))
  refine W.y9 gl rfl (W.fb Gz rfl (W.y9 gl rfl (W.ok (ow 0 jk ci rfl) (W.y9 gl rfl (W.ok (Po rfl rfl) (W.y9 gl rfl (W.mv ?_)))))))
  refine W.sm 20 (fun fN pQ=> ?_) (fun fN pQ=> ?_)
  ·refine W.y9 fN rfl (W.fb PR rfl (W.y9 fN rfl (W.ok (ow 0 lc9 qS rfl) (W.y9 fN rfl (W.ok (uR cq dJ rfl) (W.y9 fN rfl (W.fb PQ rfl (W.y9 fN rfl (W.ok (ow 1 jk ci rfl) (W.y9 fN rfl (W.ok (Gu rfl rfl) (W.y9 gl rfl (W.ok (nV rfl fN) ?_)))))))))))))
   refine W.ok (jD rfl gl) (W.an (WC.ret ?_))
   refine⟨.inr rfl,[_],⟨rfl,trivial⟩,[],eu,?_⟩
   refine congrArg Value.bool ?_
   first|(rw [cw,if_pos p7];done)|(rw [cw,if_pos p7];first|(simp_all;done)|(simp_all;omega))
  refine W.n8 fN rfl (W.n8 fN rfl (W.n8 fN rfl (W.n8 fN rfl (W.n8 fN rfl (W.n8 fN rfl (W.y9 gl rfl (W.ok (jD rfl fN) (W.ok (jD rfl gl) (W.an (WC.ret ?_))))))))))
  refine⟨.inr rfl,[_],⟨rfl,trivial⟩,[],eu,?_⟩
  refine congrArg Value.bool ?_
  first|(rw [cw,if_pos p7];done)|(rw [cw,if_pos p7];first|(simp_all;done)|(simp_all;omega))
 refine W.n8 h7 rfl (W.n8 h7 rfl (W.n8 h7 rfl (W.n8 h7 rfl (W.n8 h7 rfl (W.n8 h7 rfl (W.ok (jD rfl h7) (W.mv (W.y9 rfl rfl (W.fb Gz rfl (W.y9 rfl rfl (W.ok (ow 0 jk ci rfl) (W.y9 rfl rfl (W.ok (Po rfl rfl) ?_)))))))))))))
 refine W.y9 rfl rfl (W.mv ?_)
 refine W.sm 20 (fun fN pQ=> ?_) (fun fN pQ=> ?_)
 ·refine W.y9 fN rfl (W.fb PR rfl (W.y9 fN rfl (W.ok (ow 0 lc9 qS rfl) (W.y9 fN rfl (W.ok (uR cq dJ rfl) (W.y9 fN rfl (W.fb PQ rfl (W.y9 fN rfl (W.ok (ow 1 jk ci rfl) (W.y9 fN rfl (W.ok (Gu rfl rfl) (W.y9 rfl rfl (W.ok (nV rfl fN) ?_)))))))))))))
  refine W.ok (jD rfl rfl) (W.an (WC.ret ?_))
  refine⟨.inr rfl,[_],⟨rfl,trivial⟩,[],eu,?_⟩
  refine congrArg Value.bool ?_
  first|(rw [cw,if_neg p7];done)|(rw [cw,if_neg p7];first|(simp_all;done)|(simp_all;omega))
 refine W.n8 fN rfl (W.n8 fN rfl (W.n8 fN rfl (W.n8 fN rfl (W.n8 fN rfl (W.n8 fN rfl (W.y9 rfl rfl (W.ok (jD rfl fN) (W.ok (jD rfl rfl) (W.an (WC.ret ?_))))))))))
 refine⟨.inr rfl,[_],⟨rfl,trivial⟩,[],eu,?_⟩
 refine congrArg Value.bool ?_
 first|(rw [cw,if_neg p7];done)|(rw [cw,if_neg p7];first|(simp_all;done)|(simp_all;omega))

variable {ss:List aC} {ae1:Value}
theorem aby(sC:ax vt G ae1 ss):
    Fc Tryz.prog 42 [ae1] G [] (fun v _ _=>v=.bool (decide (xU ss))):=by
 obtain⟨QP,QQ,rfl⟩:=sC.form
 have hl:=sC.aH
 refine Fc.go [.tmp 2] Tryz.func42 Tryz.ntmps42 rfl (fun w0=>(g9 12 ?_))
 refine WC.loop (X:=Nat) (fun i=>[(3,aT i),(0,lV QP ss.length QQ)]) (fun i _ Ml=>Ml=[]∧i≤ss.length∧∀j (h:j<ss.length),j<i→ss[j].n.right=oC ss j) (fun i=>ss.length-i) 0 aZ ?_ ?_
 ·exact⟨rfl,aa,fun j _ h=>by omega⟩
 rintro i DQ G1 _ fL ⟨rfl,hi,gS⟩
 refine g9 9 ?_
 refine WC.cd (fun h8 p8=> ?_) (fun h8 p8=> ?_)
 ·refine g9 18 ?_
  refine W.sd 16 (fun lW nM=> ?_) (fun lW nM=> ?_)
  ·refine g9 7 ?_
   have q5:=(sC.mono fL).at (i:=i+1) aa
   refine match q5 with|⟨_,he2,⟨_,_,_,_,_,_,_,_,aQV,aQW,e_4,aQX,aQY,aQZ,aQ0,aQ1,aOS⟩⟩=> ?_
   subst e_4
   refine W.ok (aY (i:=i+1) H4 FC (sC.mono fL) rfl rfl ⟨aa,aa⟩) (g9 11 ?_)
   have q9:=(sC.mono fL).at (i:=i) aa
   refine match q9 with|⟨_,he6,⟨_,_,_,_,_,_,_,_,aQ2,aQ3,QR,aQ4,aQ5,aQ6,aQ7,aQ8,aOT⟩⟩=> ?_
   subst QR
   refine g9 12 ?_
   refine WC.cd (fun jJ vV=> ?_) (fun jJ vV=> ?_)
   ·refine g9 4 ?_
    have q13:=(sC.mono fL).at (i:=i+1) aa
    refine match q13 with|⟨_,VE,⟨_,_,_,_,_,_,_,_,aOU,aOV,ri,aOW,aOX,aOY,aOZ,aO0,aJF⟩⟩=> ?_
    subst ri
    refine W.ok (aY (i:=i+1) H4 FC (sC.mono fL) rfl rfl ⟨aa,aa⟩) (g9 10 ?_)
    have Em:=(sC.mono fL).at (i:=i) aa
    refine match Em with|⟨_,awV,⟨_,_,_,_,_,_,_,_,aO1,aO2,VF,aO3,aO4,aO5,aO6,aO7,aJG⟩⟩=> ?_
    subst VF
    refine g9 8 ?_
    refine WC.cn (fun h46 Er=> ?_) (fun h46 Er=> ?_)
    ·refine g9 12 ?_
     refine congrArg Value.bool ?_
     exact(decide_eq_false fun h=>by have h:=h i aa;rw [UN aa vV]at h;exact Er h).symm
    refine g9 9 ?_
    exact⟨Le.rfl,i+1,aZ,⟨rfl,aa,fun j h hj=>by
      by_cases e:j=i
      ·subst e;rw [UN aa vV];exact Er
      ·exact gS j h aa⟩,aa⟩
   refine g9 6 ?_
   have q21:=(sC.mono fL).at (i:=i) aa
   refine match q21 with|⟨_,Tv,⟨_,_,_,_,_,_,_,_,aO8,aO9,tU,aPa,aPb,aPc,aPd,aPe,aJH⟩⟩=> ?_
   subst tU
   refine g9 8 ?_
   refine WC.cn (fun h46 Er=> ?_) (fun h46 Er=> ?_)
   ·refine g9 12 ?_
    refine congrArg Value.bool ?_
    exact(decide_eq_false fun h=>by have h:=h i aa;rw [UO aa vV]at h;exact Er h).symm
   refine g9 9 ?_
   exact⟨Le.rfl,i+1,aZ,⟨rfl,aa,fun j h hj=>by
      by_cases e:j=i
      ·subst e;rw [UO aa vV];exact Er
      ·exact gS j h aa⟩,aa⟩
  refine g9 24 ?_
  have QT:=(sC.mono fL).at (i:=i) aa
  refine match QT with|⟨_,H6,⟨_,_,_,_,_,_,_,_,aPf,aPg,rA,aPh,aPi,aPj,aPk,aPl,aJI⟩⟩=> ?_
  subst rA
  refine g9 8 ?_
  refine WC.cn (fun h46 Er=> ?_) (fun h46 Er=> ?_)
  ·refine g9 12 ?_
   refine congrArg Value.bool ?_
   exact(decide_eq_false fun h=>by have h:=h i aa;rw [xV aa]at h;exact Er h).symm
  refine g9 9 ?_
  exact⟨Le.rfl,i+1,aZ,⟨rfl,aa,fun j h hj=>by
      by_cases e:j=i
      ·subst e;rw [xV aa];exact Er
      ·exact gS j h aa⟩,aa⟩
 refine g9 12 ?_
 refine congrArg Value.bool ?_
 exact(decide_eq_true (fun j h=>gS j h aa)).symm

variable {l:List Nd}
theorem amV(az:ax bU G bN l)(sC:ax vt G ae1 ss):
    Fc Tryz.prog 41 [bN,ae1] G [] (fun v _ _=>v=.bool (decide (Ip l ss))):=by
 obtain⟨aW,aX,rfl⟩:=az.form
 obtain⟨QP,QQ,rfl⟩:=sC.form
 have hl:=az.aH
 have CK:=sC.aH
 refine Fc.go [.tmp 4] Tryz.func41 Tryz.ntmps41 rfl (fun w0=>(g9 15 ?_))
 refine WC.cn (fun dL ji=> ?_) (fun dL ji=> ?_)
 ·refine g9 8 ?_
  refine congrArg Value.bool ?_
  exact(decide_eq_false fun h=>by have:=h.1;omega).symm
 refine g9 9 ?_
 refine WC.loop (X:=Nat) (fun i=>[(5,aT i),(0,lV aW l.length aX),(1,lV QP ss.length QQ)]) (fun i _ Ml=>Ml=[]∧i≤l.length∧∀j (h:j<l.length),j<i→(pW ss l[j].slot).length=1) (fun i=>l.length-i) 0 aZ ?_ ?_
 ·exact⟨rfl,aa,fun j _ h=>by omega⟩
 rintro i axH G26 _ LY ⟨rfl,hi,gS⟩
 refine g9 9 ?_
 refine WC.cd (fun fU gX=> ?_) (fun fU gX=> ?_)
 ·refine g9 16 ?_
  refine WC.loop (X:=Nat) (fun j=>[(6,aT ((pW (ss.take j) (l[i]'aa).slot).length)),(7,aT j),(0,lV aW l.length aX),(1,lV QP ss.length QQ),(5,aT i)]) (fun j _ Ml=>Ml=[]∧j≤ss.length) (fun j=>ss.length-j) 0 aZ ?_ ?_
  ·exact⟨rfl,aa⟩
  rintro j axw G27 _ yC ⟨rfl,hj⟩
  have CI:=aaE ss (l[i]'aa).slot j
  refine g9 9 ?_
  refine WC.cd (fun m7 m8=> ?_) (fun m7 m8=> ?_)
  ·refine g9 8 ?_
   have q31:=(sC.mono (LY.trans yC)).at (i:=j) aa
   refine match q31 with|⟨_,aIK,⟨_,_,_,_,_,_,_,_,aPm,aPn,Ws,aPo,aPp,aPq,aPr,aPs,aJJ⟩⟩=> ?_
   subst Ws
   refine g9 6 ?_
   refine(az.mono (LY.trans yC)).aN (i:=i) aa (fun _ _ _ _ _ _ _ _ Uq aPt aPu aPv aPw aJK=>(g9 6 ?_))
   refine WC.cd (fun ve oO=> ?_) (fun ve oO=> ?_)
   ·refine g9 13 ?_
    exact⟨Le.rfl,j+1,⟨(congrArg (fun n:Nat=>Value.int .i64 (n:Int)) (by rw [ale aa oO];simp)),eqv,eqv,eqv,eqv,trivial⟩,⟨rfl,aa⟩,aa⟩
   refine g9 9 ?_
   exact⟨Le.rfl,j+1,⟨(congrArg (fun n:Nat=>Value.int .i64 (n:Int)) (by rw [alf aa oO])),eqv,eqv,eqv,eqv,trivial⟩,⟨rfl,aa⟩,aa⟩
  refine g9 11 ?_
  refine WC.cn (fun Bs Gq=> ?_) (fun Bs Gq=> ?_)
  ·refine g9 12 ?_
   refine congrArg Value.bool ?_
   exact(decide_eq_false fun h=>(by have h0:=h.2 i aa;have h1:=Gq;rw [List.take_of_length_le aa]at h1;omega)).symm
  refine g9 9 ?_
  exact⟨yC,i+1,aZ,⟨rfl,aa,fun j h hj=>by
      by_cases e:j=i
      ·subst e;have h0:=Gq;rw [List.take_of_length_le aa]at h0;omega
      ·exact gS j h aa⟩,aa⟩
 refine g9 12 ?_
 refine congrArg Value.bool ?_
 exact(decide_eq_true ⟨aa,fun j h=>gS j h aa⟩).symm

theorem abz{wB:List Value}{x:aC}(Qm:A8 G wB x)(j3:∀m∈x.n.af,m.key.b.size<140737488355328):
    Fc Tryz.prog 44 [.agg (List.toArray wB)] G [] (fun v _ _=>v=.bool (decide (pj x))):=by
 obtain⟨wC,wD,wE,wF,wG,wH,wI,wJ,amW,amX,rfl,yk,CL,AA,AB,aUD,yl⟩:=Qm
 have h1:=yk.aH
 have h2:=CL.aH
 have h3:=AA.aH
 have h4:=AB.aH
 refine Fc.go [.tmp 2] Tryz.func44 Tryz.ntmps44 rfl (fun w0=>(g9 2 ?_))
 refine W.box (L:=[iV _,iV _,lV _ _ _,lV _ _ _,sV _,.bool _,iV _,iV _,lV _ _ _,lV _ _ _,sV _,sV _,.bool _,lV _ _ _]) rfl rfl (fun b36=>(g9 12 ?_))
 refine W.ok (Vx bo4 rfl rfl) (W.mv ?_)
 refine W.sp 14 rfl (fun jc=> ?_) (fun jc=> ?_)
 ·refine g9 19 ?_
  refine congrArg Value.bool ?_
  exact(decide_eq_false fun h=>by have h1:=h.1.1;rw [h1]at jc;simp at jc).symm
 refine g9 17 ?_
 refine WC.cn (fun mS Ce=> ?_) (fun mS Ce=> ?_)
 ·refine g9 8 ?_
  refine congrArg Value.bool ?_
  exact(decide_eq_false fun h=>by have h1:=h.1.2;rw [h1]at mS;simp at mS).symm
 refine g9 9 ?_
 refine WC.loop (X:=Nat) (fun k=>[(3,aT k),(1,aq b36)]) (fun k _ Ml=>Ml=[(b36,aj 92 [iV x.n.slot,iV x.n.level,lV wC (x.n.ab).length wD,lV wE (x.n.kids).length wF,sV x.n.high.b,.bool x.n.cW,iV x.n.right,iV x.n.seen,lV wG (x.n.af).length wH,lV wI (x.n.rows).length wJ,sV (x.s).lo.b,sV (x.s).hi.b,.bool (x.s).bT,lV amW (x.ms).length amX])]∧∀i (h:i<x.n.rows.length),i<k→x.s.has x.n.rows[i].key=true) (fun k=>x.n.rows.length-k) 0 aZ ?_ ?_
 ·exact⟨rfl,fun i _ h=>by omega⟩
 rintro k aJL G37 _ wq ⟨rfl,wX⟩
 refine g9 11 ?_
 refine WC.cd (fun wT pO=> ?_) (fun wT pO=> ?_)
 ·refine g9 12 ?_
  refine(AB.mono wq).a1 (i:=k) aa (fun aJM=>(g9 3 ?_))
  refine W.ay (zq _ _ _ _) rfl (g9 3 ?_)
  refine WC.cond rfl (fun mT=> ?_) (fun mT=> ?_)
  ·refine g9 12 ?_
   refine congrArg Value.bool ?_
   exact(decide_eq_false fun h=>by have h1:=h.2.1 k aa;rw [h1]at mT;simp at mT).symm
  refine g9 9 ?_
  exact⟨Le.rfl,k+1,aZ,⟨rfl,fun i h hi=>by
      by_cases e:i=k
      ·subst e;simpa using mT
      ·exact wX i h aa⟩,aa⟩
 refine g9 12 ?_
 refine WC.loop (X:=Nat) (fun k=>[(4,aT k),(1,aq b36)]) (fun k _ Ml=>Ml=[(b36,aj 92 [iV x.n.slot,iV x.n.level,lV wC (x.n.ab).length wD,lV wE (x.n.kids).length wF,sV x.n.high.b,.bool x.n.cW,iV x.n.right,iV x.n.seen,lV wG (x.n.af).length wH,lV wI (x.n.rows).length wJ,sV (x.s).lo.b,sV (x.s).hi.b,.bool (x.s).bT,lV amW (x.ms).length amX])]∧∀i (h:i<x.n.ab.length),i<k→x.s.has x.n.ab[i]=true∧x.n.ab[i]≠x.s.lo) (fun k=>x.n.ab.length-k) 0 aZ ?_ ?_
 ·exact⟨rfl,fun i _ h=>by omega⟩
 rintro k aUE G41 _ yG ⟨rfl,j6⟩
 refine g9 11 ?_
 refine WC.cond rfl (fun pU=> ?_) (fun pU=> ?_)
 ·have mV:=va pU
  refine g9 12 ?_
  refine(yk.mono (wq.trans yG)).a1 (i:=k) aa (fun aUF=>(g9 2 ?_))
  refine W.ay (zq _ _ _ _) rfl (g9 2 ?_)
  refine W.sp 60 rfl (fun h59=> ?_) (fun h59=> ?_)
  ·refine g9 26 ?_
   refine congrArg Value.bool ?_
   exact(decide_eq_false fun h=>by have h1:=(h.2.2.1 k aa).1;rw [h1]at h59;simp at h59).symm
  refine g9 9 ?_
  refine(yk.mono (wq.trans yG)).a1 (i:=k) aa (fun axr=>(g9 14 ?_))
  refine WC.cd (fun QO p70=> ?_) (fun QO p70=> ?_)
  ·refine g9 12 ?_
   refine congrArg Value.bool ?_
   exact(decide_eq_false fun h=>by have h1:=(h.2.2.1 k aa).2;exact h1 (ah.ext' p70)).symm
  refine g9 9 ?_
  exact⟨Le.rfl,k+1,aZ,⟨rfl,fun i h hi=>by
      by_cases e:i=k
      ·subst e;exact⟨by simpa using h59,fun e=>p70 (congrArg ah.b e)⟩
      ·exact j6 i h aa⟩,aa⟩
 have mV:=sU pU
 refine g9 12 ?_
 refine WC.loop (X:=Nat) (fun k=>[(5,aT k),(1,aq b36)]) (fun k _ Ml=>Ml=[(b36,aj 92 [iV x.n.slot,iV x.n.level,lV wC (x.n.ab).length wD,lV wE (x.n.kids).length wF,sV x.n.high.b,.bool x.n.cW,iV x.n.right,iV x.n.seen,lV wG (x.n.af).length wH,lV wI (x.n.rows).length wJ,sV (x.s).lo.b,sV (x.s).hi.b,.bool (x.s).bT,lV amW (x.ms).length amX])]∧∀i (h:i<x.n.af.length),i<k→x.n.af[i].span.bE x.s=x.n.af[i].span.norm) (fun k=>x.n.af.length-k) 0 aZ ?_ ?_
 ·exact⟨rfl,fun i _ h=>by omega⟩
 rintro k axI G48 _ CR ⟨rfl,sN⟩
 refine g9 11 ?_
 refine WC.cond rfl (fun h77=> ?_) (fun h77=> ?_)
 ·have qa:=va h77
  refine g9 10 ?_
  refine(AA.mono ((wq.trans yG).trans CR)).a2 (i:=k) aa (fun axs alY=>(g9 2 ?_))
  refine W.ay (my _ _ _ _ _ _ (j3 _ (List.getElem_mem _))) rfl (W.alloc dY (fun VC=>(g9 8 ?_)))
  refine W.ay (om _ _ _ _ _ _) rfl (g9 1 ?_)
  refine W.ay (jg _ _ _) rfl (W.ok (HA (L1:=[sV _,sV _,.bool _]) (L2:=[sV _,sV _,.bool _]) aHN rfl rfl rfl rfl) (g9 2 ?_))
  refine WC.cond rfl (fun h93=> ?_) (fun h93=> ?_)
  ·refine g9 12 ?_
   refine congrArg Value.bool ?_
   exact(decide_eq_false fun h=>by have h1:=h.2.2.2 k aa;have h0:(!dy (((x.n.af[k]).span.bE x.s).cells) ((x.n.af[k]).span.norm.cells))=true:=h93;rw [Span.eqC,h1]at h0;simp at h0).symm
  refine g9 7 ?_
  refine W.sub (bi.cons _) (g9 2 ?_)
  exact⟨Le.rfl,k+1,aZ,⟨rfl,fun i h hi=>by
      by_cases e:i=k
      ·subst e;have h0:(!dy (((x.n.af[i]).span.bE x.s).cells) ((x.n.af[i]).span.norm.cells))=false:=h93;rw [Span.eqC]at h0;simpa using h0
      ·exact sN i h aa⟩,aa⟩
 have qa:=sU h77
 refine g9 12 ?_
 refine congrArg Value.bool ?_
 exact(decide_eq_true ⟨⟨by simpa using jc,ah.ext' Ce⟩,(fun i h=>wX i h aa),(fun i h=>j6 i h aa),fun i h=>sN i h aa⟩).symm

theorem EJ(bJ:Int)(aU:Int)(bK:Int)(aI:Int)(aV:Int)(az:ax bU G bN l)(hS:sW l):
    Fc Tryz.prog 14 [.agg #[iV bJ,iV aU,iV bK,iV aI,iV aV],bN] G [] (fun v _ _=>v=.bool (qs (⟨bJ,aU,bK,aI,aV⟩:aQ) l)):=by
 obtain⟨aW,aX,rfl⟩:=az.form
 have hl:=az.aH
 have Ji:=hS.1
 refine Fc.go [.tmp 4] Tryz.func14 Tryz.ntmps14 rfl (fun w0=>(g9 2 ?_))
 refine W.box (L:=[iV _,iV _,iV _,iV _,iV _]) rfl rfl (fun b55=>(g9 6 ?_))
 refine W.call (Mp:=[]) (ahl az _ (by assumption)) rfl ai ?_
 intro v58 G56 _ AE q57
 have QU:=q57.1
 subst QU
 have q60:=q57.2
 refine Or.elim q60 (fun q61=> ?_) (fun q62=> ?_)
 ·refine match q61 with|⟨aQ9,ss,Wt,Jw,C7,hqs⟩=> ?_
  subst Jw
  have QV:=C7.form
  refine match QV with|⟨ae2,ae3,CS⟩=> ?_
  subst CS
  have aRa:=C7.aH
  refine g9 18 ?_
  refine W.ay (amV (az.mono AE) C7) rfl (g9 4 ?_)
  refine W.sp 23 rfl (fun mS=> ?_) (fun mS=> ?_)
  ·refine g9 22 ?_
   refine congrArg Value.bool ?_
   rw [kQ Wt]
   exact(decide_eq_false fun h=>by have h1:=h.1.1;simp [h1]at mS).symm
  refine g9 3 ?_
  refine W.ay (aby C7) rfl (g9 4 ?_)
  refine W.sp 28 rfl (fun sJ=> ?_) (fun sJ=> ?_)
  ·refine g9 17 ?_
   refine congrArg Value.bool ?_
   rw [kQ Wt]
   exact(decide_eq_false fun h=>by have h1:=h.1.2.1;simp [h1]at sJ).symm
  refine g9 13 ?_
  refine WC.cd (fun j8 rB=> ?_) (fun j8 rB=> ?_)
  ·refine g9 8 ?_
   refine congrArg Value.bool ?_
   rw [kQ Wt]
   exact(decide_eq_false fun h=>by have h1:=h.1.2.2;dsimp only at h1;omega).symm
  refine g9 9 ?_
  refine WC.loop (X:=Nat) (fun i=>[(7,aT i),(2,aq b55),(5,lV ae2 ss.length ae3)]) (fun i _ Ml=>Ml=[(b55,aj 23 [iV bJ,iV aU,iV bK,iV aI,iV aV])]∧i≤ss.length∧∀j (h:j<ss.length),j<i→vz (⟨bJ,aU,bK,aI,aV⟩:aQ) ss[j]) (fun i=>ss.length-i) 0 aZ ?_ ?_
  ·exact⟨rfl,aa,fun j _ h=>by omega⟩
  rintro i aUG G67 _ Ja ⟨rfl,hi,gS⟩
  refine g9 9 ?_
  refine WC.cond rfl (fun AY=> ?_) (fun AY=> ?_)
  ·have tA:=va AY
   refine g9 8 ?_
   have q71:=(C7.mono Ja).at (i:=i) aa
   refine match q71 with|⟨_,akd,⟨avb,avc,avd,ave,avf,avg,avh,avi,avj,avk,Wu,QW,QX,QY,QZ,Q0,JB⟩⟩=> ?_
   subst Wu
   obtain⟨sx,qg⟩:∃y,y=((ss)[i]):=⟨_,rfl⟩
   rw [←qg]at akd QW QX QY QZ Q0 JB
   refine g9 2 ?_
   refine W.alloc H5 (fun b72=>(g9 5 ?_))
   have QA:=hqs i aa
   rw [←qg]at QA
   have oJ:=QA.ms
   have m3:=hS.at QA.nd
   have wX:∀m∈sx.n.af,m.key.b.size<140737488355328:=fun m hm=>by have:=m3.2.2.2.2.2.1 m hm;omega
   refine g9 4 ?_
   refine W.ay (abk _ _ _ _ _ (cc QW QX QY QZ JB)) rfl (g9 2 ?_)
   refine W.sp 50 rfl (fun Qo=> ?_) (fun Qo=> ?_)
   ·refine g9 28 ?_
    refine congrArg Value.bool ?_
    rw [kQ Wt]
    exact(decide_eq_false fun h=>by have h1:=(h.2 i aa).1;rw [←qg]at h1;dsimp only at h1;simp [h1]at Qo).symm
   refine g9 3 ?_
   refine W.ay (abz ⟨_,_,_,_,_,_,_,_,_,_,rfl,QW,QX,QY,QZ,Q0,JB⟩ wX) rfl (g9 4 ?_)
   refine W.sp 55 rfl (fun Ev=> ?_) (fun Ev=> ?_)
   ·refine g9 23 ?_
    refine congrArg Value.bool ?_
    rw [kQ Wt]
    exact(decide_eq_false fun h=>by have h1:=(h.2 i aa).2.1;rw [←qg]at h1;simp [h1]at Ev).symm
   refine g9 15 ?_
   refine WC.cd (fun HM tH=> ?_) (fun HM tH=> ?_)
   ·refine g9 13 ?_
    refine congrArg Value.bool ?_
    rw [kQ Wt]
    exact(decide_eq_false fun h=>by have h1:=(h.2 i aa).2.2.1;rw [←qg]at h1;dsimp only at h1;omega).symm
   refine g9 8 ?_
   refine WC.loop (X:=Nat) (fun j=>[(9,aT j),(2,aq b55),(8,aq b72),(5,lV ae2 ss.length ae3),(7,aT i)]) (fun j _ Ml=>Ml=[(b72,aj 92 [iV sx.n.slot,iV sx.n.level,lV avb (sx.n.ab).length avc,lV avd (sx.n.kids).length ave,sV sx.n.high.b,.bool sx.n.cW,iV sx.n.right,iV sx.n.seen,lV avf (sx.n.af).length avg,lV avh (sx.n.rows).length avi,sV (sx.s).lo.b,sV (sx.s).hi.b,.bool (sx.s).bT,lV avj (sx.ms).length avk]),(b55,aj 23 [iV bJ,iV aU,iV bK,iV aI,iV aV])]∧∀j2 (h:j2<sx.ms.length),j2<j→sx.n.seen<sx.ms[j2].aO) (fun j=>sx.ms.length-j) 0 aZ ?_ ?_
   ·exact⟨rfl,fun i _ h=>by omega⟩
   rintro j aUH G73 _ CT ⟨rfl,axJ⟩
   refine g9 10 ?_
   refine WC.cond rfl (fun EK=> ?_) (fun EK=> ?_)
   ·have Lz:=va EK
    refine g9 9 ?_
    refine(Q0.mono CT).a2 (i:=j) aa (fun aUI aUJ=>(g9 9 ?_))
    refine WC.cd (fun h79 p79=> ?_) (fun h79 p79=> ?_)
    ·refine g9 16 ?_
     refine congrArg Value.bool ?_
     rw [kQ Wt]
     exact(decide_eq_false fun h=>by have h1:=(h.2 i aa).2.2.2;rw [←qg]at h1;have:=h1 j aa;omega).symm
    refine g9 9 ?_
    exact⟨Le.rfl,j+1,aZ,⟨rfl,fun i2 h Bt=>by
      by_cases e:i2=j
      ·subst e;omega
      ·exact axJ i2 h aa⟩,aa⟩
   have Lz:=sU EK
   refine g9 10 ?_
   refine W.sub (bi.cons _) (g9 2 ?_)
   exact⟨CT,i+1,aZ,⟨rfl,aa,fun j2 h hj2=>by
      by_cases e:j2=i
      ·subst e;rw [←qg];exact⟨by simpa using Qo,by simpa using Ev,by dsimp only;omega,fun j2 h2=>axJ j2 h2 aa⟩
      ·exact gS j2 h aa⟩,aa⟩
  have tA:=sU AY
  refine g9 12 ?_
  refine congrArg Value.bool ?_
  rw [kQ Wt]
  exact(decide_eq_true ⟨⟨by simpa using mS,by simpa using sJ,by dsimp only;omega⟩,fun j h=>gS j h aa⟩).symm
 refine match q62 with|⟨aRb,aRc,hsn,Wv,aPx⟩=> ?_
 subst Wv
 refine g9 41 ?_
 refine congrArg Value.bool ?_
 exact(agZ hsn).symm

theorem amY(bJ:Int)(aU:Int)(bK:Int)(aI:Int)(aV:Int)(az:ax bU G bN l)(most:Int)(hm:0≤most∧most≤60):
    Fc Tryz.prog 4 [.agg #[iV bJ,iV aU,iV bK,iV aI,iV aV],bN,iV most] G [] (fun v _ _=>v=.bool (vA (⟨bJ,aU,bK,aI,aV⟩:aQ) l most)):=by
 obtain⟨aW,aX,rfl⟩:=az.form
 have hl:=az.aH
 refine Fc.go [.tmp 6] Tryz.func4 Tryz.ntmps4 rfl (fun w0=>(g9 2 ?_))
 refine W.box (L:=[iV _,iV _,iV _,iV _,iV _]) rfl rfl (fun b81=>(g9 7 ?_))
 refine W.ay (Qn _ _ _ _ _) rfl (g9 2 ?_)
 refine W.sp 11 rfl (fun eM=> ?_) (fun eM=> ?_)
 ·refine g9 21 ?_
  refine congrArg Value.bool ?_
  exact(xW fun h=>by have h1:=h.1;simp [h1]at eM).symm
 refine g9 8 ?_
 refine W.sd 16 (fun gl gm=> ?_) (fun gl gm=> ?_)
 ·refine g9 16 ?_
  refine congrArg Value.bool ?_
  exact(xW fun h=>by have h1:=h.2.1;omega).symm
 refine g9 5 ?_
 refine W.ay (ahj az _ _ aa) rfl (g9 5 ?_)
 refine WC.cond rfl (fun gD=> ?_) (fun gD=> ?_)
 ·refine g9 8 ?_
  refine congrArg Value.bool ?_
  exact(xW fun h=>by have h1:=h.2.2.1;simp [h1]at gD).symm
 have hS:sW l:=It (by simpa using gD) aa
 refine g9 9 ?_
 refine WC.loop (X:=Nat) (fun i=>[(7,aT i),(3,aq b81),(1,lV aW l.length aX)]) (fun i _ Ml=>Ml=[(b81,aj 23 [iV bJ,iV aU,iV bK,iV aI,iV aV])]∧i≤l.length∧∀j (h:j<l.length),j<i→l[j].slot=(j:Int)∧l[j].seen≤1099511627776) (fun i=>l.length-i) 0 aZ ?_ ?_
 ·exact⟨rfl,aa,fun j _ h=>by omega⟩
 rintro i aUK G82 _ ae4 ⟨rfl,hi,gS⟩
 refine g9 9 ?_
 refine WC.cd (fun pN xA=> ?_) (fun pN xA=> ?_)
 ·refine g9 8 ?_
  refine(az.mono ae4).aN (i:=i) aa (fun _ _ _ _ _ _ _ _ aUL aPy aPz aPA aPB aJN=>(g9 6 ?_))
  refine W.sm 35 (fun nN qT=> ?_) (fun nN qT=> ?_)
  ·refine g9 22 ?_
   refine congrArg Value.bool ?_
   exact(xW fun h=>by have h1:=(h.2.2.2 i aa).1;omega).symm
  refine g9 5 ?_
  refine(az.mono ae4).aN (i:=i) aa (fun _ _ _ _ _ _ _ _ aJO avl avm avn avo amZ=>(g9 10 ?_))
  refine WC.cd (fun mT vp=> ?_) (fun mT vp=> ?_)
  ·refine g9 12 ?_
   refine congrArg Value.bool ?_
   exact(xW fun h=>by have h1:=(h.2.2.2 i aa).2;omega).symm
  refine g9 9 ?_
  exact⟨Le.rfl,i+1,aZ,⟨rfl,aa,fun j h hj=>by
      by_cases e:j=i
      ·subst e;omega
      ·exact gS j h aa⟩,aa⟩
 refine g9 9 ?_
 refine W.ay (EJ _ _ _ _ _ (az.mono ae4) hS) rfl (g9 5 ?_)
 refine congrArg Value.bool ?_
 exact(alg (by simpa using eM) aa (by simpa using gD) fun j h=>gS j h aa).symm

variable {M:MH} {b:Nat} {cs:List Value} {x:Nd}
theorem Nu{c:aQ}(h:eJ 57 4 3 145 99 b c G l M)(hr:l.length<c.aL.toNat)(hx:ba G cs x)(k:Int)(hk:k=l.length):Fc Tryz.prog 58 [aq b,.agg (List.toArray cs)] G M (fun v G' M'=>v=.tuple #[iV k,iV 0]∧eJ 57 4 3 145 99 b c G' (tk l x) M'):=
  (El h hx).mono fun v G' M' _ ⟨e1,e2⟩=>by rw [Vm hr]at e1 e2;exact⟨by rw [e1,hk],e2⟩
theorem rC{c:aQ}(h:eJ 57 4 3 145 99 b c G l M)(hs:0≤x.slot∧x.slot<l.length)(hx:ba G cs x):Fc Tryz.prog 59 [aq b,.agg (List.toArray cs)] G M (fun v G' M'=>v=iV 0∧eJ 57 4 3 145 99 b c G' (l.set x.slot.toNat x) M'):=
  (I7 h hx).mono fun v G' M' _ ⟨e1,e2⟩=>by rw [Cj hs]at e1 e2;exact⟨e1,e2⟩
theorem eJ.to{c:aQ}{l':List Nd}(h:eJ 57 4 3 145 99 b c G l M)(e:l=l'):eJ 57 4 3 145 99 b c G l' M:=e▸h
variable {de:MH} {b_s:Nat}
theorem ahQ{c c2:aQ}(ec:eJ 57 4 3 145 99 b_s c G l de)(t:Tree c2 l ss):
    Fc Tryz.prog 64 [aq b_s] G de (fun v G' M'=>v=iV (cG c l).1∧eJ 57 4 3 145 99 b_s c G' (cG c l).2 M'):=by
 have hp0:=t.pos
 have Ji:=t.xa.1
 have hrn:=t.oD
 have xo:(ag l 0).slot=0:=by rw [←hrn];exact t.qY
 have am0:=t.ad1
 rw [hrn]at am0
 have am1:=t.lvl t.root
 rw [hrn]at am1
 have hz0:i64 0:=⟨by decide,by decide⟩
 have oQ:i64 ((ag l 0).level+1):=⟨aa,aa⟩
 have j3:∀m∈(ag l 0).af,m.key.b.size<140737488355328:=fun m hm=>by rw [←hrn]at hm;have:=(eR ((t.af t.root).2.1 m hm)).1;omega
 have hxi:i64 (l.length:Int):=⟨aa,aa⟩
 have JC:i64 ((l.length:Int)+1):=⟨aa,aa⟩
 refine Fc.go [.tmp 2] Tryz.func64 Tryz.ntmps64 rfl (fun w0=>(WC.perm (M':=(de++[])) (by simp) (g9 8 ?_)))
 refine W.call (Mp:=de) (tW ec _) rfl ai ?_
 intro v12 G9 TZ HK q10
 refine match q10 with|⟨⟨_,Jl,⟨_,_,_,_,_,_,_,_,am2,C8,C9,Da,Db,zY⟩⟩,abA⟩=> ?_
 subst Jl
 subst am2
 have abA:=abA.symm
 subst abA
 refine g9 3 ?_
 refine W.alloc bq (fun b16=>(g9 11 ?_))
 refine WC.cn (fun AV DR=> ?_) (fun AV DR=> ?_)
 ·try dsimp only at DR
  exfalso;omega
 try dsimp only at DR
 refine g9 6 ?_
 refine W.call (Mp:=[]) (Nt (cc C8 C9 Da Db zY) 0 0 (by assumption) (by assumption) oQ j3) rfl ai ?_
 intro _ G17 _ rY q21
 refine match q21 with|⟨Dc,_,uf,_,_,_,rA,yw,Fy,tE⟩=> ?_
 subst Dc
 subst uf
 subst rA
 refine match yw with|⟨_,_,_,_,_,_,_,_,pB,aJP,aJQ,aJR,aJS,aFJ⟩=> ?_
 subst pB
 refine match Fy with|⟨_,_,_,_,_,_,_,_,yH,Ww,Wx,Wy,Wz,zZ⟩=> ?_
 subst yH
 refine match tE with|⟨_,_,_,_,_,_,_,_,CY,aJT,aJU,aJV,aJW,aFK⟩=> ?_
 subst CY
 refine g9 5 ?_
 refine W.alloc bq (fun xy=>(W.alloc bq (fun b29=>(W.alloc bq (fun b30=>(g9 12 ?_))))))
 refine WC.cond rfl (fun rO=> ?_) (fun rO=> ?_)
 ·refine g9 7 ?_
  refine⟨.inr rfl,[_],⟨rfl,trivial⟩,de,((((List.sublist_append_left _ _).cons _).cons _).cons _).cons _,?_⟩
  exact⟨congrArg (fun p:Int×List Nd=>Value.int .i64 p.1) (px (by simpa using rO)).symm,eJ.to (eJ.mono aS ec) (congrArg Prod.snd (px (by simpa using rO))).symm⟩
 have nJ:(cP (ag l 0) 0 0).2.2.2=true:=by simpa using rO
 obtain⟨A1,hs2,Q3⟩:=Ql (x:=(l.length:Int)) (y:=(l.length:Int)+1) nJ
 rw [xo]at A1
 refine g9 6 ?_
 refine W.call (Mp:=de) (ahf (eJ.mono aS ec)) rfl (ae (ae (ae (ae ai)))) ?_
 intro v34 G31 ae5 axt Q4
 refine match Q4 with|⟨WA,abB⟩=> ?_
 subst WA
 have abB:=abB.symm
 subst abB
 refine W.perm (ae (ae (ae (ae ai)))).symm (g9 3 ?_)
 refine WC.cd (fun Lx p35=> ?_) (fun Lx p35=> ?_)
 ·try dsimp only at p35
  refine g9 7 ?_
  refine⟨.inr rfl,[_],⟨rfl,trivial⟩,de,((((List.sublist_append_left _ _).cons _).cons _).cons _).cons _,?_⟩
  exact⟨congrArg (fun p:Int×List Nd=>Value.int .i64 p.1) (py nJ aa).symm,eJ.to (eJ.mono aS ec) (congrArg Prod.snd (py nJ aa)).symm⟩
 try dsimp only at p35
 refine g9 6 ?_
 refine W.call (Mp:=de) (Nu (eJ.mono aS ec) aa (fy aS C8 C9 Da Db zY) (l.length:Int) (by rfl)) rfl (ae (ae (ae (ae ai)))) ?_
 intro v40 G37 sD wq Qr
 refine match Qr with|⟨CW,aJX⟩=> ?_
 subst CW
 refine W.perm (ae (ae (ae (ae ai)))).symm (g9 11 ?_)
 refine W.call (Mp:=sD) (Nu aJX (by rw [si];omega) (fy aS C8 C9 Da Db zY) ((l.length:Int)+1) (by rw [si];omega)) rfl (ae (ae (ae (ae ai)))) ?_
 intro v46 G43 wl AD Jd
 refine match Jd with|⟨JD,WB⟩=> ?_
 subst JD
 refine W.perm (ae (ae (ae (ae ai)))).symm (g9 12 ?_)
 refine W.call (Mp:=[]) (Nt (fy aS C8 C9 Da Db zY) _ _ (by assumption) (by assumption) oQ j3) rfl ai ?_
 intro _ G49 _ yt q53
 refine match q53 with|⟨am3,_,yI,_,_,_,WE,aJY,Jv,Jj⟩=> ?_
 subst am3
 subst yI
 subst WE
 refine match aJY with|⟨_,_,_,_,_,_,_,_,WG,am4,am5,am6,am7,ahR⟩=> ?_
 subst WG
 refine match Jv with|⟨_,_,_,_,_,_,_,_,JE,WH,WI,WJ,WK,Nv⟩=> ?_
 subst JE
 refine match Jj with|⟨_,_,_,_,_,_,_,_,C1,am8,am9,ana,anb,ahS⟩=> ?_
 subst C1
 refine g9 5 ?_
 refine W.alloc bq (fun b60=>(W.alloc bq (fun b61=>(W.alloc bq (fun b62=>(g9 10 ?_))))))
 refine W.call (Mp:=wl) (rC (eJ.mono yt WB) (by simp only [List.length_set,si];omega) (cc am4 am5 am6 am7 ahR)) rfl (ae (ae (ae (ae (ae (ae (ae ai))))))) ?_
 intro v66 G63 WL axK q64
 refine match q64 with|⟨WM,aJZ⟩=> ?_
 subst WM
 refine W.perm (ae (ae (ae (ae (ae (ae (ae ai))))))).symm (g9 6 ?_)
 refine W.call (Mp:=WL) (rC aJZ (by simp only [List.length_set,si];omega) (fy axK WH WI WJ WK Nv)) rfl (ae (ae (ae (ae (ae (ae (ae ai))))))) ?_
 intro v72 G69 alL aIa q70
 refine match q70 with|⟨Wh,aJ0⟩=> ?_
 subst Wh
 refine W.perm (ae (ae (ae (ae (ae (ae (ae ai))))))).symm (g9 6 ?_)
 refine W.call (Mp:=alL) (rC aJ0 (by simp only [List.length_set,si];omega) (fy aS am8 am9 ana anb ahS)) rfl (ae (ae (ae (ae (ae (ae (ae ai))))))) ?_
 intro v78 G75 adH aUM q76
 refine match q76 with|⟨Wv,aJ1⟩=> ?_
 subst Wv
 refine W.perm (ae (ae (ae (ae (ae (ae (ae ai))))))).symm (g9 4 ?_)
 refine⟨.inr rfl,[_],⟨rfl,trivial⟩,adH,(((((((List.sublist_append_left _ _).cons _).cons _).cons _).cons _).cons _).cons _).cons _,?_⟩
 exact⟨congrArg (fun p:Int×List Nd=>Value.int .i64 p.1) (pz nJ aa).symm,eJ.to aJ1 ((aaX aa hs2 Q3 t.pos).trans (congrArg Prod.snd (pz nJ aa)).symm)⟩

theorem ahT{c:aQ}(h:eJ 57 4 3 145 99 b c G l M)(hx:ba G cs x):Fc Tryz.prog 58 [aq b,.agg (List.toArray cs)] G M (fun v G' M'=>(l.length<c.aL.toNat∧v=.tuple #[iV (l.length:Int),iV 0]∧eJ 57 4 3 145 99 b c G' (tk l x) M')∨(¬l.length<c.aL.toNat∧v=.tuple #[iV 0,iV 4]∧eJ 57 4 3 145 99 b c G' l M')):=by
  refine(El h hx).mono fun v G' M' _ ⟨e1,e2⟩=> ?_
  by_cases hr:l.length<c.aL.toNat
  ·rw [Vm hr]at e1 e2;exact .inl ⟨hr,e1,e2⟩
  rw [HZ hr]at e1 e2;exact .inr ⟨hr,e1,e2⟩
theorem ahU{c c2:aQ}(ec:eJ 57 4 3 145 99 b_s c G l de)(t:Tree c2 l ss)(p:Int)(i:Nat)(mj:i64 ((i:Nat):Int)):
    Fc Tryz.prog 146 [aq b_s,iV p,aT i] G de (fun v G' M'=>v=iV (mh c l p i).1∧eJ 57 4 3 145 99 b_s c G' (mh c l p i).2 M'):=by
 have Ji:=t.xa.1
 have hz0:i64 0:=⟨by decide,by decide⟩
 have JC:i64 (l.length:Int):=⟨aa,aa⟩
 have pV:=mj.1
 have gS:=mj.2
 refine Fc.go [.tmp 6] Tryz.func146 Tryz.ntmps146 rfl (fun w0=>(WC.perm (M':=(de++[])) (by simp) (g9 9 ?_)))
 refine W.ok (bV Cm rfl rfl) (g9 9 ?_)
 refine W.call (Mp:=de) (tW ec _) rfl ai ?_
 intro v5 G2 PG j7 q3
 refine match q3 with|⟨⟨_,Es,⟨_,_,_,_,_,_,_,_,QR,Q5,GQ,Q6,Q7,JF⟩⟩,yB⟩=> ?_
 subst Es
 subst QR
 have yB:=yB.symm
 subst yB
 refine g9 3 ?_
 refine W.alloc bq (fun b9=>(g9 10 ?_))
 refine W.sm 34 (fun j8 rB=> ?_) (fun j8 rB=> ?_)
 ·try dsimp only at rB
  refine g9 20 ?_
  refine⟨.inr rfl,[_],⟨rfl,trivial⟩,de,(List.sublist_append_left _ _).cons _,?_⟩
  have hE:=jl (c:=c) (l:=l) (p:=p) (i:=i) (.inl (by simp at j8;omega))
  exact⟨congrArg (fun q:Int×List Nd=>Value.int .i64 q.1) hE.symm,eJ.to (eJ.mono j7 ec) (congrArg Prod.snd hE).symm⟩
 try dsimp only at rB
 have h1:0≤p∧p<(l.length:Int):=by simpa using j8
 refine g9 6 ?_
 refine W.sd 38 (fun ve oO=> ?_) (fun ve oO=> ?_)
 ·try dsimp only at oO
  exfalso;omega
 try dsimp only at oO
 refine g9 13 ?_
 refine WC.cd (fun h43 Gn=> ?_) (fun h43 Gn=> ?_)
 ·try dsimp only at Gn
  refine g9 7 ?_
  refine⟨.inr rfl,[_],⟨rfl,trivial⟩,de,(List.sublist_append_left _ _).cons _,?_⟩
  have hE:=jl (c:=c) (l:=l) (p:=p) (i:=i) (.inr (.inl aa))
  exact⟨congrArg (fun q:Int×List Nd=>Value.int .i64 q.1) hE.symm,eJ.to (eJ.mono j7 ec) (congrArg Prod.snd hE).symm⟩
 try dsimp only at Gn
 have h2:¬(ag l p).kids.length≤i:=by omega
 have hkd:(ag l p).kids[i]'aa=cK l p i:=by unfold cK;rw [List.getD_eq_getElem?_getD,List.getElem?_eq_getElem aa];rfl
 refine g9 8 ?_
 refine GQ.a2 (i:=i) aa (fun VE aJ2=>(g9 2 ?_))
 refine W.call (Mp:=de) (tW (eJ.mono j7 ec) (cK l p i)) (congrArg (fun k:Int=>[_,Value.int .i64 k]) hkd) (ae ai) ?_
 intro v17 G14 Je nS q15
 refine match q15 with|⟨⟨_,WN,⟨_,_,_,_,_,_,_,_,tU,JG,JH,JI,JJ,EL⟩⟩,abC⟩=> ?_
 subst WN
 subst tU
 have abC:=abC.symm
 subst abC
 refine W.perm (ae ai).symm (g9 3 ?_)
 refine W.alloc bq (fun b21=>(g9 13 ?_))
 refine WC.cn (fun A3 vb=> ?_) (fun A3 vb=> ?_)
 ·try dsimp only at vb
  refine g9 8 ?_
  refine⟨.inr rfl,[_],⟨rfl,trivial⟩,de,((List.sublist_append_left _ _).cons _).cons _,?_⟩
  have hE:=jl (c:=c) (l:=l) (p:=p) (i:=i) (.inr (.inr (by simp at A3;omega)))
  exact⟨congrArg (fun q:Int×List Nd=>Value.int .i64 q.1) hE.symm,eJ.to (eJ.mono aS ec) (congrArg Prod.snd hE).symm⟩
 try dsimp only at vb
 have h3:0≤cK l p i∧cK l p i<(l.length:Int):=by simpa using A3
 have iP:=di t.slot h3
 have jt:=di t.slot h1
 have j3:∀m∈(ag l (cK l p i)).af,m.key.b.size<140737488355328:=fun m hm=>by have:=((t.xa.2 _ iP.2).2.2.2.2.2.1 m hm).1;omega
 have WO:(ag l p).ab.length≤1000000∧(ag l p).kids.length≤1000000:=by have:=t.xa.2 _ jt.2;exact⟨by have:=this.2.1;omega,by have:=this.1;omega⟩
 refine WC.seq (WC.dw (eu.k9.k9) (d9 [0,2] ?_))
 refine WD.a1 1 rfl (W.call (Mp:=de) (su (eJ.mono aS ec)) rfl (ae (ae ai)) ?_)
 intro v25 G22 aUN axB q23
 refine match q23 with|⟨CY,abD⟩=> ?_
 subst CY
 have abD:=abD.symm
 subst abD
 refine W.perm (ae (ae ai)).symm (W.nn (WD.a1 3 rfl (W.ay (ud _ _ _ _ _ (fy aS Q5 GQ Q6 Q7 JF)) rfl (W.nn (d9 [4] ?_)))))
 refine g9 2 ?_
 refine WC.cond rfl (fun I9=> ?_) (fun I9=> ?_)
 ·refine g9 8 ?_
  refine⟨.inr rfl,[_],⟨rfl,trivial⟩,de,((List.sublist_append_left _ _).cons _).cons _,?_⟩
  have hE:=yd (c:=c) h1 h2 h3 (by simpa using I9)
  exact⟨congrArg (fun q:Int×List Nd=>Value.int .i64 q.1) hE.symm,eJ.to (eJ.mono aS ec) (congrArg Prod.snd hE).symm⟩
 have h4:cw c (ag l p)=false:=by simpa using I9
 refine g9 6 ?_
 refine W.cM (yE (fy axB JG JH JI JJ EL) 0 hz0 j3) rfl (fun _ _ _ _ _ _ _ _ _ _ _ _ _ _ _ _ G28 HL aJ3 aJ4 aJ5 aJ6 aFL WQ WR WS WT ahV=>(g9 5 ?_))
 refine W.alloc bq (fun b37=>(W.alloc bq (fun b38=>(g9 12 ?_))))
 refine W.call (Mp:=[]) (Nw (fy aS Q5 GQ Q6 Q7 JF) i (aB (ag l (cK l p i)) 0).2.2.1 0 WO mj hz0) rfl ai ?_
 intro _ G39 _ yF q41
 refine match q41 with|⟨CW,_,yv,_,yJ,T3⟩=> ?_
 subst CW
 subst yv
 subst yJ
 refine match T3 with|⟨_,_,_,_,_,_,_,_,C0,aJ7,aJ8,aJ9,aKa,aFM⟩=> ?_
 subst C0
 refine g9 3 ?_
 refine W.alloc bq (fun b46=>(g9 9 ?_))
 refine W.sp 79 rfl (fun h78=> ?_) (fun h78=> ?_)
 ·refine g9 13 ?_
  refine⟨.inr rfl,[_],⟨rfl,trivial⟩,de,(((((List.sublist_append_left _ _).cons _).cons _).cons _).cons _).cons _,?_⟩
  have hE:=lm (c:=c) h1 h2 h3 h4 (.inl (by unfold fQ;rw [FN _ _ 0];simpa using h78))
  exact⟨congrArg (fun q:Int×List Nd=>Value.int .i64 q.1) hE.symm,eJ.to (eJ.mono aS ec) (congrArg Prod.snd hE).symm⟩
 have h5:(fQ l p i).2.2.2=true:=by unfold fQ;rw [FN _ _ 0];simpa using h78
 refine g9 7 ?_
 refine WC.cond rfl (fun h81=> ?_) (fun h81=> ?_)
 ·refine g9 7 ?_
  refine⟨.inr rfl,[_],⟨rfl,trivial⟩,de,(((((List.sublist_append_left _ _).cons _).cons _).cons _).cons _).cons _,?_⟩
  have hE:=lm (c:=c) h1 h2 h3 h4 (.inr (by unfold np fQ;rw [yb _ _ 0,I0 _ _ _ _ 0];simpa using h81))
  exact⟨congrArg (fun q:Int×List Nd=>Value.int .i64 q.1) hE.symm,eJ.to (eJ.mono aS ec) (congrArg Prod.snd hE).symm⟩
 have h6:(np l p i).2=true:=by unfold np fQ;rw [yb _ _ 0,I0 _ _ _ _ 0];simpa using h81
 have PC:=I1 h5
 have A1:(aB (ag l (cK l p i)) (l.length:Int)).1.slot=cK l p i:=PC.1.trans iP.1
 have Q3:(aB (ag l (cK l p i)) (l.length:Int)).2.1.slot=(l.length:Int):=PC.2
 have hs2:0≤(aB (ag l (cK l p i)) (l.length:Int)).1.slot∧(aB (ag l (cK l p i)) (l.length:Int)).1.slot<(l.length:Int):=by rw [A1];exact h3
 have e9:np l p i=(fE (ag l p) i (aB (ag l (cK l p i)) 0).2.2.1 (l.length:Int)):=by unfold np fQ;rw [yb _ _ 0]
 have hs4:(fE (ag l p) i (aB (ag l (cK l p i)) 0).2.2.1 (l.length:Int)).1.slot=p:=by rw [←e9];exact(Vo h6).trans jt.1
 have ae6:((l.set (aB (ag l (cK l p i)) (l.length:Int)).1.slot.toNat (aB (ag l (cK l p i)) (l.length:Int)).1).set p.toNat (fE (ag l p) i (aB (ag l (cK l p i)) 0).2.2.1 (l.length:Int)).1)++[(aB (ag l (cK l p i)) (l.length:Int)).2.1]=yc l p i:=by unfold yc;rw [e9];rfl
 refine g9 6 ?_
 refine W.call (Mp:=de) (ahT (eJ.mono aS ec) (fy aS JG JH JI JJ EL)) rfl (ae (ae (ae (ae (ae ai))))) ?_
 intro v50 G47 FW ae7 q48
 refine Or.elim q48 (fun q51=> ?_) (fun q52=> ?_)
 ·refine match q51 with|⟨hrm,I5,LA⟩=> ?_
  subst I5
  refine W.perm (ae (ae (ae (ae (ae ai))))).symm (g9 21 ?_)
  refine W.cM (yE (fy aS JG JH JI JJ EL) (l.length:Int) JC j3) rfl (fun _ _ _ _ _ _ _ _ _ _ _ _ _ _ _ _ G54 L5 anc ane anf ang ahW JK JL JM JN EM=>(g9 5 ?_))
  refine W.alloc bq (fun b63=>(W.alloc bq (fun b64=>(g9 12 ?_))))
  refine W.call (Mp:=[]) (Nw ⟨_,_,_,_,_,_,_,_,rfl,(Q5.mono aS),(GQ.mono aS),(Q6.mono aS),(Q7.mono aS),JF⟩ i (aB (ag l (cK l p i)) 0).2.2.1 (l.length:Int) WO mj JC) rfl ai ?_
  intro _ G65 _ aeK q67
  refine match q67 with|⟨WM,_,anh,_,Wu,aeN⟩=> ?_
  subst WM
  subst anh
  subst Wu
  refine match aeN with|⟨_,_,_,_,_,_,_,_,JO,ani,anj,ank,anl,ahX⟩=> ?_
  subst JO
  refine g9 3 ?_
  refine W.alloc bq (fun b72=>(g9 8 ?_))
  refine W.call (Mp:=FW) (rC (eJ.mono aS LA) (by simp only [List.length_set,si];omega) (fy aeK anc ane anf ang ahW)) rfl (ae (ae (ae (ae (ae (ae (ae (ae ai)))))))) ?_
  intro v76 G73 HB CT q74
  refine match q74 with|⟨WU,anm⟩=> ?_
  subst WU
  refine W.perm (ae (ae (ae (ae (ae (ae (ae (ae ai)))))))).symm (g9 6 ?_)
  refine W.call (Mp:=HB) (rC anm (by simp only [List.length_set,si];omega) (fy aS JK JL JM JN EM)) rfl (ae (ae (ae (ae (ae (ae (ae (ae ai)))))))) ?_
  intro v82 G79 ann aKb q80
  refine match q80 with|⟨WV,ano⟩=> ?_
  subst WV
  refine W.perm (ae (ae (ae (ae (ae (ae (ae (ae ai)))))))).symm (g9 6 ?_)
  refine W.call (Mp:=ann) (rC ano (by simp only [List.length_set,si];omega) (fy aS ani anj ank anl ahX)) rfl (ae (ae (ae (ae (ae (ae (ae (ae ai)))))))) ?_
  intro v88 G85 aKc WW q86
  refine match q86 with|⟨aKd,aKe⟩=> ?_
  subst aKd
  refine W.perm (ae (ae (ae (ae (ae (ae (ae (ae ai)))))))).symm (g9 4 ?_)
  refine⟨.inr rfl,[_],⟨rfl,trivial⟩,aKc,((((((((List.sublist_append_left _ _).cons _).cons _).cons _).cons _).cons _).cons _).cons _).cons _,?_⟩
  have hE:=(tS (c:=c) h1 h2 h3 h4 h5 h6 aa)
  exact⟨congrArg (fun q:Int×List Nd=>Value.int .i64 q.1) hE.symm,eJ.to aKe ((aaY hs2 Q3 hs4 h1).trans ((ae6).trans (congrArg Prod.snd hE).symm))⟩
 refine match q52 with|⟨hrm,anp,LA⟩=> ?_
 subst anp
 refine W.perm (ae (ae (ae (ae (ae ai))))).symm (g9 23 ?_)
 refine⟨.inr rfl,[_],⟨rfl,trivial⟩,FW,(((((List.sublist_append_left _ _).cons _).cons _).cons _).cons _).cons _,?_⟩
 have hE:=ye (c:=c) h1 h2 h3 h4 h5 h6 aa
 exact⟨congrArg (fun q:Int×List Nd=>Value.int .i64 q.1) hE.symm,eJ.to LA (congrArg Prod.snd hE).symm⟩

theorem abE{c c2:aQ}(ec:eJ 57 4 3 145 99 b_s c G l de)(t:Tree c2 l ss)(p:Int)(i:Int)(hn9:i<0):
    Fc Tryz.prog 146 [aq b_s,iV p,iV i] G de (fun v G' M'=>M'=de∧v=iV 8):=by
 refine Fc.go [.tmp 6] Tryz.func146 Tryz.ntmps146 rfl (fun w0=>(WC.perm (M':=(de++[])) (by simp) (g9 9 ?_)))
 refine W.ok (bV Cm rfl rfl) (g9 9 ?_)
 refine W.call (Mp:=de) (tW ec _) rfl ai ?_
 intro v4 G1 Bu fL q2
 refine match q2 with|⟨⟨_,rD,⟨_,_,_,_,_,_,_,_,Es,aPC,aPD,aPE,aPF,aKf⟩⟩,anq⟩=> ?_
 subst rD
 subst Es
 have anq:=anq.symm
 subst anq
 refine g9 3 ?_
 refine W.alloc bq (fun b8=>(g9 10 ?_))
 refine W.sm 34 (fun j8 rB=> ?_) (fun j8 rB=> ?_)
 ·refine g9 20 ?_
  refine⟨.inr rfl,[_],⟨rfl,trivial⟩,de,(List.sublist_append_left _ _).cons _,?_⟩
  exact⟨rfl,rfl⟩
 refine g9 6 ?_
 refine W.sd 38 (fun ve oO=> ?_) (fun ve oO=> ?_)
 ·refine g9 16 ?_
  refine⟨.inr rfl,[_],⟨rfl,trivial⟩,de,(List.sublist_append_left _ _).cons _,?_⟩
  exact⟨rfl,rfl⟩
 exfalso;omega

theorem abF{c c2:aQ}(h:eJ 57 4 3 145 99 b c G l M)(t:Tree c2 l ss)(p i:Int)(hi:i64 i):Fc Tryz.prog 146 [aq b,iV p,iV i] G M (fun v G' M'=>v=iV (cz c l p i).1∧eJ 57 4 3 145 99 b c G' (cz c l p i).2 M'):=by
  by_cases hn:i<0
  · refine(abE h t p i hn).mono fun v G' M' hle ⟨e1,e2⟩=> ?_
    subst e1
    unfold cz
    rw [if_pos hn]
    exact⟨e2,h.mono hle⟩
  obtain⟨n,rfl⟩:∃n:Nat,i=(n:Int):=⟨i.toNat,aa⟩
  have h0:=ahU h t p n hi
  unfold cz
  rw [if_neg hn]
  exact h0
variable {aG:Nat} {ch:Int} {vM:Value} {wt:Int}
theorem Q8{bz:Nat}{th:Int}{vw:Option Addr}{most:Int}{vS:Option Addr}{Th:List Int}{Lw:ew}{bx:Nat}{df:MH}(jK:dC 119 123 3 Th bx G Lw df):
    FcD Tryz.prog 107 [aq bz] G ((bz,aj 78 [aq aG,iV th,.pointer vw,iV most])::((aG,aj 70 [.pointer vS,aq bx,vM,iV wt,iV ch])::(df))) (fun v G' M'=>v=.tuple #[]∧oR 119 123 3 78 70 Th bz aG bx vS vM wt ch G' th most (lM Lw th) M'):=by
 refine FcD.intro (rs:=[]) ay3 Tryz.func107 rfl Tryz.ntmps107 rfl rfl (fun w0=>(WC.perm (M':=((bz,aj 78 [aq aG,iV th,.pointer vw,iV most])::((aG,aj 70 [.pointer vS,aq bx,vM,iV wt,iV ch])::(df++[])))) (by simp) (g9 3 ?_)))
 refine W.ok (gB wx rfl rfl) (g9 4 ?_)
 refine WC.dw (eu.k9.k9) (d9 [0,1,2,3,4,5,6,7,8,9,10] ?_)
 refine WD.a1 11 rfl (W.call (Mp:=df) (ahY jK th) rfl (ae (ae ai)) ?_)
 intro v4 G1 Bu fL q2
 refine match q2 with|LB=> ?_
 refine W.perm (ae (ae ai)).symm (W.nn (g9 8 ?_))
 refine⟨.inl rfl,[],trivial,((bz,aj 78 [aq aG,iV th,.pointer none,iV most])::((aG,aj 70 [.pointer vS,aq bx,vM,iV wt,iV ch])::Bu)),((List.sublist_append_left _ _).k9).k9,?_⟩
 exact⟨rfl,⟨_,_,rfl,LB⟩⟩

theorem abG{c c2:aQ}(ec:eJ 57 4 3 145 99 b_s c G l de)(t:Tree c2 l ss){vT:Option Addr}(hch:0≤ch∧ch<1000000):
    Fc Tryz.prog 108 [aq aG] G ((aG,aj 70 [aq b_s,.pointer vT,vM,iV wt,iV ch])::(de)) (fun v G' M'=>v=.tuple #[]∧∃n Ms,M'=(aG,aj 70 [aq b_s,.pointer vT,vM,iV n,iV (ch+1)])::Ms∧eJ 57 4 3 145 99 b_s c G' l Ms):=by
 obtain⟨aUO,aUP⟩:=hch
 refine Fc.go [] Tryz.func108 Tryz.ntmps108 rfl (fun w0=>(WC.perm (M':=((aG,aj 70 [aq b_s,.pointer vT,vM,iV wt,iV ch])::(de++[]))) (by simp) (g9 3 ?_)))
 refine W.ok (gB Cl rfl rfl) (g9 18 ?_)
 refine W.call (Mp:=((aG,aj 70 [aq b_s,.pointer vT,vM,iV wt,iV ((ch)+(1))])::de)) (Mr:=[]) (Jm ec t) rfl ((ai.cons _).trans ai) ?_
 intro v10 G7 wW DW q8
 refine match q8 with|⟨aKg,anr,ans,aRd,ri,aAu⟩=> ?_
 subst ans
 subst ri
 refine W.perm (M':=((aG,aj 70 [aq b_s,.pointer vT,vM,iV wt,iV ((ch)+(1))])::(anr++[]))) ((ai.cons _).trans ai).symm (g9 4 ?_)
 refine⟨.inl rfl,[],trivial,((aG,aj 70 [aq b_s,.pointer vT,vM,iV aKg,iV ((ch)+(1))])::anr),(List.sublist_append_left _ _).k9,?_⟩
 exact⟨rfl,_,_,congrArg _ (by simp),aAu⟩

variable {v0:Value} {v1:Value} {v2:Value}
theorem Nx:
    Fc Tryz.prog 21 [aq aG] G [(aG,aj 70 [v0,v1,v2,iV wt,iV ch])] (fun v G' M'=>v=iV ch∧M'=(aG,aj 70 [v0,v1,v2,iV wt,iV ch])::[]):=by
 refine Fc.go [.tmp 2] Tryz.func21 Tryz.ntmps21 rfl (fun w0=>(g9 9 ?_))
 refine W.ok (bV Cl rfl rfl) (g9 15 ?_)
 refine⟨.inr rfl,[_],⟨rfl,trivial⟩,[(aG,aj 70 [v0,v1,v2,iV wt,iV ch])],bi,?_⟩
 exact⟨rfl,by simp⟩

theorem abH:
    Fc Tryz.prog 95 [aq aG] G [(aG,aj 70 [v0,v1,v2,iV wt,iV ch])] (fun v G' M'=>v=iV wt∧M'=(aG,aj 70 [v0,v1,v2,iV wt,iV ch])::[]):=by
 refine Fc.go [.tmp 2] Tryz.func95 Tryz.ntmps95 rfl (fun w0=>(g9 9 ?_))
 refine W.ok (bV Cl rfl rfl) (g9 15 ?_)
 refine⟨.inr rfl,[_],⟨rfl,trivial⟩,[(aG,aj 70 [v0,v1,v2,iV wt,iV ch])],bi,?_⟩
 exact⟨rfl,by simp⟩

section
variable {G:GH} {Th:List Int} {c:aQ} {th:Int} {bh bc bs bt:Nat} {vM:Value} {w0:Int} {q:QG} {Ms:MH}
theorem EN(h:gr 119 123 3 78 70 57 4 3 145 99 Th c th bh bc bs bt vM w0 G q Ms)(s:Int)(wr:Bool)(oS:th∈Th):Fc Tryz.prog 10 [aq bh,iV s,.bool wr] G Ms (fun v G' M'=>v=.bool (cH q.W th s wr).1∧gr 119 123 3 78 70 57 4 3 145 99 Th c th bh bc bs bt vM w0 G' ⟨if(cH q.W th s wr).1=true then fh (cH q.W th s wr).2 th q.most else q.most,(cH q.W th s wr).2,q.l,q.ch⟩ M'):=by
  obtain⟨vw,wt,Mt,gZ,hw,hp,hT,hS⟩:=h
  refine(Fc.sub (M1:=_::_::Mt) (R:=gZ) (hp.symm) (ahZ ⟨vw,Mt,rfl,hT⟩ s wr oS)).mono ?_
  rintro v G' M' hl ⟨M2,rfl,rfl,vw',JP,rfl,JQ⟩
  exact⟨rfl,vw',wt,JP,gZ,hw,ai,JQ,hS.mono hl⟩
theorem pC(h:gr 119 123 3 78 70 57 4 3 145 99 Th c th bh bc bs bt vM w0 G q Ms)(s:Int):Fc Tryz.prog 148 [aq bh,iV s] G Ms (fun v G' M'=>v=.tuple #[]∧gr 119 123 3 78 70 57 4 3 145 99 Th c th bh bc bs bt vM w0 G' ⟨q.most,(hU q.W th s).2,q.l,q.ch⟩ M'):=by
  obtain⟨vw,wt,Mt,gZ,hw,hp,hT,hS⟩:=h
  refine(Fc.sub (M1:=_::_::Mt) (R:=gZ) (hp.symm) (ant ⟨vw,Mt,rfl,hT⟩ s)).mono ?_
  rintro v G' M' hl ⟨M2,rfl,rfl,vw',JP,rfl,JQ⟩
  exact⟨rfl,vw',wt,JP,gZ,hw,ai,JQ,hS.mono hl⟩
theorem ah0(h:gr 119 123 3 78 70 57 4 3 145 99 Th c th bh bc bs bt vM w0 G q Ms):Fc Tryz.prog 23 [aq bh] G Ms (fun v G' M'=>v=iV q.most∧gr 119 123 3 78 70 57 4 3 145 99 Th c th bh bc bs bt vM w0 G' q M'):=by
  obtain⟨vw,wt,Mt,gZ,hw,hp,hT,hS⟩:=h
  refine(Fc.sub (M1:=_::_::Mt) (R:=gZ) (hp.symm) (ah1 ⟨vw,Mt,rfl,hT⟩)).mono ?_
  rintro v G' M' hl ⟨M2,rfl,rfl,vw',JP,rfl,JQ⟩
  exact⟨rfl,vw',wt,JP,gZ,hw,ai,JQ,hS.mono hl⟩
theorem Bv(h:gr 119 123 3 78 70 57 4 3 145 99 Th c th bh bc bs bt vM w0 G q Ms):Fc Tryz.prog 15 [aq bc] G Ms (fun v G' M'=>v=aq bs∧gr 119 123 3 78 70 57 4 3 145 99 Th c th bh bc bs bt vM w0 G' q M'):=by
  obtain⟨vw,wt,Mt,gZ,hw,hp,hT,hS⟩:=h
  refine(Fc.sub (zW.trans hp.symm) (WX hT)).mono ?_
  rintro v G' M' hl ⟨M2,rfl,rfl,JP,rfl,JQ⟩
  exact⟨rfl,vw,wt,JP,gZ,hw,zW,JQ,hS.mono hl⟩
theorem abI(h:gr 119 123 3 78 70 57 4 3 145 99 Th c th bh bc bs bt vM w0 G q Ms):Fc Tryz.prog 22 [aq bc] G Ms (fun v G' M'=>ax pD G' v (qj (fun _=>true) q.W)∧gr 119 123 3 78 70 57 4 3 145 99 Th c th bh bc bs bt vM w0 G' q M'):=by
  obtain⟨vw,wt,Mt,gZ,hw,hp,hT,hS⟩:=h
  refine(Fc.sub (zW.trans hp.symm) (WY hT)).mono ?_
  rintro v G' M' hl ⟨M2,rfl,hv,JP,rfl,JQ⟩
  exact⟨hv,vw,wt,JP,gZ,hw,zW,JQ,hS.mono hl⟩
theorem anu(h:gr 119 123 3 78 70 57 4 3 145 99 Th c th bh bc bs bt vM w0 G q Ms):Fc Tryz.prog 21 [aq bc] G Ms (fun v G' M'=>v=iV q.ch∧gr 119 123 3 78 70 57 4 3 145 99 Th c th bh bc bs bt vM w0 G' q M'):=by
  obtain⟨vw,wt,Mt,gZ,hw,hp,hT,hS⟩:=h
  refine(Fc.sub (M1:=[_]) (R:=_::(Mt++gZ)) ((zW (Mt:=[])).trans hp.symm) Nx).mono ?_
  rintro v G' M' hl ⟨M2,rfl,rfl,rfl⟩
  exact⟨rfl,vw,wt,Mt,gZ,hw,zW (Mt:=[]),hT.mono hl,hS.mono hl⟩
variable {ss:List aC}
theorem ah2(h:gr 119 123 3 78 70 57 4 3 145 99 Th c th bh bc bs bt vM w0 G q Ms)(t:Tree c q.l ss)(hch:0≤q.ch∧q.ch<1000000):Fc Tryz.prog 108 [aq bc] G Ms (fun v G' M'=>v=.tuple #[]∧gr 119 123 3 78 70 57 4 3 145 99 Th c th bh bc bs bt vM w0 G' ⟨q.most,q.W,q.l,q.ch+1⟩ M'):=by
  obtain⟨vw,wt,Mt,gZ,hw,hp,hT,hS⟩:=h
  refine(Fc.sub (aeS.trans hp.symm) (abG hS t hch)).mono ?_
  rintro v G' M' hl ⟨M2,rfl,rfl,n,iw,rfl,hS'⟩
  exact⟨rfl,vw,n,Mt,iw,(fun h9=>absurd h9 (by dsimp only;omega)),aeS,hT.mono hl,hS'⟩
theorem EO(h:gr 119 123 3 78 70 57 4 3 145 99 Th c th bh bc bs bt vM w0 G q Ms)(a:Int):Fc Tryz.prog 46 [aq bs,iV a] G Ms (fun v G' M'=>(∃cs,v=.tuple #[.agg (List.toArray cs),.bool (decide (0≤a∧a<(q.l.length:Int)))]∧ba G' cs (ag q.l a))∧gr 119 123 3 78 70 57 4 3 145 99 Th c th bh bc bs bt vM w0 G' q M'):=by
  obtain⟨vw,wt,Mt,gZ,hw,hp,hT,hS⟩:=h
  refine(Fc.sub (lP.trans hp.symm) (tW hS a)).mono ?_
  rintro v G' M' hl ⟨M2,rfl,hv,rfl⟩
  exact⟨hv,vw,wt,Mt,_,hw,lP,hT.mono hl,hS.mono hl⟩
theorem anv(h:gr 119 123 3 78 70 57 4 3 145 99 Th c th bh bc bs bt vM w0 G q Ms)(a i:Int):Fc Tryz.prog 46 [aq bs,iV ((ag q.l a).kids.getD i.toNat 0)] G Ms (fun v G' M'=>(∃cs,v=.tuple #[.agg (List.toArray cs),.bool (decide (0≤(ag q.l a).kids.getD i.toNat 0∧(ag q.l a).kids.getD i.toNat 0<(q.l.length:Int)))]∧ba G' cs (aw q.l a i))∧gr 119 123 3 78 70 57 4 3 145 99 Th c th bh bc bs bt vM w0 G' q M'):=EO h _
theorem oT(h:gr 119 123 3 78 70 57 4 3 145 99 Th c th bh bc bs bt vM w0 G q Ms):Fc Tryz.prog 57 [aq bs] G Ms (fun v G' M'=>v=.agg (List.toArray [iV c.bu,iV c.leaf,iV c.bud,iV c.aL,iV c.rest])∧gr 119 123 3 78 70 57 4 3 145 99 Th c th bh bc bs bt vM w0 G' q M'):=by
  obtain⟨vw,wt,Mt,gZ,hw,hp,hT,hS⟩:=h
  refine(Fc.sub (lP.trans hp.symm) (su hS)).mono ?_
  rintro v G' M' hl ⟨M2,rfl,rfl,rfl⟩
  exact⟨rfl,vw,wt,Mt,_,hw,lP,hT.mono hl,hS.mono hl⟩
theorem abJ(h:gr 119 123 3 78 70 57 4 3 145 99 Th c th bh bc bs bt vM w0 G q Ms):Fc Tryz.prog 16 [aq bs] G Ms (fun v G' M'=>ax bU G' v q.l∧gr 119 123 3 78 70 57 4 3 145 99 Th c th bh bc bs bt vM w0 G' q M'):=by
  obtain⟨vw,wt,Mt,gZ,hw,hp,hT,hS⟩:=h
  refine(Fc.sub (lP.trans hp.symm) (I8 hS)).mono ?_
  rintro v G' M' hl ⟨M2,rfl,hv,rfl⟩
  exact⟨hv,vw,wt,Mt,_,hw,lP,hT.mono hl,hS.mono hl⟩
theorem jS(h:gr 119 123 3 78 70 57 4 3 145 99 Th c th bh bc bs bt vM w0 G q Ms){cs:List Value}{x:Nd}(hs:0≤x.slot∧x.slot<q.l.length)(hx:ba G cs x):Fc Tryz.prog 59 [aq bs,.agg (List.toArray cs)] G Ms (fun v G' M'=>v=iV 0∧gr 119 123 3 78 70 57 4 3 145 99 Th c th bh bc bs bt vM w0 G' ⟨q.most,q.W,q.l.set x.slot.toNat x,q.ch⟩ M'):=by
  obtain⟨vw,wt,Mt,gZ,hw,hp,hT,hS⟩:=h
  refine(Fc.sub (lP.trans hp.symm) (rC hS hs hx)).mono ?_
  rintro v G' M' hl ⟨M2,rfl,rfl,hS'⟩
  exact⟨rfl,vw,wt,Mt,_,hw,lP,hT.mono hl,hS'⟩
theorem ah3(h:gr 119 123 3 78 70 57 4 3 145 99 Th c th bh bc bs bt vM w0 G q Ms)(t:Tree c q.l ss):Fc Tryz.prog 64 [aq bs] G Ms (fun v G' M'=>v=iV (cG c q.l).1∧gr 119 123 3 78 70 57 4 3 145 99 Th c th bh bc bs bt vM w0 G' ⟨q.most,q.W,(cG c q.l).2,q.ch⟩ M'):=by
  obtain⟨vw,wt,Mt,gZ,hw,hp,hT,hS⟩:=h
  refine(Fc.sub (lP.trans hp.symm) (ahQ hS t)).mono ?_
  rintro v G' M' hl ⟨M2,rfl,rfl,hS'⟩
  exact⟨rfl,vw,wt,Mt,_,hw,lP,hT.mono hl,hS'⟩
theorem ah4(h:gr 119 123 3 78 70 57 4 3 145 99 Th c th bh bc bs bt vM w0 G q Ms)(t:Tree c q.l ss)(a i:Int)(mj:i64 i):Fc Tryz.prog 146 [aq bs,iV a,iV i] G Ms (fun v G' M'=>v=iV (cz c q.l a i).1∧gr 119 123 3 78 70 57 4 3 145 99 Th c th bh bc bs bt vM w0 G' ⟨q.most,q.W,(cz c q.l a i).2,q.ch⟩ M'):=by
  obtain⟨vw,wt,Mt,gZ,hw,hp,hT,hS⟩:=h
  refine(Fc.sub (lP.trans hp.symm) (abF hS t a i mj)).mono ?_
  rintro v G' M' hl ⟨M2,rfl,rfl,hS'⟩
  exact⟨rfl,vw,wt,Mt,_,hw,lP,hT.mono hl,hS'⟩
end
variable {G:GH} {kE:MH} {Th:List Int} {aG:Nat} {bz:Nat} {b_s:Nat} {bx:Nat} {ck:Nat} {q:QG} {th:Int} {v0:Value} {v1:Value} {v2:Value} {v5:Value} {v6:Value} {v8:Value} {vM:Value} {w0:Int}
theorem mM{bH:Int}{v9:Value}{v10:Value}{c:aQ}(nD:gr 119 123 3 78 70 57 4 3 145 99 Th c th bz aG b_s bx vM w0 G q kE)(ss:List aC)(t:Tree c q.l ss)(hch:0≤q.ch∧q.ch<1000000)(hd:0≤bH∧bH<1000000):
    Fc Tryz.prog 66 [aq ck] G ((ck,aj 75 [v0,v1,v2,aq aG,aq bz,v5,v6,iV bH,v8,v9,v10])::(kE)) (fun v G' M'=>v=.tuple #[]∧∃Mk,M'=(ck,aj 75 [v0,v1,v2,aq aG,aq bz,v5,v6,iV (bH+1),v8,v9,v10])::Mk∧gr 119 123 3 78 70 57 4 3 145 99 Th c th bz aG b_s bx vM w0 G' ⟨q.most,q.W,q.l,q.ch+1⟩ Mk):=by
 obtain⟨hd1,hd2⟩:=hd
 refine Fc.go [] Tryz.func66 Tryz.ntmps66 rfl (fun w0=>(WC.perm (M':=((ck,aj 75 [v0,v1,v2,aq aG,aq bz,v5,v6,iV bH,v8,v9,v10])::(kE++[]))) (by simp) (g9 17 ?_)))
 refine W.call (Mp:=kE) (ah2 nD t hch) rfl (ae ai) ?_
 intro v4 G1 Bu fL q2
 refine match q2 with|⟨rD,LB⟩=> ?_
 subst rD
 refine W.perm (ae ai).symm (W.nil ?_)
 refine⟨.inl rfl,[],trivial,((ck,aj 75 [v0,v1,v2,aq aG,aq bz,v5,v6,iV ((bH)+(1)),v8,v9,v10])::Bu),(List.sublist_append_left _ _).k9,?_⟩
 exact⟨rfl,_,congrArg _ (by simp),LB⟩

theorem z3{v7:Value}{e0:Int}{d0:Bool}{c:aQ}(nD:gr 119 123 3 78 70 57 4 3 145 99 Th c th bz aG b_s bx vM w0 G q kE)(e1:Int):Fc Tryz.prog 65 [aq ck,iV e1] G ((ck,aj 75 [v0,v1,v2,aq aG,aq bz,v5,v6,v7,v8,iV e0,.bool d0])::kE) (fun v G' M'=>v=.bool true∧∃Mk,M'=(ck,aj 75 [v0,v1,v2,aq aG,aq bz,v5,v6,v7,v8,iV e1,.bool true])::Mk∧gr 119 123 3 78 70 57 4 3 145 99 Th c th bz aG b_s bx vM w0 G' ⟨q.most,lM q.W th,q.l,q.ch⟩ Mk):=by
  obtain⟨vw,wt,Mt,gZ,hw,hp,hT,hS⟩:=nD
  refine Fc.perm (hp.symm.cons _) (Fc.QJ (rs:=[.tmp 4]) (o1:=[_,_,_,_]) aHQ Tryz.func65 rfl Tryz.ntmps65 rfl rfl rfl rfl (fun w0=>(g9 6 ?_)))
  refine W.nil ⟨[_],rfl,(g9 11 ?_)⟩
  refine W.nil ⟨_::_::Mt,_::gZ,_,aeQ,Q8 hT,?_⟩
  rintro v G3 M3 hl ⟨rfl,vw',JP,rfl,JQ⟩
  exact⟨[_],_,⟨rfl,trivial⟩,aeQ,rfl,_,rfl,vw',wt,JP,gZ,hw,ai,JQ,hS.mono hl⟩
theorem vW(ms:Int)(mk:Int)(bO:ah)(dH:ah)(mo:Bool)(mv:ah):
    Fc Tryz.prog 140 [.agg #[iV ms,iV mk,sV bO.b,sV dH.b,.bool mo,sV mv.b]] G [] (fun v _ _=>v=iV (aA.size (⟨ms,mk,bO,dH,mo,mv⟩:aA))):=by
 have h1:=bO.le
 have h2:=mv.le
 refine Fc.go [.tmp 2] Tryz.func140 Tryz.ntmps140 rfl (fun w0=>(g9 2 ?_))
 refine W.box (L:=[iV _,iV _,sV _,sV _,.bool _,sV _]) rfl rfl (fun b1=>(g9 11 ?_))
 refine WC.cd (fun h5 p5=> ?_) (fun h5 p5=> ?_)
 ·refine g9 8 ?_
  refine congrArg (Value.int .i64) ?_
  rw [aA.size,if_pos p5]
 refine g9 17 ?_
 refine congrArg (Value.int .i64) ?_
 rw [aA.size,if_neg p5]

variable {l:List aA} {bN:Value}
theorem ah5(az:ax bQ G bN l)(hs:∀m∈l,m.key.b.size≤16∧m.val.b.size≤16):
    Fc Tryz.prog 208 [bN] G [] (fun v _ _=>v=iV (bI l)):=by
 obtain⟨aW,aX,rfl⟩:=az.form
 have hl:=az.aH
 refine Fc.go [.tmp 2] Tryz.func208 Tryz.ntmps208 rfl (fun w0=>(g9 19 ?_))
 refine WC.loop (X:=Nat) (fun k=>[(3,iV (bI (l.take k))),(8,aT k),(6,lV aW l.length aX),(7,aT ((l).length))]) (fun k _ Ml=>Ml=[]∧k≤l.length∧0≤bI (l.take k)∧bI (l.take k)≤36*k) (fun k=>l.length-k) 0 aZ ?_ ?_
 ·exact⟨rfl,aa,by simp [bI],by simp [bI]⟩
 rintro k gG2 G2 _ j7 ⟨rfl,hk,h0,ve⟩
 refine g9 6 ?_
 refine WC.cd (fun h9 p9=> ?_) (fun h9 p9=> ?_)
 ·have hz:=Fh (l:=l) (k:=k) aa
  have hz2:=o8 (hs l[k] (List.getElem_mem _))
  have he:aA.size ⟨l[k].aO,l[k].kind,l[k].key,l[k].hi,l[k].bT,l[k].val⟩=l[k].size:=rfl
  refine g9 6 ?_
  refine(az.mono j7).a2 (i:=k) aa (fun he3 hm4=>(g9 2 ?_))
  refine W.alloc cy (fun b8=>(g9 6 ?_))
  refine W.ay (vW _ _ _ _ _ _) rfl (g9 8 ?_)
  refine W.sub (bi.cons _) (g9 2 ?_)
  exact⟨Le.rfl,k+1,⟨(iv aa),eqv,eqv,eqv,trivial⟩,⟨rfl,aa,aa,aa⟩,aa⟩
 refine g9 13 ?_
 refine congrArg (Value.int .i64) ?_
 rw [List.take_of_length_le aa]

theorem ah6(az:ax bQ G bN l)(ms:Int)(mk:Int)(bO:ah)(dH:ah)(mo:Bool)(mv:ah)(n:Int)(hs:∀m∈l,m.key.b.size≤16∧m.val.b.size≤16)(hn:0≤n∧n≤9223372036854775807):
    Fc Tryz.prog 197 [bN,.agg #[iV ms,iV mk,sV bO.b,sV dH.b,.bool mo,sV mv.b],iV n] G [] (fun v _ _=>v=.bool (decide (aA.size (⟨ms,mk,bO,dH,mo,mv⟩:aA)≤n-bI l))):=by
 obtain⟨aW,aX,rfl⟩:=az.form
 have hl:=az.aH
 have hz0:=jI hs
 refine Fc.go [.tmp 6] Tryz.func197 Tryz.ntmps197 rfl (fun w0=>(g9 2 ?_))
 refine W.box (L:=[iV _,iV _,sV _,sV _,.bool _,sV _]) rfl rfl (fun b9=>(g9 6 ?_))
 refine W.ay (vW _ _ _ _ _ _) rfl (g9 2 ?_)
 refine W.ay (ah5 az (by assumption)) rfl (g9 7 ?_)
 rfl

theorem avp(ms:Int)(mk:Int)(bO:ah)(dH:ah)(mo:Bool)(mv:ah):
    Fc Tryz.prog 160 [.agg #[iV ms,iV mk,sV bO.b,sV dH.b,.bool mo,sV mv.b]] G [] (fun v _ _=>v=.bool (decide (mk=4))):=by
 refine Fc.go [.tmp 2] Tryz.func160 Tryz.ntmps160 rfl (fun w0=>(g9 2 ?_))
 refine W.box (L:=[iV _,iV _,sV _,sV _,.bool _,sV _]) rfl rfl (fun b10=>(g9 13 ?_))
 rfl

theorem avq(az:ax bQ G bN l):
    Fc Tryz.prog 159 [bN,.func (.func 160) #[] #[]] G [] (fun v _ _=>v=iV (gn mX l)):=by
 obtain⟨aW,aX,rfl⟩:=az.form
 have hl:=az.aH
 refine Fc.go [.tmp 4] Tryz.func159 Tryz.ntmps159 rfl (fun w0=>(g9 14 ?_))
 refine WC.loop (X:=Nat) (fun k=>[(8,aT k),(0,lV aW l.length aX),(1,.func (.func 160) #[] #[]),(7,aT ((l).length))]) (fun k _ Ml=>Ml=[]∧k≤l.length∧∀j (h:j<l.length),j<k→mX l[j]=false) (fun k=>l.length-k) 0 aZ ?_ ?_
 ·exact⟨rfl,aa,fun j _ h=>by omega⟩
 rintro k awY G11 _ xI ⟨rfl,hk,hj⟩
 refine g9 6 ?_
 refine WC.cd (fun h9 p9=> ?_) (fun h9 p9=> ?_)
 ·refine g9 15 ?_
  refine(az.mono xI).a2 (i:=k) aa (fun adK aUQ=>(g9 2 ?_))
  refine W.nc (fst:=[]) (caps:=[]) rfl (avp _ _ _ _ _ _) rfl (g9 2 ?_)
  refine WC.cond rfl (fun fU=> ?_) (fun fU=> ?_)
  ·refine g9 13 ?_
   refine congrArg (Value.int .i64) ?_
   exact(B8 (q:=mX) aa fU hj).symm
  refine g9 8 ?_
  exact⟨Le.rfl,k+1,aZ,⟨rfl,aa,fun j h oh=>by
      by_cases e2:j=k
      ·subst e2;exact fU
      ·exact hj j h aa⟩,aa⟩
 refine g9 12 ?_
 refine congrArg (Value.int .i64) ?_
 exact(Ca (q:=mX) (fun j h=>hj j aa aa)).symm

theorem Ny(az:ax bQ G bN l):
    Fc Tryz.prog 139 [bN] G [] (fun v G' M'=>M'=[]∧∃u0,v=u0∧ax bQ G' u0 (aD l)):=by
 obtain⟨aW,aX,rfl⟩:=az.form
 have hl:=az.aH
 have hix:=Cb mX l
 refine Fc.go [.tmp 2] Tryz.func139 Tryz.ntmps139 rfl (fun w0=>(g9 8 ?_))
 refine W.ay (avq az) rfl (g9 16 ?_)
 refine WC.cd (fun h8 p8=> ?_) (fun h8 p8=> ?_)
 ·refine g9 3 ?_
  refine W.cS (gF az) rfl (fun anw anx G17 rY yw=>(g9 7 ?_))
  refine⟨rfl,_,rfl,?_⟩
  ·exact ax.cast yw (IQ p8)
 refine g9 6 ?_
 refine WC.cd (fun dL ji=> ?_) (fun dL ji=> ?_)
 ·refine g9 9 ?_
  have aKh:=ax.slice az (lo:=0) (hi:=1) aa aa
  refine W.ok (ok_slice (0) (1) cO cX az rfl rfl ⟨_,_,rfl,aa⟩ ⟨aa,aa⟩) (W.cS (gF aKh) rfl (fun aKi aKj G25 qf aKk=>(g9 5 ?_)))
  refine⟨rfl,_,rfl,?_⟩
  ·exact ax.cast aKk (aaR p8 ji)
 refine g9 7 ?_
 have aKl:=ax.slice az (lo:=0) (hi:=(gn mX l).toNat) aa aa
 refine W.ok (ok_slice (0) ((gn mX l).toNat) cO cX az rfl rfl ⟨_,_,rfl,aa⟩ ⟨aa,aa⟩) (W.cS (gF aKl) rfl (fun aKm aKn G33 tG anz=>(g9 5 ?_)))
 refine⟨rfl,_,rfl,?_⟩
 ·exact ax.cast anz (U8 p8 ji)

theorem ae8{Q9:Value}{P:List ah}(xd:ax dg G Q9 P)(az:ax bQ G bN l)(i:Int)(j3:∀m∈l,m.key.b.size<140737488355328)(hr:rising P=true)(hi:i64 i):
    Fc Tryz.prog 183 [Q9,bN,iV i] G [] (fun v G' M'=>M'=[]∧∃u0,v=u0∧ax bQ G' u0 (av P l i)):=by
 obtain⟨yK,yL,rfl⟩:=xd.form
 obtain⟨aW,aX,rfl⟩:=az.form
 have hl:=az.aH
 have uT:l.length*72≤140737488355328:=az.bytes
 have rN:=rf l
 have hkf:∀m∈aD l,m.key.b.size<140737488355328:=fun m h=>j3 m (re h)
 refine Fc.go [.tmp 6] Tryz.func183 Tryz.ntmps183 rfl (fun w0=>(g9 14 ?_))
 refine W.ay (vr xd _ hi) rfl (W.alloc dY (fun b40=>(g9 7 ?_)))
 refine W.cS (Ny az) rfl (fun WZ W0 G41 yG akz=>(g9 5 ?_))
 refine WC.loop (X:=(Nat)×Value×MH) (fun k=>[(19,aT k.1),(8,aq b40),(0,lV yK P.length yL),(2,iV i),(17,lV WZ (aD (l)).length W0),(18,aT ((aD (l)).length)),(7,k.2.1)]) (fun k G Ml=>Ml=((b40,aj 90 [sV (ar P i).lo.b,sV (ar P i).hi.b,.bool (ar P i).bT])::(k.2.2++[]))∧aP bQ 96 G k.2.1 (((aD l).take k.1).filterMap (nQ P i)) k.2.2∧k.1≤(aD l).length) (fun k=>(aD l).length-k.1) (0,lV none 0 0,([]:MH)) aZ ?_ ?_
 ·exact⟨rfl,(by exact aP.nil),aa⟩
 rintro⟨k,sM,Ah⟩ axI G48 _ CR ⟨rfl,gJ,hk⟩
 try dsimp only at gJ hk
 have hfm:=Qd (nQ P i) (aD l) k
 refine WC.fr (f:=dO axI [(19,aT k),(8,aq b40),(0,lV yK P.length yL),(2,iV i),(17,lV WZ (aD (l)).length W0),(18,aT ((aD (l)).length)),(7,sM)]) rfl (g9 6 ?_)
 refine WC.cd (fun gD lX=> ?_) (fun gD lX=> ?_)
 ·refine g9 6 ?_
  refine(akz.mono CR).a2 (i:=k) aa (fun axs alY=>(g9 2 ?_))
  refine W.alloc cy (fun VC=>(g9 9 ?_))
  refine W.ay (vq (xd.mono aS) _ hr) rfl (g9 4 ?_)
  refine WC.cn (fun wT pO=> ?_) (fun wT pO=> ?_)
  ·refine g9 7 ?_
   refine W.sub (bi.cons _) (g9 2 ?_)
   exact⟨Le.rfl,(k+1,sM,Ah),aZ,⟨rfl,(by have h:=gJ;rw [x4 aa (fun hh=>absurd hh.1 pO)];exact h),aa⟩,aa⟩
  refine g9 6 ?_
  refine W.ay (DP _ _ _ _ _ _ _ _ _ (hkf _ (List.getElem_mem (by omega:k<(aD l).length)))) rfl (g9 3 ?_)
  refine W.alloc cy (fun b55=>(g9 9 ?_))
  refine WC.cond rfl (fun abK=> ?_) (fun abK=> ?_)
  ·refine g9 3 ?_
   refine W.lit (e:=bQ) (l:=[(aA.clip (aD l)[k] (ar P i)).1]) (css:=[[iV _,iV _,sV _,sV _,.bool _,sV _]]) cO cX cy rfl rfl rfl rfl rfl rfl ⟨⟨rfl,o7 (by assumption)⟩,trivial⟩ (fun aKo G56 AE FX=>(W.app (e:=bQ) cO cX cy rfl jv rfl rfl ((gJ.mono AE)) (FX) (ae (ae (ae ai))) (by show(List.length _+1)*72≤_;omega) (fun v57 AF Nz=>(W.perm (ae (ae (ae ai))).symm (g9 7 ?_)))))
   refine W.sub ((bi.cons _).cons _) (g9 2 ?_)
   exact⟨AE,(k+1,v57,AF),aZ,⟨rfl,(by have h:=Nz;rw [Qe aa pO abK];exact h),aa⟩,aa⟩
  refine g9 6 ?_
  refine W.sub ((bi.cons _).cons _) (g9 2 ?_)
  exact⟨Le.rfl,(k+1,sM,Ah),aZ,⟨rfl,(by have h:=gJ;rw [x4 aa (fun hh=>absurd (abK.symm.trans hh.2) (by simp))];exact h),aa⟩,aa⟩
 refine g9 11 ?_
 refine WC.cm gJ (ae ai) (fun G60 Fx W1=>(g9 2 ?_))
 refine⟨rfl,_,rfl,?_⟩
 ·have h:=W1;rw [List.take_of_length_le aa]at h;exact h

theorem qu{mR:Value}{a:List aA}(dM:ax bQ G mR a):
    Fc Tryz.prog 121 [mR] G [] (fun v G' M'=>aP bQ 96 G' v (a) M'):=by
 obtain⟨pb,pd,rfl⟩:=dM.form
 have ha:=dM.bytes
 refine Fc.go [.tmp 2] Tryz.func121 Tryz.ntmps121 rfl (fun w0=>(g9 9 ?_))
 refine W.ok (kx cO rfl rfl) (g9 2 ?_)
 refine WC.cond rfl (fun h4=> ?_) (fun h4=> ?_)
 ·have hn:=ax.isNone dM h4
  subst hn
  refine g9 8 ?_
  exact aP.nil
 refine g9 4 ?_
 refine W.mz (e:=bQ) cO cX cy rfl (fun v61 M7 FZ=>(W.mv (W.app (e:=bQ) cO cX cy rfl jv rfl rfl (FZ) (dM) ai (by simpa using ha) (fun v64 WL anA=>(g9 4 ?_)))))
 refine⟨.inr rfl,[_],⟨rfl,trivial⟩,WL,List.sublist_append_left _ _,?_⟩
 have h:=anA
 rw [List.nil_append]at h
 exact h

theorem anB(az:ax bQ G bN l)(ms:Int)(mk:Int)(bO:ah)(dH:ah)(mo:Bool)(mv:ah)(n:Int)(hs:∀m∈l,m.key.b.size≤16∧m.val.b.size≤16)(hn:0≤n∧n≤9223372036854775807)(hmi:i64 ms∧i64 mk)(hl9:l.length≤1000000):
    Fc Tryz.prog 186 [bN,.agg #[iV ms,iV mk,sV bO.b,sV dH.b,.bool mo,sV mv.b],iV n] G [] (fun v G' M'=>M'=[]∧∃r:List aA×Bool,r=IS n l (⟨ms,mk,bO,dH,mo,mv⟩:aA)∧∃u0,v=.tuple #[u0,.bool (r.2)]∧ax bQ G' u0 (r.1)):=by
 obtain⟨aW,aX,rfl⟩:=az.form
 have hl:=az.aH
 have uT:l.length*72≤140737488355328:=az.bytes
 refine Fc.go [.tmp 6,.tmp 7] Tryz.func186 Tryz.ntmps186 rfl (fun w0=>(g9 2 ?_))
 refine W.box (L:=[iV _,iV _,sV _,sV _,.bool _,sV _]) rfl rfl (fun Et=>(g9 10 ?_))
 refine W.ay (ah6 az _ _ _ _ _ _ _ (by assumption) aa) rfl (g9 2 ?_)
 refine W.sp 13 rfl (fun dL=> ?_) (fun dL=> ?_)
 ·have W2:¬(aA.size (⟨ms,mk,bO,dH,mo,mv⟩:aA)≤n-bI l):=by simpa using dL
  refine g9 28 ?_
  refine⟨rfl,_,(ad4 (IT W2)).symm,_,rfl,?_⟩
  ·exact ax.nil
 have W2:aA.size (⟨ms,mk,bO,dH,mo,mv⟩:aA)≤n-bI l:=by simpa using dL
 refine g9 8 ?_
 refine W.sd 17 (fun fU gX=> ?_) (fun fU gX=> ?_)
 ·refine g9 9 ?_
  refine az.a2 (i:=l.length-1) aa (fun akd aml=>(W.ok (aY (i:=l.length-1) cO cX az rfl rfl ⟨aa,aa⟩) (g9 15 ?_)))
  refine WC.cd (fun pT l9=> ?_) (fun pT l9=> ?_)
  ·refine g9 9 ?_
   refine⟨rfl,_,(ad4 (Va aa (by dsimp only;omega))).symm,_,rfl,?_⟩
   ·exact ax.nil
  refine g9 3 ?_
  refine WC.dw bi.k9 (d9 [0,2] ?_)
  refine WD.any [1,3] (by kernel_rfl) rfl ⟨WD.ap ?_,WD.ap ?_,trivial⟩
  ·refine W.call (Mp:=[]) (qu az) rfl ai ?_
   rintro v74 G73 HB CT LU
   refine W.perm (ae ai).symm ?_
   have q80:=LU.form
   refine match q80 with|⟨aUR,aUS,Wj⟩=> ?_
   subst Wj
   refine W.nn (WD.a1 3 rfl (W.Av (e:=bQ) (l:=[(⟨ms,mk,bO,dH,mo,mv⟩:aA)]) (css:=[[iV _,iV _,sV _,sV _,.bool _,sV _]]) cO cX cy rfl rfl rfl rfl rfl rfl ⟨⟨rfl,hmi⟩,trivial⟩ (fun v81 HC adG=>(W.perm (ae ai).symm ?_))))
   have q87:=adG.form
   refine match q87 with|⟨aUT,aUU,aKp⟩=> ?_
   subst aKp
   refine W.nn (WD.a1 4 rfl (W.cm adG (ae ai) (fun G88 anC anD=>(W.app (e:=bQ) cO cX cy rfl jv rfl rfl ((LU.mono anC)) (anD) (ae ai) (by show(List.length _+List.length _)*72≤_;simp;omega) (fun v89 anE axL=>(W.perm (ae ai).symm ?_))))))
   have q95:=axL.form
   refine match q95 with|⟨aUV,aUW,anF⟩=> ?_
   subst anF
   refine W.nn (d9 [5,6] ?_)
   refine g9 2 ?_
   refine WC.cm axL (ae ai) (fun G96 NA aKq=>(g9 2 ?_))
   refine⟨rfl,_,(CE (oL.2 ⟨W2,fun h=>by dsimp only;omega⟩)).symm,_,rfl,?_⟩
   ·exact aKq
  refine W.Av (e:=bQ) (l:=[(⟨ms,mk,bO,dH,mo,mv⟩:aA)]) (css:=[[iV _,iV _,sV _,sV _,.bool _,sV _]]) cO cX cy rfl rfl rfl rfl rfl rfl ⟨⟨rfl,hmi⟩,trivial⟩ (fun v97 aKr axM=>(W.perm (ae ai).symm ?_))
  have aKs:=axM.form
  refine match aKs with|⟨aRe,aRf,abL⟩=> ?_
  subst abL
  refine W.nn (WD.a1 1 rfl (W.call (Mp:=[]) (qu az) rfl ai ?_))
  rintro aUX aUY aRg aAv anG
  refine W.perm (ae ai).symm ?_
  have anH:=anG.form
  refine match anH with|⟨aRh,aRi,Bw⟩=> ?_
  subst Bw
  refine W.nn (WD.a1 4 rfl (W.cm (axM.mono aAv) (ae (dx ai)) (fun aUZ aAw aAx=>(W.app (e:=bQ) cO cX cy rfl jv rfl rfl ((anG.mono aAw)) (aAx) (ae ai) (by show(List.length _+List.length _)*72≤_;simp;omega) (fun aKt abM JR=>(W.perm (ae ai).symm ?_))))))
  have JS:=JR.form
  refine match JS with|⟨aRj,aRk,abN⟩=> ?_
  subst abN
  refine W.nn (d9 [5,6] ?_)
  refine g9 2 ?_
  refine WC.cm JR (ae ai) (fun aU0 aRl aAy=>(g9 2 ?_))
  refine⟨rfl,_,(CE (oL.2 ⟨W2,fun h=>by dsimp only;omega⟩)).symm,_,rfl,?_⟩
  ·exact aAy
 refine g9 19 ?_
 refine WC.dw bi.k9 (d9 [0,2] ?_)
 refine WD.any [1,3] (by kernel_rfl) rfl ⟨WD.ap ?_,WD.ap ?_,trivial⟩
 ·refine W.call (Mp:=[]) (qu az) rfl ai ?_
  rintro aU1 aJh aAz Jy JT
  refine W.perm (ae ai).symm ?_
  have aKu:=JT.form
  refine match aKu with|⟨aRm,aRn,aAA⟩=> ?_
  subst aAA
  refine W.nn (WD.a1 3 rfl (W.Av (e:=bQ) (l:=[(⟨ms,mk,bO,dH,mo,mv⟩:aA)]) (css:=[[iV _,iV _,sV _,sV _,.bool _,sV _]]) cO cX cy rfl rfl rfl rfl rfl rfl ⟨⟨rfl,hmi⟩,trivial⟩ (fun aU2 anI EP=>(W.perm (ae ai).symm ?_))))
  have aKv:=EP.form
  refine match aKv with|⟨aRo,aRp,aAB⟩=> ?_
  subst aAB
  refine W.nn (WD.a1 4 rfl (W.cm EP (ae ai) (fun axN Ra aAC=>(W.app (e:=bQ) cO cX cy rfl jv rfl rfl ((JT.mono Ra)) (aAC) (ae ai) (by show(List.length _+List.length _)*72≤_;simp;omega) (fun aU3 aRq anJ=>(W.perm (ae ai).symm ?_))))))
  have aKw:=anJ.form
  refine match aKw with|⟨aRr,aRs,abO⟩=> ?_
  subst abO
  refine W.nn (d9 [5,6] ?_)
  refine g9 2 ?_
  refine WC.cm anJ (ae ai) (fun aU4 aRt abP=>(g9 2 ?_))
  refine⟨rfl,_,(CE (oL.2 ⟨W2,fun h=>by omega⟩)).symm,_,rfl,?_⟩
  ·exact abP
 refine W.Av (e:=bQ) (l:=[(⟨ms,mk,bO,dH,mo,mv⟩:aA)]) (css:=[[iV _,iV _,sV _,sV _,.bool _,sV _]]) cO cX cy rfl rfl rfl rfl rfl rfl ⟨⟨rfl,hmi⟩,trivial⟩ (fun aU5 aRu anK=>(W.perm (ae ai).symm ?_))
 have aKx:=anK.form
 refine match aKx with|⟨aRv,aRw,abQ⟩=> ?_
 subst abQ
 refine W.nn (WD.a1 1 rfl (W.call (Mp:=[]) (qu az) rfl ai ?_))
 rintro aU6 aU7 aRx aAD anL
 refine W.perm (ae ai).symm ?_
 have anM:=anL.form
 refine match anM with|⟨aRy,aRz,aAE⟩=> ?_
 subst aAE
 refine W.nn (WD.a1 4 rfl (W.cm (anK.mono aAD) (ae (dx ai)) (fun aU8 aAF aAG=>(W.app (e:=bQ) cO cX cy rfl jv rfl rfl ((anL.mono aAF)) (aAG) (ae ai) (by show(List.length _+List.length _)*72≤_;simp;omega) (fun aKy aRA anN=>(W.perm (ae ai).symm ?_))))))
 have aKz:=anN.form
 refine match aKz with|⟨aRB,aRC,aAH⟩=> ?_
 subst aAH
 refine W.nn (d9 [5,6] ?_)
 refine g9 2 ?_
 refine WC.cm anN (ae ai) (fun aU9 aRD aAI=>(g9 2 ?_))
 refine⟨rfl,_,(CE (oL.2 ⟨W2,fun h=>by omega⟩)).symm,_,rfl,?_⟩
 ·exact aAI

end Go.Proofs.YtfhnamngaofccaaGreat
