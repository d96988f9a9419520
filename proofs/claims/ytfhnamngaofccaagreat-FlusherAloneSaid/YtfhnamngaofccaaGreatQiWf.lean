/- Walks of leaves behind messages. -/
import Derived.Test.YtfhnamngaofccaaGreatQiUn
set_option maxRecDepth 100000
set_option maxHeartbeats 1600000
set_option linter.unusedVariables false
set_option linter.unusedSimpArgs false
set_option linter.unnecessarySimpa false
namespace Go.Proofs.YtfhnamngaofccaaGreat
open Go Go.Fw Go.RowKit
attribute [local irreducible] Ok W WC
variable {G:GH} {l:List bp} {ms:List aA} {bN:Value} {HS:Value}
theorem acu(az:ax bA G bN l)(wu:ax bQ G HS ms)(n:Int)(hP:bC l)(hn:l.length+ms.length≤1000000)(hR:∀m∈ms,m.R):
    Fc Tryz.prog 185 [bN,HS,iV n] G [] (fun v G' M'=>M'=[]∧∃r:List bp×Nat,r=dG n l ms∧∃u0,v=.tuple #[u0,aT r.2]∧ax bA G' u0 (r.1)):=by
 obtain⟨aW,aX,rfl⟩:=az.form
 obtain⟨sO,sQ,rfl⟩:=wu.form
 have hl:=az.aH
 have hlm:=wu.aH
 refine Fc.go [.tmp 6,.tmp 7] Tryz.func185 Tryz.ntmps185 rfl (fun w0=>(g9 9 ?_))
 refine W.cS (gE az) rfl (fun avU avV G1 fL RM=>(g9 12 ?_))
 refine WC.loop (X:=(Nat)×Value) (fun k=>[(17,aT k.1),(1,lV sO ms.length sQ),(2,iV n),(15,lV sO ms.length sQ),(16,aT ((ms).length)),(8,k.2)]) (fun k G Ml=>Ml=[]∧ax bA G k.2 (cJ l (ms.take k.1))∧k.1≤ms.length∧gp n l ms k.1) (fun k=>ms.length-k.1) (0,lV avU ((l)).length avV) aZ ?_ ?_
 ·exact⟨rfl,(by simpa [cJ]using RM),aa,gp.zero n l ms⟩
 rintro⟨k,Qx⟩ gG8 G8 _ xB ⟨rfl,kC,hk,hd⟩
 try dsimp only at kC hk hd
 have hm:∀m∈ms,m.fit:=fun m h=>Cf (xT (hR m h))
 have hPk:=bC.aai (ms:=ms.take k) hP (fun m h=>hm m (List.mem_of_mem_take h))
 have hnk:=A4 (ms:=ms.take k) hP (fun m h=>hm m (List.mem_of_mem_take h))
 have jj:(ms.take k).length≤k:=by simp;omega
 refine WC.fr (f:=dO gG8 [(17,aT k),(1,lV sO ms.length sQ),(2,iV n),(15,lV sO ms.length sQ),(16,aT ((ms).length)),(8,Qx)]) rfl (g9 6 ?_)
 refine WC.cd (fun AW tz=> ?_) (fun AW tz=> ?_)
 ·refine g9 7 ?_
  refine(wu.mono (fL.trans xB)).a2 (i:=k) aa (fun PA ax4=>(g9 2 ?_))
  refine W.alloc cy (fun gy=>(g9 9 ?_))
  refine W.call (Mp:=[]) (PI kC ms[k].aO ms[k].kind ms[k].key ms[k].hi ms[k].bT ms[k].val _ hPk aa (hm _ (List.getElem_mem _))) rfl ai ?_
  intro _ G15 _ sn Em
  refine match Em with|⟨Xi,_,WN,_,tU,Nq⟩=> ?_
  subst Xi
  subst WN
  subst tU
  have PD:=Nq.form
  refine match PD with|⟨Wd,We,xK⟩=> ?_
  subst xK
  refine g9 14 ?_
  refine WC.cond rfl (fun jJ=> ?_) (fun jJ=> ?_)
  ·have hlf:iF (cJ l (ms.take k)) ms[k] n=false:=by
     cases h:iF (cJ l (ms.take k)) ms[k] n
     ·rfl
     exfalso;rw [vi h]at jJ;simp at jJ
   refine g9 16 ?_
   refine⟨rfl,_,(hd.stop aa hlf).symm,_,rfl,?_⟩
   ·exact(kC.mono sn)
  have hlf:iF (cJ l (ms.take k)) ms[k] n=true:=by
    by_cases h:iF (cJ l (ms.take k)) ms[k] n=true
    ·exact h
    exfalso;rw [Cg (by simpa using h)]at jJ;simp at jJ
  refine g9 11 ?_
  refine W.sub (bi.cons _) (g9 2 ?_)
  exact⟨sn,(k+1,lV Wd ((vh (cJ l (ms.take k)) ms[k] n).1).length We),aZ,⟨rfl,(by exact ax.cast Nq (by rw [vi hlf,rV aa])),aa,hd.succ aa hlf⟩,aa⟩
 refine g9 16 ?_
 refine⟨rfl,_,((hd.all aa).trans (by rw [show k=ms.length from by omega])).symm,_,rfl,?_⟩
 ·have h:=kC;rw [List.take_of_length_le aa]at h;exact h

theorem acv(az:ax bA G bN l)(wu:ax bQ G HS ms)(n:Int)(hP:bC l)(hn:l.length+ms.length≤1000000)(hR:∀m∈ms,m.R):
    Fc Tryz.prog 155 [bN,HS,iV n] G [] (fun v G' M'=>M'=[]∧∃r:List bp×Nat,r=dG n l ms∧∃u0,v=.tuple #[u0,aT r.2]∧ax bA G' u0 (r.1)):=by
 obtain⟨aW,aX,rfl⟩:=az.form
 obtain⟨sO,sQ,rfl⟩:=wu.form
 have hl:=az.aH
 have hlm:=wu.aH
 refine Fc.go [.tmp 6,.tmp 7] Tryz.func155 Tryz.ntmps155 rfl (fun w0=>(g9 13 ?_))
 refine WC.loop (X:=(Nat)×Value) (fun k=>[(8,aT k.1),(1,lV sO ms.length sQ),(2,iV n),(0,k.2)]) (fun k G Ml=>Ml=[]∧ax bA G k.2 (cJ l (ms.take k.1))∧k.1≤ms.length∧gp n l ms k.1) (fun k=>ms.length-k.1) (0,lV aW l.length aX) aZ ?_ ?_
 ·exact⟨rfl,(by simpa [cJ]using az),aa,gp.zero n l ms⟩
 rintro⟨k,v_0⟩ aLm G23 _ Vr ⟨rfl,eH,hk,hd⟩
 try dsimp only at eH hk hd
 have hm:∀m∈ms,m.fit:=fun m h=>Cf (xT (hR m h))
 have hPk:=bC.aai (ms:=ms.take k) hP (fun m h=>hm m (List.mem_of_mem_take h))
 have hnk:=A4 (ms:=ms.take k) hP (fun m h=>hm m (List.mem_of_mem_take h))
 have jj:(ms.take k).length≤k:=by simp;omega
 refine WC.fr (f:=dO aLm [(8,aT k),(1,lV sO ms.length sQ),(2,iV n),(0,v_0)]) rfl (g9 9 ?_)
 refine WC.cd (fun dL ji=> ?_) (fun dL ji=> ?_)
 ·have hRk:=hR _ (List.getElem_mem (by omega:k<ms.length))
  refine g9 10 ?_
  refine(wu.mono Vr).a2 (i:=k) aa (fun aVY aVZ=>(g9 3 ?_))
  refine W.ay (aaj eH ms[k].aO ms[k].kind ms[k].key ms[k].hi ms[k].bT ms[k].val _) rfl (g9 3 ?_)
  refine WC.cond rfl (fun m7=> ?_) (fun m7=> ?_)
  ·refine g9 16 ?_
   refine⟨rfl,_,(hd.stop aa (by rw [D5 hRk];simpa using m7)).symm,_,rfl,?_⟩
   ·exact eH
  refine g9 6 ?_
  refine(wu.mono Vr).a2 (i:=k) aa (fun L9 aV0=>(g9 2 ?_))
  refine W.cS (HQ eH ms[k].aO ms[k].kind ms[k].key ms[k].hi ms[k].bT ms[k].val hPk aa (hm _ (List.getElem_mem _))) rfl (fun aph api G34 CV aLn=>(g9 10 ?_))
  exact⟨CV,(k+1,lV aph (takeN (cJ l (ms.take k)) ms[k]).length api),aZ,⟨rfl,(by have h:=aLn;rw [rV aa];exact h),aa,hd.succ aa (by rw [D5 hRk];simpa using m7)⟩,aa⟩
 refine g9 16 ?_
 refine⟨rfl,_,((hd.all aa).trans (by rw [show k=ms.length from by omega])).symm,_,rfl,?_⟩
 ·have h:=eH;rw [List.take_of_length_le aa]at h;exact h

variable {nE:List Value} {pE:List Value} {p:Nd}
theorem BA(js:ba G pE p){k:Nd}(nD:ba G nE k)(i:Int):
    Fc Tryz.prog 168 [.agg (List.toArray pE),.agg (List.toArray nE),iV i] G [] (fun v _ _=>v=.bool (decide (fk p k i))):=by
 obtain⟨_,_,_,_,_,_,_,_,rfl,fv,gv,fw,gN,da⟩:=js
 obtain⟨_,_,_,_,_,_,_,_,rfl,fH,fI,fi,fx,cY⟩:=nD
 have hlk:=gv.aH
 obtain⟨aeH,aeI⟩:=da.2.1
 refine Fc.go [.tmp 6] Tryz.func168 Tryz.ntmps168 rfl (fun w0=>(g9 2 ?_))
 refine W.box (L:=[iV _,iV _,lV _ _ _,lV _ _ _,sV _,.bool _,iV _,iV _,lV _ _ _,lV _ _ _]) rfl rfl (fun b1=>(W.box (L:=[iV _,iV _,lV _ _ _,lV _ _ _,sV _,.bool _,iV _,iV _,lV _ _ _,lV _ _ _]) rfl rfl (fun b2=>(g9 9 ?_))))
 refine W.sd 10 (fun h9 p9=> ?_) (fun h9 p9=> ?_)
 ·refine g9 14 ?_
  refine W.sd 18 (fun fU gX=> ?_) (fun fU gX=> ?_)
  ·refine g9 6 ?_
   refine W.sd 22 (fun gD lX=> ?_) (fun gD lX=> ?_)
   ·refine g9 16 ?_
    refine congrArg Value.bool ?_
    exact decide_eq_decide.2 ⟨fun h=>⟨aa,gX,aa,h⟩,fun h=>h.2.2.2⟩
   refine g9 11 ?_
   refine congrArg Value.bool ?_
   exact(decide_eq_false fun h=>by unfold fk at h;omega).symm
  refine g9 15 ?_
  refine congrArg Value.bool ?_
  exact(decide_eq_false fun h=>by unfold fk at h;omega).symm
 refine g9 23 ?_
 refine congrArg Value.bool ?_
 exact(decide_eq_false fun h=>by unfold fk at h;omega).symm

theorem OR(cf:Int)(cl:Int)(cb:Int)(cs:Int)(cr:Int)(js:ba G pE p){k:Nd}(nD:ba G nE k)(i:Int)(hb:0≤cb∧cb≤9223372036854775807)(hr:rising p.ab=true)(mU:∀q∈p.ab,q.b.size≤16)(jt:∀m∈p.af,m.R)(iP:∀m∈k.af,m.key.b.size≤16∧m.val.b.size≤16)(kX:bC k.rows)(hi:i64 i)(gY:k.af.length+p.af.length≤100000∧k.rows.length≤100000):
    Fc Tryz.prog 169 [.agg #[iV cf,iV cl,iV cb,iV cs,iV cr],.agg (List.toArray pE),.agg (List.toArray nE),iV i] G [] (fun v G' M'=>M'=[]∧∃r:Nd×Nat,r=aF cl cb k (av p.ab p.af i)∧∃u0 u1,v=.tuple #[.agg (List.toArray u0),u1]∧ba G' u0 (r.1)∧ax bQ G' u1 ((av p.ab p.af i).take r.2)):=by
 obtain⟨iW,iX,iY,iZ,im,io,ja,jb,rfl,fv,gv,fw,gN,da⟩:=js
 obtain⟨_,_,_,_,_,_,_,_,rfl,fH,fI,fi,fx,cY⟩:=nD
 have hfR:∀m∈(av p.ab p.af i),m.R:=alu mU jt
 have rN:=IV p.ab p.af i
 have qt:∀m∈p.af,m.key.b.size<140737488355328:=fun m h=>by have:=(eR (jt m h)).1;omega
 have Dg:=zD cl (av p.ab p.af i) k.rows
 refine Fc.go [.cell 8 57,.tmp 9] Tryz.func169 Tryz.ntmps169 rfl (fun w0=>(g9 2 ?_))
 refine W.box (L:=[iV _,iV _,iV _,iV _,iV _]) rfl rfl (fun b3=>(W.box (L:=[iV _,iV _,lV _ _ _,lV _ _ _,sV _,.bool _,iV _,iV _,lV _ _ _,lV _ _ _]) rfl rfl (fun b4=>(W.box (L:=[iV _,iV _,lV _ _ _,lV _ _ _,sV _,.bool _,iV _,iV _,lV _ _ _,lV _ _ _]) rfl rfl (fun b5=>(W.alloc bq (fun b6=>(g9 10 ?_))))))))
 refine W.cS (ae8 fv fw i qt hr hi) rfl (fun GR GS G7 DW Gr=>(g9 6 ?_))
 refine W.cN (fK (a:=k) (fy DW fH fI fi fx cY)) rfl (fun apj apk apl apm apn apo apq apr G14 nS yx yy ua yz zR=>(g9 11 ?_))
 refine WC.cd (fun sJ Lk=> ?_) (fun sJ Lk=> ?_)
 ·refine g9 12 ?_
  refine W.call (Mp:=[]) (acu yz (Gr.mono nS) cl kX aa hfR) rfl ai ?_
  intro _ G20 _ Au PD
  refine match PD with|⟨uf,_,rA,_,pB,HP⟩=> ?_
  subst uf
  subst rA
  subst pB
  have q27:=HP.form
  refine match q27 with|⟨akx,aky,yH⟩=> ?_
  subst yH
  refine g9 9 ?_
  refine WC.dw (((bi.k9.k9).k9).cons _) (d9 [0,1,2] ?_)
  have VI:=ax.slice (Gr.mono (nS.trans Au)) (lo:=0) (hi:=(dG cl k.rows (av p.ab p.af i)).2) aa aa
  refine WD.tk 3 rfl (ok_slice (0) ((dG cl k.rows (av p.ab p.af i)).2) cO cX (Gr.mono aS) rfl rfl ⟨_,_,rfl,aa⟩ ⟨aa,aa⟩) (d9 [4,5] ?_)
  refine g9 5 ?_
  refine⟨rfl,_,(IU Lk).symm,_,_,rfl,?_,?_⟩
  ·exact⟨_,_,_,_,_,_,_,_,rfl,(yx.mono Au),(yy.mono Au),(ua.mono Au),HP,cY⟩
  exact ax.cast VI (by rw [List.drop_zero])
 refine g9 11 ?_
 refine WC.loop (X:=(Nat)×List Value) (fun j=>[(43,aT j.1),(4,aq b3),(6,aq b5),(8,aq b6),(10,lV GR ((av p.ab p.af i)).length GS),(41,lV GR ((av p.ab p.af i)).length GS),(42,aT (((av p.ab p.af i)).length))]) (fun j G Ml=>Ml=[(b6,aj 57 gR),(b5,.cells (List.toArray j.2) 57 (0,0)),(b4,aj 57 (cj p iW iX iY iZ im io ja jb)),(b3,aj 23 [iV cf,iV cl,iV cb,iV cs,iV cr])]∧ba G j.2 ({ k with af:=(k.af++(av p.ab p.af i).take j.1) })∧j.1≤(av p.ab p.af i).length∧gU cb k.af (av p.ab p.af i) j.1) (fun j=>(av p.ab p.af i).length-j.1) (0,((cj (k) apj apk apl apm apn apo apq apr):List Value)) aZ ?_ ?_
 ·exact⟨rfl,(by dsimp only;rw [List.take_zero,List.append_nil];exact(cc yx yy ua yz zR)),aa,gU.zero _ _ _⟩
 rintro⟨j,C_6⟩ adN T2 _ jM ⟨rfl,lx,hj,hd⟩
 try dsimp only at lx hj hd
 have hsj:∀m∈(k.af++(av p.ab p.af i).take j),m.key.b.size≤16∧m.val.b.size≤16:=fun m h=>by
   rcases List.mem_append.1 h with h|h
   ·exact iP m h
   exact eR (hfR m (List.mem_of_mem_take h))
 have hlj:(k.af++(av p.ab p.af i).take j).length≤100000:=by rw [List.length_append,List.length_take];omega
 refine match lx with|⟨aps,apt,apu,apv,_,_,apw,apx,Dh,J4,J5,J6,J7,aiN⟩=> ?_
 subst Dh
 refine WC.fr (f:=dO adN [(43,aT j),(4,aq b3),(6,aq b5),(8,aq b6),(10,lV GR ((av p.ab p.af i)).length GS),(41,lV GR ((av p.ab p.af i)).length GS),(42,aT (((av p.ab p.af i)).length))]) rfl (g9 6 ?_)
 refine WC.cd (fun Bg Bh=> ?_) (fun Bg Bh=> ?_)
 ·refine g9 7 ?_
  refine(Gr.mono (nS.trans jM)).a2 (i:=j) aa (fun Uq axA=>(g9 2 ?_))
  refine W.alloc cy (fun b37=>(g9 11 ?_))
  refine W.call (Mp:=[]) (anB J6 ((av p.ab p.af i)[j]'aa).aO ((av p.ab p.af i)[j]'aa).kind ((av p.ab p.af i)[j]'aa).key ((av p.ab p.af i)[j]'aa).hi ((av p.ab p.af i)[j]'aa).bT ((av p.ab p.af i)[j]'aa).val cb hsj hb (by assumption) (by show List.length (k.af++(av p.ab p.af i).take j)≤_;omega)) rfl ai ?_
  intro _ TX _ kV q40
  refine match q40 with|⟨tV,_,CW,_,yv,C6⟩=> ?_
  subst tV
  subst CW
  subst yv
  have Rh:=C6.form
  refine match Rh with|⟨X5,X6,yJ⟩=> ?_
  subst yJ
  refine g9 14 ?_
  refine WC.cond rfl (fun h58=> ?_) (fun h58=> ?_)
  ·have hro:iO cb (k.af++(av p.ab p.af i).take j) ((av p.ab p.af i)[j]'aa)=false:=by rw [←Vc];simpa using h58
   have ii:=hd.stop aa hro
   refine WC.seq (WC.dw ((((bi.k9.k9).k9).cons _).k9) (d9 [0,1,2] ?_))
   have aLo:=ax.slice (Gr.mono ((nS.trans jM).trans kV)) (lo:=0) (hi:=j) aa aa
   refine WD.tk 3 rfl (ok_slice (0) (j) cO cX (Gr.mono aS) rfl rfl ⟨_,_,rfl,aa⟩ ⟨aa,aa⟩) (d9 [4,5] ?_)
   refine g9 10 ?_
   refine⟨rfl,_,(nj Lk ii).symm,_,_,rfl,?_,?_⟩
   ·exact(fy kV J4 J5 J6 J7 cY)
   exact ax.cast aLo (by rw [List.drop_zero])
  have hro:iO cb (k.af++(av p.ab p.af i).take j) ((av p.ab p.af i)[j]'aa)=true:=by rw [←Vc];simpa using h58
  have kZ:k.af++(av p.ab p.af i).take (j+1)=(IS cb (k.af++(av p.ab p.af i).take j) ((av p.ab p.af i)[j]'aa)).1:=by rw [CE hro,List.take_succ_eq_append_getElem aa,List.append_assoc]
  refine g9 12 ?_
  refine W.sub (bi.cons _) (g9 2 ?_)
  exact⟨kV,(j+1,[iV ({ k with af:=(k.af++(av p.ab p.af i).take j) }).slot,iV ({ k with af:=(k.af++(av p.ab p.af i).take j) }).level,lV aps (({ k with af:=(k.af++(av p.ab p.af i).take j) }).ab).length apt,lV apu (({ k with af:=(k.af++(av p.ab p.af i).take j) }).kids).length apv,sV ({ k with af:=(k.af++(av p.ab p.af i).take j) }).high.b,.bool ({ k with af:=(k.af++(av p.ab p.af i).take j) }).cW,iV ({ k with af:=(k.af++(av p.ab p.af i).take j) }).right,iV ({ k with af:=(k.af++(av p.ab p.af i).take j) }).seen,lV X5 ((IS cb (k.af++(av p.ab p.af i).take j) ((av p.ab p.af i)[j]'aa)).1).length X6,lV apw (({ k with af:=(k.af++(av p.ab p.af i).take j) }).rows).length apx]),aZ,⟨rfl,(by dsimp only;rw [kZ];exact⟨_,_,_,_,_,_,_,_,rfl,(J4.mono kV),(J5.mono kV),C6,(J7.mono kV),aiN⟩),aa,hd.succ aa hro⟩,aa⟩
 refine g9 15 ?_
 refine⟨rfl,_,(nj Lk (hd.all aa)).symm,_,_,rfl,?_,?_⟩
 ·exact(cc J4 J5 J6 J7 cY)
 exact ax.cast (Gr.mono aS) (List.take_of_length_le aa).symm

theorem rE(cf:Int)(cl:Int)(cb:Int)(cs:Int)(cr:Int)(js:ba G pE p){k:Nd}(nD:ba G nE k)(i:Int)(hb:0≤cb∧cb≤9223372036854775807)(hr:rising p.ab=true)(mU:∀q∈p.ab,q.b.size≤16)(jt:∀m∈p.af,m.R)(iP:∀m∈k.af,m.key.b.size≤16∧m.val.b.size≤16)(kX:bC k.rows)(hi:i64 i)(gY:k.af.length+p.af.length≤100000∧k.rows.length≤100000):
    Fc Tryz.prog 165 [.agg #[iV cf,iV cl,iV cb,iV cs,iV cr],.agg (List.toArray pE),.agg (List.toArray nE),iV i] G [] (fun v _ _=>v=aT (bW cl cb p k i)):=by
 obtain⟨_,_,_,_,_,_,_,_,rfl,fv,gv,fw,gN,da⟩:=js
 obtain⟨_,_,_,_,_,_,_,_,rfl,fH,fI,fi,fx,cY⟩:=nD
 refine Fc.go [.tmp 8] Tryz.func165 Tryz.ntmps165 rfl (fun w0=>(g9 2 ?_))
 refine W.box (L:=[iV _,iV _,iV _,iV _,iV _]) rfl rfl (fun b47=>(W.box (L:=[iV _,iV _,lV _ _ _,lV _ _ _,sV _,.bool _,iV _,iV _,lV _ _ _,lV _ _ _]) rfl rfl (fun b48=>(W.box (L:=[iV _,iV _,lV _ _ _,lV _ _ _,sV _,.bool _,iV _,iV _,lV _ _ _,lV _ _ _]) rfl rfl (fun b49=>(g9 9 ?_))))))
 refine W.ay (BA (p:=p) (k:=k) (cc fv gv fw gN da) (cc fH fI fi fx cY) i) rfl (g9 3 ?_)
 refine WC.cond rfl (fun lW=> ?_) (fun lW=> ?_)
 ·refine g9 8 ?_
  refine congrArg (Value.int .i64) (congrArg Nat.cast ?_)
  exact(Vb (by simpa using lW)).symm
 refine g9 8 ?_
 refine W.call (Mp:=[]) (OR cf cl cb cs cr (p:=p) (k:=k) (cc fv gv fw gN da) (cc fH fI fi fx cY) i hb hr mU jt iP kX hi gY) rfl ai ?_
 intro _ G50 _ VN q53
 refine match q53 with|⟨am3,_,yI,_,_,WE,Jv,Jj⟩=> ?_
 subst am3
 subst yI
 subst WE
 refine match Jv with|⟨_,_,_,_,_,_,_,_,WG,WH,WI,WJ,WK,Nv⟩=> ?_
 subst WG
 have QU:=Jj.form
 refine match QU with|⟨amf,amg,JE⟩=> ?_
 subst JE
 refine g9 3 ?_
 refine W.alloc bq (fun b60=>(g9 13 ?_))
 refine congrArg (Value.int .i64) (congrArg Nat.cast ?_)
 rw [x5 (by simpa using lW),mg]

theorem F3(ms:Int)(mk:Int)(bO:ah)(dH:ah)(mo:Bool)(mv:ah)(iK:ah)(iL:ah)(so:Bool)(hk:bO.b.size<140737488355328):
    Fc Tryz.prog 170 [.agg #[iV ms,iV mk,sV bO.b,sV dH.b,.bool mo,sV mv.b],.agg #[sV iK.b,sV iL.b,.bool so]] G [] (fun v _ _=>v=.tuple #[.agg (List.toArray ((bd (⟨ms,mk,bO,dH,mo,mv⟩:aA) ⟨iK,iL,so⟩).1.cells)),.bool ((bd (⟨ms,mk,bO,dH,mo,mv⟩:aA) ⟨iK,iL,so⟩).2)]):=by
 refine Fc.go [.cell 4 96,.tmp 5] Tryz.func170 Tryz.ntmps170 rfl (fun w0=>(g9 2 ?_))
 refine W.box (L:=[iV _,iV _,sV _,sV _,.bool _,sV _]) rfl rfl (fun b61=>(W.box (L:=[sV _,sV _,.bool _]) rfl rfl (fun b62=>(W.alloc cy (fun b63=>(g9 10 ?_))))))
 refine WC.cond rfl (fun vn=> ?_) (fun vn=> ?_)
 ·refine g9 2 ?_
  refine W.ok (aM (L:=[iV _,iV _,sV _,sV _,.bool _,sV _]) Tm cy rfl rfl rfl) (g9 7 ?_)
  show Value.tuple #[Value.agg (List.toArray [_,_,_,_,_,_]),Value.bool _]=_
  rw [bd,if_pos (by assumption)];rfl
 refine g9 7 ?_
 refine W.ok (aM (L:=[sV _,sV _,.bool _]) kU dY rfl rfl rfl) (W.ay (DP _ _ _ _ _ _ _ ah.nil _ (by first|assumption|omega|(dsimp only;omega))) rfl (g9 8 ?_))
 show Value.tuple #[Value.agg (List.toArray [_,_,_,_,_,_]),Value.bool _]=_
 rw [bd,if_neg (by simp_all)];rfl

theorem z4(cf:Int)(cl:Int)(cb:Int)(cs:Int)(cr:Int)(js:ba G pE p){k:Nd}(nD:ba G nE k)(i:Int)(hb:0≤cb∧cb≤9223372036854775807)(hr:rising p.ab=true)(mU:∀q∈p.ab,q.b.size≤16)(jt:∀m∈p.af,m.R)(iP:∀m∈k.af,m.key.b.size≤16∧m.val.b.size≤16)(kX:bC k.rows)(hi:i64 i)(gY:k.af.length+p.af.length≤100000∧k.rows.length≤100000):
    Fc Tryz.prog 166 [.agg #[iV cf,iV cl,iV cb,iV cs,iV cr],.agg (List.toArray pE),.agg (List.toArray nE),iV i] G [] (fun v _ _=>v=.bool (decide (fk p k i∧0<(av p.ab p.af i).length∧bW cl cb p k i=0))):=by
 obtain⟨_,_,_,_,_,_,_,_,rfl,fv,gv,fw,gN,da⟩:=js
 obtain⟨_,_,_,_,_,_,_,_,rfl,fH,fI,fi,fx,cY⟩:=nD
 have qt:∀m∈p.af,m.key.b.size<140737488355328:=fun m h=>by have:=(eR (jt m h)).1;omega
 refine Fc.go [.tmp 8] Tryz.func166 Tryz.ntmps166 rfl (fun w0=>(g9 2 ?_))
 refine W.box (L:=[iV _,iV _,iV _,iV _,iV _]) rfl rfl (fun b64=>(W.box (L:=[iV _,iV _,lV _ _ _,lV _ _ _,sV _,.bool _,iV _,iV _,lV _ _ _,lV _ _ _]) rfl rfl (fun b65=>(W.box (L:=[iV _,iV _,lV _ _ _,lV _ _ _,sV _,.bool _,iV _,iV _,lV _ _ _,lV _ _ _]) rfl rfl (fun b66=>(g9 8 ?_))))))
 refine W.ay (BA (p:=p) (k:=k) (cc fv gv fw gN da) (cc fH fI fi fx cY) i) rfl (W.mv ?_)
 refine W.sp 13 rfl (fun dL=> ?_) (fun dL=> ?_)
 ·refine g9 11 ?_
  refine W.cS (ae8 fv fw i qt hr hi) rfl (fun amv amw G67 Ja Wi=>(g9 6 ?_))
  refine W.sd 23 (fun mS Ce=> ?_) (fun mS Ce=> ?_)
  ·refine g9 9 ?_
   refine W.ay (rE cf cl cb cs cr (p:=p) (k:=k) (fy Ja fv gv fw gN da) (fy Ja fH fI fi fx cY) i hb hr mU jt iP kX hi gY) rfl (g9 8 ?_)
   refine congrArg Value.bool ?_
   first|(simp_all;done)|(simp_all;omega)
  refine g9 12 ?_
  refine congrArg Value.bool ?_
  first|(simp_all;done)|(simp_all;omega)
 refine g9 22 ?_
 refine congrArg Value.bool ?_
 first|(simp_all;done)|(simp_all;omega)

variable {l:List aA}
theorem J8(az:ax bQ G bN l):
    Fc Tryz.prog 151 [bN] G [] (fun v G' M'=>M'=[]∧∃u0,v=u0∧ax bQ G' u0 (aD l)):=by
 obtain⟨aW,aX,rfl⟩:=az.form
 have hl:=az.aH
 have uT:l.length*72≤140737488355328:=az.bytes
 refine Fc.go [.tmp 2] Tryz.func151 Tryz.ntmps151 rfl (fun w0=>(g9 17 ?_))
 refine WC.loop (X:=(Nat)×Value×MH) (fun k=>[(4,aT k.1),(0,lV aW l.length aX),(3,k.2.1)]) (fun k G Ml=>Ml=(k.2.2++[])∧aP bQ 96 G k.2.1 (l.take k.1) k.2.2∧k.1≤l.length∧∀j (h:j<l.length),j<k.1→mX l[j]=false) (fun k=>l.length-k.1) (0,lV none 0 0,([]:MH)) aZ ?_ ?_
 ·exact⟨rfl,(by exact aP.nil),aa,fun j _ h=>by omega⟩
 rintro⟨k,I6,M_3⟩ DQ G1 _ fL ⟨rfl,iU,hk,hj⟩
 try dsimp only at iU hk hj
 refine WC.fr (f:=dO DQ [(4,aT k),(0,lV aW l.length aX),(3,I6)]) rfl (g9 9 ?_)
 refine WC.cd (fun h8 p8=> ?_) (fun h8 p8=> ?_)
 ·refine g9 9 ?_
  refine(az.mono fL).a2 (i:=k) aa (fun he2 hm3=>(g9 6 ?_))
  refine WC.cd (fun fU gX=> ?_) (fun fU gX=> ?_)
  ·have hix:gn mX l=((k:Nat):Int):=B8 (q:=mX) aa fU hj
   refine g9 7 ?_
   refine WC.cd (fun AW tz=> ?_) (fun AW tz=> ?_)
   ·refine g9 3 ?_
    have hs7:=ax.slice (az.mono fL) (lo:=0) (hi:=1) aa aa
    refine W.ok (ok_slice (0) (1) cO cX (az.mono fL) rfl rfl ⟨_,_,rfl,aa⟩ ⟨aa,aa⟩) (g9 12 ?_)
    refine⟨rfl,_,rfl,?_⟩
    exact ax.cast hs7 (alE hix aa)
   refine g9 8 ?_
   refine WC.cm iU ai (fun G8 xB Gr=>(g9 8 ?_))
   refine⟨rfl,_,rfl,?_⟩
   exact ax.cast Gr (alF hix aa)
  refine g9 6 ?_
  refine(az.mono fL).a2 (i:=k) aa (fun PA ax4=>(g9 2 ?_))
  refine W.lit (e:=bQ) (l:=[(l[k]'aa)]) (css:=[[iV _,iV _,sV _,sV _,.bool _,sV _]]) cO cX cy rfl rfl rfl rfl rfl rfl ⟨⟨rfl,ax4⟩,trivial⟩ (fun aIz G14 nS HO=>(W.app (e:=bQ) cO cX cy rfl jv rfl rfl ((iU.mono nS)) (HO) ai (by show(List.length _+1)*72≤_;rw [List.length_take];omega) (fun v15 Je Jf=>(g9 10 ?_))))
  exact⟨nS,(k+1,v15,Je),aZ,⟨rfl,(by have h:=Jf;rw [List.take_succ_eq_append_getElem aa];exact h),aa,fun j h oh=>by
      by_cases e2:j=k
      ·subst e2;exact fU
      ·exact hj j h aa⟩,aa⟩
 refine g9 11 ?_
 refine WC.cm iU ai (fun G18 qN yw=>(g9 2 ?_))
 refine⟨rfl,_,rfl,?_⟩
 exact ax.cast yw (ahd (fun j h=>hj j h aa) aa)

variable {P:List ah} {Q9:Value}
theorem W3(xd:ax dg G Q9 P)(az:ax bQ G bN l)(i:Int)(j3:∀m∈l,m.key.b.size<140737488355328)(hi:i64 i):
    Fc Tryz.prog 127 [Q9,bN,iV i] G [] (fun v G' M'=>M'=[]∧∃u0,v=u0∧ax bQ G' u0 (av P l i)):=by
 obtain⟨yK,yL,rfl⟩:=xd.form
 obtain⟨aW,aX,rfl⟩:=az.form
 have hl:=az.aH
 have uT:l.length*72≤140737488355328:=az.bytes
 have rN:=rf l
 have hkf:∀m∈aD l,m.key.b.size<140737488355328:=fun m h=>j3 m (re h)
 refine Fc.go [.tmp 6] Tryz.func127 Tryz.ntmps127 rfl (fun w0=>(g9 14 ?_))
 refine W.cS (J8 az) rfl (fun nF nG G19 jV tE=>(g9 5 ?_))
 refine WC.loop (X:=(Nat)×Value×MH) (fun k=>[(15,aT k.1),(0,lV yK P.length yL),(2,iV i),(13,lV nF (aD (l)).length nG),(14,aT ((aD (l)).length)),(7,k.2.1)]) (fun k G Ml=>Ml=(k.2.2++[])∧aP bQ 96 G k.2.1 (((aD l).take k.1).filterMap (nQ P i)) k.2.2∧k.1≤(aD l).length) (fun k=>(aD l).length-k.1) (0,lV none 0 0,([]:MH)) aZ ?_ ?_
 ·exact⟨rfl,(by exact aP.nil),aa⟩
 rintro⟨k,sM,Ah⟩ axH G26 _ LY ⟨rfl,gJ,hk⟩
 try dsimp only at gJ hk
 have hfm:=Qd (nQ P i) (aD l) k
 refine WC.fr (f:=dO axH [(15,aT k),(0,lV yK P.length yL),(2,iV i),(13,lV nF (aD (l)).length nG),(14,aT ((aD (l)).length)),(7,sM)]) rfl (g9 6 ?_)
 refine WC.cd (fun fU gX=> ?_) (fun fU gX=> ?_)
 ·refine g9 6 ?_
  refine(tE.mono LY).a2 (i:=k) aa (fun VG aLp=>(g9 2 ?_))
  refine W.alloc cy (fun b32=>(g9 4 ?_))
  refine WC.dw bi.k9 (d9 [0,1,2] ?_)
  refine WD.any [3,8] (by kernel_rfl) rfl ⟨WD.ap ?_,WD.ap ?_,trivial⟩
  ·refine W.ay (oz (xd.mono aS) _ hi) rfl (W.nn ?_)
   refine WD.any [4,8] (by kernel_rfl) rfl ⟨WD.ap ?_,WD.ap ?_,trivial⟩
   ·refine W.ay (tw _ _ _ _ _ _ _ _ _ (hkf _ (List.getElem_mem (by omega:k<(aD l).length)))) rfl (W.nn (d9 [5,6,7] ?_))
    refine WD.a1 8 rfl (W.alloc cy (fun Ly=>(W.nn (d9 [9,10] ?_))))
    refine g9 6 ?_
    refine W.sp 28 rfl (fun rF=> ?_) (fun rF=> ?_)
    ·refine g9 7 ?_
     refine W.ay (oy (xd.mono aS) _) rfl (g9 7 ?_)
     refine WC.cd (fun nN qT=> ?_) (fun nN qT=> ?_)
     ·refine g9 3 ?_
      refine W.lit (e:=bQ) (l:=[(aA.clip (aD l)[k] (ar P i)).1]) (css:=[[iV _,iV _,sV _,sV _,.bool _,sV _]]) cO cX cy rfl rfl rfl rfl rfl rfl ⟨⟨rfl,o7 (by assumption)⟩,trivial⟩ (fun aV1 G34 CV anz=>(W.app (e:=bQ) cO cX cy rfl jv rfl rfl ((gJ.mono CV)) (anz) (ae (ae ai)) (by show(List.length _+1)*72≤_;omega) (fun v35 CU apy=>(W.perm (ae (ae ai)).symm (g9 7 ?_)))))
      refine W.sub ((bi.cons _).cons _) (g9 2 ?_)
      exact⟨CV,(k+1,v35,CU),aZ,⟨rfl,(by have h:=apy;rw [Qe aa qT rF];exact h),aa⟩,aa⟩
     refine g9 6 ?_
     refine W.sub ((bi.cons _).cons _) (g9 2 ?_)
     exact⟨Le.rfl,(k+1,sM,Ah),aZ,⟨rfl,(by have h:=gJ;rw [x4 aa (fun hh=>qT hh.1)];exact h),aa⟩,aa⟩
    refine g9 16 ?_
    refine W.sub ((bi.cons _).cons _) (g9 2 ?_)
    exact⟨Le.rfl,(k+1,sM,Ah),aZ,⟨rfl,(by have h:=gJ;rw [x4 aa (fun hh=>absurd (rF.symm.trans hh.2) (by simp))];exact h),aa⟩,aa⟩
   refine W.alloc cy (fun b38=>(W.nn (WD.a1 4 rfl (W.ay (tw _ _ _ _ _ _ _ _ _ (hkf _ (List.getElem_mem (by omega:k<(aD l).length)))) rfl (W.nn (d9 [5,6,7,9,10] ?_))))))
   refine g9 6 ?_
   refine W.sp 28 rfl (fun rF=> ?_) (fun rF=> ?_)
   ·refine g9 7 ?_
    refine W.ay (oy (xd.mono aS) _) rfl (g9 7 ?_)
    refine WC.cd (fun nN qT=> ?_) (fun nN qT=> ?_)
    ·refine g9 3 ?_
     refine W.lit (e:=bQ) (l:=[(aA.clip (aD l)[k] (ar P i)).1]) (css:=[[iV _,iV _,sV _,sV _,.bool _,sV _]]) cO cX cy rfl rfl rfl rfl rfl rfl ⟨⟨rfl,o7 (by assumption)⟩,trivial⟩ (fun aJE G39 yF C6=>(W.app (e:=bQ) cO cX cy rfl jv rfl rfl ((gJ.mono yF)) (C6) (ae (ae ai)) (by show(List.length _+1)*72≤_;omega) (fun v40 axC amp=>(W.perm (ae (ae ai)).symm (g9 7 ?_)))))
     refine W.sub ((bi.cons _).cons _) (g9 2 ?_)
     exact⟨yF,(k+1,v40,axC),aZ,⟨rfl,(by have h:=amp;rw [Qe aa qT rF];exact h),aa⟩,aa⟩
    refine g9 6 ?_
    refine W.sub ((bi.cons _).cons _) (g9 2 ?_)
    exact⟨Le.rfl,(k+1,sM,Ah),aZ,⟨rfl,(by have h:=gJ;rw [x4 aa (fun hh=>qT hh.1)];exact h),aa⟩,aa⟩
   refine g9 16 ?_
   refine W.sub ((bi.cons _).cons _) (g9 2 ?_)
   exact⟨Le.rfl,(k+1,sM,Ah),aZ,⟨rfl,(by have h:=gJ;rw [x4 aa (fun hh=>absurd (rF.symm.trans hh.2) (by simp))];exact h),aa⟩,aa⟩
  refine W.alloc cy (fun b43=>(W.nn (WD.a1 3 rfl (W.ay (oz (xd.mono aS) _ hi) rfl (W.nn (WD.a1 4 rfl (W.ay (tw _ _ _ _ _ _ _ _ _ (hkf _ (List.getElem_mem (by omega:k<(aD l).length)))) rfl (W.nn (d9 [5,6,7,9,10] ?_)))))))))
  refine g9 6 ?_
  refine W.sp 28 rfl (fun rF=> ?_) (fun rF=> ?_)
  ·refine g9 7 ?_
   refine W.ay (oy (xd.mono aS) _) rfl (g9 7 ?_)
   refine WC.cd (fun nN qT=> ?_) (fun nN qT=> ?_)
   ·refine g9 3 ?_
    refine W.lit (e:=bQ) (l:=[(aA.clip (aD l)[k] (ar P i)).1]) (css:=[[iV _,iV _,sV _,sV _,.bool _,sV _]]) cO cX cy rfl rfl rfl rfl rfl rfl ⟨⟨rfl,o7 (by assumption)⟩,trivial⟩ (fun aV2 G44 afj aLq=>(W.app (e:=bQ) cO cX cy rfl jv rfl rfl ((gJ.mono afj)) (aLq) (ae (ae ai)) (by show(List.length _+1)*72≤_;omega) (fun v45 ND afp=>(W.perm (ae (ae ai)).symm (g9 7 ?_)))))
    refine W.sub ((bi.cons _).cons _) (g9 2 ?_)
    exact⟨afj,(k+1,v45,ND),aZ,⟨rfl,(by have h:=afp;rw [Qe aa qT rF];exact h),aa⟩,aa⟩
   refine g9 6 ?_
   refine W.sub ((bi.cons _).cons _) (g9 2 ?_)
   exact⟨Le.rfl,(k+1,sM,Ah),aZ,⟨rfl,(by have h:=gJ;rw [x4 aa (fun hh=>qT hh.1)];exact h),aa⟩,aa⟩
  refine g9 16 ?_
  refine W.sub ((bi.cons _).cons _) (g9 2 ?_)
  exact⟨Le.rfl,(k+1,sM,Ah),aZ,⟨rfl,(by have h:=gJ;rw [x4 aa (fun hh=>absurd (rF.symm.trans hh.2) (by simp))];exact h),aa⟩,aa⟩
 refine g9 11 ?_
 refine WC.cm gJ ai (fun G48 CR aLr=>(g9 2 ?_))
 refine⟨rfl,_,rfl,?_⟩
 ·have h:=aLr;rw [List.take_of_length_le aa]at h;exact h

theorem F4(xd:ax dg G Q9 P)(az:ax bQ G bN l)(hs:∀m∈l,m.key.b.size≤16∧m.val.b.size≤16)(hl9:l.length≤100000∧P.length≤100000)(hr:rising P=true):
    Fc Tryz.prog 103 [Q9,bN] G [] (fun v _ _=>v=.tuple #[iV ((fF P l).1),.bool ((fF P l).2)]):=by
 obtain⟨yK,yL,rfl⟩:=xd.form
 obtain⟨aW,aX,rfl⟩:=az.form
 have hl:=az.aH
 have hlP:=xd.aH
 have rN:=rf l
 have hfs:∀m∈aD l,m.key.b.size≤16∧m.val.b.size≤16:=fun m h=>hs m (re h)
 refine Fc.go [.tmp 4,.tmp 5] Tryz.func103 Tryz.ntmps103 rfl (fun w0=>(g9 14 ?_))
 refine WC.cd (fun gl gm=> ?_) (fun gl gm=> ?_)
 ·refine g9 9 ?_
  show Value.tuple #[Value.int _ _,Value.bool _]=_
  rw [ahc aa]
 refine g9 6 ?_
 refine W.ok (Ok.int (n:=((P.length+1:Nat):Int)) (db rfl rfl aa) aa) (W.Jc (e:=bY) (a0:=(0:Int)) (n:=P.length+1) cq ci kp rfl tq (⟨rfl,by decide,by decide⟩) rfl rfl (by first|(show _*8≤140737488355328;omega)|(show _*8≤16777216;omega)|(show _*1≤16777216;omega)) (by first|(show _*8≤140737488355328;omega)|(show _*8≤16777216;omega)|(show _*1≤16777216;omega)) (fun v1 Gj HJ=> ?_))
 have q7:=HJ.form
 refine match q7 with|⟨sa4,sc5,rD⟩=> ?_
 subst rD
 refine g9 7 ?_
 refine W.cS (Ny az) rfl (fun QL QM G8 xB hv9=>(g9 5 ?_))
 refine WC.loop (X:=(Nat)×Value×MH) (fun q=>[(22,aT q.1),(0,lV yK P.length yL),(20,lV QL ((aD l)).length QM),(21,aT (((aD l)).length)),(6,q.2.1)]) (fun q G Ml=>Ml=(q.2.2++[])∧aP bY 3 G q.2.1 (yh P ((aD l).take q.1)) q.2.2∧q.1≤(aD l).length) (fun q=>(aD l).length-q.1) (0,lV sa4 ((List.replicate (P.length+1) (0:Int))).length sc5,Gj) aZ ?_ ?_
 ·exact⟨rfl,(by exact aP.cast (HJ.mono xB) (alD P)),aa⟩
 rintro⟨q,v_6,M_6⟩ axz G15 _ sn ⟨rfl,lx,hq⟩
 try dsimp only at lx hq
 have hwl:=yi P ((aD l).take q)
 refine WC.fr (f:=dO axz [(22,aT q),(0,lV yK P.length yL),(20,lV QL ((aD l)).length QM),(21,aT (((aD l)).length)),(6,v_6)]) rfl (g9 6 ?_)
 refine WC.cd (fun AV DR=> ?_) (fun AV DR=> ?_)
 ·have W4:(aJ P ((aD l)[q]'aa).key)<(yh P ((aD l).take q)).length:=by rw [yi];have:(aJ P ((aD l)[q]'aa).key)≤P.length:=List.length_filter_le _ _;omega
  have hg9:=nq W4
  have hb9:=aee P ((aD l).take q) (aJ P ((aD l)[q]'aa).key) (fun m h=>hfs m (List.mem_of_mem_take h))
  have hb8:=yg P ((aD l).take q) (aJ P ((aD l)[q]'aa).key)
  have ht9:((aD l).take q).length≤100000:=by rw [List.length_take];omega
  have WO:=o8 (hfs _ (List.getElem_mem (by omega:q<(aD l).length)))
  have hwi:i64 ((yh P ((aD l).take q))[(aJ P ((aD l)[q]'aa).key)]'W4+((aD l)[q]'aa).size):=⟨aa,aa⟩
  have PA:aA.size ⟨((aD l)[q]'aa).aO,((aD l)[q]'aa).kind,((aD l)[q]'aa).key,((aD l)[q]'aa).hi,((aD l)[q]'aa).bT,((aD l)[q]'aa).val⟩=((aD l)[q]'aa).size:=rfl
  refine g9 6 ?_
  refine(hv9.mono sn).a2 (i:=q) aa (fun awZ aV3=>(g9 2 ?_))
  refine W.alloc cy (fun b21=>(g9 3 ?_))
  refine WC.dw eu.k9 (d9 [0,1,2,3,7] ?_)
  refine WD.a1 4 rfl (W.ay (vq (xd.mono aS) _ hr) rfl (W.nn (lx.a2 (i:=(aJ P ((aD l)[q]'aa).key)) aa (fun H6 aV4=>(WD.tk 5 rfl (aE (i:=(aJ P ((aD l)[q]'aa).key)) cq ci lx rfl rfl ⟨rfl,aa⟩) ?_)))))
  refine WD.any [6,8] (by kernel_rfl) rfl ⟨WD.ap ?_,WD.ap ?_,trivial⟩
  ·refine W.ok (bM (vs:=jk) ci H6 (ae ai) rfl rfl rfl (by simp)) (W.nn (WD.a1 8 rfl (W.ay (vW _ _ _ _ _ _) rfl (W.nn (d9 [9] ?_)))))
   refine lx.a2 (i:=(aJ P ((aD l)[q]'aa).key)) aa (fun axd aV5=>(WD.tk 10 rfl (aE (i:=(aJ P ((aD l)[q]'aa).key)) cq ci lx rfl rfl ⟨rfl,aa⟩) (WD.a1 11 rfl (W.dF (i:=(aJ P ((aD l)[q]'aa).key)) (o:=0) (vs:=jk) (a':=((yh P ((aD l).take q))[(aJ P ((aD l)[q]'aa).key)]'W4+((aD l)[q]'aa).size)) ci rfl rfl rfl rfl rfl (lx) (ae ai) aa (by decide) (fun cs h=>by rw [h.1];exact⟨rfl,hwi⟩) (fun Nb TM=>(W.perm (ae ai).symm (W.nn (WD.done (by kernel_rfl) (AO (nU (g9 3 ?_)))))))))))
   refine W.sub (bi.cons _) (g9 2 ?_)
   exact⟨Le.rfl,(q+1,v_6,Nb),aZ,⟨rfl,(by have h:=TM;rw [Vp aa W4]at h;exact h),aa⟩,aa⟩
  refine W.ay (vW _ _ _ _ _ _) rfl (W.nn (WD.a1 6 rfl (W.ok (bM (vs:=jk) ci H6 (ae ai) rfl rfl rfl (by simp)) (W.nn (d9 [9] ?_)))))
  refine lx.a2 (i:=(aJ P ((aD l)[q]'aa).key)) aa (fun Uq aV6=>(WD.tk 10 rfl (aE (i:=(aJ P ((aD l)[q]'aa).key)) cq ci lx rfl rfl ⟨rfl,aa⟩) (WD.a1 11 rfl (W.dF (i:=(aJ P ((aD l)[q]'aa).key)) (o:=0) (vs:=jk) (a':=((yh P ((aD l).take q))[(aJ P ((aD l)[q]'aa).key)]'W4+((aD l)[q]'aa).size)) ci rfl rfl rfl rfl rfl (lx) (ae ai) aa (by decide) (fun cs h=>by rw [h.1];exact⟨rfl,hwi⟩) (fun CU apy=>(W.perm (ae ai).symm (W.nn (WD.done (by kernel_rfl) (AO (nU (g9 3 ?_)))))))))))
  refine W.sub (bi.cons _) (g9 2 ?_)
  exact⟨Le.rfl,(q+1,v_6,CU),aZ,⟨rfl,(by have h:=apy;rw [Vp aa W4]at h;exact h),aa⟩,aa⟩
 refine g9 6 ?_
 have X7:=lx
 rw [List.take_of_length_le (by omega:(aD l).length≤q)]at X7
 refine g9 13 ?_
 refine WC.loop (X:=Nat) (fun k=>[(9,aT ((dA (iG P (aD l)) k))),(40,aT k),(6,v_6),(38,v_6),(39,aT (((yh P (aD l))).length))]) (fun k _ Ml=>Ml=(M_6++[])∧k≤P.length+1) (fun k=>P.length+1-k) 0 aZ ?_ ?_
 ·exact⟨rfl,aa⟩
 rintro k aV7 G39 _ yF ⟨rfl,hk⟩
 have hbl:=Be (iG P (aD l)) k
 have aV8:=yi P (aD l)
 refine g9 6 ?_
 refine WC.cd (fun mT vp=> ?_) (fun mT vp=> ?_)
 ·refine g9 7 ?_
  refine(X7.mono yF).a2 (i:=k) aa (fun aLs aV9=>(W.ok (aE (i:=k) cq ci (X7.mono yF) rfl rfl ⟨aa,aa⟩) (W.ok (bM (vs:=jk) ci aLs ai rfl rfl rfl (by simp)) (g9 9 ?_))))
  refine(X7.mono yF).a2 (i:=(dA (iG P (aD l)) k)) aa (fun Ur aWa=>(W.ok (aE (i:=(dA (iG P (aD l)) k)) cq ci (X7.mono yF) rfl rfl ⟨rfl,aa⟩) (W.ok (bM (vs:=jk) ci Ur ai rfl rfl rfl (by simp)) (g9 3 ?_))))
  refine WC.cd (fun h50 LD=> ?_) (fun h50 LD=> ?_)
  ·refine g9 11 ?_
   exact⟨Le.rfl,k+1,⟨(iv (by rw [MW (by rw [nq,nq]at LD;omega)])),eqv,eqv,eqv,eqv,trivial⟩,⟨rfl,aa⟩,aa⟩
  refine g9 8 ?_
  exact⟨Le.rfl,k+1,⟨(iv (by rw [Ek (by rw [nq,nq]at LD;omega)])),eqv,eqv,eqv,eqv,trivial⟩,⟨rfl,aa⟩,aa⟩
 refine g9 14 ?_
 show Value.tuple #[Value.int _ _,Value.bool _]=_
 rw [MX aa,show k=P.length+1 by omega]

theorem F5(xd:ax dg G Q9 P)(az:ax bQ G bN l)(hs:∀m∈l,m.key.b.size≤16∧m.val.b.size≤16)(hl9:l.length≤100000∧P.length≤100000):
    Fc Tryz.prog 124 [Q9,bN] G [] (fun v _ _=>v=.tuple #[iV ((fF P l).1),.bool ((fF P l).2)]):=by
 obtain⟨yK,yL,rfl⟩:=xd.form
 obtain⟨aW,aX,rfl⟩:=az.form
 have hl:=az.aH
 have hlP:=xd.aH
 have rN:=rf l
 have hfs:∀m∈aD l,m.key.b.size≤16∧m.val.b.size≤16:=fun m h=>hs m (re h)
 refine Fc.go [.tmp 4,.tmp 5] Tryz.func124 Tryz.ntmps124 rfl (fun w0=>(g9 19 ?_))
 refine WC.loop (X:=Nat) (fun i=>[(6,aT ((dA (iG P (aD l)) i))),(7,iV (if i=0 then 0 else(iG P (aD l)) (dA (iG P (aD l)) i))),(8,aT i),(0,lV yK P.length yL),(1,lV aW l.length aX)]) (fun i _ Ml=>Ml=[]∧i≤P.length+1) (fun i=>P.length+1-i) 0 ⟨(by rfl),(by rfl),eqv,eqv,eqv,trivial⟩ ?_ ?_
 ·exact⟨rfl,aa⟩
 rintro i DQ G1 _ fL ⟨rfl,hi⟩
 refine g9 9 ?_
 refine WC.cd (fun lW nM=> ?_) (fun lW nM=> ?_)
 ·try dsimp only at nM
  refine g9 13 ?_
  refine W.cS (J8 (az.mono fL)) rfl (fun avW avX G2 j7 hv3=>(g9 5 ?_))
  refine WC.loop (X:=Nat) (fun q=>[(9,iV (iG P ((aD l).take q) i)),(21,aT q),(0,lV yK P.length yL),(1,lV aW l.length aX),(6,aT ((dA (iG P (aD l)) i))),(7,iV (if i=0 then 0 else(iG P (aD l)) (dA (iG P (aD l)) i))),(8,aT i),(19,lV avW ((aD l)).length avX),(20,aT (((aD l)).length))]) (fun q _ Ml=>Ml=[]∧q≤(aD l).length) (fun q=>(aD l).length-q) 0 ⟨(by rfl),eqv,eqv,eqv,eqv,eqv,eqv,eqv,eqv,trivial⟩ ?_ ?_
  ·exact⟨rfl,Nat.zero_le _⟩
  rintro q gG9 G9 _ HK ⟨rfl,hq⟩
  have hb9:=aee P ((aD l).take q) i (fun m h=>hfs m (List.mem_of_mem_take h))
  have hb8:=yg P ((aD l).take q) i
  have ht9:((aD l).take q).length≤100000:=by rw [List.length_take];omega
  refine g9 6 ?_
  refine WC.cd (fun m7 m8=> ?_) (fun m7 m8=> ?_)
  ·try dsimp only at m8
   refine g9 6 ?_
   refine(hv3.mono HK).a2 (i:=q) aa (fun VE aWb=>(g9 2 ?_))
   refine W.alloc cy (fun qI=>(g9 8 ?_))
   refine W.ay (oy (xd.mono aS) _) rfl (g9 4 ?_)
   refine WC.cd (fun jJ vV=> ?_) (fun jJ vV=> ?_)
   ·try dsimp only at vV
    have apz:(aJ P ((aD l)[q]'aa).key)=i:=by omega
    have WO:=o8 (hfs _ (List.getElem_mem (by omega:q<(aD l).length)))
    have PA:aA.size ⟨((aD l)[q]'aa).aO,((aD l)[q]'aa).kind,((aD l)[q]'aa).key,((aD l)[q]'aa).hi,((aD l)[q]'aa).bT,((aD l)[q]'aa).val⟩=(((aD l)[q]'aa)).size:=rfl
    refine g9 3 ?_
    refine W.ay (zp _ _ _ _ _ _) rfl (g9 8 ?_)
    refine W.sub (bi.cons _) (g9 2 ?_)
    exact⟨Le.rfl,q+1,⟨(iv (by rw [aaZ aa apz])),eqv,eqv,eqv,eqv,eqv,eqv,eqv,eqv,trivial⟩,⟨rfl,aa⟩,aa⟩
   try dsimp only at vV
   have apz:¬(aJ P ((aD l)[q]'aa).key)=i:=by omega
   refine g9 6 ?_
   refine W.sub (bi.cons _) (g9 2 ?_)
   exact⟨Le.rfl,q+1,⟨(iv (by rw [alB aa apz])),eqv,eqv,eqv,eqv,eqv,eqv,eqv,eqv,trivial⟩,⟨rfl,aa⟩,aa⟩
  try dsimp only at m8
  refine g9 12 ?_
  refine WC.cd (fun AY tA=> ?_) (fun AY tA=> ?_)
  ·try dsimp only at tA
   have hmo:iG P ((aD l).take q) i=(iG P (aD l)) i:=by rw [List.take_of_length_le aa]
   rw [hmo]at tA
   refine g9 18 ?_
   exact⟨aS,i+1,⟨(iv (by rw [axk tA])),(iv (by rw [if_neg (Nat.succ_ne_zero i),axk tA,hmo])),eqv,eqv,eqv,trivial⟩,⟨rfl,aa⟩,aa⟩
  try dsimp only at tA
  have hmo:iG P ((aD l).take q) i=(iG P (aD l)) i:=by rw [List.take_of_length_le aa]
  rw [hmo]at tA
  refine g9 9 ?_
  exact⟨aS,i+1,⟨(iv (by rw [axl tA])),(iv (by rw [if_neg (Nat.succ_ne_zero i),aH3 (yg P _) tA])),eqv,eqv,eqv,trivial⟩,⟨rfl,aa⟩,aa⟩
 try dsimp only at nM
 refine g9 16 ?_
 show Value.tuple #[Value.int _ _,Value.bool _]=_
 rw [show i=P.length+1 by omega,if_neg aa]
 exact alC P l

variable {jn:List Value}
theorem Xh(cf:Int)(cl:Int)(cb:Int)(cs:Int)(cr:Int){n:Nd}(ru:ba G jn n)(k:ah)(hq:mi n):
    Fc Tryz.prog 63 [.agg #[iV cf,iV cl,iV cb,iV cs,iV cr],.agg (List.toArray jn),sV k.b] G [] (fun v _ _=>v=.tuple #[iV ((ak (⟨cf,cl,cb,cs,cr⟩:aQ) n k).1),iV ((ak (⟨cf,cl,cb,cs,cr⟩:aQ) n k).2)]):=by
 obtain⟨_,_,_,_,_,_,_,_,rfl,cZ,dJ,dZ,dB,cQ⟩:=ru
 refine Fc.go [.tmp 6,.tmp 7] Tryz.func63 Tryz.ntmps63 rfl (fun w0=>(g9 2 ?_))
 refine W.box (L:=[iV _,iV _,iV _,iV _,iV _]) rfl rfl (fun b16=>(W.box (L:=[iV _,iV _,lV _ _ _,lV _ _ _,sV _,.bool _,iV _,iV _,lV _ _ _,lV _ _ _]) rfl rfl (fun b17=>(g9 14 ?_))))
 refine WC.cd (fun jc jh=> ?_) (fun jc jh=> ?_)
 ·refine g9 10 ?_
  show Value.tuple #[Value.int _ _,Value.int _ _]=_
  rw [zL jh]
 refine g9 6 ?_
 refine W.sd 18 (fun iu fM=> ?_) (fun iu fM=> ?_)
 ·refine g9 5 ?_
  refine W.ay (ud cf cl cb cs cr (n:=n) (cc cZ dJ dZ dB cQ)) rfl (g9 4 ?_)
  refine WC.cond rfl (fun mS=> ?_) (fun mS=> ?_)
  ·refine g9 10 ?_
   show Value.tuple #[Value.int _ _,Value.int _ _]=_
   rw [MY jh fM mS]
  refine g9 9 ?_
  refine W.ay (F4 cZ dZ (hq jh).2.1 (hq jh).2.2 (hq jh).1) rfl (g9 14 ?_)
  refine WC.cond rfl (fun rO=> ?_) (fun rO=> ?_)
  ·refine g9 4 ?_
   refine W.ay (vq cZ _ (hq jh).1) rfl (g9 12 ?_)
   show Value.tuple #[Value.int _ _,Value.int _ _]=_
   rw [zN jh (fun h=>by rw [mS]at h;exact absurd h.2 (by simp)) (by simpa using rO)]
  refine g9 11 ?_
  show Value.tuple #[Value.int _ _,Value.int _ _]=_
  rw [zM jh (fun h=>by rw [mS]at h;exact absurd h.2 (by simp)) (by simpa using rO)]
 refine g9 17 ?_
 refine W.ay (F4 cZ dZ (hq jh).2.1 (hq jh).2.2 (hq jh).1) rfl (g9 14 ?_)
 refine WC.cond rfl (fun rO=> ?_) (fun rO=> ?_)
 ·refine g9 4 ?_
  refine W.ay (vq cZ _ (hq jh).1) rfl (g9 12 ?_)
  show Value.tuple #[Value.int _ _,Value.int _ _]=_
  rw [zN jh (fun h=>fM h.1) (by simpa using rO)]
 refine g9 11 ?_
 show Value.tuple #[Value.int _ _,Value.int _ _]=_
 rw [zM jh (fun h=>fM h.1) (by simpa using rO)]

theorem X8(cf:Int)(cl:Int)(cb:Int)(cs:Int)(cr:Int){n:Nd}(ru:ba G jn n)(k:ah)(hq:mi n):
    Fc Tryz.prog 81 [.agg #[iV cf,iV cl,iV cb,iV cs,iV cr],.agg (List.toArray jn),sV k.b] G [] (fun v _ _=>v=.tuple #[iV ((ak (⟨cf,cl,cb,cs,cr⟩:aQ) n k).1),iV ((ak (⟨cf,cl,cb,cs,cr⟩:aQ) n k).2)]):=by
 obtain⟨_,_,_,_,_,_,_,_,rfl,cZ,dJ,dZ,dB,cQ⟩:=ru
 refine Fc.go [.tmp 6,.tmp 7] Tryz.func81 Tryz.ntmps81 rfl (fun w0=>(g9 2 ?_))
 refine W.box (L:=[iV _,iV _,iV _,iV _,iV _]) rfl rfl (fun Py=>(W.box (L:=[iV _,iV _,lV _ _ _,lV _ _ _,sV _,.bool _,iV _,iV _,lV _ _ _,lV _ _ _]) rfl rfl (fun b19=>(g9 12 ?_))))
 refine WC.cd (fun dL ji=> ?_) (fun dL ji=> ?_)
 ·refine g9 9 ?_
  show Value.tuple #[Value.int _ _,Value.int _ _]=_
  rw [zL ji]
 refine g9 9 ?_
 refine W.sd 16 (fun lW nM=> ?_) (fun lW nM=> ?_)
 ·refine g9 5 ?_
  refine W.ay (ue cf cl cb cs cr (n:=n) (cc cZ dJ dZ dB cQ)) rfl (g9 3 ?_)
  refine WC.cond rfl (fun fN=> ?_) (fun fN=> ?_)
  ·refine g9 9 ?_
   show Value.tuple #[Value.int _ _,Value.int _ _]=_
   rw [MY ji nM fN]
  refine g9 8 ?_
  refine W.ay (F5 cZ dZ (hq ji).2.1 (hq ji).2.2) rfl (g9 14 ?_)
  refine WC.cond rfl (fun jJ=> ?_) (fun jJ=> ?_)
  ·refine g9 4 ?_
   refine W.ay (oy cZ _) rfl (g9 12 ?_)
   show Value.tuple #[Value.int _ _,Value.int _ _]=_
   rw [zN ji (fun h=>by rw [fN]at h;exact absurd h.2 (by simp)) (by simpa using jJ)]
  refine g9 11 ?_
  show Value.tuple #[Value.int _ _,Value.int _ _]=_
  rw [zM ji (fun h=>by rw [fN]at h;exact absurd h.2 (by simp)) (by simpa using jJ)]
 refine g9 15 ?_
 refine W.ay (F5 cZ dZ (hq ji).2.1 (hq ji).2.2) rfl (g9 14 ?_)
 refine WC.cond rfl (fun jJ=> ?_) (fun jJ=> ?_)
 ·refine g9 4 ?_
  refine W.ay (oy cZ _) rfl (g9 12 ?_)
  show Value.tuple #[Value.int _ _,Value.int _ _]=_
  rw [zN ji (fun h=>nM h.1) (by simpa using jJ)]
 refine g9 11 ?_
 show Value.tuple #[Value.int _ _,Value.int _ _]=_
 rw [zM ji (fun h=>nM h.1) (by simpa using jJ)]

theorem uK(cf:Int)(cl:Int)(cb:Int)(cs:Int)(cr:Int)(js:ba G pE p){k:Nd}(nD:ba G nE k)(i:Int)(hb:0≤cb∧cb≤9223372036854775807)(hr:rising p.ab=true)(mU:∀q∈p.ab,q.b.size≤16)(jt:∀m∈p.af,m.R)(iP:∀m∈k.af,m.key.b.size≤16∧m.val.b.size≤16)(kX:bC k.rows)(hi:i64 i)(gY:k.af.length+p.af.length≤100000∧k.rows.length≤100000):
    Fc Tryz.prog 147 [.agg #[iV cf,iV cl,iV cb,iV cs,iV cr],.agg (List.toArray pE),.agg (List.toArray nE),iV i] G [] (fun v G' M'=>M'=[]∧∃r:Nd×Nd×Nat,r=bj cl cb p k i∧∃u0 u1,v=.tuple #[.agg (List.toArray u0),.agg (List.toArray u1),aT r.2.2]∧ba G' u0 (r.1)∧ba G' u1 (r.2.1)):=by
 obtain⟨iW,iX,iY,iZ,im,io,ja,jb,rfl,fv,gv,fw,gN,da⟩:=js
 obtain⟨jx,jy,jz,jA,kh,kj,jT,jU,rfl,fH,fI,fi,fx,cY⟩:=nD
 have qt:∀m∈p.af,m.key.b.size<140737488355328:=fun m h=>by have:=(eR (jt m h)).1;omega
 have hlm:=fw.aH
 have rN:=IV p.ab p.af i
 have Qw:((av p.ab p.af i).take (aF cl cb k (av p.ab p.af i)).2).length≤(av p.ab p.af i).length:=by rw [List.length_take];omega
 refine Fc.go [.cell 8 57,.cell 9 57,.tmp 10] Tryz.func147 Tryz.ntmps147 rfl (fun w0=>(g9 2 ?_))
 refine W.box (L:=[iV _,iV _,iV _,iV _,iV _]) rfl rfl (fun b1=>(W.box (L:=[iV _,iV _,lV _ _ _,lV _ _ _,sV _,.bool _,iV _,iV _,lV _ _ _,lV _ _ _]) rfl rfl (fun b2=>(W.box (L:=[iV _,iV _,lV _ _ _,lV _ _ _,sV _,.bool _,iV _,iV _,lV _ _ _,lV _ _ _]) rfl rfl (fun b3=>(W.alloc bq (fun b4=>(W.alloc bq (fun b5=>(g9 9 ?_))))))))))
 refine W.ay (BA (p:=p) (k:=k) (cc fv gv fw gN da) (cc fH fI fi fx cY) i) rfl (g9 3 ?_)
 refine WC.cond rfl (fun rM=> ?_) (fun rM=> ?_)
 ·refine WC.seq (WC.dw ((((bi.k9.k9).k9).cons _).cons _) (d9 [0,2] ?_))
  refine WD.a1 1 rfl (W.cN (fK (a:=p) (cc fv gv fw gN da)) rfl (fun _ _ _ _ _ _ _ _ G6 pf GN GO ae0 GP amU=>(W.nn (WD.a1 3 rfl (W.cN (fK (a:=k) (fy pf fH fI fi fx cY)) rfl (fun _ _ _ _ _ _ _ _ G12 FT apA apB apC apD aFN=>(W.nn (d9 [4,5,6] ?_))))))))
  refine g9 5 ?_
  refine⟨rfl,_,(x6 (by simpa using rM)).symm,_,_,rfl,?_,?_⟩
  ·exact(fy FT GN GO ae0 GP da)
  exact(cc apA apB apC apD cY)
 have Bx:fk p k i:=by simpa using rM
 refine g9 8 ?_
 refine W.call (Mp:=[]) (OR cf cl cb cs cr (p:=p) (k:=k) (cc fv gv fw gN da) (cc fH fI fi fx cY) i hb hr mU jt iP kX hi gY) rfl ai ?_
 intro _ G18 _ qN q21
 refine match q21 with|⟨Dc,_,uf,_,_,rA,Fy,tE⟩=> ?_
 subst Dc
 subst uf
 subst rA
 refine match Fy with|⟨lA,lB,lC,lD,lE,lF,lG,lH,pB,Ww,Wx,Wy,Wz,zZ⟩=> ?_
 subst pB
 have q27:=tE.form
 refine match q27 with|⟨nF,nG,yH⟩=> ?_
 subst yH
 refine g9 3 ?_
 refine W.alloc bq (fun xy=>(g9 12 ?_))
 refine WC.cd (fun nr Lu=> ?_) (fun nr Lu=> ?_)
 ·refine WC.seq (WC.dw (((((bi.k9.k9).k9).cons _).cons _).k9) (d9 [0,2] ?_))
  refine WD.a1 1 rfl (W.cN (fK (a:=p) (fy qN fv gv fw gN da)) rfl (fun _ _ _ _ _ _ _ _ T2 jM WQ WR WS WT ahV=>(W.nn (WD.a1 3 rfl (W.cN (fK (a:=k) (fy aS fH fI fi fx cY)) rfl (fun _ _ _ _ _ _ _ _ G35 Ap apE apF apG apH aFO=>(W.nn (d9 [4,5,6] ?_))))))))
  refine g9 5 ?_
  refine⟨rfl,_,(Vd Bx aa).symm,_,_,rfl,?_,?_⟩
  ·exact(fy Ap WQ WR WS WT da)
  exact(cc apE apF apG apH cY)
 refine g9 4 ?_
 refine W.makeMap (V:=PU) (fun wK aLt=>(W.perm (ae (Ms:=[(wK,Obj.map #[] 0)]) (ae (Ms:=[(wK,Obj.map #[] 0)]) (ae (Ms:=[(wK,Obj.map #[] 0)]) (ae (Ms:=[(wK,Obj.map #[] 0)]) (ae (Ms:=[(wK,Obj.map #[] 0)]) (ae (Ms:=[(wK,Obj.map #[] 0)]) ai)))))).symm (g9 12 ?_)))
 refine WC.loop (X:=(Nat)×MH) (fun y=>[(47,aT y.1),(5,aq b2),(8,aq b4),(9,aq b5),(11,aq xy),(3,iV i),(12,lV nF (((av p.ab p.af i).take (aF cl cb k (av p.ab p.af i)).2)).length nG),(45,lV nF (((av p.ab p.af i).take (aF cl cb k (av p.ab p.af i)).2)).length nG),(46,aT ((((av p.ab p.af i).take (aF cl cb k (av p.ab p.af i)).2)).length)),(13,.map (some wK))]) (fun y G Ml=>Ml=((xy,aj 57 (cj ((aF cl cb k (av p.ab p.af i)).1) lA lB lC lD lE lF lG lH))::((b5,aj 57 gR)::((b4,aj 57 gR)::((b3,aj 57 (cj k jx jy jz jA kh kj jT jU))::((b2,aj 57 (cj p iW iX iY iZ im io ja jb))::((b1,aj 23 [iV cf,iV cl,iV cb,iV cs,iV cr])::(y.2++[])))))))∧lf PU wK G ((Ef (((av p.ab p.af i).take (aF cl cb k (av p.ab p.af i)).2).take y.1))) y.2∧y.1≤((av p.ab p.af i).take (aF cl cb k (av p.ab p.af i)).2).length) (fun y=>((av p.ab p.af i).take (aF cl cb k (av p.ab p.af i)).2).length-y.1) (0,[(wK,Obj.map #[] 0)]) aZ ?_ ?_
 ·exact⟨rfl,(by exact aLt),Nat.zero_le _⟩
 rintro⟨y,Di⟩ axo G43 _ AD ⟨rfl,acw,hy⟩
 try dsimp only at acw hy
 refine WC.fr (f:=dO axo [(47,aT y),(5,aq b2),(8,aq b4),(9,aq b5),(11,aq xy),(3,iV i),(12,lV nF (((av p.ab p.af i).take (aF cl cb k (av p.ab p.af i)).2)).length nG),(45,lV nF (((av p.ab p.af i).take (aF cl cb k (av p.ab p.af i)).2)).length nG),(46,aT ((((av p.ab p.af i).take (aF cl cb k (av p.ab p.af i)).2)).length)),(13,.map (some wK))]) rfl (g9 6 ?_)
 refine WC.cd (fun h48 p48=> ?_) (fun h48 p48=> ?_)
 ·refine g9 6 ?_
  refine(tE.mono AD).a2 (i:=y) aa (fun Ur aWc=>(g9 2 ?_))
  refine W.alloc cy (fun b49=>(g9 7 ?_))
  refine W.ak6 (V:=PU) (k:=((((av p.ab p.af i).take (aF cl cb k (av p.ab p.af i)).2))[y]).aO) aj4 rfl rfl rfl acw (ae (ae (ae (ae (ae (ae (ae ai))))))) rfl (fun aei aLu=>(W.perm (ae (ae (ae (ae (ae (ae (ae ai))))))).symm (g9 6 ?_)))
  refine W.sub (bi.cons _) (g9 2 ?_)
  exact⟨Le.rfl,(y+1,aei),aZ,⟨rfl,(by rw [aaU aa];exact aLu),aa⟩,aa⟩
 refine g9 6 ?_
 have ax5:=acw
 rw [List.take_of_length_le (by omega:((av p.ab p.af i).take (aF cl cb k (av p.ab p.af i)).2).length≤y)]at ax5
 refine g9 2 ?_
 refine W.cN (fK (a:=p) (fy aS fv gv fw gN da)) rfl (fun J9 Ka Kb Kc _ _ Kd Ke G53 Fv apI apJ aLv apK aFP=>(W.alloc bq (fun rG=>(g9 19 ?_))))
 have apL:iQ 57 96 rG G53 ({ p with af:=[] }) ((rG,aj 57 [iV (p).slot,iV (p).level,lV J9 ((p).ab).length Ka,lV Kb ((p).kids).length Kc,sV (p).high.b,.bool (p).cW,iV (p).right,iV (p).seen,lV none 0 0,lV Kd ((p).rows).length Ke])::[]):=⟨_,_,_,_,_,_,_,_,rfl,apI,apJ,aP.nil,apK,da⟩
 have apL:=iQ.cast apL (n':={ p with af:=bP p.ab i ((av p.ab p.af i).take (aF cl cb k (av p.ab p.af i)).2) (p.af.take 0) }) rfl
 refine WC.perm (M':=((xy,aj 57 (cj ((aF cl cb k (av p.ab p.af i)).1) lA lB lC lD lE lF lG lH))::((b5,aj 57 gR)::((b4,aj 57 gR)::((b3,aj 57 (cj k jx jy jz jA kh kj jT jU))::((b2,aj 57 (cj p iW iX iY iZ im io ja jb))::((b1,aj 23 [iV cf,iV cl,iV cb,iV cs,iV cr])::(((rG,aj 57 [iV (p).slot,iV (p).level,lV J9 ((p).ab).length Ka,lV Kb ((p).kids).length Kc,sV (p).high.b,.bool (p).cW,iV (p).right,iV (p).seen,lV none 0 0,lV Kd ((p).rows).length Ke])::[])++(Di++[]))))))))) ((ae (ae (ae (ae (ae (ae ai)))))).symm.trans ai) ?_
 refine WC.loop (X:=(Nat)×MH) (fun q=>[(61,aT q.1),(13,.map (some wK)),(5,aq b2),(8,aq b4),(9,aq b5),(11,aq xy),(3,iV i),(12,lV nF (((av p.ab p.af i).take (aF cl cb k (av p.ab p.af i)).2)).length nG),(59,lV im p.af.length io),(60,aT ((p.af).length)),(16,aq rG)]) (fun q G Ml=>Ml=((xy,aj 57 (cj ((aF cl cb k (av p.ab p.af i)).1) lA lB lC lD lE lF lG lH))::((b5,aj 57 gR)::((b4,aj 57 gR)::((b3,aj 57 (cj k jx jy jz jA kh kj jT jU))::((b2,aj 57 (cj p iW iX iY iZ im io ja jb))::((b1,aj 23 [iV cf,iV cl,iV cb,iV cs,iV cr])::(q.2++(Di++[]))))))))∧iQ 57 96 rG G ({ p with af:=bP p.ab i ((av p.ab p.af i).take (aF cl cb k (av p.ab p.af i)).2) (p.af.take q.1) }) q.2∧q.1≤p.af.length) (fun q=>p.af.length-q.1) (0,((rG,aj 57 [iV (p).slot,iV (p).level,lV J9 ((p).ab).length Ka,lV Kb ((p).kids).length Kc,sV (p).high.b,.bool (p).cW,iV (p).right,iV (p).seen,lV none 0 0,lV Kd ((p).rows).length Ke])::[])) aZ ?_ ?_
 ·exact⟨rfl,(by exact apL),Nat.zero_le _⟩
 rintro⟨q,apM⟩ axe G61 _ Md ⟨rfl,yQ,hq⟩
 try dsimp only at yQ hq
 have W4:=MO p.ab i ((av p.ab p.af i).take (aF cl cb k (av p.ab p.af i)).2) p.af q
 refine WC.fr (f:=dO axe [(61,aT q),(13,.map (some wK)),(5,aq b2),(8,aq b4),(9,aq b5),(11,aq xy),(3,iV i),(12,lV nF (((av p.ab p.af i).take (aF cl cb k (av p.ab p.af i)).2)).length nG),(59,lV im p.af.length io),(60,aT ((p.af).length)),(16,aq rG)]) rfl (g9 6 ?_)
 refine WC.cd (fun I9 p62=> ?_) (fun I9 p62=> ?_)
 ·refine g9 6 ?_
  refine(fw.mono (((qN.trans AD).trans Fv).trans Md)).a2 (i:=q) aa (fun akc apN=>(g9 2 ?_))
  refine W.alloc cy (fun Et=>(g9 8 ?_))
  refine W.IE (V:=PU) aj4 mz4 rfl rfl rfl (lf.mono aS ax5) (ae (ae (ae (ae (ae (ae (ae (dx ai)))))))) (fun v68 FR=> ?_)
  have aCf:=FR
  subst aCf
  refine g9 10 ?_
  refine W.sp 72 rfl (fun EW=> ?_) (fun EW=> ?_)
  ·have hg:(p.af[q]'aa).aO∈((av p.ab p.af i).take (aF cl cb k (av p.ab p.af i)).2).map aA.aO:=by have h9:=EW;rw [MN]at h9;simpa using h9
   refine g9 9 ?_
   refine WC.cd (fun BB p75=> ?_) (fun BB p75=> ?_)
   ·refine WC.dw ((((((bi.k9.k9).k9).k9).k9).k9).cons _) (d9 [1,2,3] ?_)
    refine WD.any [0,4] (by kernel_rfl) rfl ⟨WD.ap ?_,WD.ap ?_,trivial⟩
    ·refine g9 1 ?_
     refine W.nn (WD.a1 4 rfl (W.ay (vr (fv.mono aS) _ hi) rfl (W.nn (WD.a1 5 rfl (W.ay (F3 _ _ _ _ _ _ _ _ _ (qt _ (List.getElem_mem (by omega:q<p.af.length)))) rfl (W.nn (d9 [6,7,8,9,10] ?_)))))))
     refine g9 7 ?_
     refine WC.cond rfl (fun BC=> ?_) (fun BC=> ?_)
     ·obtain⟨RN,RO,RP,RQ,aR1,RR,RS,aCg,aCh,apO,apP,acx,apQ,aPU⟩:=yQ
      subst aCh
      have aCi:=acx.form
      refine match aCi with|⟨aCj,aCk,JO⟩=> ?_
      subst JO
      dsimp only at apO apP acx apQ
      refine WC.perm (M':=((rG,aj 57 [iV p.slot,iV p.level,lV RN p.ab.length RO,lV RP p.kids.length RQ,sV p.high.b,.bool p.cW,iV p.right,iV p.seen,lV aCj (bP p.ab i ((av p.ab p.af i).take (aF cl cb k (av p.ab p.af i)).2) (p.af.take q)).length aCk,lV RR p.rows.length RS])::((Et,aj 96 [iV ((bd (p.af[q]'aa) (ar p.ab i)).1.aO),iV ((bd (p.af[q]'aa) (ar p.ab i)).1.kind),sV ((bd (p.af[q]'aa) (ar p.ab i)).1.key).b,sV ((bd (p.af[q]'aa) (ar p.ab i)).1.hi).b,.bool ((bd (p.af[q]'aa) (ar p.ab i)).1.bT),sV ((bd (p.af[q]'aa) (ar p.ab i)).1.val).b])::((xy,aj 57 (cj ((aF cl cb k (av p.ab p.af i)).1) lA lB lC lD lE lF lG lH))::((b5,aj 57 gR)::((b4,aj 57 gR)::((b3,aj 57 (cj k jx jy jz jA kh kj jT jU))::((b2,aj 57 (cj p iW iX iY iZ im io ja jb))::((b1,aj 23 [iV cf,iV cl,iV cb,iV cs,iV cr])::(aCg++(Di++[]))))))))))) (eX (eX (eX (eX (eX (eX (eX ai))))))).symm (g9 4 ?_)
      refine W.lit (e:=bQ) (l:=[(bd (p.af[q]'aa) (ar p.ab i)).1]) (css:=[[iV _,iV _,sV _,sV _,.bool _,sV _]]) cO cX cy rfl rfl rfl rfl rfl rfl ⟨⟨rfl,FL apN⟩,trivial⟩ (fun aWd G72 X9 aLw=>(W.app (e:=bQ) cO cX cy rfl jv rfl rfl ((acx.mono X9)) (aLw) (ae (ae (ae (ae (ae (ae (ae (ae ai)))))))) (by show(List.length _+1)*72≤_;omega) (fun v73 apR ax6=>(W.perm (ae (ae (ae (ae (ae (ae (ae (ae ai)))))))).symm ?_))))
      have q79:=ax6.form
      refine match q79 with|⟨apS,apT,WU⟩=> ?_
      subst WU
      refine g9 5 ?_
      have apU:iQ 57 96 rG G72 ({ p with af:=(bP p.ab i ((av p.ab p.af i).take (aF cl cb k (av p.ab p.af i)).2) (p.af.take q)++[(bd (p.af[q]'aa) (ar p.ab i)).1]) }) ((rG,aj 57 [iV p.slot,iV p.level,lV RN p.ab.length RO,lV RP p.kids.length RQ,sV p.high.b,.bool p.cW,iV p.right,iV p.seen,lV apS ((bP p.ab i ((av p.ab p.af i).take (aF cl cb k (av p.ab p.af i)).2) (p.af.take q)++[(bd (p.af[q]'aa) (ar p.ab i)).1])).length apT,lV RR p.rows.length RS])::apR):=⟨_,_,_,_,_,_,_,_,rfl,(apO.mono X9),(apP.mono X9),ax6,(apQ.mono X9),da⟩
      have apU:=iQ.cast apU (tO aa (Qg hg p75 BC))
      refine WC.perm (M':=((Et,aj 96 [iV ((bd (p.af[q]'aa) (ar p.ab i)).1.aO),iV ((bd (p.af[q]'aa) (ar p.ab i)).1.kind),sV ((bd (p.af[q]'aa) (ar p.ab i)).1.key).b,sV ((bd (p.af[q]'aa) (ar p.ab i)).1.hi).b,.bool ((bd (p.af[q]'aa) (ar p.ab i)).1.bT),sV ((bd (p.af[q]'aa) (ar p.ab i)).1.val).b])::((xy,aj 57 (cj ((aF cl cb k (av p.ab p.af i)).1) lA lB lC lD lE lF lG lH))::((b5,aj 57 gR)::((b4,aj 57 gR)::((b3,aj 57 (cj k jx jy jz jA kh kj jT jU))::((b2,aj 57 (cj p iW iX iY iZ im io ja jb))::((b1,aj 23 [iV cf,iV cl,iV cb,iV cs,iV cr])::(((rG,aj 57 [iV p.slot,iV p.level,lV RN p.ab.length RO,lV RP p.kids.length RQ,sV p.high.b,.bool p.cW,iV p.right,iV p.seen,lV apS ((bP p.ab i ((av p.ab p.af i).take (aF cl cb k (av p.ab p.af i)).2) (p.af.take q)++[(bd (p.af[q]'aa) (ar p.ab i)).1])).length apT,lV RR p.rows.length RS])::apR)++(Di++[])))))))))) ((ae (ae (ae (ae (ae (ae (ae ai))))))).symm.trans (((ae (ae (ae (ae (ae (ae (ae ai))))))).cons _).trans ai)) (g9 3 ?_)
      refine W.sub (bi.cons _) (g9 2 ?_)
      exact⟨X9,(q+1,((rG,aj 57 [iV p.slot,iV p.level,lV RN p.ab.length RO,lV RP p.kids.length RQ,sV p.high.b,.bool p.cW,iV p.right,iV p.seen,lV apS ((bP p.ab i ((av p.ab p.af i).take (aF cl cb k (av p.ab p.af i)).2) (p.af.take q)++[(bd (p.af[q]'aa) (ar p.ab i)).1])).length apT,lV RR p.rows.length RS])::apR)),aZ,⟨rfl,(by exact apU),aa⟩,aa⟩
     refine g9 6 ?_
     refine W.sub (bi.cons _) (g9 2 ?_)
     exact⟨Le.rfl,(q+1,apM),aZ,⟨rfl,(by exact iQ.cast yQ (tP aa (GF hg (fun hh=>absurd (BC.symm.trans hh.2) (by simp))))),aa⟩,aa⟩
    refine W.ay (vr (fv.mono aS) _ hi) rfl (W.nn (WD.a1 0 rfl (g9 1 ?_)))
    refine W.nn (WD.a1 5 rfl (W.ay (F3 _ _ _ _ _ _ _ _ _ (qt _ (List.getElem_mem (by omega:q<p.af.length)))) rfl (W.nn (d9 [6,7,8,9,10] ?_))))
    refine g9 7 ?_
    refine WC.cond rfl (fun BC=> ?_) (fun BC=> ?_)
    ·obtain⟨RT,RU,RV,RW,aR2,RX,RY,aCl,aCm,apV,apW,acy,apX,aPV⟩:=yQ
     subst aCm
     have aCn:=acy.form
     refine match aCn with|⟨aCo,aCp,JX⟩=> ?_
     subst JX
     dsimp only at apV apW acy apX
     refine WC.perm (M':=((rG,aj 57 [iV p.slot,iV p.level,lV RT p.ab.length RU,lV RV p.kids.length RW,sV p.high.b,.bool p.cW,iV p.right,iV p.seen,lV aCo (bP p.ab i ((av p.ab p.af i).take (aF cl cb k (av p.ab p.af i)).2) (p.af.take q)).length aCp,lV RX p.rows.length RY])::((Et,aj 96 [iV ((bd (p.af[q]'aa) (ar p.ab i)).1.aO),iV ((bd (p.af[q]'aa) (ar p.ab i)).1.kind),sV ((bd (p.af[q]'aa) (ar p.ab i)).1.key).b,sV ((bd (p.af[q]'aa) (ar p.ab i)).1.hi).b,.bool ((bd (p.af[q]'aa) (ar p.ab i)).1.bT),sV ((bd (p.af[q]'aa) (ar p.ab i)).1.val).b])::((xy,aj 57 (cj ((aF cl cb k (av p.ab p.af i)).1) lA lB lC lD lE lF lG lH))::((b5,aj 57 gR)::((b4,aj 57 gR)::((b3,aj 57 (cj k jx jy jz jA kh kj jT jU))::((b2,aj 57 (cj p iW iX iY iZ im io ja jb))::((b1,aj 23 [iV cf,iV cl,iV cb,iV cs,iV cr])::(aCl++(Di++[]))))))))))) (eX (eX (eX (eX (eX (eX (eX ai))))))).symm (g9 4 ?_)
     refine W.lit (e:=bQ) (l:=[(bd (p.af[q]'aa) (ar p.ab i)).1]) (css:=[[iV _,iV _,sV _,sV _,.bool _,sV _]]) cO cX cy rfl rfl rfl rfl rfl rfl ⟨⟨rfl,FL apN⟩,trivial⟩ (fun aWe G83 FY aLx=>(W.app (e:=bQ) cO cX cy rfl jv rfl rfl ((acy.mono FY)) (aLx) (ae (ae (ae (ae (ae (ae (ae (ae ai)))))))) (by show(List.length _+1)*72≤_;omega) (fun v84 OS OT=>(W.perm (ae (ae (ae (ae (ae (ae (ae (ae ai)))))))).symm ?_))))
     have q90:=OT.form
     refine match q90 with|⟨apY,apZ,XG⟩=> ?_
     subst XG
     refine g9 5 ?_
     have ap0:iQ 57 96 rG G83 ({ p with af:=(bP p.ab i ((av p.ab p.af i).take (aF cl cb k (av p.ab p.af i)).2) (p.af.take q)++[(bd (p.af[q]'aa) (ar p.ab i)).1]) }) ((rG,aj 57 [iV p.slot,iV p.level,lV RT p.ab.length RU,lV RV p.kids.length RW,sV p.high.b,.bool p.cW,iV p.right,iV p.seen,lV apY ((bP p.ab i ((av p.ab p.af i).take (aF cl cb k (av p.ab p.af i)).2) (p.af.take q)++[(bd (p.af[q]'aa) (ar p.ab i)).1])).length apZ,lV RX p.rows.length RY])::OS):=⟨_,_,_,_,_,_,_,_,rfl,(apV.mono FY),(apW.mono FY),OT,(apX.mono FY),da⟩
     have ap0:=iQ.cast ap0 (tO aa (Qg hg p75 BC))
     refine WC.perm (M':=((Et,aj 96 [iV ((bd (p.af[q]'aa) (ar p.ab i)).1.aO),iV ((bd (p.af[q]'aa) (ar p.ab i)).1.kind),sV ((bd (p.af[q]'aa) (ar p.ab i)).1.key).b,sV ((bd (p.af[q]'aa) (ar p.ab i)).1.hi).b,.bool ((bd (p.af[q]'aa) (ar p.ab i)).1.bT),sV ((bd (p.af[q]'aa) (ar p.ab i)).1.val).b])::((xy,aj 57 (cj ((aF cl cb k (av p.ab p.af i)).1) lA lB lC lD lE lF lG lH))::((b5,aj 57 gR)::((b4,aj 57 gR)::((b3,aj 57 (cj k jx jy jz jA kh kj jT jU))::((b2,aj 57 (cj p iW iX iY iZ im io ja jb))::((b1,aj 23 [iV cf,iV cl,iV cb,iV cs,iV cr])::(((rG,aj 57 [iV p.slot,iV p.level,lV RT p.ab.length RU,lV RV p.kids.length RW,sV p.high.b,.bool p.cW,iV p.right,iV p.seen,lV apY ((bP p.ab i ((av p.ab p.af i).take (aF cl cb k (av p.ab p.af i)).2) (p.af.take q)++[(bd (p.af[q]'aa) (ar p.ab i)).1])).length apZ,lV RX p.rows.length RY])::OS)++(Di++[])))))))))) ((ae (ae (ae (ae (ae (ae (ae ai))))))).symm.trans (((ae (ae (ae (ae (ae (ae (ae ai))))))).cons _).trans ai)) (g9 3 ?_)
     refine W.sub (bi.cons _) (g9 2 ?_)
     exact⟨FY,(q+1,((rG,aj 57 [iV p.slot,iV p.level,lV RT p.ab.length RU,lV RV p.kids.length RW,sV p.high.b,.bool p.cW,iV p.right,iV p.seen,lV apY ((bP p.ab i ((av p.ab p.af i).take (aF cl cb k (av p.ab p.af i)).2) (p.af.take q)++[(bd (p.af[q]'aa) (ar p.ab i)).1])).length apZ,lV RX p.rows.length RY])::OS)),aZ,⟨rfl,(by exact ap0),aa⟩,aa⟩
    refine g9 6 ?_
    refine W.sub (bi.cons _) (g9 2 ?_)
    exact⟨Le.rfl,(q+1,apM),aZ,⟨rfl,(by exact iQ.cast yQ (tP aa (GF hg (fun hh=>absurd (BC.symm.trans hh.2) (by simp))))),aa⟩,aa⟩
   refine g9 7 ?_
   refine WC.cond rfl (fun h69=> ?_) (fun h69=> ?_)
   ·exfalso
    simp_all
   refine g9 6 ?_
   refine W.sub (bi.cons _) (g9 2 ?_)
   exact⟨Le.rfl,(q+1,apM),aZ,⟨rfl,(by exact iQ.cast yQ (tP aa (GF hg (fun hh=>p75 hh.1)))),aa⟩,aa⟩
  have hng:¬(p.af[q]'aa).aO∈((av p.ab p.af i).take (aF cl cb k (av p.ab p.af i)).2).map aA.aO:=by have h9:=EW;rw [MN]at h9;simpa using h9
  refine g9 14 ?_
  refine WC.cond rfl (fun h69=> ?_) (fun h69=> ?_)
  ·obtain⟨RZ,R0,R1,R2,aR3,R3,R4,aCq,aCr,ap1,ap2,acz,ap3,aPW⟩:=yQ
   subst aCr
   have aCs:=acz.form
   refine match aCs with|⟨aCt,aCu,Ya⟩=> ?_
   subst Ya
   dsimp only at ap1 ap2 acz ap3
   refine WC.perm (M':=((rG,aj 57 [iV p.slot,iV p.level,lV RZ p.ab.length R0,lV R1 p.kids.length R2,sV p.high.b,.bool p.cW,iV p.right,iV p.seen,lV aCt (bP p.ab i ((av p.ab p.af i).take (aF cl cb k (av p.ab p.af i)).2) (p.af.take q)).length aCu,lV R3 p.rows.length R4])::((Et,aj 96 [iV ((p.af)[q]).aO,iV ((p.af)[q]).kind,sV ((p.af)[q]).key.b,sV ((p.af)[q]).hi.b,.bool ((p.af)[q]).bT,sV ((p.af)[q]).val.b])::((xy,aj 57 (cj ((aF cl cb k (av p.ab p.af i)).1) lA lB lC lD lE lF lG lH))::((b5,aj 57 gR)::((b4,aj 57 gR)::((b3,aj 57 (cj k jx jy jz jA kh kj jT jU))::((b2,aj 57 (cj p iW iX iY iZ im io ja jb))::((b1,aj 23 [iV cf,iV cl,iV cb,iV cs,iV cr])::(aCq++(Di++[]))))))))))) (eX (eX (eX (eX (eX (eX (eX ai))))))).symm (g9 4 ?_)
   refine W.lit (e:=bQ) (l:=[(p.af[q]'aa)]) (css:=[[iV _,iV _,sV _,sV _,.bool _,sV _]]) cO cX cy rfl rfl rfl rfl rfl rfl ⟨⟨rfl,apN⟩,trivial⟩ (fun aWf G94 wL aLy=>(W.app (e:=bQ) cO cX cy rfl jv rfl rfl ((acz.mono wL)) (aLy) (ae (ae (ae (ae (ae (ae (ae (ae ai)))))))) (by show(List.length _+1)*72≤_;omega) (fun v95 Yb ax7=>(W.perm (ae (ae (ae (ae (ae (ae (ae (ae ai)))))))).symm ?_))))
   have ap4:=ax7.form
   refine match ap4 with|⟨ap5,ap6,acA⟩=> ?_
   subst acA
   refine g9 5 ?_
   have acB:iQ 57 96 rG G94 ({ p with af:=(bP p.ab i ((av p.ab p.af i).take (aF cl cb k (av p.ab p.af i)).2) (p.af.take q)++[(p.af[q]'aa)]) }) ((rG,aj 57 [iV p.slot,iV p.level,lV RZ p.ab.length R0,lV R1 p.kids.length R2,sV p.high.b,.bool p.cW,iV p.right,iV p.seen,lV ap5 ((bP p.ab i ((av p.ab p.af i).take (aF cl cb k (av p.ab p.af i)).2) (p.af.take q)++[(p.af[q]'aa)])).length ap6,lV R3 p.rows.length R4])::Yb):=⟨_,_,_,_,_,_,_,_,rfl,(ap1.mono wL),(ap2.mono wL),ax7,(ap3.mono wL),da⟩
   have acB:=iQ.cast acB (tO aa (Ve hng))
   refine WC.perm (M':=((Et,aj 96 [iV ((p.af)[q]).aO,iV ((p.af)[q]).kind,sV ((p.af)[q]).key.b,sV ((p.af)[q]).hi.b,.bool ((p.af)[q]).bT,sV ((p.af)[q]).val.b])::((xy,aj 57 (cj ((aF cl cb k (av p.ab p.af i)).1) lA lB lC lD lE lF lG lH))::((b5,aj 57 gR)::((b4,aj 57 gR)::((b3,aj 57 (cj k jx jy jz jA kh kj jT jU))::((b2,aj 57 (cj p iW iX iY iZ im io ja jb))::((b1,aj 23 [iV cf,iV cl,iV cb,iV cs,iV cr])::(((rG,aj 57 [iV p.slot,iV p.level,lV RZ p.ab.length R0,lV R1 p.kids.length R2,sV p.high.b,.bool p.cW,iV p.right,iV p.seen,lV ap5 ((bP p.ab i ((av p.ab p.af i).take (aF cl cb k (av p.ab p.af i)).2) (p.af.take q)++[(p.af[q]'aa)])).length ap6,lV R3 p.rows.length R4])::Yb)++(Di++[])))))))))) ((ae (ae (ae (ae (ae (ae (ae ai))))))).symm.trans (((ae (ae (ae (ae (ae (ae (ae ai))))))).cons _).trans ai)) (g9 3 ?_)
   refine W.sub (bi.cons _) (g9 2 ?_)
   exact⟨wL,(q+1,((rG,aj 57 [iV p.slot,iV p.level,lV RZ p.ab.length R0,lV R1 p.kids.length R2,sV p.high.b,.bool p.cW,iV p.right,iV p.seen,lV ap5 ((bP p.ab i ((av p.ab p.af i).take (aF cl cb k (av p.ab p.af i)).2) (p.af.take q)++[(p.af[q]'aa)])).length ap6,lV R3 p.rows.length R4])::Yb)),aZ,⟨rfl,(by exact acB),aa⟩,aa⟩
  exfalso
  simp_all
 refine g9 11 ?_
 refine(tE.mono ((AD.trans Fv).trans Md)).a2 (i:=((av p.ab p.af i).take (aF cl cb k (av p.ab p.af i)).2).length-1) aa (fun aCv aCw=>(W.ok (aY (i:=((av p.ab p.af i).take (aF cl cb k (av p.ab p.af i)).2).length-1) cO cX (tE.mono aS) rfl rfl ⟨aa,aa⟩) (g9 7 ?_)))
 have aCx:=iQ.cast yQ (n':={ p with af:=bP p.ab i ((av p.ab p.af i).take (aF cl cb k (av p.ab p.af i)).2) p.af }) (by rw [List.take_of_length_le (show p.af.length≤q by omega)])
 have P7:(((av p.ab p.af i).take (aF cl cb k (av p.ab p.af i)).2)[((av p.ab p.af i).take (aF cl cb k (av p.ab p.af i)).2).length-1]'aa).Ok:=aCw
 obtain⟨avY,avZ,av0,av1,aPX,av2,av3,av4,av5,afq,afr,R5,afs,aLz⟩:=aCx
 subst av5
 have av6:=R5.form
 refine match av6 with|⟨av7,av8,Bw⟩=> ?_
 subst Bw
 dsimp only at afq afr R5 afs
 refine WC.perm (M':=((rG,aj 57 [iV p.slot,iV p.level,lV avY p.ab.length avZ,lV av0 p.kids.length av1,sV p.high.b,.bool p.cW,iV p.right,iV p.seen,lV av7 (bP p.ab i ((av p.ab p.af i).take (aF cl cb k (av p.ab p.af i)).2) p.af).length av8,lV av2 p.rows.length av3])::((xy,aj 57 [iV ((aF cl cb k (av p.ab p.af i)).1).slot,iV ((aF cl cb k (av p.ab p.af i)).1).level,lV lA (((aF cl cb k (av p.ab p.af i)).1).ab).length lB,lV lC (((aF cl cb k (av p.ab p.af i)).1).kids).length lD,sV ((aF cl cb k (av p.ab p.af i)).1).high.b,.bool ((aF cl cb k (av p.ab p.af i)).1).cW,iV ((aF cl cb k (av p.ab p.af i)).1).right,iV ((((av p.ab p.af i).take (aF cl cb k (av p.ab p.af i)).2))[(((av p.ab p.af i).take (aF cl cb k (av p.ab p.af i)).2).length-1)]).aO,lV lE (((aF cl cb k (av p.ab p.af i)).1).af).length lF,lV lG (((aF cl cb k (av p.ab p.af i)).1).rows).length lH])::((b5,aj 57 gR)::((b4,aj 57 gR)::((b3,aj 57 (cj k jx jy jz jA kh kj jT jU))::((b2,aj 57 (cj p iW iX iY iZ im io ja jb))::((b1,aj 23 [iV cf,iV cl,iV cb,iV cs,iV cr])::(av4++(Di++[])))))))))) (eX (eX (eX (eX (eX (eX ai)))))).symm (WC.cm R5 (ae (ae (ae (ae (ae (ae (ae ai))))))) (fun aKW RJ aCy=>(WC.dw ((((((bi.k9.k9).k9).cons _).cons _).k9).k9) (d9 [0,1,2,3,4,5,6] ?_))))
 refine g9 4 ?_
 refine⟨rfl,_,(Qf Bx rfl aa).symm,_,_,rfl,?_,?_⟩
 ·exact⟨_,_,_,_,_,_,_,_,rfl,(afq.mono RJ),(afr.mono RJ),aCy,(afs.mono RJ),da⟩
 exact⟨_,_,_,_,_,_,_,_,rfl,(Ww.mono aS),(Wx.mono aS),(Wy.mono aS),(Wz.mono aS),⟨zZ.1,zZ.2.1,zZ.2.2.1,P7.1⟩⟩

theorem abR(cf:Int)(cl:Int)(cb:Int)(cs:Int)(cr:Int){k:Nd}(nD:ba G nE k)(az:ax bQ G bN l)(hb:0≤cb∧cb≤9223372036854775807)(iP:∀m∈k.af,m.key.b.size≤16∧m.val.b.size≤16)(hlR:∀m∈l,m.R)(kX:bC k.rows)(gY:k.af.length+l.length≤100000∧k.rows.length≤100000):
    Fc Tryz.prog 131 [.agg #[iV cf,iV cl,iV cb,iV cs,iV cr],.agg (List.toArray nE),bN] G [] (fun v _ _=>v=aT ((aF cl cb k l).2)):=by
 obtain⟨jx,jy,jz,jA,kh,kj,jT,jU,rfl,fH,fI,fi,fx,cY⟩:=nD
 obtain⟨aW,aX,rfl⟩:=az.form
 have hl:=az.aH
 have hlm:=fi.aH
 have j3:=jI iP
 have Dg:=zD cl l k.rows
 refine Fc.go [.tmp 6] Tryz.func131 Tryz.ntmps131 rfl (fun w0=>(g9 2 ?_))
 refine W.box (L:=[iV _,iV _,iV _,iV _,iV _]) rfl rfl (fun b1=>(W.box (L:=[iV _,iV _,lV _ _ _,lV _ _ _,sV _,.bool _,iV _,iV _,lV _ _ _,lV _ _ _]) rfl rfl (fun b2=>(g9 11 ?_))))
 refine WC.cd (fun gl gm=> ?_) (fun gl gm=> ?_)
 ·refine g9 7 ?_
  refine W.call (Mp:=[]) (acv fx az cl kX aa hlR) rfl ai ?_
  intro _ G3 _ Lv q5
  refine match q5 with|⟨rD,_,Es,_,QR,hv4⟩=> ?_
  subst rD
  subst Es
  subst QR
  have q10:=hv4.form
  refine match q10 with|⟨aPY,aPZ,e_9⟩=> ?_
  subst e_9
  refine g9 16 ?_
  refine congrArg (Value.int .i64) (congrArg Nat.cast ?_)
  rw [IU gm]
 refine g9 6 ?_
 refine W.ay (HN fi iP) rfl (g9 17 ?_)
 refine WC.cd (fun AX u5=> ?_) (fun AX u5=> ?_)
 ·refine g9 7 ?_
  refine fi.a2 (i:=k.af.length-1) aa (fun wk aWg=>(W.ok (aY (i:=k.af.length-1) cO cX fi rfl rfl ⟨aa,aa⟩) (g9 12 ?_)))
  refine WC.loop (X:=Nat) (fun j=>[(9,iV (bI (k.af++l.take j))),(10,iV (vP (k.af++l.take j))),(11,aT j),(3,aq b1),(4,aq b2),(2,lV aW l.length aX)]) (fun j _ Ml=>Ml=[(b2,aj 57 (cj k jx jy jz jA kh kj jT jU)),(b1,aj 23 [iV cf,iV cl,iV cb,iV cs,iV cr])]∧j≤l.length∧gU cb k.af l j) (fun j=>l.length-j) 0 ⟨(iv (by rw [List.take_zero,List.append_nil])),(iv (by rw [List.take_zero,List.append_nil,Bf aa])),eqv,eqv,eqv,eqv,trivial⟩ ?_ ?_
  ·exact⟨rfl,aa,gU.zero _ _ _⟩
  rintro j axO G16 _ mK ⟨rfl,hj,hd⟩
  have hbd:=jI (l:=(k.af++l.take j)) (fun m h=>by
      rcases List.mem_append.1 h with h|h
      ·exact iP m h
      ·exact eR (hlR m (List.mem_of_mem_take h)))
  have hln:(k.af++l.take j).length≤100000:=by rw [List.length_append,List.length_take];omega
  refine g9 9 ?_
  refine WC.cd (fun Bg Bh=> ?_) (fun Bg Bh=> ?_)
  ·have WO:=o8 (eR (hlR _ (List.getElem_mem (by omega:j<l.length))))
   have PA:aA.size ⟨(l[j]'aa).aO,(l[j]'aa).kind,(l[j]'aa).key,(l[j]'aa).hi,(l[j]'aa).bT,(l[j]'aa).val⟩=(l[j]'aa).size:=rfl
   refine g9 9 ?_
   refine(az.mono mK).a2 (i:=j) aa (fun Vy afa=>(g9 2 ?_))
   refine W.ay (zp _ _ _ _ _ _) rfl (g9 12 ?_)
   refine W.sd 58 (fun A3 vb=> ?_) (fun A3 vb=> ?_)
   ·refine g9 33 ?_
    refine congrArg (Value.int .i64) (congrArg Nat.cast ?_)
    rw [nj gm (hd.stop aa (IT aa))]
   refine g9 14 ?_
   refine W.sd 65 (fun h64 p64=> ?_) (fun h64 p64=> ?_)
   ·refine g9 5 ?_
    refine(az.mono mK).a2 (i:=j) aa (fun H6 aIo=>(g9 14 ?_))
    refine WC.cd (fun h72 p72=> ?_) (fun h72 p72=> ?_)
    ·refine g9 14 ?_
     refine congrArg (Value.int .i64) (congrArg Nat.cast ?_)
     rw [nj gm (hd.stop aa (I3 (by rw [List.length_append,List.length_take];omega) p72))]
    refine g9 5 ?_
    refine(az.mono mK).a2 (i:=j) aa (fun VG aLp=>(g9 13 ?_))
    exact⟨Le.rfl,j+1,⟨(iv (by rw [mG aa,vQ])),(iv (by rw [mG aa,sj])),eqv,eqv,eqv,eqv,trivial⟩,⟨rfl,aa,hd.succ aa (zO aa (fun _=>by omega))⟩,aa⟩
   refine g9 18 ?_
   refine(az.mono mK).a2 (i:=j) aa (fun Uq axA=>(g9 13 ?_))
   exact⟨Le.rfl,j+1,⟨(iv (by rw [mG aa,vQ])),(iv (by rw [mG aa,sj])),eqv,eqv,eqv,eqv,trivial⟩,⟨rfl,aa,hd.succ aa (zO aa (fun h9=>by rw [List.length_append,List.length_take]at h9;omega))⟩,aa⟩
  refine g9 14 ?_
  refine congrArg (Value.int .i64) (congrArg Nat.cast ?_)
  rw [nj gm (hd.all aa)]
  omega
 refine g9 9 ?_
 refine WC.loop (X:=Nat) (fun j=>[(9,iV (bI (k.af++l.take j))),(10,iV (vP (k.af++l.take j))),(11,aT j),(3,aq b1),(4,aq b2),(2,lV aW l.length aX)]) (fun j _ Ml=>Ml=[(b2,aj 57 (cj k jx jy jz jA kh kj jT jU)),(b1,aj 23 [iV cf,iV cl,iV cb,iV cs,iV cr])]∧j≤l.length∧gU cb k.af l j) (fun j=>l.length-j) 0 ⟨(iv (by rw [List.take_zero,List.append_nil])),(iv (by rw [List.take_zero,List.append_nil,aa2 aa])),eqv,eqv,eqv,eqv,trivial⟩ ?_ ?_
 ·exact⟨rfl,aa,gU.zero _ _ _⟩
 rintro j aJL G37 _ wq ⟨rfl,hj,hd⟩
 have hbd:=jI (l:=(k.af++l.take j)) (fun m h=>by
      rcases List.mem_append.1 h with h|h
      ·exact iP m h
      ·exact eR (hlR m (List.mem_of_mem_take h)))
 have hln:(k.af++l.take j).length≤100000:=by rw [List.length_append,List.length_take];omega
 refine g9 9 ?_
 refine WC.cd (fun Bg Bh=> ?_) (fun Bg Bh=> ?_)
 ·have WO:=o8 (eR (hlR _ (List.getElem_mem (by omega:j<l.length))))
  have PA:aA.size ⟨(l[j]'aa).aO,(l[j]'aa).kind,(l[j]'aa).key,(l[j]'aa).hi,(l[j]'aa).bT,(l[j]'aa).val⟩=(l[j]'aa).size:=rfl
  refine g9 9 ?_
  refine(az.mono wq).a2 (i:=j) aa (fun aJM aWh=>(g9 2 ?_))
  refine W.ay (zp _ _ _ _ _ _) rfl (g9 12 ?_)
  refine W.sd 58 (fun A3 vb=> ?_) (fun A3 vb=> ?_)
  ·refine g9 33 ?_
   refine congrArg (Value.int .i64) (congrArg Nat.cast ?_)
   rw [nj gm (hd.stop aa (IT aa))]
  refine g9 14 ?_
  refine W.sd 65 (fun h64 p64=> ?_) (fun h64 p64=> ?_)
  ·refine g9 5 ?_
   refine(az.mono wq).a2 (i:=j) aa (fun aGW aGX=>(g9 14 ?_))
   refine WC.cd (fun h72 p72=> ?_) (fun h72 p72=> ?_)
   ·refine g9 14 ?_
    refine congrArg (Value.int .i64) (congrArg Nat.cast ?_)
    rw [nj gm (hd.stop aa (I3 (by rw [List.length_append,List.length_take];omega) p72))]
   refine g9 5 ?_
   refine(az.mono wq).a2 (i:=j) aa (fun aGY aGZ=>(g9 13 ?_))
   exact⟨Le.rfl,j+1,⟨(iv (by rw [mG aa,vQ])),(iv (by rw [mG aa,sj])),eqv,eqv,eqv,eqv,trivial⟩,⟨rfl,aa,hd.succ aa (zO aa (fun _=>by omega))⟩,aa⟩
  refine g9 18 ?_
  refine(az.mono wq).a2 (i:=j) aa (fun aG0 aG1=>(g9 13 ?_))
  exact⟨Le.rfl,j+1,⟨(iv (by rw [mG aa,vQ])),(iv (by rw [mG aa,sj])),eqv,eqv,eqv,eqv,trivial⟩,⟨rfl,aa,hd.succ aa (zO aa (fun h9=>by rw [List.length_append,List.length_take]at h9;omega))⟩,aa⟩
 refine g9 14 ?_
 refine congrArg (Value.int .i64) (congrArg Nat.cast ?_)
 rw [nj gm (hd.all aa)]
 omega

end Go.Proofs.YtfhnamngaofccaaGreat
