/- The walk of pouring, by definition. -/
import Derived.Test.YtfhnamngaofccaaGreatQiWf
set_option maxRecDepth 100000
set_option maxHeartbeats 1600000
set_option linter.unusedVariables false
set_option linter.unusedSimpArgs false
set_option linter.unnecessarySimpa false
namespace Go.Proofs.YtfhnamngaofccaaGreat
open Go Go.Fw Go.RowKit
attribute [local irreducible] Ok W WC
variable {G:GH} {nE:List Value} {pE:List Value} {p:Nd}
theorem qy(cf:Int)(cl:Int)(cb:Int)(cs:Int)(cr:Int)(js:ba G pE p){k:Nd}(nD:ba G nE k)(i:Int)(hb:0≤cb∧cb≤9223372036854775807)(hr:rising p.ab=true)(mU:∀q∈p.ab,q.b.size≤16)(jt:∀m∈p.af,m.R)(iP:∀m∈k.af,m.key.b.size≤16∧m.val.b.size≤16)(kX:bC k.rows)(hi:i64 i)(gY:k.af.length+p.af.length≤100000∧k.rows.length≤100000)(oJ:dD p.af)(jj:p.kids.length=p.ab.length+1):
    Fc Tryz.prog 85 [.agg #[iV cf,iV cl,iV cb,iV cs,iV cr],.agg (List.toArray pE),.agg (List.toArray nE),iV i] G [] (fun v G' M'=>M'=[]∧∃r:Nd×Nd×Nat,r=bj cl cb p k i∧∃u0 u1,v=.tuple #[.agg (List.toArray u0),.agg (List.toArray u1),aT r.2.2]∧ba G' u0 (r.1)∧ba G' u1 (r.2.1)):=by
 obtain⟨iW,iX,iY,iZ,im,io,ja,jb,rfl,fv,gv,fw,gN,da⟩:=js
 obtain⟨jx,jy,jz,jA,kh,kj,jT,jU,rfl,fH,fI,fi,fx,cY⟩:=nD
 obtain⟨aeH,aeI⟩:=da.2.1
 have hlk:=gv.aH
 have qt:∀m∈p.af,m.key.b.size<140737488355328:=fun m h=>by have:=(eR (jt m h)).1;omega
 have hlm:=fw.aH
 have rN:=IV p.ab p.af i
 have hfR:∀m∈(av p.ab p.af i),m.R:=alu mU jt
 have Qw:=mg cl cb k (av p.ab p.af i)
 have qL:=Eb cl cb k (av p.ab p.af i)
 have htd:(List.drop 0 ((av p.ab p.af i).take (aF cl cb k (av p.ab p.af i)).2)).length=(aF cl cb k (av p.ab p.af i)).2:=by rw [List.drop_zero];exact Qw
 refine Fc.go [.cell 8 57,.cell 9 57,.tmp 10] Tryz.func85 Tryz.ntmps85 rfl (fun w0=>(g9 2 ?_))
 refine W.box (L:=[iV _,iV _,iV _,iV _,iV _]) rfl rfl (fun b1=>(W.box (L:=[iV _,iV _,lV _ _ _,lV _ _ _,sV _,.bool _,iV _,iV _,lV _ _ _,lV _ _ _]) rfl rfl (fun b2=>(W.box (L:=[iV _,iV _,lV _ _ _,lV _ _ _,sV _,.bool _,iV _,iV _,lV _ _ _,lV _ _ _]) rfl rfl (fun b3=>(W.alloc bq (fun b4=>(W.alloc bq (fun b5=>(g9 10 ?_))))))))))
 refine W.sd 23 (fun m7 m8=> ?_) (fun m7 m8=> ?_)
 ·try dsimp only at m8
  refine g9 22 ?_
  refine WC.dw ((((bi.k9.k9).k9).cons _).cons _) (d9 [0,1,2,3,4] ?_)
  refine g9 5 ?_
  refine⟨rfl,_,(x6 (fun h=>by unfold fk at h;omega)).symm,_,_,rfl,?_,?_⟩
  ·exact(cc fv gv fw gN da)
  exact(cc fH fI fi fx cY)
 try dsimp only at m8
 refine g9 14 ?_
 refine W.sm 31 (fun iE wV=> ?_) (fun iE wV=> ?_)
 ·try dsimp only at wV
  refine g9 14 ?_
  refine WC.dw ((((bi.k9.k9).k9).cons _).cons _) (d9 [0,1,2,3,4] ?_)
  refine g9 5 ?_
  refine⟨rfl,_,(x6 (fun h=>by unfold fk at h;omega)).symm,_,_,rfl,?_,?_⟩
  ·exact(cc fv gv fw gN da)
  exact(cc fH fI fi fx cY)
 try dsimp only at wV
 refine g9 6 ?_
 refine W.sd 35 (fun j8 rB=> ?_) (fun j8 rB=> ?_)
 ·try dsimp only at rB
  refine g9 10 ?_
  refine WC.dw ((((bi.k9.k9).k9).cons _).cons _) (d9 [0,1,2,3,4] ?_)
  refine g9 5 ?_
  refine⟨rfl,_,(x6 (fun h=>by unfold fk at h;omega)).symm,_,_,rfl,?_,?_⟩
  ·exact(cc fv gv fw gN da)
  exact(cc fH fI fi fx cY)
 try dsimp only at rB
 refine g9 13 ?_
 refine WC.cd (fun Bs Gq=> ?_) (fun Bs Gq=> ?_)
 ·try dsimp only at Gq
  refine WC.seq (WC.dw ((((bi.k9.k9).k9).cons _).cons _) (d9 [0,1,2,3,4] ?_))
  refine g9 5 ?_
  refine⟨rfl,_,(x6 (fun h=>by unfold fk at h;omega)).symm,_,_,rfl,?_,?_⟩
  ·exact(cc fv gv fw gN da)
  exact(cc fH fI fi fx cY)
 try dsimp only at Gq
 refine g9 9 ?_
 have Bx:fk p k i:=⟨aa,wV,aa,aa⟩
 have hip:i.toNat≤p.ab.length:=by omega
 have hii:i=((i.toNat:Nat):Int):=by omega
 refine W.cS (W3 fv fw i qt hi) rfl (fun Gw Gx G6 pf Ai=>(g9 8 ?_))
 refine W.ay (abR cf cl cb cs cr (k:=k) (fy pf fH fI fi fx cY) Ai hb iP hfR kX ⟨aa,gY.2⟩) rfl ?_
 have hmv:ni p.ab i.toNat p.af ((av p.ab p.af i).take (aF cl cb k (av p.ab p.af i)).2):=by have h9:=Ea hr hip oJ (aF cl cb k (av p.ab p.af i)).2;rw [←hii]at h9;exact h9
 refine g9 10 ?_
 refine WC.cd (fun En LC=> ?_) (fun En LC=> ?_)
 ·try dsimp only at LC
  refine WC.seq (WC.dw ((((bi.k9.k9).k9).cons _).cons _) (d9 [0,1,2,3,4] ?_))
  refine g9 5 ?_
  refine⟨rfl,_,(Vd Bx (by rw [mg];omega)).symm,_,_,rfl,?_,?_⟩
  ·exact(fy pf fv gv fw gN da)
  exact(fy pf fH fI fi fx cY)
 try dsimp only at LC
 refine g9 7 ?_
 refine W.ay (oz (fv.mono pf) _ hi) rfl (W.alloc dY (fun xx=>(g9 6 ?_)))
 refine W.alloc bq (fun gy=>(g9 19 ?_))
 have anO:iQ 57 96 gy G6 ({ p with af:=[] }) ((gy,aj 57 [iV p.slot,iV p.level,lV iW p.ab.length iX,lV iY p.kids.length iZ,sV p.high.b,.bool p.cW,iV p.right,iV p.seen,lV none 0 0,lV ja p.rows.length jb])::[]):=⟨_,_,_,_,_,_,_,_,rfl,(fv.mono pf),(gv.mono pf),aP.nil,(gN.mono pf),da⟩
 have anO:=iQ.cast anO (n':={ p with af:=bP p.ab i ((av p.ab p.af i).take (aF cl cb k (av p.ab p.af i)).2) (p.af.take 0) }) rfl
 refine WC.perm (M':=((xx,aj 90 [sV (ar p.ab i).lo.b,sV (ar p.ab i).hi.b,.bool (ar p.ab i).bT])::((b5,aj 57 gR)::((b4,aj 57 gR)::((b3,aj 57 (cj k jx jy jz jA kh kj jT jU))::((b2,aj 57 (cj p iW iX iY iZ im io ja jb))::((b1,aj 23 [iV cf,iV cl,iV cb,iV cs,iV cr])::(((gy,aj 57 [iV p.slot,iV p.level,lV iW p.ab.length iX,lV iY p.kids.length iZ,sV p.high.b,.bool p.cW,iV p.right,iV p.seen,lV none 0 0,lV ja p.rows.length jb])::[])++[])))))))) ((ae (ae (ae (ae (ae (ae ai)))))).symm.trans ai) ?_
 refine WC.loop (X:=(Nat)×MH) (fun q=>[(67,aT q.1),(6,aq b3),(8,aq b4),(9,aq b5),(13,aq xx),(11,lV Gw ((av p.ab p.af i)).length Gx),(12,aT (((aF cl cb k (av p.ab p.af i)).2))),(65,lV im p.af.length io),(66,aT ((p.af).length)),(14,aq gy)]) (fun q G Ml=>Ml=((xx,aj 90 [sV (ar p.ab i).lo.b,sV (ar p.ab i).hi.b,.bool (ar p.ab i).bT])::((b5,aj 57 gR)::((b4,aj 57 gR)::((b3,aj 57 (cj k jx jy jz jA kh kj jT jU))::((b2,aj 57 (cj p iW iX iY iZ im io ja jb))::((b1,aj 23 [iV cf,iV cl,iV cb,iV cs,iV cr])::(q.2++[])))))))∧iQ 57 96 gy G ({ p with af:=bP p.ab i ((av p.ab p.af i).take (aF cl cb k (av p.ab p.af i)).2) (p.af.take q.1) }) q.2∧q.1≤p.af.length) (fun q=>p.af.length-q.1) (0,((gy,aj 57 [iV p.slot,iV p.level,lV iW p.ab.length iX,lV iY p.kids.length iZ,sV p.high.b,.bool p.cW,iV p.right,iV p.seen,lV none 0 0,lV ja p.rows.length jb])::[])) aZ ?_ ?_
 ·exact⟨rfl,(by exact anO),Nat.zero_le _⟩
 rintro⟨q,ae9⟩ axO G16 _ mK ⟨rfl,s7,hq⟩
 try dsimp only at s7 hq
 have W4:=MO p.ab i ((av p.ab p.af i).take (aF cl cb k (av p.ab p.af i)).2) p.af q
 refine WC.fr (f:=dO axO [(67,aT q),(6,aq b3),(8,aq b4),(9,aq b5),(13,aq xx),(11,lV Gw ((av p.ab p.af i)).length Gx),(12,aT (((aF cl cb k (av p.ab p.af i)).2))),(65,lV im p.af.length io),(66,aT ((p.af).length)),(14,aq gy)]) rfl (g9 6 ?_)
 refine WC.cd (fun h68 p68=> ?_) (fun h68 p68=> ?_)
 ·try dsimp only at p68
  refine g9 6 ?_
  refine(fw.mono (pf.trans mK)).a2 (i:=q) aa (fun Vy afa=>(g9 2 ?_))
  refine W.alloc cy (fun kW=>(g9 13 ?_))
  refine W.slR (0) ((aF cl cb k (av p.ab p.af i)).2) cO cX (Ai.mono mK) rfl rfl ⟨_,_,rfl,aa⟩ aa aa (fun v24 axP=> ?_)
  have q28:=axP.form
  refine match q28 with|⟨aKA,aKB,CY⟩=> ?_
  subst CY
  refine g9 5 ?_
  refine WC.loop (X:=Nat) (fun y=>[(17,.bool (decide ((p.af[q]'aa).aO∈((((av p.ab p.af i).take (aF cl cb k (av p.ab p.af i)).2)).take y).map aA.aO))),(75,aT y),(14,aq gy),(6,aq b3),(8,aq b4),(9,aq b5),(13,aq xx),(16,aq kW),(11,lV Gw ((av p.ab p.af i)).length Gx),(12,aT (((aF cl cb k (av p.ab p.af i)).2))),(65,lV im p.af.length io),(66,aT ((p.af).length)),(67,aT q),(73,lV aKA ((((av p.ab p.af i)).take ((aF cl cb k (av p.ab p.af i)).2)).drop (0)).length aKB),(74,aT ((((((av p.ab p.af i)).take ((aF cl cb k (av p.ab p.af i)).2)).drop (0))).length))]) (fun y _ Ml=>Ml=((kW,aj 96 [iV ((p.af)[q]).aO,iV ((p.af)[q]).kind,sV ((p.af)[q]).key.b,sV ((p.af)[q]).hi.b,.bool ((p.af)[q]).bT,sV ((p.af)[q]).val.b])::((xx,aj 90 [sV (ar p.ab i).lo.b,sV (ar p.ab i).hi.b,.bool (ar p.ab i).bT])::((b5,aj 57 gR)::((b4,aj 57 gR)::((b3,aj 57 (cj k jx jy jz jA kh kj jT jU))::((b2,aj 57 (cj p iW iX iY iZ im io ja jb))::((b1,aj 23 [iV cf,iV cl,iV cb,iV cs,iV cr])::(ae9++[]))))))))∧y≤((av p.ab p.af i).take (aF cl cb k (av p.ab p.af i)).2).length) (fun y=>((av p.ab p.af i).take (aF cl cb k (av p.ab p.af i)).2).length-y) 0 aZ ?_ ?_
  ·exact⟨rfl,Nat.zero_le _⟩
  rintro y adN T2 _ jM ⟨rfl,hy⟩
  refine g9 6 ?_
  refine WC.cd (fun h76 p76=> ?_) (fun h76 p76=> ?_)
  ·try dsimp only at p76
   refine g9 6 ?_
   refine(axP.mono jM).a2 (i:=y) aa (fun awS aGT=>(g9 2 ?_))
   refine W.alloc cy (fun b35=>(g9 6 ?_))
   refine W.sp 80 rfl (fun abS=> ?_) (fun abS=> ?_)
   ·refine g9 13 ?_
    refine W.sub (bi.cons _) (g9 2 ?_)
    exact⟨Le.rfl,y+1,⟨(congrArg Value.bool (aH4 abS)),eqv,eqv,eqv,eqv,eqv,eqv,eqv,eqv,eqv,eqv,eqv,eqv,eqv,eqv,trivial⟩,⟨rfl,aa⟩,aa⟩
   refine g9 18 ?_
   refine W.sub (bi.cons _) (g9 2 ?_)
   exact⟨Le.rfl,y+1,⟨(congrArg Value.bool (aH5 aa abS)),eqv,eqv,eqv,eqv,eqv,eqv,eqv,eqv,eqv,eqv,eqv,eqv,eqv,eqv,trivial⟩,⟨rfl,aa⟩,aa⟩
  try dsimp only at p76
  refine g9 12 ?_
  refine WC.cond rfl (fun h89=> ?_) (fun h89=> ?_)
  ·have hng:¬(p.af[q]'aa).aO∈(((av p.ab p.af i).take (aF cl cb k (av p.ab p.af i)).2)).map aA.aO:=by have h9:=h89;rw [List.take_of_length_le aa]at h9;simpa using h9
   refine WC.seq ?_
   have pF:q<p.af.length:=by omega
   obtain⟨Rb,Rc,Rd,Re,aRE,Rf,Rg,aAJ,aAK,anP,anQ,abT,anR,aPG⟩:=(iQ.mono jM s7)
   subst aAK
   have aAL:=abT.form
   refine match aAL with|⟨aAM,aAN,W5⟩=> ?_
   subst W5
   dsimp only at anP anQ abT anR
   refine WC.perm (M':=((gy,aj 57 [iV p.slot,iV p.level,lV Rb p.ab.length Rc,lV Rd p.kids.length Re,sV p.high.b,.bool p.cW,iV p.right,iV p.seen,lV aAM (bP p.ab i ((av p.ab p.af i).take (aF cl cb k (av p.ab p.af i)).2) (p.af.take q)).length aAN,lV Rf p.rows.length Rg])::((kW,aj 96 [iV ((p.af)[q]).aO,iV ((p.af)[q]).kind,sV ((p.af)[q]).key.b,sV ((p.af)[q]).hi.b,.bool ((p.af)[q]).bT,sV ((p.af)[q]).val.b])::((xx,aj 90 [sV (ar p.ab i).lo.b,sV (ar p.ab i).hi.b,.bool (ar p.ab i).bT])::((b5,aj 57 gR)::((b4,aj 57 gR)::((b3,aj 57 (cj k jx jy jz jA kh kj jT jU))::((b2,aj 57 (cj p iW iX iY iZ im io ja jb))::((b1,aj 23 [iV cf,iV cl,iV cb,iV cs,iV cr])::(aAJ++[])))))))))) (eX (eX (eX (eX (eX (eX (eX ai))))))).symm (g9 4 ?_)
   refine W.lit (e:=bQ) (l:=[(p.af[q]'pF)]) (css:=[[iV _,iV _,sV _,sV _,.bool _,sV _]]) cO cX cy rfl rfl rfl rfl rfl rfl ⟨⟨rfl,afa⟩,trivial⟩ (fun axG TX kV Fs=>(W.app (e:=bQ) cO cX cy rfl jv rfl rfl ((abT.mono kV)) (Fs) (ae (ae (ae (ae (ae (ae (ae (ae ai)))))))) (by show(List.length _+1)*72≤_;omega) (fun v39 Ar W6=>(W.perm (ae (ae (ae (ae (ae (ae (ae (ae ai)))))))).symm ?_))))
   have Rh:=W6.form
   refine match Rh with|⟨W7,W8,yJ⟩=> ?_
   subst yJ
   refine g9 8 ?_
   have anS:iQ 57 96 gy TX ({ p with af:=(bP p.ab i ((av p.ab p.af i).take (aF cl cb k (av p.ab p.af i)).2) (p.af.take q)++[(p.af[q]'pF)]) }) ((gy,aj 57 [iV p.slot,iV p.level,lV Rb p.ab.length Rc,lV Rd p.kids.length Re,sV p.high.b,.bool p.cW,iV p.right,iV p.seen,lV W7 ((bP p.ab i ((av p.ab p.af i).take (aF cl cb k (av p.ab p.af i)).2) (p.af.take q)++[(p.af[q]'pF)])).length W8,lV Rf p.rows.length Rg])::Ar):=⟨_,_,_,_,_,_,_,_,rfl,(anP.mono kV),(anQ.mono kV),W6,(anR.mono kV),da⟩
   have anS:=iQ.cast anS (tO aa (Ve hng))
   refine WC.perm (M':=((kW,aj 96 [iV ((p.af)[q]).aO,iV ((p.af)[q]).kind,sV ((p.af)[q]).key.b,sV ((p.af)[q]).hi.b,.bool ((p.af)[q]).bT,sV ((p.af)[q]).val.b])::((xx,aj 90 [sV (ar p.ab i).lo.b,sV (ar p.ab i).hi.b,.bool (ar p.ab i).bT])::((b5,aj 57 gR)::((b4,aj 57 gR)::((b3,aj 57 (cj k jx jy jz jA kh kj jT jU))::((b2,aj 57 (cj p iW iX iY iZ im io ja jb))::((b1,aj 23 [iV cf,iV cl,iV cb,iV cs,iV cr])::(((gy,aj 57 [iV p.slot,iV p.level,lV Rb p.ab.length Rc,lV Rd p.kids.length Re,sV p.high.b,.bool p.cW,iV p.right,iV p.seen,lV W7 ((bP p.ab i ((av p.ab p.af i).take (aF cl cb k (av p.ab p.af i)).2) (p.af.take q)++[(p.af[q]'pF)])).length W8,lV Rf p.rows.length Rg])::Ar)++[]))))))))) ((ae (ae (ae (ae (ae (ae (ae ai))))))).symm.trans (((ae (ae (ae (ae (ae (ae (ae ai))))))).cons _).trans ai)) (g9 3 ?_)
   refine W.sub (bi.cons _) (g9 2 ?_)
   exact⟨aS,(q+1,((gy,aj 57 [iV p.slot,iV p.level,lV Rb p.ab.length Rc,lV Rd p.kids.length Re,sV p.high.b,.bool p.cW,iV p.right,iV p.seen,lV W7 ((bP p.ab i ((av p.ab p.af i).take (aF cl cb k (av p.ab p.af i)).2) (p.af.take q)++[(p.af[q]'pF)])).length W8,lV Rf p.rows.length Rg])::Ar)),aZ,⟨rfl,(by exact anS),aa⟩,aa⟩
  have hg:(p.af[q]'aa).aO∈(((av p.ab p.af i).take (aF cl cb k (av p.ab p.af i)).2)).map aA.aO:=by have h9:=h89;rw [List.take_of_length_le aa]at h9;simpa using h9
  refine g9 8 ?_
  refine W.sd 99 (fun h98 Wc=> ?_) (fun h98 Wc=> ?_)
  ·try dsimp only at Wc
   refine g9 8 ?_
   refine W.sp 104 rfl (fun W9=> ?_) (fun W9=> ?_)
   ·refine g9 6 ?_
    refine W.sp 107 rfl (fun Ft=> ?_) (fun Ft=> ?_)
    ·refine g9 19 ?_
     have pF:q<p.af.length:=by omega
     obtain⟨Ri,Rj,Rk,Rl,aRF,Rm,Rn,aAO,aAP,anT,anU,abU,anV,aPH⟩:=(iQ.mono jM s7)
     subst aAP
     have aAQ:=abU.form
     refine match aAQ with|⟨aAR,aAS,JD⟩=> ?_
     subst JD
     dsimp only at anT anU abU anV
     refine WC.perm (M':=((gy,aj 57 [iV p.slot,iV p.level,lV Ri p.ab.length Rj,lV Rk p.kids.length Rl,sV p.high.b,.bool p.cW,iV p.right,iV p.seen,lV aAR (bP p.ab i ((av p.ab p.af i).take (aF cl cb k (av p.ab p.af i)).2) (p.af.take q)).length aAS,lV Rm p.rows.length Rn])::((kW,aj 96 [iV ((p.af)[q]).aO,iV ((p.af)[q]).kind,sV (ar p.ab i).hi.b,sV ((p.af)[q]).hi.b,.bool ((p.af)[q]).bT,sV ((p.af)[q]).val.b])::((xx,aj 90 [sV (ar p.ab i).lo.b,sV (ar p.ab i).hi.b,.bool (ar p.ab i).bT])::((b5,aj 57 gR)::((b4,aj 57 gR)::((b3,aj 57 (cj k jx jy jz jA kh kj jT jU))::((b2,aj 57 (cj p iW iX iY iZ im io ja jb))::((b1,aj 23 [iV cf,iV cl,iV cb,iV cs,iV cr])::(aAO++[])))))))))) (eX (eX (eX (eX (eX (eX (eX ai))))))).symm (g9 4 ?_)
     refine W.lit (e:=bQ) (l:=[{ (p.af[q]'pF)with key:=(ar p.ab i).hi }]) (css:=[[iV _,iV _,sV _,sV _,.bool _,sV _]]) cO cX cy rfl rfl rfl rfl rfl rfl ⟨⟨rfl,afa⟩,trivial⟩ (fun aKC G49 yt anW=>(W.app (e:=bQ) cO cX cy rfl jv rfl rfl ((abU.mono yt)) (anW) (ae (ae (ae (ae (ae (ae (ae (ae ai)))))))) (by show(List.length _+1)*72≤_;omega) (fun v50 Fu HT=>(W.perm (ae (ae (ae (ae (ae (ae (ae (ae ai)))))))).symm ?_))))
     have q56:=HT.form
     refine match q56 with|⟨Xa,Xb,yI⟩=> ?_
     subst yI
     refine g9 5 ?_
     have anX:iQ 57 96 gy G49 ({ p with af:=(bP p.ab i ((av p.ab p.af i).take (aF cl cb k (av p.ab p.af i)).2) (p.af.take q)++[{ (p.af[q]'pF)with key:=(ar p.ab i).hi }]) }) ((gy,aj 57 [iV p.slot,iV p.level,lV Ri p.ab.length Rj,lV Rk p.kids.length Rl,sV p.high.b,.bool p.cW,iV p.right,iV p.seen,lV Xa ((bP p.ab i ((av p.ab p.af i).take (aF cl cb k (av p.ab p.af i)).2) (p.af.take q)++[{ (p.af[q]'pF)with key:=(ar p.ab i).hi }])).length Xb,lV Rm p.rows.length Rn])::Fu):=⟨_,_,_,_,_,_,_,_,rfl,(anT.mono yt),(anU.mono yt),HT,(anV.mono yt),da⟩
     have anX:=iQ.cast anX (tO aa (MZ aa hr hip oJ hmv (List.getElem_mem (by omega:q<p.af.length)) hg Wc (by simpa using W9) (.inl Ft)))
     refine WC.perm (M':=((kW,aj 96 [iV ((p.af)[q]).aO,iV ((p.af)[q]).kind,sV (ar p.ab i).hi.b,sV ((p.af)[q]).hi.b,.bool ((p.af)[q]).bT,sV ((p.af)[q]).val.b])::((xx,aj 90 [sV (ar p.ab i).lo.b,sV (ar p.ab i).hi.b,.bool (ar p.ab i).bT])::((b5,aj 57 gR)::((b4,aj 57 gR)::((b3,aj 57 (cj k jx jy jz jA kh kj jT jU))::((b2,aj 57 (cj p iW iX iY iZ im io ja jb))::((b1,aj 23 [iV cf,iV cl,iV cb,iV cs,iV cr])::(((gy,aj 57 [iV p.slot,iV p.level,lV Ri p.ab.length Rj,lV Rk p.kids.length Rl,sV p.high.b,.bool p.cW,iV p.right,iV p.seen,lV Xa ((bP p.ab i ((av p.ab p.af i).take (aF cl cb k (av p.ab p.af i)).2) (p.af.take q)++[{ (p.af[q]'pF)with key:=(ar p.ab i).hi }])).length Xb,lV Rm p.rows.length Rn])::Fu)++[]))))))))) ((ae (ae (ae (ae (ae (ae (ae ai))))))).symm.trans (((ae (ae (ae (ae (ae (ae (ae ai))))))).cons _).trans ai)) (g9 3 ?_)
     refine W.sub (bi.cons _) (g9 2 ?_)
     exact⟨aS,(q+1,((gy,aj 57 [iV p.slot,iV p.level,lV Ri p.ab.length Rj,lV Rk p.kids.length Rl,sV p.high.b,.bool p.cW,iV p.right,iV p.seen,lV Xa ((bP p.ab i ((av p.ab p.af i).take (aF cl cb k (av p.ab p.af i)).2) (p.af.take q)++[{ (p.af[q]'pF)with key:=(ar p.ab i).hi }])).length Xb,lV Rm p.rows.length Rn])::Fu)),aZ,⟨rfl,(by exact anX),aa⟩,aa⟩
    refine g9 9 ?_
    refine W.ay (hX _ _) rfl (g9 5 ?_)
    refine WC.cond rfl (fun anY=> ?_) (fun anY=> ?_)
    ·refine g9 8 ?_
     have pF:q<p.af.length:=by omega
     obtain⟨Ro,Rq,Rr,Rs,aRG,Rt,Ru,aAT,aAU,anZ,an0,abV,an1,aPI⟩:=(iQ.mono jM s7)
     subst aAU
     have aAV:=abV.form
     refine match aAV with|⟨aAW,aAX,C1⟩=> ?_
     subst C1
     dsimp only at anZ an0 abV an1
     refine WC.perm (M':=((gy,aj 57 [iV p.slot,iV p.level,lV Ro p.ab.length Rq,lV Rr p.kids.length Rs,sV p.high.b,.bool p.cW,iV p.right,iV p.seen,lV aAW (bP p.ab i ((av p.ab p.af i).take (aF cl cb k (av p.ab p.af i)).2) (p.af.take q)).length aAX,lV Rt p.rows.length Ru])::((kW,aj 96 [iV ((p.af)[q]).aO,iV ((p.af)[q]).kind,sV (ar p.ab i).hi.b,sV ((p.af)[q]).hi.b,.bool ((p.af)[q]).bT,sV ((p.af)[q]).val.b])::((xx,aj 90 [sV (ar p.ab i).lo.b,sV (ar p.ab i).hi.b,.bool (ar p.ab i).bT])::((b5,aj 57 gR)::((b4,aj 57 gR)::((b3,aj 57 (cj k jx jy jz jA kh kj jT jU))::((b2,aj 57 (cj p iW iX iY iZ im io ja jb))::((b1,aj 23 [iV cf,iV cl,iV cb,iV cs,iV cr])::(aAT++[])))))))))) (eX (eX (eX (eX (eX (eX (eX ai))))))).symm (g9 4 ?_)
     refine W.lit (e:=bQ) (l:=[{ (p.af[q]'pF)with key:=(ar p.ab i).hi }]) (css:=[[iV _,iV _,sV _,sV _,.bool _,sV _]]) cO cX cy rfl rfl rfl rfl rfl rfl ⟨⟨rfl,afa⟩,trivial⟩ (fun aVa G60 Fx W1=>(W.app (e:=bQ) cO cX cy rfl jv rfl rfl ((abV.mono Fx)) (W1) (ae (ae (ae (ae (ae (ae (ae (ae ai)))))))) (by show(List.length _+1)*72≤_;omega) (fun v61 M7 FZ=>(W.perm (ae (ae (ae (ae (ae (ae (ae (ae ai)))))))).symm ?_))))
     have q67:=FZ.form
     refine match q67 with|⟨an2,an3,Vv⟩=> ?_
     subst Vv
     refine g9 5 ?_
     have an4:iQ 57 96 gy G60 ({ p with af:=(bP p.ab i ((av p.ab p.af i).take (aF cl cb k (av p.ab p.af i)).2) (p.af.take q)++[{ (p.af[q]'pF)with key:=(ar p.ab i).hi }]) }) ((gy,aj 57 [iV p.slot,iV p.level,lV Ro p.ab.length Rq,lV Rr p.kids.length Rs,sV p.high.b,.bool p.cW,iV p.right,iV p.seen,lV an2 ((bP p.ab i ((av p.ab p.af i).take (aF cl cb k (av p.ab p.af i)).2) (p.af.take q)++[{ (p.af[q]'pF)with key:=(ar p.ab i).hi }])).length an3,lV Rt p.rows.length Ru])::M7):=⟨_,_,_,_,_,_,_,_,rfl,(anZ.mono Fx),(an0.mono Fx),FZ,(an1.mono Fx),da⟩
     have an4:=iQ.cast an4 (tO aa (MZ aa hr hip oJ hmv (List.getElem_mem (by omega:q<p.af.length)) hg Wc (by simpa using W9) (.inr anY)))
     refine WC.perm (M':=((kW,aj 96 [iV ((p.af)[q]).aO,iV ((p.af)[q]).kind,sV (ar p.ab i).hi.b,sV ((p.af)[q]).hi.b,.bool ((p.af)[q]).bT,sV ((p.af)[q]).val.b])::((xx,aj 90 [sV (ar p.ab i).lo.b,sV (ar p.ab i).hi.b,.bool (ar p.ab i).bT])::((b5,aj 57 gR)::((b4,aj 57 gR)::((b3,aj 57 (cj k jx jy jz jA kh kj jT jU))::((b2,aj 57 (cj p iW iX iY iZ im io ja jb))::((b1,aj 23 [iV cf,iV cl,iV cb,iV cs,iV cr])::(((gy,aj 57 [iV p.slot,iV p.level,lV Ro p.ab.length Rq,lV Rr p.kids.length Rs,sV p.high.b,.bool p.cW,iV p.right,iV p.seen,lV an2 ((bP p.ab i ((av p.ab p.af i).take (aF cl cb k (av p.ab p.af i)).2) (p.af.take q)++[{ (p.af[q]'pF)with key:=(ar p.ab i).hi }])).length an3,lV Rt p.rows.length Ru])::M7)++[]))))))))) ((ae (ae (ae (ae (ae (ae (ae ai))))))).symm.trans (((ae (ae (ae (ae (ae (ae (ae ai))))))).cons _).trans ai)) (g9 3 ?_)
     refine W.sub (bi.cons _) (g9 2 ?_)
     exact⟨aS,(q+1,((gy,aj 57 [iV p.slot,iV p.level,lV Ro p.ab.length Rq,lV Rr p.kids.length Rs,sV p.high.b,.bool p.cW,iV p.right,iV p.seen,lV an2 ((bP p.ab i ((av p.ab p.af i).take (aF cl cb k (av p.ab p.af i)).2) (p.af.take q)++[{ (p.af[q]'pF)with key:=(ar p.ab i).hi }])).length an3,lV Rt p.rows.length Ru])::M7)),aZ,⟨rfl,(by exact an4),aa⟩,aa⟩
    refine g9 6 ?_
    refine W.sub (bi.cons _) (g9 2 ?_)
    exact⟨jM,(q+1,ae9),aZ,⟨rfl,(by exact iQ.cast (iQ.mono jM s7) (tP aa (yj aa hr hip oJ hmv (List.getElem_mem (by omega:q<p.af.length)) hg (fun hh=>by rcases hh.2.2 with h9|h9;rw [Ft]at h9;exact absurd h9 (by simp);exact absurd (anY.symm.trans h9) (by simp))))),aa⟩,aa⟩
   refine g9 19 ?_
   refine W.sub (bi.cons _) (g9 2 ?_)
   exact⟨jM,(q+1,ae9),aZ,⟨rfl,(by exact iQ.cast (iQ.mono jM s7) (tP aa (yj aa hr hip oJ hmv (List.getElem_mem (by omega:q<p.af.length)) hg (fun hh=>by rw [hh.2.1]at W9;exact absurd W9 (by simp))))),aa⟩,aa⟩
  try dsimp only at Wc
  refine g9 24 ?_
  refine W.sub (bi.cons _) (g9 2 ?_)
  exact⟨jM,(q+1,ae9),aZ,⟨rfl,(by exact iQ.cast (iQ.mono jM s7) (tP aa (yj aa hr hip oJ hmv (List.getElem_mem (by omega:q<p.af.length)) hg (fun hh=>Wc hh.1)))),aa⟩,aa⟩
 try dsimp only at p68
 refine g9 13 ?_
 refine WC.cd (fun ug nT=> ?_) (fun ug nT=> ?_)
 ·try dsimp only at nT
  refine WC.dw (((((eu.k9.k9).cons _).k9).k9).k9) (d9 [0,2,3] ?_)
  have aKD:=ax.slice (Ai.mono mK) (lo:=0) (hi:=(aF cl cb k (av p.ab p.af i)).2) aa aa
  refine WD.tk 4 rfl (ok_slice (0) ((aF cl cb k (av p.ab p.af i)).2) cO cX (Ai.mono mK) rfl rfl ⟨_,_,rfl,aa⟩ ⟨aa,aa⟩) (WD.a1 1 rfl (g9 1 ?_))
  refine W.nn (WD.a1 5 rfl (W.cS (aah (fx.mono aS) (ax.cast aKD (List.drop_zero)) kX aa (fun m h=>Cf (eR (hfR m (List.mem_of_mem_take h))))) rfl (fun an5 an6 G70 an7 aeP=>(W.nn (d9 [6,7] ?_)))))
  refine g9 7 ?_
  refine(Ai.mono (mK.trans an7)).a2 (i:=(aF cl cb k (av p.ab p.af i)).2-1) aa (fun aKE axQ=>(W.ok (aY (i:=(aF cl cb k (av p.ab p.af i)).2-1) cO cX (Ai.mono aS) rfl rfl ⟨aa,aa⟩) (g9 7 ?_)))
  have aKF:=iQ.cast (iQ.mono an7 s7) (n':={ p with af:=bP p.ab i ((av p.ab p.af i).take (aF cl cb k (av p.ab p.af i)).2) p.af }) (by rw [List.take_of_length_le (show p.af.length≤q by omega)])
  have P7:=axQ
  obtain⟨aAY,aAZ,aA0,aA1,aRH,aA2,aA3,aA4,aA5,an8,an9,abW,aoa,aPJ⟩:=aKF
  subst aA5
  have aA6:=abW.form
  refine match aA6 with|⟨aA7,aA8,WV⟩=> ?_
  subst WV
  dsimp only at an8 an9 abW aoa
  refine WC.perm (M':=((gy,aj 57 [iV p.slot,iV p.level,lV aAY p.ab.length aAZ,lV aA0 p.kids.length aA1,sV p.high.b,.bool p.cW,iV p.right,iV p.seen,lV aA7 (bP p.ab i ((av p.ab p.af i).take (aF cl cb k (av p.ab p.af i)).2) p.af).length aA8,lV aA2 p.rows.length aA3])::((xx,aj 90 [sV (ar p.ab i).lo.b,sV (ar p.ab i).hi.b,.bool (ar p.ab i).bT])::((b5,aj 57 gR)::((b4,aj 57 gR)::((b3,aj 57 [iV k.slot,iV k.level,lV jx k.ab.length jy,lV jz k.kids.length jA,sV k.high.b,.bool k.cW,iV k.right,iV (((av p.ab p.af i))[((aF cl cb k (av p.ab p.af i)).2-1)]).aO,lV kh k.af.length kj,lV an5 (cJ k.rows ((av p.ab p.af i).take (aF cl cb k (av p.ab p.af i)).2)).length an6])::((b2,aj 57 (cj p iW iX iY iZ im io ja jb))::((b1,aj 23 [iV cf,iV cl,iV cb,iV cs,iV cr])::(aA4++[]))))))))) (eX (eX (eX (eX (eX (eX ai)))))).symm (WC.cm abW (ae (ae (ae (ae (ae (ae (ae ai))))))) (fun G85 WW aKG=>(WC.dw ((((((bi.k9.k9).k9).cons _).cons _).k9).k9) (d9 [0,1,2,3,4,5] ?_))))
  refine g9 4 ?_
  refine⟨rfl,_,(auo Bx nT aa aa).symm,_,_,rfl,?_,?_⟩
  ·exact⟨_,_,_,_,_,_,_,_,rfl,(an8.mono WW),(an9.mono WW),aKG,(aoa.mono WW),da⟩
  exact⟨_,_,_,_,_,_,_,_,rfl,(fH.mono aS),(fI.mono aS),(fi.mono aS),(aeP.mono WW),⟨cY.1,cY.2.1,cY.2.2.1,P7.1⟩⟩
 try dsimp only at nT
 refine WC.dw (((((eu.k9.k9).cons _).k9).k9).k9) (d9 [1,4,5] ?_)
 have axR:=ax.slice (Ai.mono mK) (lo:=0) (hi:=(aF cl cb k (av p.ab p.af i)).2) aa aa
 refine WD.tk 6 rfl (ok_slice (0) ((aF cl cb k (av p.ab p.af i)).2) cO cX (Ai.mono mK) rfl rfl ⟨_,_,rfl,aa⟩ ⟨aa,aa⟩) ?_
 refine WD.any [0,2] (by kernel_rfl) rfl ⟨WD.ap ?_,WD.ap ?_,trivial⟩
 ·refine W.mz (e:=bQ) cO cX cy rfl (fun v87 aob axS=>(W.perm (ae (ae (ae (ae (ae (ae ai)))))).symm ?_))
  have q93:=axS.form
  refine match q93 with|⟨aVb,aVc,aoc⟩=> ?_
  subst aoc
  refine W.nn (WD.a1 2 rfl (g9 1 ?_))
  refine W.nn (WD.a1 3 rfl (W.app (e:=bQ) cO cX cy rfl jv rfl rfl (axS) ((fi.mono aS)) (ae (ae (ae (ae (ae (ae ai)))))) (by show(0+List.length _)*72≤_;omega) (fun v94 aVd axT=>(W.perm (ae (ae (ae (ae (ae (ae ai)))))).symm ?_))))
  have aKH:=axT.form
  refine match aKH with|⟨aVe,aVf,aod⟩=> ?_
  subst aod
  refine W.nn (WD.a1 7 rfl (W.app (e:=bQ) cO cX cy rfl jv rfl rfl (axT) (axR) (ae (ae (ae (ae (ae (ae ai)))))) (by show(List.length _+List.length _)*72≤_;simp;omega) (fun axU By EQ=>(W.perm (ae (ae (ae (ae (ae (ae ai)))))).symm ?_))))
  have Xc:=EQ.form
  refine match Xc with|⟨Rv,Rw,abX⟩=> ?_
  subst abX
  refine W.nn (d9 [8,9] ?_)
  refine g9 3 ?_
  refine WC.cm EQ (ae (ae (ae (ae (ae (ae ai)))))) (fun axV JU aA9=>(g9 4 ?_))
  refine(Ai.mono (mK.trans JU)).a2 (i:=(aF cl cb k (av p.ab p.af i)).2-1) aa (fun aBa aBb=>(W.ok (aY (i:=(aF cl cb k (av p.ab p.af i)).2-1) cO cX (Ai.mono aS) rfl rfl ⟨aa,aa⟩) (g9 7 ?_)))
  have aBc:=iQ.cast (iQ.mono JU s7) (n':={ p with af:=bP p.ab i ((av p.ab p.af i).take (aF cl cb k (av p.ab p.af i)).2) p.af }) (by rw [List.take_of_length_le (show p.af.length≤q by omega)])
  have P7:=aBb
  obtain⟨avr,avs,avt,avu,aPK,avv,avw,avx,avy,afb,afc,Rx,afd,aKI⟩:=aBc
  subst avy
  have avz:=Rx.form
  refine match avz with|⟨avA,avB,abY⟩=> ?_
  subst abY
  dsimp only at afb afc Rx afd
  refine WC.perm (M':=((gy,aj 57 [iV p.slot,iV p.level,lV avr p.ab.length avs,lV avt p.kids.length avu,sV p.high.b,.bool p.cW,iV p.right,iV p.seen,lV avA (bP p.ab i ((av p.ab p.af i).take (aF cl cb k (av p.ab p.af i)).2) p.af).length avB,lV avv p.rows.length avw])::((xx,aj 90 [sV (ar p.ab i).lo.b,sV (ar p.ab i).hi.b,.bool (ar p.ab i).bT])::((b5,aj 57 gR)::((b4,aj 57 gR)::((b3,aj 57 [iV k.slot,iV k.level,lV jx k.ab.length jy,lV jz k.kids.length jA,sV k.high.b,.bool k.cW,iV k.right,iV (((av p.ab p.af i))[((aF cl cb k (av p.ab p.af i)).2-1)]).aO,lV Rv ((([]++k.af)++(((av p.ab p.af i)).take ((aF cl cb k (av p.ab p.af i)).2)).drop (0))).length Rw,lV jT k.rows.length jU])::((b2,aj 57 (cj p iW iX iY iZ im io ja jb))::((b1,aj 23 [iV cf,iV cl,iV cb,iV cs,iV cr])::(avx++[]))))))))) (eX (eX (eX (eX (eX (eX ai)))))).symm (WC.cm Rx (ae (ae (ae (ae (ae (ae (ae ai))))))) (fun aVg Ry aBd=>(WC.dw ((((((bi.k9.k9).k9).cons _).cons _).k9).k9) (d9 [0,1,2,3,4,5] ?_))))
  refine g9 4 ?_
  refine⟨rfl,_,(aeg Bx nT aa aa).symm,_,_,rfl,?_,?_⟩
  ·exact⟨_,_,_,_,_,_,_,_,rfl,(afb.mono Ry),(afc.mono Ry),aBd,(afd.mono Ry),da⟩
  exact⟨_,_,_,_,_,_,_,_,rfl,(fH.mono aS),(fI.mono aS),(aA9.mono Ry),(fx.mono aS),⟨cY.1,cY.2.1,cY.2.2.1,P7.1⟩⟩
 refine g9 1 ?_
 refine W.nn (WD.a1 0 rfl (W.mz (e:=bQ) cO cX cy rfl (fun aVh aRI aoe=>(W.perm (ae (ae (ae (ae (ae (ae ai)))))).symm ?_))))
 have aof:=aoe.form
 refine match aof with|⟨aBe,aBf,JV⟩=> ?_
 subst JV
 refine W.nn (WD.a1 3 rfl (W.app (e:=bQ) cO cX cy rfl jv rfl rfl (aoe) ((fi.mono aS)) (ae (ae (ae (ae (ae (ae ai)))))) (by show(0+List.length _)*72≤_;omega) (fun aVi abZ aog=>(W.perm (ae (ae (ae (ae (ae (ae ai)))))).symm ?_))))
 have aoh:=aog.form
 refine match aoh with|⟨aRJ,aRK,ab0⟩=> ?_
 subst ab0
 refine W.nn (WD.a1 7 rfl (W.app (e:=bQ) cO cX cy rfl jv rfl rfl (aog) (axR) (ae (ae (ae (ae (ae (ae ai)))))) (by show(List.length _+List.length _)*72≤_;simp;omega) (fun aVj aoi aoj=>(W.perm (ae (ae (ae (ae (ae (ae ai)))))).symm ?_))))
 have Xd:=aoj.form
 refine match Xd with|⟨aBg,aBh,aBi⟩=> ?_
 subst aBi
 refine W.nn (d9 [8,9] ?_)
 refine g9 3 ?_
 refine WC.cm aoj (ae (ae (ae (ae (ae (ae ai)))))) (fun axE rz aBj=>(g9 4 ?_))
 refine(Ai.mono (mK.trans rz)).a2 (i:=(aF cl cb k (av p.ab p.af i)).2-1) aa (fun aRL aBk=>(W.ok (aY (i:=(aF cl cb k (av p.ab p.af i)).2-1) cO cX (Ai.mono aS) rfl rfl ⟨aa,aa⟩) (g9 7 ?_)))
 have aBl:=iQ.cast (iQ.mono rz s7) (n':={ p with af:=bP p.ab i ((av p.ab p.af i).take (aF cl cb k (av p.ab p.af i)).2) p.af }) (by rw [List.take_of_length_le (show p.af.length≤q by omega)])
 have P7:=aBk
 obtain⟨avC,avD,avE,avF,aPL,avG,avH,avI,avJ,afe,aff,Rz,afg,aKJ⟩:=aBl
 subst avJ
 have avK:=Rz.form
 refine match avK with|⟨avL,avM,aBm⟩=> ?_
 subst aBm
 dsimp only at afe aff Rz afg
 refine WC.perm (M':=((gy,aj 57 [iV p.slot,iV p.level,lV avC p.ab.length avD,lV avE p.kids.length avF,sV p.high.b,.bool p.cW,iV p.right,iV p.seen,lV avL (bP p.ab i ((av p.ab p.af i).take (aF cl cb k (av p.ab p.af i)).2) p.af).length avM,lV avG p.rows.length avH])::((xx,aj 90 [sV (ar p.ab i).lo.b,sV (ar p.ab i).hi.b,.bool (ar p.ab i).bT])::((b5,aj 57 gR)::((b4,aj 57 gR)::((b3,aj 57 [iV k.slot,iV k.level,lV jx k.ab.length jy,lV jz k.kids.length jA,sV k.high.b,.bool k.cW,iV k.right,iV (((av p.ab p.af i))[((aF cl cb k (av p.ab p.af i)).2-1)]).aO,lV aBg ((([]++k.af)++(((av p.ab p.af i)).take ((aF cl cb k (av p.ab p.af i)).2)).drop (0))).length aBh,lV jT k.rows.length jU])::((b2,aj 57 (cj p iW iX iY iZ im io ja jb))::((b1,aj 23 [iV cf,iV cl,iV cb,iV cs,iV cr])::(avI++[]))))))))) (eX (eX (eX (eX (eX (eX ai)))))).symm (WC.cm Rz (ae (ae (ae (ae (ae (ae (ae ai))))))) (fun aVk RA aBn=>(WC.dw ((((((bi.k9.k9).k9).cons _).cons _).k9).k9) (d9 [0,1,2,3,4,5] ?_))))
 refine g9 4 ?_
 refine⟨rfl,_,(aeg Bx nT aa aa).symm,_,_,rfl,?_,?_⟩
 ·exact⟨_,_,_,_,_,_,_,_,rfl,(afe.mono RA),(aff.mono RA),aBn,(afg.mono RA),da⟩
 exact⟨_,_,_,_,_,_,_,_,rfl,(fH.mono aS),(fI.mono aS),(aBj.mono RA),(fx.mono aS),⟨cY.1,cY.2.1,cY.2.2.1,P7.1⟩⟩

theorem Xe(cf:Int)(cl:Int)(cb:Int)(cs:Int)(cr:Int)(js:ba G pE p){k:Nd}(nD:ba G nE k)(i:Int)(hq:tQ cb p k)(hi:i64 i)(Bx:fk p k i)(oJ:dD p.af)(jj:p.kids.length=p.ab.length+1):
    Fc Tryz.prog 145 [.agg #[iV cf,iV cl,iV cb,iV cs,iV cr],.agg (List.toArray pE),.agg (List.toArray nE),iV i] G [] (fun v _ _=>v=iV (cg (⟨cf,cl,cb,cs,cr⟩:aQ) p k i)):=by
 obtain⟨_,_,_,_,_,_,_,_,rfl,fv,gv,fw,gN,da⟩:=js
 obtain⟨_,_,_,_,_,_,_,_,rfl,fH,fI,fi,fx,cY⟩:=nD
 refine Fc.go [.tmp 8] Tryz.func145 Tryz.ntmps145 rfl (fun w0=>(g9 2 ?_))
 refine W.box (L:=[iV _,iV _,iV _,iV _,iV _]) rfl rfl (fun b1=>(W.box (L:=[iV _,iV _,lV _ _ _,lV _ _ _,sV _,.bool _,iV _,iV _,lV _ _ _,lV _ _ _]) rfl rfl (fun b2=>(W.box (L:=[iV _,iV _,lV _ _ _,lV _ _ _,sV _,.bool _,iV _,iV _,lV _ _ _,lV _ _ _]) rfl rfl (fun b3=>(g9 13 ?_))))))
 refine W.ay (ud cf cl cb cs cr (n:=p) (cc fv gv fw gN da)) rfl (g9 2 ?_)
 refine WC.cond rfl (fun dL=> ?_) (fun dL=> ?_)
 ·refine g9 12 ?_
  refine W.sd 17 (fun fU gX=> ?_) (fun fU gX=> ?_)
  ·refine g9 5 ?_
   refine W.ay (ud cf cl cb cs cr (n:=k) (cc fH fI fi fx cY)) rfl (g9 4 ?_)
   refine WC.cond rfl (fun gD=> ?_) (fun gD=> ?_)
   ·refine g9 10 ?_
    refine congrArg (Value.int .i64) ?_
    rw [zP (c:=(⟨cf,cl,cb,cs,cr⟩:aQ)) aa gD]
    rw [if_pos dL]
   refine g9 6 ?_
   refine W.ay (rE cf cl cb cs cr (p:=p) (k:=k) (cc fv gv fw gN da) (cc fH fI fi fx cY) i hq.hb hq.hr hq.mU hq.jt hq.iP hq.kX hi hq.gY) rfl (g9 4 ?_)
   refine WC.cd (fun iE wV=> ?_) (fun iE wV=> ?_)
   ·refine g9 9 ?_
    refine congrArg (Value.int .i64) ?_
    exact(mH (c:=(⟨cf,cl,cb,cs,cr⟩:aQ)) (fun h=>by rw [gD]at h;exact absurd h.2 (by simp)) (show 0<bW cl cb p k i by omega)).symm
   refine g9 8 ?_
   refine WC.cd (fun j8 rB=> ?_) (fun j8 rB=> ?_)
   ·refine g9 9 ?_
    refine congrArg (Value.int .i64) ?_
    exact(mI (c:=(⟨cf,cl,cb,cs,cr⟩:aQ)) (fun h=>by rw [gD]at h;exact absurd h.2 (by simp)) (show ¬0<bW cl cb p k i by omega) aa).symm
   refine g9 6 ?_
   refine W.ay (z4 cf cl cb cs cr (p:=p) (k:=k) (cc fv gv fw gN da) (cc fH fI fi fx cY) i hq.hb hq.hr hq.mU hq.jt hq.iP hq.kX hi hq.gY) rfl (g9 3 ?_)
   refine WC.cond rfl (fun nr=> ?_) (fun nr=> ?_)
   ·have lz:0<(av p.ab p.af i).length:=(va nr).2.1
    refine g9 10 ?_
    refine congrArg (Value.int .i64) ?_
    rw [mJ (c:=(⟨cf,cl,cb,cs,cr⟩:aQ)) (show ¬0<bW cl cb p k i by omega) aa lz]
    rw [if_pos dL]
   have lz:¬0<(av p.ab p.af i).length:=fun hh=>sU nr ⟨Bx,hh,aa⟩
   refine g9 10 ?_
   refine congrArg (Value.int .i64) ?_
   exact(pA (c:=(⟨cf,cl,cb,cs,cr⟩:aQ)) (show ¬0<bW cl cb p k i by omega) aa lz).symm
  refine g9 14 ?_
  refine W.ay (rE cf cl cb cs cr (p:=p) (k:=k) (cc fv gv fw gN da) (cc fH fI fi fx cY) i hq.hb hq.hr hq.mU hq.jt hq.iP hq.kX hi hq.gY) rfl (g9 4 ?_)
  refine WC.cd (fun iE wV=> ?_) (fun iE wV=> ?_)
  ·refine g9 9 ?_
   refine congrArg (Value.int .i64) ?_
   exact(mH (c:=(⟨cf,cl,cb,cs,cr⟩:aQ)) (fun h=>by omega) (show 0<bW cl cb p k i by omega)).symm
  refine g9 8 ?_
  refine WC.cd (fun j8 rB=> ?_) (fun j8 rB=> ?_)
  ·refine g9 9 ?_
   refine congrArg (Value.int .i64) ?_
   exact(mI (c:=(⟨cf,cl,cb,cs,cr⟩:aQ)) (fun h=>by omega) (show ¬0<bW cl cb p k i by omega) aa).symm
  refine g9 6 ?_
  refine W.ay (z4 cf cl cb cs cr (p:=p) (k:=k) (cc fv gv fw gN da) (cc fH fI fi fx cY) i hq.hb hq.hr hq.mU hq.jt hq.iP hq.kX hi hq.gY) rfl (g9 3 ?_)
  refine WC.cond rfl (fun nr=> ?_) (fun nr=> ?_)
  ·have lz:0<(av p.ab p.af i).length:=(va nr).2.1
   refine g9 10 ?_
   refine congrArg (Value.int .i64) ?_
   rw [mJ (c:=(⟨cf,cl,cb,cs,cr⟩:aQ)) (show ¬0<bW cl cb p k i by omega) aa lz]
   rw [if_pos dL]
  have lz:¬0<(av p.ab p.af i).length:=fun hh=>sU nr ⟨Bx,hh,aa⟩
  refine g9 10 ?_
  refine congrArg (Value.int .i64) ?_
  exact(pA (c:=(⟨cf,cl,cb,cs,cr⟩:aQ)) (show ¬0<bW cl cb p k i by omega) aa lz).symm
 refine g9 10 ?_
 refine W.sd 17 (fun fU gX=> ?_) (fun fU gX=> ?_)
 ·refine g9 5 ?_
  refine W.ay (ud cf cl cb cs cr (n:=k) (cc fH fI fi fx cY)) rfl (g9 4 ?_)
  refine WC.cond rfl (fun gD=> ?_) (fun gD=> ?_)
  ·refine g9 10 ?_
   refine congrArg (Value.int .i64) ?_
   rw [zP (c:=(⟨cf,cl,cb,cs,cr⟩:aQ)) aa gD]
   rw [if_neg (by rw [dL]<;>simp)]
  refine g9 6 ?_
  refine W.ay (rE cf cl cb cs cr (p:=p) (k:=k) (cc fv gv fw gN da) (cc fH fI fi fx cY) i hq.hb hq.hr hq.mU hq.jt hq.iP hq.kX hi hq.gY) rfl (g9 4 ?_)
  refine WC.cd (fun iE wV=> ?_) (fun iE wV=> ?_)
  ·refine g9 9 ?_
   refine congrArg (Value.int .i64) ?_
   exact(mH (c:=(⟨cf,cl,cb,cs,cr⟩:aQ)) (fun h=>by rw [gD]at h;exact absurd h.2 (by simp)) (show 0<bW cl cb p k i by omega)).symm
  refine g9 8 ?_
  refine WC.cd (fun j8 rB=> ?_) (fun j8 rB=> ?_)
  ·refine g9 9 ?_
   refine congrArg (Value.int .i64) ?_
   exact(mI (c:=(⟨cf,cl,cb,cs,cr⟩:aQ)) (fun h=>by rw [gD]at h;exact absurd h.2 (by simp)) (show ¬0<bW cl cb p k i by omega) aa).symm
  refine g9 6 ?_
  refine W.ay (z4 cf cl cb cs cr (p:=p) (k:=k) (cc fv gv fw gN da) (cc fH fI fi fx cY) i hq.hb hq.hr hq.mU hq.jt hq.iP hq.kX hi hq.gY) rfl (g9 3 ?_)
  refine WC.cond rfl (fun nr=> ?_) (fun nr=> ?_)
  ·have lz:0<(av p.ab p.af i).length:=(va nr).2.1
   refine g9 10 ?_
   refine congrArg (Value.int .i64) ?_
   rw [mJ (c:=(⟨cf,cl,cb,cs,cr⟩:aQ)) (show ¬0<bW cl cb p k i by omega) aa lz]
   rw [if_neg (by rw [dL]<;>simp)]
  have lz:¬0<(av p.ab p.af i).length:=fun hh=>sU nr ⟨Bx,hh,aa⟩
  refine g9 10 ?_
  refine congrArg (Value.int .i64) ?_
  exact(pA (c:=(⟨cf,cl,cb,cs,cr⟩:aQ)) (show ¬0<bW cl cb p k i by omega) aa lz).symm
 refine g9 14 ?_
 refine W.ay (rE cf cl cb cs cr (p:=p) (k:=k) (cc fv gv fw gN da) (cc fH fI fi fx cY) i hq.hb hq.hr hq.mU hq.jt hq.iP hq.kX hi hq.gY) rfl (g9 4 ?_)
 refine WC.cd (fun iE wV=> ?_) (fun iE wV=> ?_)
 ·refine g9 9 ?_
  refine congrArg (Value.int .i64) ?_
  exact(mH (c:=(⟨cf,cl,cb,cs,cr⟩:aQ)) (fun h=>by omega) (show 0<bW cl cb p k i by omega)).symm
 refine g9 8 ?_
 refine WC.cd (fun j8 rB=> ?_) (fun j8 rB=> ?_)
 ·refine g9 9 ?_
  refine congrArg (Value.int .i64) ?_
  exact(mI (c:=(⟨cf,cl,cb,cs,cr⟩:aQ)) (fun h=>by omega) (show ¬0<bW cl cb p k i by omega) aa).symm
 refine g9 6 ?_
 refine W.ay (z4 cf cl cb cs cr (p:=p) (k:=k) (cc fv gv fw gN da) (cc fH fI fi fx cY) i hq.hb hq.hr hq.mU hq.jt hq.iP hq.kX hi hq.gY) rfl (g9 3 ?_)
 refine WC.cond rfl (fun nr=> ?_) (fun nr=> ?_)
 ·have lz:0<(av p.ab p.af i).length:=(va nr).2.1
  refine g9 10 ?_
  refine congrArg (Value.int .i64) ?_
  rw [mJ (c:=(⟨cf,cl,cb,cs,cr⟩:aQ)) (show ¬0<bW cl cb p k i by omega) aa lz]
  rw [if_neg (by rw [dL]<;>simp)]
 have lz:¬0<(av p.ab p.af i).length:=fun hh=>sU nr ⟨Bx,hh,aa⟩
 refine g9 10 ?_
 refine congrArg (Value.int .i64) ?_
 exact(pA (c:=(⟨cf,cl,cb,cs,cr⟩:aQ)) (show ¬0<bW cl cb p k i by omega) aa lz).symm

theorem Xf(cf:Int)(cl:Int)(cb:Int)(cs:Int)(cr:Int)(js:ba G pE p){k:Nd}(nD:ba G nE k)(i:Int)(hq:tQ cb p k)(hi:i64 i)(Bx:fk p k i)(oJ:dD p.af)(jj:p.kids.length=p.ab.length+1):
    Fc Tryz.prog 83 [.agg #[iV cf,iV cl,iV cb,iV cs,iV cr],.agg (List.toArray pE),.agg (List.toArray nE),iV i] G [] (fun v _ _=>v=iV (cg (⟨cf,cl,cb,cs,cr⟩:aQ) p k i)):=by
 obtain⟨_,_,_,_,_,_,_,_,rfl,fv,gv,fw,gN,da⟩:=js
 obtain⟨_,_,_,_,_,_,_,_,rfl,fH,fI,fi,fx,cY⟩:=nD
 have qt:∀m∈p.af,m.key.b.size<140737488355328:=fun m h=>by have:=(eR (hq.jt m h)).1;omega
 have hpn:=aef cl cb p k i
 refine Fc.go [.tmp 8] Tryz.func83 Tryz.ntmps83 rfl (fun w0=>(g9 2 ?_))
 refine W.box (L:=[iV _,iV _,iV _,iV _,iV _]) rfl rfl (fun b4=>(W.box (L:=[iV _,iV _,lV _ _ _,lV _ _ _,sV _,.bool _,iV _,iV _,lV _ _ _,lV _ _ _]) rfl rfl (fun b5=>(W.box (L:=[iV _,iV _,lV _ _ _,lV _ _ _,sV _,.bool _,iV _,iV _,lV _ _ _,lV _ _ _]) rfl rfl (fun b6=>(g9 9 ?_))))))
 refine W.cM (qy cf cl cb cs cr (p:=p) (k:=k) (cc fv gv fw gN da) (cc fH fI fi fx cY) i hq.hb hq.hr hq.mU hq.jt hq.iP hq.kX hi hq.gY oJ jj) rfl (fun _ _ _ _ _ _ _ _ _ _ _ _ _ _ _ _ G7 DW aPM aPN aPO aPP aKK aPQ aPR aPS aPT aKL=>(g9 4 ?_))
 refine W.alloc bq (fun b16=>(W.alloc bq (fun b17=>(g9 12 ?_))))
 refine W.cS (W3 (fv.mono DW) (fw.mono DW) i qt hi) rfl (fun akG akH G18 qN Fy=>(g9 15 ?_))
 refine W.ay (ue cf cl cb cs cr (n:=p) (fy aS fv gv fw gN da)) rfl (g9 2 ?_)
 refine WC.cond rfl (fun j8=> ?_) (fun j8=> ?_)
 ·refine g9 11 ?_
  refine W.sd 37 (fun ve oO=> ?_) (fun ve oO=> ?_)
  ·refine g9 5 ?_
   refine W.ay (ue cf cl cb cs cr (n:=k) (fy aS fH fI fi fx cY)) rfl (g9 3 ?_)
   refine WC.cond rfl (fun Bs=> ?_) (fun Bs=> ?_)
   ·refine g9 9 ?_
    refine congrArg (Value.int .i64) ?_
    rw [zP (c:=(⟨cf,cl,cb,cs,cr⟩:aQ)) aa Bs]
    rw [if_pos j8]
   refine g9 9 ?_
   refine WC.cd (fun Bg Bh=> ?_) (fun Bg Bh=> ?_)
   ·refine g9 8 ?_
    refine congrArg (Value.int .i64) ?_
    exact(mH (c:=(⟨cf,cl,cb,cs,cr⟩:aQ)) (fun h=>by rw [Bs]at h;exact absurd h.2 (by simp)) (show 0<bW cl cb p k i by omega)).symm
   refine g9 10 ?_
   refine WC.cd (fun pU mV=> ?_) (fun pU mV=> ?_)
   ·refine g9 8 ?_
    refine congrArg (Value.int .i64) ?_
    exact(mI (c:=(⟨cf,cl,cb,cs,cr⟩:aQ)) (fun h=>by rw [Bs]at h;exact absurd h.2 (by simp)) (show ¬0<bW cl cb p k i by omega) aa).symm
   refine g9 8 ?_
   refine WC.cd (fun jJ vV=> ?_) (fun jJ vV=> ?_)
   ·have lz:0<(av p.ab p.af i).length:=by omega
    refine g9 9 ?_
    refine congrArg (Value.int .i64) ?_
    rw [mJ (c:=(⟨cf,cl,cb,cs,cr⟩:aQ)) (show ¬0<bW cl cb p k i by omega) aa lz]
    rw [if_pos j8]
   have lz:¬0<(av p.ab p.af i).length:=by omega
   refine g9 9 ?_
   refine congrArg (Value.int .i64) ?_
   exact(pA (c:=(⟨cf,cl,cb,cs,cr⟩:aQ)) (show ¬0<bW cl cb p k i by omega) aa lz).symm
  refine g9 16 ?_
  refine WC.cd (fun Bg Bh=> ?_) (fun Bg Bh=> ?_)
  ·refine g9 8 ?_
   refine congrArg (Value.int .i64) ?_
   exact(mH (c:=(⟨cf,cl,cb,cs,cr⟩:aQ)) (fun h=>by omega) (show 0<bW cl cb p k i by omega)).symm
  refine g9 10 ?_
  refine WC.cd (fun pU mV=> ?_) (fun pU mV=> ?_)
  ·refine g9 8 ?_
   refine congrArg (Value.int .i64) ?_
   exact(mI (c:=(⟨cf,cl,cb,cs,cr⟩:aQ)) (fun h=>by omega) (show ¬0<bW cl cb p k i by omega) aa).symm
  refine g9 8 ?_
  refine WC.cd (fun jJ vV=> ?_) (fun jJ vV=> ?_)
  ·have lz:0<(av p.ab p.af i).length:=by omega
   refine g9 9 ?_
   refine congrArg (Value.int .i64) ?_
   rw [mJ (c:=(⟨cf,cl,cb,cs,cr⟩:aQ)) (show ¬0<bW cl cb p k i by omega) aa lz]
   rw [if_pos j8]
  have lz:¬0<(av p.ab p.af i).length:=by omega
  refine g9 9 ?_
  refine congrArg (Value.int .i64) ?_
  exact(pA (c:=(⟨cf,cl,cb,cs,cr⟩:aQ)) (show ¬0<bW cl cb p k i by omega) aa lz).symm
 refine g9 9 ?_
 refine W.sd 37 (fun ve oO=> ?_) (fun ve oO=> ?_)
 ·refine g9 5 ?_
  refine W.ay (ue cf cl cb cs cr (n:=k) (fy aS fH fI fi fx cY)) rfl (g9 3 ?_)
  refine WC.cond rfl (fun Bs=> ?_) (fun Bs=> ?_)
  ·refine g9 9 ?_
   refine congrArg (Value.int .i64) ?_
   rw [zP (c:=(⟨cf,cl,cb,cs,cr⟩:aQ)) aa Bs]
   rw [if_neg (by rw [j8]<;>simp)]
  refine g9 9 ?_
  refine WC.cd (fun Bg Bh=> ?_) (fun Bg Bh=> ?_)
  ·refine g9 8 ?_
   refine congrArg (Value.int .i64) ?_
   exact(mH (c:=(⟨cf,cl,cb,cs,cr⟩:aQ)) (fun h=>by rw [Bs]at h;exact absurd h.2 (by simp)) (show 0<bW cl cb p k i by omega)).symm
  refine g9 10 ?_
  refine WC.cd (fun pU mV=> ?_) (fun pU mV=> ?_)
  ·refine g9 8 ?_
   refine congrArg (Value.int .i64) ?_
   exact(mI (c:=(⟨cf,cl,cb,cs,cr⟩:aQ)) (fun h=>by rw [Bs]at h;exact absurd h.2 (by simp)) (show ¬0<bW cl cb p k i by omega) aa).symm
  refine g9 8 ?_
  refine WC.cd (fun jJ vV=> ?_) (fun jJ vV=> ?_)
  ·have lz:0<(av p.ab p.af i).length:=by omega
   refine g9 9 ?_
   refine congrArg (Value.int .i64) ?_
   rw [mJ (c:=(⟨cf,cl,cb,cs,cr⟩:aQ)) (show ¬0<bW cl cb p k i by omega) aa lz]
   rw [if_neg (by rw [j8]<;>simp)]
  have lz:¬0<(av p.ab p.af i).length:=by omega
  refine g9 9 ?_
  refine congrArg (Value.int .i64) ?_
  exact(pA (c:=(⟨cf,cl,cb,cs,cr⟩:aQ)) (show ¬0<bW cl cb p k i by omega) aa lz).symm
 refine g9 16 ?_
 refine WC.cd (fun Bg Bh=> ?_) (fun Bg Bh=> ?_)
 ·refine g9 8 ?_
  refine congrArg (Value.int .i64) ?_
  exact(mH (c:=(⟨cf,cl,cb,cs,cr⟩:aQ)) (fun h=>by omega) (show 0<bW cl cb p k i by omega)).symm
 refine g9 10 ?_
 refine WC.cd (fun pU mV=> ?_) (fun pU mV=> ?_)
 ·refine g9 8 ?_
  refine congrArg (Value.int .i64) ?_
  exact(mI (c:=(⟨cf,cl,cb,cs,cr⟩:aQ)) (fun h=>by omega) (show ¬0<bW cl cb p k i by omega) aa).symm
 refine g9 8 ?_
 refine WC.cd (fun jJ vV=> ?_) (fun jJ vV=> ?_)
 ·have lz:0<(av p.ab p.af i).length:=by omega
  refine g9 9 ?_
  refine congrArg (Value.int .i64) ?_
  rw [mJ (c:=(⟨cf,cl,cb,cs,cr⟩:aQ)) (show ¬0<bW cl cb p k i by omega) aa lz]
  rw [if_neg (by rw [j8]<;>simp)]
 have lz:¬0<(av p.ab p.af i).length:=by omega
 refine g9 9 ?_
 refine congrArg (Value.int .i64) ?_
 exact(pA (c:=(⟨cf,cl,cb,cs,cr⟩:aQ)) (show ¬0<bW cl cb p k i by omega) aa lz).symm

variable {Lw:ew} {kE:MH} {Th:List Int} {a:Int} {aG:Nat} {bz:Nat} {b_s:Nat} {bx:Nat} {ck:Nat} {bH:Int} {e0:Int} {fin:ah} {i:Int} {kd:Int} {l:List Nd} {th:Int} {vM:Value} {w0:Int}
theorem ab1{key:ah}{mo:Int}{c:aQ}(nD:gr 119 123 3 78 70 57 4 3 145 99 Th c th bz aG b_s bx vM w0 G (⟨mo,Lw,l,bH⟩:QG) kE)(oS:th∈Th):
    Fc Tryz.prog 34 [aq ck] G ((ck,aj 75 [iV a,iV kd,iV i,aq aG,aq bz,sV key.b,.func (.func 34) #[] #[],iV bH,sV fin.b,iV e0,.bool false])::(kE)) (fun v G' M'=>v=.bool (gH c key th (⟨a,kd,i,0,bH,fin,e0,false,mo,Lw,l⟩:ed)).1∧nC 119 123 3 78 70 57 4 3 145 99 75 34 39 67 109 Th c key th ck bz aG b_s bx vM w0 G' (gH c key th (⟨a,kd,i,0,bH,fin,e0,false,mo,Lw,l⟩:ed)).2 M'):=by
 refine Fc.go [.tmp 2] Tryz.func34 Tryz.ntmps34 rfl (fun w0=>(WC.perm (M':=((ck,aj 75 [iV a,iV kd,iV i,aq aG,aq bz,sV key.b,.func (.func 34) #[] #[],iV bH,sV fin.b,iV e0,.bool false])::(kE++[]))) (by simp) (g9 7 ?_)))
 refine WC.dw eu.k9 (d9 [0,1,2,3,4,5,6,7,8] ?_)
 refine WD.a1 9 rfl (W.call (Mp:=kE) (EN nD a true oS) rfl (ae ai) ?_)
 intro v4 G1 Bu fL q2
 refine match q2 with|⟨rD,LB⟩=> ?_
 subst rD
 refine W.perm (ae ai).symm (W.nn (d9 [10] ?_))
 refine g9 2 ?_
 refine WC.cond rfl (fun jc=> ?_) (fun jc=> ?_)
 ·have dL:(cH Lw th a true).1=false:=by simpa using jc
  refine g9 7 ?_
  refine⟨.inr rfl,[_],⟨rfl,trivial⟩,((ck,aj 75 [iV a,iV kd,iV i,aq aG,aq bz,sV key.b,.func (.func 34) #[] #[],iV bH,sV fin.b,iV e0,.bool false])::Bu),(List.sublist_append_left _ _).k9,?_⟩
  have hE:gH c key th (⟨a,kd,i,0,bH,fin,e0,false,mo,Lw,l⟩:ed)=_:=aht (c:=c) (k:=key) (W':=(cH Lw th a true).2) (Prod.ext dL rfl)
  exact⟨congrArg (fun p:Bool×ed=>Value.bool p.1) hE.symm,nC.cast (congrArg Prod.snd hE) ⟨_,congrArg _ (by simp),gr.cast (by dsimp only;rw [dL];rfl) LB⟩⟩
 have dL:(cH Lw th a true).1=true:=by simpa using jc
 refine g9 7 ?_
 refine W.st 0 [.func _ _ _] [_,_,_,_,_,_,.func _ _ _,_,_,_,_] L8 rfl (g9 8 ?_)
 refine⟨.inr rfl,[_],⟨rfl,trivial⟩,((ck,aj 75 [iV a,iV kd,iV i,aq aG,aq bz,sV key.b,.func (.func 39) #[] #[],iV bH,sV fin.b,iV e0,.bool false])::Bu),(List.sublist_append_left _ _).k9,?_⟩
 have hE:gH c key th (⟨a,kd,i,0,bH,fin,e0,false,mo,Lw,l⟩:ed)=_:=Js (c:=c) (k:=key) (W':=(cH Lw th a true).2) (Prod.ext dL rfl)
 exact⟨congrArg (fun p:Bool×ed=>Value.bool p.1) hE.symm,nC.cast (congrArg Prod.snd hE) ⟨_,congrArg _ (by simp),gr.cast (by dsimp only;rw [dL];rfl) LB⟩⟩

theorem Xg{key:ah}{mo:Int}{c:aQ}(nD:gr 119 123 3 78 70 57 4 3 145 99 Th c th bz aG b_s bx vM w0 G (⟨mo,Lw,l,bH⟩:QG) kE)(oS:th∈Th):
    Fc Tryz.prog 67 [aq ck] G ((ck,aj 75 [iV a,iV kd,iV i,aq aG,aq bz,sV key.b,.func (.func 67) #[] #[],iV bH,sV fin.b,iV e0,.bool false])::(kE)) (fun v G' M'=>v=.bool (gH c key th (⟨a,kd,i,2,bH,fin,e0,false,mo,Lw,l⟩:ed)).1∧nC 119 123 3 78 70 57 4 3 145 99 75 34 39 67 109 Th c key th ck bz aG b_s bx vM w0 G' (gH c key th (⟨a,kd,i,2,bH,fin,e0,false,mo,Lw,l⟩:ed)).2 M'):=by
 refine Fc.go [.tmp 2] Tryz.func67 Tryz.ntmps67 rfl (fun w0=>(WC.perm (M':=((ck,aj 75 [iV a,iV kd,iV i,aq aG,aq bz,sV key.b,.func (.func 67) #[] #[],iV bH,sV fin.b,iV e0,.bool false])::(kE++[]))) (by simp) (g9 7 ?_)))
 refine WC.dw eu.k9 (d9 [0,1,2,3,4,5,6,7,8] ?_)
 refine WD.a1 9 rfl (W.call (Mp:=kE) (EN nD kd true oS) rfl (ae ai) ?_)
 intro v10 G7 wW DW q8
 refine match q8 with|⟨ri,afh⟩=> ?_
 subst ri
 refine W.perm (ae ai).symm (W.nn (d9 [10] ?_))
 refine g9 2 ?_
 refine WC.cond rfl (fun jc=> ?_) (fun jc=> ?_)
 ·have dL:(cH Lw th kd true).1=false:=by simpa using jc
  refine g9 7 ?_
  refine⟨.inr rfl,[_],⟨rfl,trivial⟩,((ck,aj 75 [iV a,iV kd,iV i,aq aG,aq bz,sV key.b,.func (.func 67) #[] #[],iV bH,sV fin.b,iV e0,.bool false])::wW),(List.sublist_append_left _ _).k9,?_⟩
  have hE:gH c key th (⟨a,kd,i,2,bH,fin,e0,false,mo,Lw,l⟩:ed)=_:=abi (c:=c) (k:=key) (W':=(cH Lw th kd true).2) (Prod.ext dL rfl)
  exact⟨congrArg (fun p:Bool×ed=>Value.bool p.1) hE.symm,nC.cast (congrArg Prod.snd hE) ⟨_,congrArg _ (by simp),gr.cast (by dsimp only;rw [dL];rfl) afh⟩⟩
 have dL:(cH Lw th kd true).1=true:=by simpa using jc
 refine g9 7 ?_
 refine W.st 0 [.func _ _ _] [_,_,_,_,_,_,.func _ _ _,_,_,_,_] L8 rfl (g9 8 ?_)
 refine⟨.inr rfl,[_],⟨rfl,trivial⟩,((ck,aj 75 [iV a,iV kd,iV i,aq aG,aq bz,sV key.b,.func (.func 109) #[] #[],iV bH,sV fin.b,iV e0,.bool false])::wW),(List.sublist_append_left _ _).k9,?_⟩
 have hE:gH c key th (⟨a,kd,i,2,bH,fin,e0,false,mo,Lw,l⟩:ed)=_:=Nm (c:=c) (k:=key) (W':=(cH Lw th kd true).2) (Prod.ext dL rfl)
 exact⟨congrArg (fun p:Bool×ed=>Value.bool p.1) hE.symm,nC.cast (congrArg Prod.snd hE) ⟨_,congrArg _ (by simp),gr.cast (by dsimp only;rw [dL];rfl) afh⟩⟩

theorem ab2{c:aQ}{cs:List Value}{n:Nd}(h:ba G cs n)(k:ah)(hq:mi n):Fc Tryz.prog 63 [.agg #[iV c.bu,iV c.leaf,iV c.bud,iV c.aL,iV c.rest],.agg (List.toArray cs),sV k.b] G [] (fun v _ _=>v=.tuple #[iV (ak c n k).1,iV (ak c n k).2]):=Xh c.bu c.leaf c.bud c.aL c.rest h k hq
variable {ss:List aC}
theorem RB{key:ah}{mo:Int}{c:aQ}(nD:gr 119 123 3 78 70 57 4 3 145 99 Th c th bz aG b_s bx vM w0 G (⟨mo,Lw,l,bH⟩:QG) kE)(t:Tree c l ss)(ha:0≤a∧a<(l.length:Int))(yM:0≤bH∧bH<1000000):
    Fc Tryz.prog 39 [aq ck] G ((ck,aj 75 [iV a,iV kd,iV i,aq aG,aq bz,sV key.b,.func (.func 39) #[] #[],iV bH,sV fin.b,iV e0,.bool false])::(kE)) (fun v G' M'=>v=.bool (gH c key th (⟨a,kd,i,1,bH,fin,e0,false,mo,Lw,l⟩:ed)).1∧nC 119 123 3 78 70 57 4 3 145 99 75 34 39 67 109 Th c key th ck bz aG b_s bx vM w0 G' (gH c key th (⟨a,kd,i,1,bH,fin,e0,false,mo,Lw,l⟩:ed)).2 M'):=by
 obtain⟨P9,hP9,eP9⟩:=t.rl ha
 have ER:=(t.fo hP9).1
 rw [eP9]at ER
 have JW:Gl (ag l a):=x8 t.pX ER
 have hcp:mi (ag l a):=FQ ER JW
 have axW:((ag l a).kids.length:Int)≤4000:=by have:=JW.1;omega
 refine Fc.go [.tmp 2] Tryz.func39 Tryz.ntmps39 rfl (fun w0=>(WC.perm (M':=((ck,aj 75 [iV a,iV kd,iV i,aq aG,aq bz,sV key.b,.func (.func 39) #[] #[],iV bH,sV fin.b,iV e0,.bool false])::(kE++[]))) (by simp) (g9 11 ?_)))
 refine W.call (Mp:=kE) (Bv nD) rfl (ae ai) ?_
 intro v16 G13 T0 LZ RC
 refine match RC with|⟨Xi,aok⟩=> ?_
 subst Xi
 refine W.perm (ae ai).symm (g9 11 ?_)
 refine W.call (Mp:=T0) (EO aok a) rfl (ae ai) ?_
 intro v22 G19 AG jV RD
 refine match RD with|⟨⟨_,rA,⟨uh,ui,uj,uk,um,uo,uq,ur,pB,Xj,Dd,Xk,Xl,NB⟩⟩,aKM⟩=> ?_
 subst rA
 subst pB
 refine W.perm (ae ai).symm ?_
 try dsimp only at Xj Dd Xk Xl NB
 refine g9 3 ?_
 refine W.alloc bq (fun Hx=>(g9 5 ?_))
 refine WC.dw (eu.k9.k9) (d9 [0,2,3,4,5,6] ?_)
 refine WD.a1 1 rfl (W.call (Mp:=AG) (oT aKM) rfl (ae (ae ai)) ?_)
 intro v30 G27 NC yC q28
 refine match q28 with|⟨Xm,Xn⟩=> ?_
 subst Xm
 refine W.perm (ae (ae ai)).symm (W.nn (WD.a1 7 rfl (W.ay (ab2 (c:=c) (n:=(ag l a)) (fy yC Xj Dd Xk Xl NB) key hcp) rfl (W.nn (d9 [8,9,10,11,12] ?_)))))
 refine g9 15 ?_
 refine WC.cd (fun nr Lu=> ?_) (fun nr Lu=> ?_)
 ·try dsimp only at Lu
  refine g9 4 ?_
  refine W.call (Mp:=NC) (ah3 Xn t) rfl (ae (ae ai)) ?_
  intro v36 G33 TW tG q34
  refine match q34 with|⟨aol,axX⟩=> ?_
  subst aol
  refine W.perm (ae (ae ai)).symm (g9 9 ?_)
  refine WC.cn (fun h43 Gn=> ?_) (fun h43 Gn=> ?_)
  ·try dsimp only at Gn
   refine g9 4 ?_
   refine W.call (Mp:=((ck,aj 75 [iV a,iV kd,iV i,aq aG,aq bz,sV key.b,.func (.func 39) #[] #[],iV bH,sV fin.b,iV e0,.bool false])::TW)) (Mr:=((Hx,aj 57 (cj (ag l a) uh ui uj uk um uo uq ur))::[])) (z3 axX ((cG c l).1)) rfl (((ae ai).cons _).trans ((List.Perm.swap _ _ _).trans (ai.cons _))) ?_
   intro v43 G40 aom L0 q41
   refine match q41 with|⟨yJ,RE,C0,avN⟩=> ?_
   subst yJ
   subst C0
   refine W.perm (M':=((Hx,aj 57 (cj (ag l a) uh ui uj uk um uo uq ur))::((ck,aj 75 [iV a,iV kd,iV i,aq aG,aq bz,sV key.b,.func (.func 39) #[] #[],iV bH,sV fin.b,iV ((cG c l).1),.bool true])::(RE++[])))) (((ae ai).cons _).trans ((List.Perm.swap _ _ _).trans (ai.cons _))).symm (g9 3 ?_)
   refine WC.sub (M':=((ck,aj 75 [iV a,iV kd,iV i,aq aG,aq bz,sV key.b,.func (.func 39) #[] #[],iV bH,sV fin.b,iV ((cG c l).1),.bool true])::(RE++[]))) (((List.Sublist.append_left bi _).k9).cons _) (g9 4 ?_)
   refine⟨.inr rfl,[_],⟨rfl,trivial⟩,((ck,aj 75 [iV a,iV kd,iV i,aq aG,aq bz,sV key.b,.func (.func 39) #[] #[],iV bH,sV fin.b,iV ((cG c l).1),.bool true])::RE),(List.sublist_append_left _ _).k9,?_⟩
   have hE:gH c key th (⟨a,kd,i,1,bH,fin,e0,false,mo,Lw,l⟩:ed)=_:=Nn Lu Gn
   exact⟨congrArg (fun p:Bool×ed=>Value.bool p.1) hE.symm,nC.cast (congrArg Prod.snd hE) ⟨_,congrArg _ (by simp),avN⟩⟩
  try dsimp only at Gn
  have q46:=MU t
  refine match q46 with|⟨T8,t8,_⟩=> ?_
  refine g9 4 ?_
  refine W.call (Mp:=((ck,aj 75 [iV a,iV kd,iV i,aq aG,aq bz,sV key.b,.func (.func 39) #[] #[],iV bH,sV fin.b,iV e0,.bool false])::TW)) (Mr:=((Hx,aj 57 (cj (ag l a) uh ui uj uk um uo uq ur))::[])) (mM axX _ t8 yM yM) rfl (((ae ai).cons _).trans ((List.Perm.swap _ _ _).trans (ai.cons _))) ?_
  intro v51 G48 aei CR q49
  refine match q49 with|⟨VR,RF,I5,avO⟩=> ?_
  subst VR
  subst I5
  refine W.perm (M':=((Hx,aj 57 (cj (ag l a) uh ui uj uk um uo uq ur))::((ck,aj 75 [iV a,iV kd,iV i,aq aG,aq bz,sV key.b,.func (.func 39) #[] #[],iV (bH+1),sV fin.b,iV e0,.bool false])::(RF++[])))) (((ae ai).cons _).trans ((List.Perm.swap _ _ _).trans (ai.cons _))).symm (g9 8 ?_)
  refine WC.sub (M':=((ck,aj 75 [iV a,iV kd,iV i,aq aG,aq bz,sV key.b,.func (.func 39) #[] #[],iV (bH+1),sV fin.b,iV e0,.bool false])::(RF++[]))) (((List.Sublist.append_left bi _).k9).cons _) (WC.ret ?_)
  refine⟨.inr rfl,[_],⟨rfl,trivial⟩,((ck,aj 75 [iV a,iV kd,iV i,aq aG,aq bz,sV key.b,.func (.func 39) #[] #[],iV (bH+1),sV fin.b,iV e0,.bool false])::RF),(List.sublist_append_left _ _).k9,?_⟩
  have hE:gH c key th (⟨a,kd,i,1,bH,fin,e0,false,mo,Lw,l⟩:ed)=_:=VY Lu aa
  exact⟨congrArg (fun p:Bool×ed=>Value.bool p.1) hE.symm,nC.cast (congrArg Prod.snd hE) ⟨_,congrArg _ (by simp),avO⟩⟩
 try dsimp only at Lu
 refine g9 6 ?_
 refine WC.cd (fun h50 LD=> ?_) (fun h50 LD=> ?_)
 ·try dsimp only at LD
  have hch:=(kD (k:=key) t ha LD).2
  have hkd:(ag l a).kids[((ak c (ag l a) key).2).toNat]'aa=(ag l a).kids.getD ((ak c (ag l a) key).2).toNat 0:=by rw [List.getD_eq_getElem?_getD,List.getElem?_eq_getElem aa];rfl
  refine g9 8 ?_
  refine(Dd.mono yC).a2 (i:=((ak c (ag l a) key).2).toNat) aa (fun aKN aVl=>(W.ok (aY (i:=((ak c (ag l a) key).2).toNat) cq ci (Dd.mono yC) rfl rfl ⟨aa,aa⟩) (W.ok (Ok.yN (v':=iV ((ag l a).kids.getD (ak c (ag l a) key).2.toNat 0)) (qv (vs:=jk) ci aKN rfl rfl rfl (by simp)) (congrArg (Value.int .i64) hkd)) (g9 14 ?_))))
  refine W.st 1 [.func _ _ _] [_,_,_,_,_,_,.func _ _ _,_,_,_,_] L8 rfl (g9 8 ?_)
  refine WC.sub (M':=((ck,aj 75 [iV a,iV ((ag l a).kids.getD (ak c (ag l a) key).2.toNat 0),iV (ak c (ag l a) key).2,aq aG,aq bz,sV key.b,.func (.func 67) #[] #[],iV bH,sV fin.b,iV e0,.bool false])::(NC++[]))) (((List.Sublist.append_left bi _).k9).cons _) (WC.ret ?_)
  refine⟨.inr rfl,[_],⟨rfl,trivial⟩,((ck,aj 75 [iV a,iV ((ag l a).kids.getD (ak c (ag l a) key).2.toNat 0),iV (ak c (ag l a) key).2,aq aG,aq bz,sV key.b,.func (.func 67) #[] #[],iV bH,sV fin.b,iV e0,.bool false])::NC),(List.sublist_append_left _ _).k9,?_⟩
  have hE:gH c key th (⟨a,kd,i,1,bH,fin,e0,false,mo,Lw,l⟩:ed)=_:=aeT LD
  exact⟨congrArg (fun p:Bool×ed=>Value.bool p.1) hE.symm,nC.cast (congrArg Prod.snd hE) ⟨_,congrArg _ (by simp),Xn⟩⟩
 try dsimp only at LD
 refine g9 3 ?_
 refine W.call (Mp:=((ck,aj 75 [iV a,iV kd,iV i,aq aG,aq bz,sV key.b,.func (.func 39) #[] #[],iV bH,sV fin.b,iV e0,.bool false])::NC)) (Mr:=((Hx,aj 57 (cj (ag l a) uh ui uj uk um uo uq ur))::[])) (z3 Xn 0) rfl (((ae ai).cons _).trans ((List.Perm.swap _ _ _).trans (ai.cons _))) ?_
 intro v62 G59 afi axY q60
 refine match q60 with|⟨aon,RG,Jw,avP⟩=> ?_
 subst aon
 subst Jw
 refine W.perm (M':=((Hx,aj 57 (cj (ag l a) uh ui uj uk um uo uq ur))::((ck,aj 75 [iV a,iV kd,iV i,aq aG,aq bz,sV key.b,.func (.func 39) #[] #[],iV bH,sV fin.b,iV 0,.bool true])::(RG++[])))) (((ae ai).cons _).trans ((List.Perm.swap _ _ _).trans (ai.cons _))).symm (g9 3 ?_)
 refine WC.sub (M':=((ck,aj 75 [iV a,iV kd,iV i,aq aG,aq bz,sV key.b,.func (.func 39) #[] #[],iV bH,sV fin.b,iV 0,.bool true])::(RG++[]))) (((List.Sublist.append_left bi _).k9).cons _) (g9 3 ?_)
 refine⟨.inr rfl,[_],⟨rfl,trivial⟩,((ck,aj 75 [iV a,iV kd,iV i,aq aG,aq bz,sV key.b,.func (.func 39) #[] #[],iV bH,sV fin.b,iV 0,.bool true])::RG),(List.sublist_append_left _ _).k9,?_⟩
 have hE:gH c key th (⟨a,kd,i,1,bH,fin,e0,false,mo,Lw,l⟩:ed)=_:=QI (azt Lu LD)
 exact⟨congrArg (fun p:Bool×ed=>Value.bool p.1) hE.symm,nC.cast (congrArg Prod.snd hE) ⟨_,congrArg _ (by simp),avP⟩⟩

theorem ah7{key:ah}{mo:Int}{c:aQ}(nD:gr 119 123 3 78 70 57 4 3 145 99 Th c th bz aG b_s bx vM w0 G (⟨mo,Lw,l,bH⟩:QG) kE)(t:Tree c l ss)(ha:0≤a∧a<(l.length:Int))(yM:0≤bH∧bH<1000000)(h0:¬(ag l a).level=0)(hi:0≤i∧i<((ag l a).kids.length:Int)):
    Fc Tryz.prog 109 [aq ck] G ((ck,aj 75 [iV a,iV ((ag l a).kids.getD i.toNat 0),iV i,aq aG,aq bz,sV key.b,.func (.func 109) #[] #[],iV bH,sV fin.b,iV e0,.bool false])::(kE)) (fun v G' M'=>v=.bool (gH c key th (⟨a,((ag l a).kids.getD i.toNat 0),i,3,bH,fin,e0,false,mo,Lw,l⟩:ed)).1∧nC 119 123 3 78 70 57 4 3 145 99 75 34 39 67 109 Th c key th ck bz aG b_s bx vM w0 G' (gH c key th (⟨a,((ag l a).kids.getD i.toNat 0),i,3,bH,fin,e0,false,mo,Lw,l⟩:ed)).2 M'):=by
 have mj:i64 i:=by have hc:=t.xa.2 _ (di t.slot ha).2;have h9:=hc.1;exact⟨aa,aa⟩
 obtain⟨P,s⟩:=nu t ha h0 hi
 have ER:=(t.fo s.mem).1
 have hKm:=(t.at s.mem s.h0 (j:=i.toNat) (by have:=s.hi;omega)).1
 have hKR:=(t.fo hKm).1
 rw [s.n]at ER
 rw [s.Ba]at hKR
 have CI:(ag l a).slot=a:=(di t.slot ha).1
 have hPS:=t.xa.2 _ (di t.slot ha).2
 have hKS:=t.xa.2 _ (di t.slot s.x3).2
 have JW:Gl (ag l a):=x8 t.pX ER
 have hKD:Gl (aw l a i):=x8 t.pX hKR
 have aoo:c.bud≤9223372036854775807:=by have:=t.pX.2.2.1.2;omega
 have hq:tQ c.bud (ag l a) (aw l a i):=ad5 ER hKR h0 JW hKD aoo
 have mN:(ag l a).kK c.bu c.bud:=by have h4:=ER.2.2.2;rwa [if_neg h0]at h4
 have oJ:=mN.2.2.1
 have jj:=(cE mN.2.1).2
 have aKO:=mj.1
 have aKP:=mj.2
 have axW:((ag l a).kids.length:Int)≤4000:=by have:=JW.1;omega
 refine Fc.go [.tmp 2] Tryz.func109 Tryz.ntmps109 rfl (fun w0=>(WC.perm (M':=((ck,aj 75 [iV a,iV ((ag l a).kids.getD i.toNat 0),iV i,aq aG,aq bz,sV key.b,.func (.func 109) #[] #[],iV bH,sV fin.b,iV e0,.bool false])::(kE++[]))) (by simp) (g9 11 ?_)))
 refine W.call (Mp:=kE) (Bv nD) rfl (ae ai) ?_
 intro v4 G1 Bu fL q2
 refine match q2 with|⟨rD,LB⟩=> ?_
 subst rD
 refine W.perm (ae ai).symm (g9 11 ?_)
 refine W.call (Mp:=Bu) (EO LB a) rfl (ae ai) ?_
 intro v10 G7 wW DW q8
 refine match q8 with|⟨⟨_,ri,⟨uu,uv,uw,ux,uy,uz,uA,uB,ym,pG,pH,pI,pJ,mO⟩⟩,afh⟩=> ?_
 subst ri
 subst ym
 refine W.perm (ae ai).symm ?_
 try dsimp only at pG pH pI pJ mO
 refine g9 3 ?_
 refine W.alloc bq (fun gy=>(g9 12 ?_))
 refine W.call (Mp:=wW) (anv afh a i) rfl (ae (ae ai)) ?_
 intro v18 G15 alI sn q16
 refine match q16 with|⟨⟨_,tU,⟨uC,uD,uE,uF,uG,uH,uI,uJ,xK,ln,lp,lq,lu,jZ⟩⟩,aKQ⟩=> ?_
 subst tU
 subst xK
 refine W.perm (ae (ae ai)).symm ?_
 try dsimp only at ln lp lq lu jZ
 refine g9 3 ?_
 refine W.alloc bq (fun kW=>(g9 19 ?_))
 refine W.st 2 [.func _ _ _] [_,_,_,_,_,_,.func _ _ _,_,_,_,_] L8 rfl (g9 4 ?_)
 refine WC.dw ((eu.k9.k9).k9) (d9 [0,2,3,4,5,6,7,8] ?_)
 refine WD.a1 1 rfl (W.call (Mp:=alI) (oT aKQ) rfl (ae (ae (ae ai))) ?_)
 intro v26 G23 AH Vr q24
 refine match q24 with|⟨Xo,AI⟩=> ?_
 subst Xo
 refine W.perm (ae (ae (ae ai))).symm (W.nn (WD.a1 9 rfl (W.ay (Xe c.bu c.leaf c.bud c.aL c.rest (p:=(ag l a)) (k:=(aw l a i)) (fy aS pG pH pI pJ mO) (fy Vr ln lp lq lu jZ) i hq mj s.kof oJ jj) rfl (W.nn (g9 9 ?_)))))
 refine WC.cd (fun En LC=> ?_) (fun En LC=> ?_)
 ·try dsimp only at LC
  refine WC.seq (WC.dw ((eu.k9.k9).k9) (d9 [0,1,2,3,4,5,6,7,8,9,10] ?_))
  refine WD.a1 11 rfl (W.call (Mp:=AH) (ah4 AI t a i mj) rfl (ae (ae (ae ai))) ?_)
  intro v32 T2 tC jM q30
  refine match q30 with|⟨I4,axZ⟩=> ?_
  subst I4
  refine W.perm (ae (ae (ae ai))).symm (W.nn (d9 [12] ?_))
  refine g9 8 ?_
  refine WC.cn (fun h69 p69=> ?_) (fun h69 p69=> ?_)
  ·try dsimp only at p69
   refine g9 4 ?_
   refine W.call (Mp:=((ck,aj 75 [iV a,iV ((ag l a).kids.getD i.toNat 0),iV i,aq aG,aq bz,sV key.b,.func (.func 39) #[] #[],iV bH,sV (aw l a i).high.b,iV e0,.bool false])::tC)) (Mr:=((kW,aj 57 (cj (aw l a i) uC uD uE uF uG uH uI uJ))::((gy,aj 57 (cj (ag l a) uu uv uw ux uy uz uA uB))::[]))) (z3 axZ ((cz c l a i).1)) rfl (((ae (ae ai)).cons _).trans ((List.Perm.swap _ _ _).trans (((List.Perm.swap _ _ _).trans (ai.cons _)).cons _))) ?_
   intro v39 G36 wm Aw q37
   refine match q37 with|⟨VB,RH,tV,avQ⟩=> ?_
   subst VB
   subst tV
   refine W.perm (M':=((kW,aj 57 (cj (aw l a i) uC uD uE uF uG uH uI uJ))::((gy,aj 57 (cj (ag l a) uu uv uw ux uy uz uA uB))::((ck,aj 75 [iV a,iV ((ag l a).kids.getD i.toNat 0),iV i,aq aG,aq bz,sV key.b,.func (.func 39) #[] #[],iV bH,sV (aw l a i).high.b,iV ((cz c l a i).1),.bool true])::(RH++[]))))) (((ae (ae ai)).cons _).trans ((List.Perm.swap _ _ _).trans (((List.Perm.swap _ _ _).trans (ai.cons _)).cons _))).symm (g9 3 ?_)
   refine WC.sub (M':=((ck,aj 75 [iV a,iV ((ag l a).kids.getD i.toNat 0),iV i,aq aG,aq bz,sV key.b,.func (.func 39) #[] #[],iV bH,sV (aw l a i).high.b,iV ((cz c l a i).1),.bool true])::(RH++[]))) ((((List.Sublist.append_left bi _).k9).cons _).cons _) (g9 3 ?_)
   refine⟨.inr rfl,[_],⟨rfl,trivial⟩,((ck,aj 75 [iV a,iV ((ag l a).kids.getD i.toNat 0),iV i,aq aG,aq bz,sV key.b,.func (.func 39) #[] #[],iV bH,sV (aw l a i).high.b,iV ((cz c l a i).1),.bool true])::RH),(List.sublist_append_left _ _).k9,?_⟩
   have hE:gH c key th (⟨a,((ag l a).kids.getD i.toNat 0),i,3,bH,fin,e0,false,mo,Lw,l⟩:ed)=_:=No LC p69
   exact⟨congrArg (fun p:Bool×ed=>Value.bool p.1) hE.symm,nC.cast (congrArg Prod.snd hE) ⟨_,congrArg _ (by simp),avQ⟩⟩
  try dsimp only at p69
  have q42:=MV t a i
  refine match q42 with|⟨T8,t8,_⟩=> ?_
  refine g9 6 ?_
  refine W.call (Mp:=((ck,aj 75 [iV a,iV ((ag l a).kids.getD i.toNat 0),iV i,aq aG,aq bz,sV key.b,.func (.func 39) #[] #[],iV bH,sV (aw l a i).high.b,iV e0,.bool false])::tC)) (Mr:=((kW,aj 57 (cj (aw l a i) uC uD uE uF uG uH uI uJ))::((gy,aj 57 (cj (ag l a) uu uv uw ux uy uz uA uB))::[]))) (mM axZ _ t8 yM yM) rfl (((ae (ae ai)).cons _).trans ((List.Perm.swap _ _ _).trans (((List.Perm.swap _ _ _).trans (ai.cons _)).cons _))) ?_
  intro v47 G44 ND afj Rh
  refine match Rh with|⟨JD,afk,aop,avR⟩=> ?_
  subst JD
  subst aop
  refine W.perm (M':=((kW,aj 57 (cj (aw l a i) uC uD uE uF uG uH uI uJ))::((gy,aj 57 (cj (ag l a) uu uv uw ux uy uz uA uB))::((ck,aj 75 [iV a,iV ((ag l a).kids.getD i.toNat 0),iV i,aq aG,aq bz,sV key.b,.func (.func 39) #[] #[],iV (bH+1),sV (aw l a i).high.b,iV e0,.bool false])::(afk++[]))))) (((ae (ae ai)).cons _).trans ((List.Perm.swap _ _ _).trans (((List.Perm.swap _ _ _).trans (ai.cons _)).cons _))).symm (g9 3 ?_)
  refine WC.dw ((eu.k9.k9).k9) (d9 [0,1,2,3,4,5,6,7,8] ?_)
  refine WD.a1 9 rfl (W.call (Mp:=afk) (pC avR ((ag l a).kids.getD i.toNat 0)) rfl (ae (ae (ae ai))) ?_)
  intro v53 G50 ax0 VN q51
  refine match q51 with|⟨yI,aKR⟩=> ?_
  subst yI
  refine W.perm (ae (ae (ae ai))).symm (W.nn (g9 7 ?_))
  refine WC.sub (M':=((ck,aj 75 [iV a,iV ((ag l a).kids.getD i.toNat 0),iV i,aq aG,aq bz,sV key.b,.func (.func 39) #[] #[],iV (bH+1),sV (aw l a i).high.b,iV e0,.bool false])::(ax0++[]))) ((((List.Sublist.append_left bi _).k9).cons _).cons _) (WC.ret ?_)
  refine⟨.inr rfl,[_],⟨rfl,trivial⟩,((ck,aj 75 [iV a,iV ((ag l a).kids.getD i.toNat 0),iV i,aq aG,aq bz,sV key.b,.func (.func 39) #[] #[],iV (bH+1),sV (aw l a i).high.b,iV e0,.bool false])::ax0),(List.sublist_append_left _ _).k9,?_⟩
  have hE:gH c key th (⟨a,((ag l a).kids.getD i.toNat 0),i,3,bH,fin,e0,false,mo,Lw,l⟩:ed)=_:=VZ LC aa
  exact⟨congrArg (fun p:Bool×ed=>Value.bool p.1) hE.symm,nC.cast (congrArg Prod.snd hE) ⟨_,congrArg _ (by simp),aKR⟩⟩
 try dsimp only at LC
 refine g9 6 ?_
 refine WC.cd (fun h74 Bq=> ?_) (fun h74 Bq=> ?_)
 ·try dsimp only at Bq
  have aVm:cg c (ag l a) (aw l a i) i=4:=Bq
  have hcp:0<bW c.leaf c.bud (ag l a) (aw l a i) i:=by rcases fz c (ag l a) (aw l a i) i with h9|h9|⟨_,h9⟩|h9;omega;omega;exact h9;omega
  have Xp:=s.Nl t hcp
  refine match Xp with|⟨T9,xe⟩=> ?_
  have De:0≤(bj c.leaf c.bud (ag l a) (aw l a i) i).1.slot∧(bj c.leaf c.bud (ag l a) (aw l a i) i).1.slot<(l.length:Int):=by rw [xe.al.1];exact xe.sin xe.mem
  have Df:0≤(bj c.leaf c.bud (ag l a) (aw l a i) i).2.1.slot∧(bj c.leaf c.bud (ag l a) (aw l a i) i).2.1.slot<(l.length:Int):=by rw [xe.bl.1];exact xe.sin xe.km.1
  refine WC.seq (WC.dw ((eu.k9.cons _).cons _) (d9 [0,4,5,6,7,8] ?_))
  refine WD.any [1,2,3] (by kernel_rfl) rfl ⟨WD.ap ?_,WD.ap ?_,WD.ap ?_,trivial⟩
  ·refine W.call (Mp:=AH) (oT AI) rfl (ae (ae (ae ai))) ?_
   intro v59 G56 AF AE q57
   refine match q57 with|⟨Wg,ax1⟩=> ?_
   subst Wg
   refine W.perm (ae (ae (ae ai))).symm (W.nn ?_)
   refine WD.any [2,3] (by kernel_rfl) rfl ⟨WD.ap ?_,WD.ap ?_,trivial⟩
   ·refine g9 1 ?_
    refine W.nn (WD.a1 3 rfl (g9 1 ?_))
    refine W.nn (WD.a1 9 rfl (W.cM (uK c.bu c.leaf c.bud c.aL c.rest (p:=(ag l a)) (k:=(aw l a i)) (fy aS pG pH pI pJ mO) (fy aS ln lp lq lu jZ) i hq.hb hq.hr hq.mU hq.jt hq.iP hq.kX mj hq.gY) rfl (fun Xq Xr Xs Xt Xu Xv Xw Xx Xy Xz XA XB XC XD XE XF G62 aKS aoq aor aos aot ah8 aou aov aow aox ah9=>(W.nn (d9 [10,11,12,13,14,15] ?_)))))
    refine g9 6 ?_
    refine W.call (Mp:=AF) (jS (gr.mono aKS ax1) (by exact De) (cc aoq aor aos aot ah8)) rfl (ae (ae (ae ai))) ?_
    intro v74 G71 aoy NE q72
    refine match q72 with|⟨aoz,aoA⟩=> ?_
    subst aoz
    refine W.perm (ae (ae (ae ai))).symm (g9 5 ?_)
    refine W.call (Mp:=aoy) (jS aoA (by dsimp only;rw [List.length_set];exact Df) (fy NE aou aov aow aox ah9)) rfl (ae (ae (ae ai))) ?_
    intro v80 G77 adF Tx q78
    refine match q78 with|⟨JX,aoB⟩=> ?_
    subst JX
    refine W.perm (ae (ae (ae ai))).symm (g9 6 ?_)
    refine W.call (Mp:=((ck,aj 75 [iV a,iV ((ag l a).kids.getD i.toNat 0),iV i,aq aG,aq bz,sV key.b,.func (.func 39) #[] #[],iV bH,sV (aw l a i).high.b,iV e0,.bool false])::adF)) (Mr:=((kW,aj 57 (cj ((bj c.leaf c.bud (ag l a) (aw l a i) i).2.1) Xy Xz XA XB XC XD XE XF))::((gy,aj 57 (cj ((bj c.leaf c.bud (ag l a) (aw l a i) i).1) Xq Xr Xs Xt Xu Xv Xw Xx))::[]))) (mM aoB _ xe.tree yM yM) rfl (((ae (ae ai)).cons _).trans ((List.Perm.swap _ _ _).trans (((List.Perm.swap _ _ _).trans (ai.cons _)).cons _))) ?_
    intro v87 G84 aKT awU q85
    refine match q85 with|⟨aoC,afl,XG,RI⟩=> ?_
    subst aoC
    subst XG
    refine W.perm (M':=((kW,aj 57 (cj ((bj c.leaf c.bud (ag l a) (aw l a i) i).2.1) Xy Xz XA XB XC XD XE XF))::((gy,aj 57 (cj ((bj c.leaf c.bud (ag l a) (aw l a i) i).1) Xq Xr Xs Xt Xu Xv Xw Xx))::((ck,aj 75 [iV a,iV ((ag l a).kids.getD i.toNat 0),iV i,aq aG,aq bz,sV key.b,.func (.func 39) #[] #[],iV (bH+1),sV (aw l a i).high.b,iV e0,.bool false])::(afl++[]))))) (((ae (ae ai)).cons _).trans ((List.Perm.swap _ _ _).trans (((List.Perm.swap _ _ _).trans (ai.cons _)).cons _))).symm (g9 3 ?_)
    refine WC.dw ((eu.k9.k9).k9) (d9 [0,1,2,3,4,5,6,7,8] ?_)
    refine WD.a1 9 rfl (W.call (Mp:=afl) (pC RI ((ag l a).kids.getD i.toNat 0)) rfl (ae (ae (ae ai))) ?_)
    intro v93 G90 aoD Ns q91
    refine match q91 with|⟨XH,aKU⟩=> ?_
    subst XH
    refine W.perm (ae (ae (ae ai))).symm (W.nn (g9 7 ?_))
    refine WC.sub (M':=((ck,aj 75 [iV a,iV ((ag l a).kids.getD i.toNat 0),iV i,aq aG,aq bz,sV key.b,.func (.func 39) #[] #[],iV (bH+1),sV (aw l a i).high.b,iV e0,.bool false])::(aoD++[]))) ((((List.Sublist.append_left bi _).k9).cons _).cons _) (WC.ret ?_)
    refine⟨.inr rfl,[_],⟨rfl,trivial⟩,((ck,aj 75 [iV a,iV ((ag l a).kids.getD i.toNat 0),iV i,aq aG,aq bz,sV key.b,.func (.func 39) #[] #[],iV (bH+1),sV (aw l a i).high.b,iV e0,.bool false])::aoD),(List.sublist_append_left _ _).k9,?_⟩
    have hE:gH c key th (⟨a,((ag l a).kids.getD i.toNat 0),i,3,bH,fin,e0,false,mo,Lw,l⟩:ed)=_:=rq Bq
    exact⟨congrArg (fun p:Bool×ed=>Value.bool p.1) hE.symm,nC.cast (congrArg Prod.snd hE) ⟨_,congrArg _ (by simp),aKU⟩⟩
   refine g9 1 ?_
   refine W.nn (WD.a1 2 rfl (g9 1 ?_))
   refine W.nn (WD.a1 9 rfl (W.cM (uK c.bu c.leaf c.bud c.aL c.rest (p:=(ag l a)) (k:=(aw l a i)) (fy aS pG pH pI pJ mO) (fy aS ln lp lq lu jZ) i hq.hb hq.hr hq.mU hq.jt hq.iP hq.kX mj hq.gY) rfl (fun XI XJ XK XL XM XN XO XP XQ XR XS XT XU XV XW XX G96 NA aoE aoF aoG aoH aia aoI aoJ aoK aoL aib=>(W.nn (d9 [10,11,12,13,14,15] ?_)))))
   refine g9 6 ?_
   refine W.call (Mp:=AF) (jS (gr.mono NA ax1) (by exact De) (cc aoE aoF aoG aoH aia)) rfl (ae (ae (ae ai))) ?_
   intro aVn aKV aoM ES aoN
   refine match aoN with|⟨Bw,aBo⟩=> ?_
   subst Bw
   refine W.perm (ae (ae (ae ai))).symm (g9 5 ?_)
   refine W.call (Mp:=aoM) (jS aBo (by dsimp only;rw [List.length_set];exact Df) (fy ES aoI aoJ aoK aoL aib)) rfl (ae (ae (ae ai))) ?_
   intro aVo aKW ab3 RJ aKX
   refine match aKX with|⟨abY,aBp⟩=> ?_
   subst abY
   refine W.perm (ae (ae (ae ai))).symm (g9 6 ?_)
   refine W.call (Mp:=((ck,aj 75 [iV a,iV ((ag l a).kids.getD i.toNat 0),iV i,aq aG,aq bz,sV key.b,.func (.func 39) #[] #[],iV bH,sV (aw l a i).high.b,iV e0,.bool false])::ab3)) (Mr:=((kW,aj 57 (cj ((bj c.leaf c.bud (ag l a) (aw l a i) i).2.1) XQ XR XS XT XU XV XW XX))::((gy,aj 57 (cj ((bj c.leaf c.bud (ag l a) (aw l a i) i).1) XI XJ XK XL XM XN XO XP))::[]))) (mM aBp _ xe.tree yM yM) rfl (((ae (ae ai)).cons _).trans ((List.Perm.swap _ _ _).trans (((List.Perm.swap _ _ _).trans (ai.cons _)).cons _))) ?_
   intro aKY aKZ aBq aBr JS
   refine match JS with|⟨ab4,XY,JV,aoO⟩=> ?_
   subst ab4
   subst JV
   refine W.perm (M':=((kW,aj 57 (cj ((bj c.leaf c.bud (ag l a) (aw l a i) i).2.1) XQ XR XS XT XU XV XW XX))::((gy,aj 57 (cj ((bj c.leaf c.bud (ag l a) (aw l a i) i).1) XI XJ XK XL XM XN XO XP))::((ck,aj 75 [iV a,iV ((ag l a).kids.getD i.toNat 0),iV i,aq aG,aq bz,sV key.b,.func (.func 39) #[] #[],iV (bH+1),sV (aw l a i).high.b,iV e0,.bool false])::(XY++[]))))) (((ae (ae ai)).cons _).trans ((List.Perm.swap _ _ _).trans (((List.Perm.swap _ _ _).trans (ai.cons _)).cons _))).symm (g9 3 ?_)
   refine WC.dw ((eu.k9.k9).k9) (d9 [0,1,2,3,4,5,6,7,8] ?_)
   refine WD.a1 9 rfl (W.call (Mp:=XY) (pC aoO ((ag l a).kids.getD i.toNat 0)) rfl (ae (ae (ae ai))) ?_)
   intro aVp aVq abZ aRM aK0
   refine match aK0 with|⟨aBs,aBt⟩=> ?_
   subst aBs
   refine W.perm (ae (ae (ae ai))).symm (W.nn (g9 7 ?_))
   refine WC.sub (M':=((ck,aj 75 [iV a,iV ((ag l a).kids.getD i.toNat 0),iV i,aq aG,aq bz,sV key.b,.func (.func 39) #[] #[],iV (bH+1),sV (aw l a i).high.b,iV e0,.bool false])::(abZ++[]))) ((((List.Sublist.append_left bi _).k9).cons _).cons _) (WC.ret ?_)
   refine⟨.inr rfl,[_],⟨rfl,trivial⟩,((ck,aj 75 [iV a,iV ((ag l a).kids.getD i.toNat 0),iV i,aq aG,aq bz,sV key.b,.func (.func 39) #[] #[],iV (bH+1),sV (aw l a i).high.b,iV e0,.bool false])::abZ),(List.sublist_append_left _ _).k9,?_⟩
   have hE:gH c key th (⟨a,((ag l a).kids.getD i.toNat 0),i,3,bH,fin,e0,false,mo,Lw,l⟩:ed)=_:=rq Bq
   exact⟨congrArg (fun p:Bool×ed=>Value.bool p.1) hE.symm,nC.cast (congrArg Prod.snd hE) ⟨_,congrArg _ (by simp),aBt⟩⟩
  ·refine g9 1 ?_
   refine W.nn ?_
   refine WD.any [1,3] (by kernel_rfl) rfl ⟨WD.ap ?_,WD.ap ?_,trivial⟩
   ·refine W.call (Mp:=AH) (oT AI) rfl (ae (ae (ae ai))) ?_
    intro aVr aVs aBu aRN aoh
    refine match aoh with|⟨ab5,aBv⟩=> ?_
    subst ab5
    refine W.perm (ae (ae (ae ai))).symm (W.nn (WD.a1 3 rfl (g9 1 ?_)))
    refine W.nn (WD.a1 9 rfl (W.cM (uK c.bu c.leaf c.bud c.aL c.rest (p:=(ag l a)) (k:=(aw l a i)) (fy aS pG pH pI pJ mO) (fy aS ln lp lq lu jZ) i hq.hb hq.hr hq.mU hq.jt hq.iP hq.kX mj hq.gY) rfl (fun NF NG NH NI NJ NK NL NM NN NO NP NQ NR NS NT NU axN Ra aic aid aie aif ab6 aih aii aij aik ab7=>(W.nn (d9 [10,11,12,13,14,15] ?_)))))
    refine g9 6 ?_
    refine W.call (Mp:=aBu) (jS (gr.mono Ra aBv) (by exact De) (cc aic aid aie aif ab6)) rfl (ae (ae (ae ai))) ?_
    intro aVt aVu aBw aBx aK1
    refine match aK1 with|⟨abQ,aBy⟩=> ?_
    subst abQ
    refine W.perm (ae (ae (ae ai))).symm (g9 5 ?_)
    refine W.call (Mp:=aBw) (jS aBy (by dsimp only;rw [List.length_set];exact Df) (fy aBx aih aii aij aik ab7)) rfl (ae (ae (ae ai))) ?_
    intro aVv aVw aBz aRO aK2
    refine match aK2 with|⟨ab8,aBA⟩=> ?_
    subst ab8
    refine W.perm (ae (ae (ae ai))).symm (g9 6 ?_)
    refine W.call (Mp:=((ck,aj 75 [iV a,iV ((ag l a).kids.getD i.toNat 0),iV i,aq aG,aq bz,sV key.b,.func (.func 39) #[] #[],iV bH,sV (aw l a i).high.b,iV e0,.bool false])::aBz)) (Mr:=((kW,aj 57 (cj ((bj c.leaf c.bud (ag l a) (aw l a i) i).2.1) NN NO NP NQ NR NS NT NU))::((gy,aj 57 (cj ((bj c.leaf c.bud (ag l a) (aw l a i) i).1) NF NG NH NI NJ NK NL NM))::[]))) (mM aBA _ xe.tree yM yM) rfl (((ae (ae ai)).cons _).trans ((List.Perm.swap _ _ _).trans (((List.Perm.swap _ _ _).trans (ai.cons _)).cons _))) ?_
    intro aKy aK3 aRP aoP anM
    refine match anM with|⟨aBB,XZ,aBC,aoQ⟩=> ?_
    subst aBB
    subst aBC
    refine W.perm (M':=((kW,aj 57 (cj ((bj c.leaf c.bud (ag l a) (aw l a i) i).2.1) NN NO NP NQ NR NS NT NU))::((gy,aj 57 (cj ((bj c.leaf c.bud (ag l a) (aw l a i) i).1) NF NG NH NI NJ NK NL NM))::((ck,aj 75 [iV a,iV ((ag l a).kids.getD i.toNat 0),iV i,aq aG,aq bz,sV key.b,.func (.func 39) #[] #[],iV (bH+1),sV (aw l a i).high.b,iV e0,.bool false])::(XZ++[]))))) (((ae (ae ai)).cons _).trans ((List.Perm.swap _ _ _).trans (((List.Perm.swap _ _ _).trans (ai.cons _)).cons _))).symm (g9 3 ?_)
    refine WC.dw ((eu.k9.k9).k9) (d9 [0,1,2,3,4,5,6,7,8] ?_)
    refine WD.a1 9 rfl (W.call (Mp:=XZ) (pC aoQ ((ag l a).kids.getD i.toNat 0)) rfl (ae (ae (ae ai))) ?_)
    intro axF ax2 RK RL aoR
    refine match aoR with|⟨ab9,aca⟩=> ?_
    subst ab9
    refine W.perm (ae (ae (ae ai))).symm (W.nn (g9 7 ?_))
    refine WC.sub (M':=((ck,aj 75 [iV a,iV ((ag l a).kids.getD i.toNat 0),iV i,aq aG,aq bz,sV key.b,.func (.func 39) #[] #[],iV (bH+1),sV (aw l a i).high.b,iV e0,.bool false])::(RK++[]))) ((((List.Sublist.append_left bi _).k9).cons _).cons _) (WC.ret ?_)
    refine⟨.inr rfl,[_],⟨rfl,trivial⟩,((ck,aj 75 [iV a,iV ((ag l a).kids.getD i.toNat 0),iV i,aq aG,aq bz,sV key.b,.func (.func 39) #[] #[],iV (bH+1),sV (aw l a i).high.b,iV e0,.bool false])::RK),(List.sublist_append_left _ _).k9,?_⟩
    have hE:gH c key th (⟨a,((ag l a).kids.getD i.toNat 0),i,3,bH,fin,e0,false,mo,Lw,l⟩:ed)=_:=rq Bq
    exact⟨congrArg (fun p:Bool×ed=>Value.bool p.1) hE.symm,nC.cast (congrArg Prod.snd hE) ⟨_,congrArg _ (by simp),aca⟩⟩
   refine g9 1 ?_
   refine W.nn (WD.a1 1 rfl (W.call (Mp:=AH) (oT AI) rfl (ae (ae (ae ai))) ?_))
   intro aK4 aK5 abm aBD aoS
   refine match aoS with|⟨acb,aoT⟩=> ?_
   subst acb
   refine W.perm (ae (ae (ae ai))).symm (W.nn (WD.a1 9 rfl (W.cM (uK c.bu c.leaf c.bud c.aL c.rest (p:=(ag l a)) (k:=(aw l a i)) (fy aS pG pH pI pJ mO) (fy aS ln lp lq lu jZ) i hq.hb hq.hr hq.mU hq.jt hq.iP hq.kX mj hq.gY) rfl (fun NV NW NX NY NZ N0 N1 N2 N3 N4 N5 N6 N7 N8 Oa Ob aK6 aoU ail aim ain aio acd aip aiq air ais ace=>(W.nn (d9 [10,11,12,13,14,15] ?_))))))
   refine g9 6 ?_
   refine W.call (Mp:=abm) (jS (gr.mono aoU aoT) (by exact De) (cc ail aim ain aio acd)) rfl (ae (ae (ae ai))) ?_
   intro aVx aVy aBE aBF aK7
   refine match aK7 with|⟨aBG,aBH⟩=> ?_
   subst aBG
   refine W.perm (ae (ae (ae ai))).symm (g9 5 ?_)
   refine W.call (Mp:=aBE) (jS aBH (by dsimp only;rw [List.length_set];exact Df) (fy aBF aip aiq air ais ace)) rfl (ae (ae (ae ai))) ?_
   intro aK8 aK9 acf aBI aoV
   refine match aoV with|⟨acg,ach⟩=> ?_
   subst acg
   refine W.perm (ae (ae (ae ai))).symm (g9 6 ?_)
   refine W.call (Mp:=((ck,aj 75 [iV a,iV ((ag l a).kids.getD i.toNat 0),iV i,aq aG,aq bz,sV key.b,.func (.func 39) #[] #[],iV bH,sV (aw l a i).high.b,iV e0,.bool false])::acf)) (Mr:=((kW,aj 57 (cj ((bj c.leaf c.bud (ag l a) (aw l a i) i).2.1) N3 N4 N5 N6 N7 N8 Oa Ob))::((gy,aj 57 (cj ((bj c.leaf c.bud (ag l a) (aw l a i) i).1) NV NW NX NY NZ N0 N1 N2))::[]))) (mM ach _ xe.tree yM yM) rfl (((ae (ae ai)).cons _).trans ((List.Perm.swap _ _ _).trans (((List.Perm.swap _ _ _).trans (ai.cons _)).cons _))) ?_
   intro aVz aVA aRQ aRR amF
   refine match amF with|⟨aci,X0,abn,aoW⟩=> ?_
   subst aci
   subst abn
   refine W.perm (M':=((kW,aj 57 (cj ((bj c.leaf c.bud (ag l a) (aw l a i) i).2.1) N3 N4 N5 N6 N7 N8 Oa Ob))::((gy,aj 57 (cj ((bj c.leaf c.bud (ag l a) (aw l a i) i).1) NV NW NX NY NZ N0 N1 N2))::((ck,aj 75 [iV a,iV ((ag l a).kids.getD i.toNat 0),iV i,aq aG,aq bz,sV key.b,.func (.func 39) #[] #[],iV (bH+1),sV (aw l a i).high.b,iV e0,.bool false])::(X0++[]))))) (((ae (ae ai)).cons _).trans ((List.Perm.swap _ _ _).trans (((List.Perm.swap _ _ _).trans (ai.cons _)).cons _))).symm (g9 3 ?_)
   refine WC.dw ((eu.k9.k9).k9) (d9 [0,1,2,3,4,5,6,7,8] ?_)
   refine WD.a1 9 rfl (W.call (Mp:=X0) (pC aoW ((ag l a).kids.getD i.toNat 0)) rfl (ae (ae (ae ai))) ?_)
   intro aVB aVC aoX aRS aoY
   refine match aoY with|⟨JA,aBJ⟩=> ?_
   subst JA
   refine W.perm (ae (ae (ae ai))).symm (W.nn (g9 7 ?_))
   refine WC.sub (M':=((ck,aj 75 [iV a,iV ((ag l a).kids.getD i.toNat 0),iV i,aq aG,aq bz,sV key.b,.func (.func 39) #[] #[],iV (bH+1),sV (aw l a i).high.b,iV e0,.bool false])::(aoX++[]))) ((((List.Sublist.append_left bi _).k9).cons _).cons _) (WC.ret ?_)
   refine⟨.inr rfl,[_],⟨rfl,trivial⟩,((ck,aj 75 [iV a,iV ((ag l a).kids.getD i.toNat 0),iV i,aq aG,aq bz,sV key.b,.func (.func 39) #[] #[],iV (bH+1),sV (aw l a i).high.b,iV e0,.bool false])::aoX),(List.sublist_append_left _ _).k9,?_⟩
   have hE:gH c key th (⟨a,((ag l a).kids.getD i.toNat 0),i,3,bH,fin,e0,false,mo,Lw,l⟩:ed)=_:=rq Bq
   exact⟨congrArg (fun p:Bool×ed=>Value.bool p.1) hE.symm,nC.cast (congrArg Prod.snd hE) ⟨_,congrArg _ (by simp),aBJ⟩⟩
  refine g9 1 ?_
  refine W.nn ?_
  refine WD.any [1,2] (by kernel_rfl) rfl ⟨WD.ap ?_,WD.ap ?_,trivial⟩
  ·refine W.call (Mp:=AH) (oT AI) rfl (ae (ae (ae ai))) ?_
   intro aVD aVE aBK aRT aoZ
   refine match aoZ with|⟨aBL,aBM⟩=> ?_
   subst aBL
   refine W.perm (ae (ae (ae ai))).symm (W.nn (WD.a1 2 rfl (g9 1 ?_)))
   refine W.nn (WD.a1 9 rfl (W.cM (uK c.bu c.leaf c.bud c.aL c.rest (p:=(ag l a)) (k:=(aw l a i)) (fy aS pG pH pI pJ mO) (fy aS ln lp lq lu jZ) i hq.hb hq.hr hq.mU hq.jt hq.iP hq.kX mj hq.gY) rfl (fun Oc Od Oe Of Og Oh Oi Oj Ol Om On Oo Oq Ot Ou Ov aVF aBN ait aiu aiv aiw acj aix aiy aiz aiA ack=>(W.nn (d9 [10,11,12,13,14,15] ?_)))))
   refine g9 6 ?_
   refine W.call (Mp:=aBK) (jS (gr.mono aBN aBM) (by exact De) (cc ait aiu aiv aiw acj)) rfl (ae (ae (ae ai))) ?_
   intro aVG aLa ao0 acm aLb
   refine match aLb with|⟨aBO,aBP⟩=> ?_
   subst aBO
   refine W.perm (ae (ae (ae ai))).symm (g9 5 ?_)
   refine W.call (Mp:=ao0) (jS aBP (by dsimp only;rw [List.length_set];exact Df) (fy acm aix aiy aiz aiA ack)) rfl (ae (ae (ae ai))) ?_
   intro aVH aVI aBQ aRU aLc
   refine match aLc with|⟨aBR,aBS⟩=> ?_
   subst aBR
   refine W.perm (ae (ae (ae ai))).symm (g9 6 ?_)
   refine W.call (Mp:=((ck,aj 75 [iV a,iV ((ag l a).kids.getD i.toNat 0),iV i,aq aG,aq bz,sV key.b,.func (.func 39) #[] #[],iV bH,sV (aw l a i).high.b,iV e0,.bool false])::aBQ)) (Mr:=((kW,aj 57 (cj ((bj c.leaf c.bud (ag l a) (aw l a i) i).2.1) Ol Om On Oo Oq Ot Ou Ov))::((gy,aj 57 (cj ((bj c.leaf c.bud (ag l a) (aw l a i) i).1) Oc Od Oe Of Og Oh Oi Oj))::[]))) (mM aBS _ xe.tree yM yM) rfl (((ae (ae ai)).cons _).trans ((List.Perm.swap _ _ _).trans (((List.Perm.swap _ _ _).trans (ai.cons _)).cons _))) ?_
   intro aLd aLe abr aBT X1
   refine match X1 with|⟨aBU,X2,aBV,ao1⟩=> ?_
   subst aBU
   subst aBV
   refine W.perm (M':=((kW,aj 57 (cj ((bj c.leaf c.bud (ag l a) (aw l a i) i).2.1) Ol Om On Oo Oq Ot Ou Ov))::((gy,aj 57 (cj ((bj c.leaf c.bud (ag l a) (aw l a i) i).1) Oc Od Oe Of Og Oh Oi Oj))::((ck,aj 75 [iV a,iV ((ag l a).kids.getD i.toNat 0),iV i,aq aG,aq bz,sV key.b,.func (.func 39) #[] #[],iV (bH+1),sV (aw l a i).high.b,iV e0,.bool false])::(X2++[]))))) (((ae (ae ai)).cons _).trans ((List.Perm.swap _ _ _).trans (((List.Perm.swap _ _ _).trans (ai.cons _)).cons _))).symm (g9 3 ?_)
   refine WC.dw ((eu.k9.k9).k9) (d9 [0,1,2,3,4,5,6,7,8] ?_)
   refine WD.a1 9 rfl (W.call (Mp:=X2) (pC ao1 ((ag l a).kids.getD i.toNat 0)) rfl (ae (ae (ae ai))) ?_)
   intro aVJ aVK ao2 aRV amM
   refine match amM with|⟨aBW,aBX⟩=> ?_
   subst aBW
   refine W.perm (ae (ae (ae ai))).symm (W.nn (g9 7 ?_))
   refine WC.sub (M':=((ck,aj 75 [iV a,iV ((ag l a).kids.getD i.toNat 0),iV i,aq aG,aq bz,sV key.b,.func (.func 39) #[] #[],iV (bH+1),sV (aw l a i).high.b,iV e0,.bool false])::(ao2++[]))) ((((List.Sublist.append_left bi _).k9).cons _).cons _) (WC.ret ?_)
   refine⟨.inr rfl,[_],⟨rfl,trivial⟩,((ck,aj 75 [iV a,iV ((ag l a).kids.getD i.toNat 0),iV i,aq aG,aq bz,sV key.b,.func (.func 39) #[] #[],iV (bH+1),sV (aw l a i).high.b,iV e0,.bool false])::ao2),(List.sublist_append_left _ _).k9,?_⟩
   have hE:gH c key th (⟨a,((ag l a).kids.getD i.toNat 0),i,3,bH,fin,e0,false,mo,Lw,l⟩:ed)=_:=rq Bq
   exact⟨congrArg (fun p:Bool×ed=>Value.bool p.1) hE.symm,nC.cast (congrArg Prod.snd hE) ⟨_,congrArg _ (by simp),aBX⟩⟩
  refine g9 1 ?_
  refine W.nn (WD.a1 1 rfl (W.call (Mp:=AH) (oT AI) rfl (ae (ae (ae ai))) ?_))
  intro aVL aVM aBY aRW aLf
  refine match aLf with|⟨abu,aBZ⟩=> ?_
  subst abu
  refine W.perm (ae (ae (ae ai))).symm (W.nn (WD.a1 9 rfl (W.cM (uK c.bu c.leaf c.bud c.aL c.rest (p:=(ag l a)) (k:=(aw l a i)) (fy aS pG pH pI pJ mO) (fy aS ln lp lq lu jZ) i hq.hb hq.hr hq.mU hq.jt hq.iP hq.kX mj hq.gY) rfl (fun Ow Ox Oy Oz OA OB OC OD OE OF OG OH OI OJ OK OL aLg ao3 aiB aiC aiD aiE acn aiF aiG aiH aiI aco=>(W.nn (d9 [10,11,12,13,14,15] ?_))))))
  refine g9 6 ?_
  refine W.call (Mp:=aBY) (jS (gr.mono ao3 aBZ) (by exact De) (cc aiB aiC aiD aiE acn)) rfl (ae (ae (ae ai))) ?_
  intro aVN aVO aB0 aB1 aLh
  refine match aLh with|⟨aB2,aB3⟩=> ?_
  subst aB2
  refine W.perm (ae (ae (ae ai))).symm (g9 5 ?_)
  refine W.call (Mp:=aB0) (jS aB3 (by dsimp only;rw [List.length_set];exact Df) (fy aB1 aiF aiG aiH aiI aco)) rfl (ae (ae (ae ai))) ?_
  intro aVP aLi aB4 acp aLj
  refine match aLj with|⟨aB5,aB6⟩=> ?_
  subst aB5
  refine W.perm (ae (ae (ae ai))).symm (g9 6 ?_)
  refine W.call (Mp:=((ck,aj 75 [iV a,iV ((ag l a).kids.getD i.toNat 0),iV i,aq aG,aq bz,sV key.b,.func (.func 39) #[] #[],iV bH,sV (aw l a i).high.b,iV e0,.bool false])::aB4)) (Mr:=((kW,aj 57 (cj ((bj c.leaf c.bud (ag l a) (aw l a i) i).2.1) OE OF OG OH OI OJ OK OL))::((gy,aj 57 (cj ((bj c.leaf c.bud (ag l a) (aw l a i) i).1) Ow Ox Oy Oz OA OB OC OD))::[]))) (mM aB6 _ xe.tree yM yM) rfl (((ae (ae ai)).cons _).trans ((List.Perm.swap _ _ _).trans (((List.Perm.swap _ _ _).trans (ai.cons _)).cons _))) ?_
  intro aVQ aVR aB7 aRX aLk
  refine match aLk with|⟨abx,X3,aB8,ao4⟩=> ?_
  subst abx
  subst aB8
  refine W.perm (M':=((kW,aj 57 (cj ((bj c.leaf c.bud (ag l a) (aw l a i) i).2.1) OE OF OG OH OI OJ OK OL))::((gy,aj 57 (cj ((bj c.leaf c.bud (ag l a) (aw l a i) i).1) Ow Ox Oy Oz OA OB OC OD))::((ck,aj 75 [iV a,iV ((ag l a).kids.getD i.toNat 0),iV i,aq aG,aq bz,sV key.b,.func (.func 39) #[] #[],iV (bH+1),sV (aw l a i).high.b,iV e0,.bool false])::(X3++[]))))) (((ae (ae ai)).cons _).trans ((List.Perm.swap _ _ _).trans (((List.Perm.swap _ _ _).trans (ai.cons _)).cons _))).symm (g9 3 ?_)
  refine WC.dw ((eu.k9.k9).k9) (d9 [0,1,2,3,4,5,6,7,8] ?_)
  refine WD.a1 9 rfl (W.call (Mp:=X3) (pC ao4 ((ag l a).kids.getD i.toNat 0)) rfl (ae (ae (ae ai))) ?_)
  intro aVS aJz ao5 aAm ao6
  refine match ao6 with|⟨aB9,aCa⟩=> ?_
  subst aB9
  refine W.perm (ae (ae (ae ai))).symm (W.nn (g9 7 ?_))
  refine WC.sub (M':=((ck,aj 75 [iV a,iV ((ag l a).kids.getD i.toNat 0),iV i,aq aG,aq bz,sV key.b,.func (.func 39) #[] #[],iV (bH+1),sV (aw l a i).high.b,iV e0,.bool false])::(ao5++[]))) ((((List.Sublist.append_left bi _).k9).cons _).cons _) (WC.ret ?_)
  refine⟨.inr rfl,[_],⟨rfl,trivial⟩,((ck,aj 75 [iV a,iV ((ag l a).kids.getD i.toNat 0),iV i,aq aG,aq bz,sV key.b,.func (.func 39) #[] #[],iV (bH+1),sV (aw l a i).high.b,iV e0,.bool false])::ao5),(List.sublist_append_left _ _).k9,?_⟩
  have hE:gH c key th (⟨a,((ag l a).kids.getD i.toNat 0),i,3,bH,fin,e0,false,mo,Lw,l⟩:ed)=_:=rq Bq
  exact⟨congrArg (fun p:Bool×ed=>Value.bool p.1) hE.symm,nC.cast (congrArg Prod.snd hE) ⟨_,congrArg _ (by simp),aCa⟩⟩
 try dsimp only at Bq
 refine g9 6 ?_
 refine WC.cd (fun h96 p96=> ?_) (fun h96 p96=> ?_)
 ·try dsimp only at p96
  refine WC.seq (WC.dw ((eu.k9.k9).k9) (d9 [0,1,2,3,4,5,6,7,8] ?_))
  refine WD.a1 9 rfl (W.call (Mp:=AH) (pC AI a) rfl (ae (ae (ae ai))) ?_)
  intro aVT aVU ao7 aRY amT
  refine match amT with|⟨aCb,aCc⟩=> ?_
  subst aCb
  refine W.perm (ae (ae (ae ai))).symm (W.nn (g9 21 ?_))
  refine WC.sub (M':=((ck,aj 75 [iV ((ag l a).kids.getD i.toNat 0),iV ((ag l a).kids.getD i.toNat 0),iV i,aq aG,aq bz,sV key.b,.func (.func 39) #[] #[],iV bH,sV (aw l a i).high.b,iV e0,.bool false])::(ao7++[]))) ((((List.Sublist.append_left bi _).k9).cons _).cons _) (g9 3 ?_)
  refine⟨.inr rfl,[_],⟨rfl,trivial⟩,((ck,aj 75 [iV ((ag l a).kids.getD i.toNat 0),iV ((ag l a).kids.getD i.toNat 0),iV i,aq aG,aq bz,sV key.b,.func (.func 39) #[] #[],iV bH,sV (aw l a i).high.b,iV e0,.bool false])::ao7),(List.sublist_append_left _ _).k9,?_⟩
  have hE:gH c key th (⟨a,((ag l a).kids.getD i.toNat 0),i,3,bH,fin,e0,false,mo,Lw,l⟩:ed)=_:=V0 p96
  exact⟨congrArg (fun p:Bool×ed=>Value.bool p.1) hE.symm,nC.cast (congrArg Prod.snd hE) ⟨_,congrArg _ (by simp),aCc⟩⟩
 try dsimp only at p96
 refine g9 3 ?_
 refine W.call (Mp:=((ck,aj 75 [iV a,iV ((ag l a).kids.getD i.toNat 0),iV i,aq aG,aq bz,sV key.b,.func (.func 39) #[] #[],iV bH,sV (aw l a i).high.b,iV e0,.bool false])::AH)) (Mr:=((kW,aj 57 (cj (aw l a i) uC uD uE uF uG uH uI uJ))::((gy,aj 57 (cj (ag l a) uu uv uw ux uy uz uA uB))::[]))) (z3 AI 0) rfl (((ae (ae ai)).cons _).trans ((List.Perm.swap _ _ _).trans (((List.Perm.swap _ _ _).trans (ai.cons _)).cons _))) ?_
 intro aVV aVW aRZ aR0 aLl
 refine match aLl with|⟨aCd,JY,aCe,ao8⟩=> ?_
 subst aCd
 subst aCe
 refine W.perm (M':=((kW,aj 57 (cj (aw l a i) uC uD uE uF uG uH uI uJ))::((gy,aj 57 (cj (ag l a) uu uv uw ux uy uz uA uB))::((ck,aj 75 [iV a,iV ((ag l a).kids.getD i.toNat 0),iV i,aq aG,aq bz,sV key.b,.func (.func 39) #[] #[],iV bH,sV (aw l a i).high.b,iV 0,.bool true])::(JY++[]))))) (((ae (ae ai)).cons _).trans ((List.Perm.swap _ _ _).trans (((List.Perm.swap _ _ _).trans (ai.cons _)).cons _))).symm (g9 3 ?_)
 refine WC.sub (M':=((ck,aj 75 [iV a,iV ((ag l a).kids.getD i.toNat 0),iV i,aq aG,aq bz,sV key.b,.func (.func 39) #[] #[],iV bH,sV (aw l a i).high.b,iV 0,.bool true])::(JY++[]))) ((((List.Sublist.append_left bi _).k9).cons _).cons _) (g9 3 ?_)
 refine⟨.inr rfl,[_],⟨rfl,trivial⟩,((ck,aj 75 [iV a,iV ((ag l a).kids.getD i.toNat 0),iV i,aq aG,aq bz,sV key.b,.func (.func 39) #[] #[],iV bH,sV (aw l a i).high.b,iV 0,.bool true])::JY),(List.sublist_append_left _ _).k9,?_⟩
 have hE:gH c key th (⟨a,((ag l a).kids.getD i.toNat 0),i,3,bH,fin,e0,false,mo,Lw,l⟩:ed)=_:=V1 (abf LC Bq p96)
 exact⟨congrArg (fun p:Bool×ed=>Value.bool p.1) hE.symm,nC.cast (congrArg Prod.snd hE) ⟨_,congrArg _ (by simp),ao8⟩⟩

end Go.Proofs.YtfhnamngaofccaaGreat

namespace Go.Fw
open Go Go.RowKit
def uL (bu:Nat) (P:List ah) (m:aA):Nat:=if m.kind=4 then bu-aJ P m.key else 1
def ET (bu:Nat) (P:List ah) (l:List aA):Nat:=(l.map (uL bu P)).sum
def Bz (c:aQ) (n:Nd):Nat:=ET c.bu.toNat n.ab n.af+(c.bu.toNat-n.kids.length)
variable {P:List ah} {bu:Nat} {m:aA}
theorem ao9(h:aJ P m.key<bu):1≤uL bu P m:=by
 unfold uL;split<;>omega
theorem apa{s:Span}(h:¬s.norm.empty=true):s.norm.lo=s.lo:=by
 unfold Span.norm at h⊢
 split
 ·rename_i h2
  rw [if_pos h2]at h
  exact absurd (by simp [Span.empty,Span.zero,ah.lt_irrefl]) h
 ·split<;>rfl
theorem OM{s:Span}(h4:m.kind=4)(h:(m.clip s).2=true):(m.clip s).1.kind=4∧(m.clip s).1.key=if m.key.lt s.lo=true then s.lo else m.key:=by
 unfold aA.clip at h⊢
 split at h
 ·cases h
 ·rename_i h2
  rw [if_neg h2,if_pos h4]
  refine⟨h4,?_⟩
  dsimp only
  have hs:m.span=⟨m.key,m.hi,m.bT⟩:=if_pos h4
  rw [hs]at h2⊢
  unfold Span.bE at h2⊢
  rw [apa h2]
variable {T:List aA} {i:Int} {m':aA}
theorem acq(h:gq P i T m=some m'):m'=m∨(m.kind=4∧(ar P i).bT=false∧(m.clip ⟨(ar P i).hi,ah.nil,true⟩).2=true∧m'=(m.clip ⟨(ar P i).hi,ah.nil,true⟩).1):=by
 unfold gq at h
 split at h
 ·split at h
  ·rename_i h2
   cases h
   right
   have h3:=h2.2
   unfold bd at h3⊢
   split at h3
   ·cases h3
   ·rename_i h4
    rw [if_neg h4]
    exact⟨h2.1,by simpa using h4,h3,rfl⟩
  ·cases h
 ·cases h;exact .inl rfl
theorem apb(h:gq P i T m=some m'):uL bu P m'≤uL bu P m:=by
 rcases acq h with rfl|⟨h4,_,h2,rfl⟩
 ·exact Nat.le_refl _
 ·obtain⟨h5,h6⟩:=OM h4 h2
  unfold uL
  rw [if_pos h4,if_pos h5,h6]
  dsimp only
  have:aJ P m.key≤aJ P (if m.key.lt (ar P i).hi=true then(ar P i).hi else m.key):=by
   apply sh
   split
   ·rename_i h7;exact ah.lt_asymm h7
   ·exact ah.lt_irrefl _
  omega
variable {i:Nat}
theorem apc(hr:rising P=true)(hT:m.aO∈T.map aA.aO)(hi:aJ P m.key=i)(hf:i<bu):
  ((gq P i T m).elim 0 (uL bu P))+1≤uL bu P m:=by
 cases h:gq P i T m with
 |none=>exact ao9 aa
 |some m'=>
  show uL bu P m'+1≤uL bu P m
  have hiP:i≤P.length:=by rw [←hi];exact List.length_filter_le _ _
  unfold gq at h
  rw [if_pos hT]at h
  split at h
  ·rename_i h2
   cases h
   have h3:=h2.2
   unfold bd at h3⊢
   split at h3
   ·cases h3
   ·rename_i h4
    rw [if_neg h4]
    obtain⟨h5,h6⟩:=OM h2.1 h3
    have hk:(ar P (i:Int)).has m.key=true:=by rw [eL hr _ hiP,hi];simp
    have ho:(ar P (i:Int)).bT=false:=by simpa using h4
    have iB:m.key.lt (ar P (i:Int)).hi=true:=by
     rcases (cD.1 hk).2 with h|h
     ·rw [ho]at h;cases h
     ·exact h
    unfold uL
    rw [if_pos h2.1,if_pos h5,h6,if_pos iB]
    dsimp only
    have h7:aJ P m.key≤aJ P (ar P (i:Int)).hi:=sh (ah.lt_asymm iB)
    have h8:aJ P (ar P (i:Int)).hi≠i:=fun e=>by
     have h9:(ar P (i:Int)).has (ar P (i:Int)).hi=true:=by rw [eL hr _ hiP,e];simp
     rcases (cD.1 h9).2 with h|h
     ·rw [ho]at h;cases h
     ·rw [ah.lt_irrefl]at h;cases h
    omega
  ·cases h
theorem afm{w:aA→Nat}{f:aA→Option aA} :∀ {l:List aA},(∀m∈l,(f m).elim 0 w≤w m)→((l.filterMap f).map w).sum≤(l.map w).sum
 |[],_=>by simp
 |m::l,h=>by
  have ih:=afm (w:=w) (f:=f) (l:=l) fun x hx=>h x (List.mem_cons_of_mem _ hx)
  have h1:=h m (by simp)
  rw [List.filterMap_cons]
  cases hf:f m with
  |none=>simp only [List.map_cons,List.sum_cons];omega
  |some x=>rw [hf]at h1;simp only [List.map_cons,List.sum_cons];dsimp only [Option.elim]at h1;omega
theorem JZ{w:aA→Nat}{f:aA→Option aA} :∀ {l:List aA} {a:aA},(∀m∈l,(f m).elim 0 w≤w m)→a∈l→(f a).elim 0 w+1≤w a→((l.filterMap f).map w).sum+1≤(l.map w).sum
 |[],_,_,ha,_=>by cases ha
 |m::l,a,h,ha,hl=>by
  have h1:=h m (by simp)
  rw [List.filterMap_cons]
  rcases List.mem_cons.1 ha with rfl|ha
  ·have ih:=afm (w:=w) (f:=f) (l:=l) fun x hx=>h x (List.mem_cons_of_mem _ hx)
   cases hf:f a with
   |none=>rw [hf]at hl;simp only [List.map_cons,List.sum_cons];dsimp only [Option.elim]at hl;omega
   |some x=>rw [hf]at hl;simp only [List.map_cons,List.sum_cons];dsimp only [Option.elim]at hl;omega
  ·have ih:=JZ (w:=w) (f:=f) (l:=l) (fun x hx=>h x (List.mem_cons_of_mem _ hx)) ha hl
   cases hf:f m with
   |none=>simp only [List.map_cons,List.sum_cons];omega
   |some x=>rw [hf]at h1;simp only [List.map_cons,List.sum_cons];dsimp only [Option.elim]at h1;omega
variable {a:Nd} {b:Nd} {f:Nat} {p:Nd}
theorem oZ.afn{c:aQ}{k:Nd}(h:oZ c p k i a b T)(hr:rising p.ab=true)(hi:i<f):ET f a.ab a.af+1≤ET f p.ab p.af∧a.kids=p.kids:=by
 obtain⟨n,hn,hle,hT⟩:=h.take
 obtain⟨x0,hx⟩:∃x,x∈T:=⟨_,List.getElem_mem h.ne⟩
 have vB:x0∈av p.ab p.af i:=by
  rw [hT]at hx
  exact List.mem_of_mem_take hx
 obtain⟨m,hm,h2⟩:=List.mem_filterMap.1 vB
 unfold nQ at h2
 split at h2
 ·rename_i h3
  have e:(m.clip (ar p.ab i)).1=x0:=Option.some.inj h2
  have ii:m.aO∈T.map aA.aO:=by
   rw [←eG h3.2,e]
   exact List.mem_map_of_mem hx
  have key:=JZ (w:=uL f p.ab) (f:=gq p.ab i T) (l:=p.af) (a:=m) (fun x _=>by
   cases hf:gq p.ab i T x with
   |none=>exact Nat.zero_le _
   |some y=>exact apb hf) (re hm) (apc hr ii aa hi)
  rw [h.ea]
  unfold ET
  dsimp only
  unfold bP
  exact⟨key,rfl⟩
 ·cases h2
theorem oZ.apd{c:aQ}{k:Nd}(h:oZ c p k i a b T)(hr:rising p.ab=true)(hi:i<c.bu.toNat):Bz c a+1≤Bz c p:=by
 obtain⟨h1,h2⟩:=h.afn hr hi
 unfold Bz
 rw [h2];omega
variable {v:Int}
theorem J0{c:aQ}{n:Nd}{k:ah}(hf:(n.kids.length:Int)<c.bu)(hi:i<n.kids.length):Bz c (fg n i k v)+1≤Bz c n:=by
 have h1:∀l:List aA,ET c.bu.toNat ((n.ab.take i++[k])++n.ab.drop i) l≤ET c.bu.toNat n.ab l:=by
  intro l
  induction l with
  |nil=>exact Nat.le_refl _
  |cons m l ih=>
   have h2:uL c.bu.toNat ((n.ab.take i++[k])++n.ab.drop i) m≤uL c.bu.toNat n.ab m:=by
    unfold uL
    rw [IK]
    split
    ·omega
    ·exact Nat.le_refl _
   simp only [ET,List.map_cons,List.sum_cons]at ih⊢
   omega
 have h3:=h1 n.af
 have h4:((n.kids.take (i+1)++[v])++n.kids.drop (i+1)).length=n.kids.length+1:=by simp;omega
 unfold Bz fg
 dsimp only
 rw [h4]
 omega
theorem J1{c:aQ}{n n':Nd}(h0:¬n.level=0)(h1:n'.level=n.level)(h2:n'.kids.length=n.kids.length):cw c n'=cw c n:=by
 unfold cw
 rw [if_neg h0,if_neg (by rw [h1];exact h0),h2]
variable {P:aC} {l:List Nd} {ss:List aC} {x:Nd} {y:Nd}
theorem F0{c:aQ}(p:PourOf c l ss P i x y T)(s:Int):
  ag (cA l x y) s=if s=y.slot then y else if s=x.slot then x else ag l s:=by
 have hx:0≤x.slot∧x.slot<l.length:=by rw [p.al.1];exact p.sin p.mem
 have hy:0≤y.slot∧y.slot<l.length:=by rw [p.bl.1];exact p.sin p.km.1
 unfold cA
 rw [kR (by rw [List.length_set];exact hy),kR hx]
theorem ape{c:aQ}(p:PourOf c l ss P i x y T):ag (cA l x y) P.n.slot=x:=by
 rw [F0 p,p.bl.1,p.al.1,if_neg p.x9.symm,if_pos rfl]
variable {a:Int} {i:Int}
theorem J2{c:aQ}(t:Tree c l ss)(s:vR c l ss a i P)(h:0<bW c.leaf c.bud (ag l a) (aw l a i) i):
  ∃x y,cA l (bj c.leaf c.bud (ag l a) (aw l a i) i).1 (bj c.leaf c.bud (ag l a) (aw l a i) i).2.1=cA l x y∧ag (cA l x y) a=x∧(cA l x y).length=l.length∧x.slot=(ag l a).slot∧x.level=(ag l a).level∧x.kids=(ag l a).kids∧Bz c x+1≤Bz c (ag l a)∧
   (∀q:Int,(ag (cA l x y) q).level=(ag l q).level∧(ag (cA l x y) q).kids=(ag l q).kids)∧∀f,i.toNat<f→ET f x.ab x.af+1≤ET f (ag l a).ab (ag l a).af:=by
 obtain⟨T,p⟩:=s.Nl t h
 have hn:=s.n
 have hs:=s.slot
 have hf:i.toNat<c.bu.toNat:=by
  have h1:=s.hi
  have h2:=p.pin.1.2.2
  omega
 have hi:((i.toNat:Nat):Int)=i:=by have:=s.hi;omega
 have iB:=oZ.apd p.po p.rt.1 hf
 have CK:=fun f h=>(oZ.afn (f:=f) p.po p.rt.1 h).1
 rw [hn]at iB CK
 refine⟨_,_,rfl,?_,p.len,?_,?_,?_,iB,fun q=> ?_,CK⟩
 ·have:=ape p
  rwa [hs]at this
 ·exact p.al.1.trans (by rw [hn])
 ·exact p.al.2.1.trans (by rw [hn])
 ·exact p.al.2.2.2.1.trans (by rw [hn])
 ·rw [F0 p]
  have hk:=(p.t.nd p.km.1).2.1
  have hp:=(p.t.nd p.mem).2.1
  split
  ·rename_i e
   rw [e,p.bl.1,←hk];exact⟨p.bl.2.1,p.bl.2.2.2.1⟩
  ·split
   ·rename_i e
    rw [e,p.al.1,←hp];exact⟨p.al.2.1,p.al.2.2.2.1⟩
   ·exact⟨rfl,rfl⟩
theorem ON{n:Nd}{i:Nat}{k:ah}(h:(fE n i k v).2=true):(fE n i k v).1=fg n i k v∧i<n.kids.length:=by
 unfold fE at h⊢
 split at h
 ·cases h
 ·rename_i h2
  rw [if_neg h2]
  by_cases h3:n.kids.length≤i∨(ar n.ab (i:Int)).has k=false∨k=(ar n.ab (i:Int)).lo
  ·exact absurd (.inr (vG h3)) h2
  ·have h4:¬n.kids.length≤i:=fun e=>h3 (.inl e)
   have h5:(ar n.ab (i:Int)).has k=true:=by
    cases h6:(ar n.ab (i:Int)).has k
    ·exact absurd (.inr (.inl h6)) h3
    ·rfl
   rw [IJ h4 h5 (fun e=>h3 (.inr (.inr e)))]
   exact⟨rfl,aa⟩
theorem acr{c:aQ}(h:(cz c l a i).1=0)(hl:(ag l a).slot=a):
  l.length≤(cz c l a i).2.length∧∃k v,ag (cz c l a i).2 a=fg (ag l a) i.toNat k v∧i.toNat<(ag l a).kids.length∧cw c (ag l a)=false:=by
 refine⟨Bp c l a i,?_⟩
 unfold cz at h⊢
 split at h
 ·cases h
 ·rename_i hi
  rw [if_neg hi]
  by_cases h1:0≤a∧a<l.length
  ·by_cases h2:(ag l a).kids.length≤i.toNat
   ·rw [jl (.inr (.inl h2))]at h;cases h
   ·by_cases h3:0≤cK l a i.toNat∧cK l a i.toNat<l.length
    ·cases h4:cw c (ag l a)
     ·by_cases h5:(fQ l a i.toNat).2.2.2=true
      ·by_cases h6:(np l a i.toNat).2=true
       ·by_cases h7:(l.length:Int)<c.aL
        ·rw [tS h1 h2 h3 h4 h5 h6 h7]
         obtain⟨e1,e2⟩:=ON (n:=ag l a) h6
         refine⟨(fQ l a i.toNat).2.2.1,(l.length:Int),?_,e2,rfl⟩
         have CI:=Vo h6
         unfold yc
         dsimp only
         rw [vL]
         rw [if_neg (by simp only [List.length_set];omega)]
         have hx:(np l a i.toNat).1.slot=a:=CI.trans hl
         have:=kR (l:=l.set (fQ l a i.toNat).1.slot.toNat (fQ l a i.toNat).1) (x:=(np l a i.toNat).1) (by rw [hx,List.length_set];exact h1) a
         rw [hx,if_pos rfl]at this
         rw [this]
         exact e1
        ·rw [ye h1 h2 h3 h4 h5 h6 h7]at h;cases h
       ·rw [lm h1 h2 h3 h4 (.inr (by simpa using h6))]at h;cases h
      ·rw [lm h1 h2 h3 h4 (.inl (by simpa using h5))]at h;cases h
     ·rw [yd h1 h2 h3 h4]at h;cases h
    ·rw [jl (.inr (.inr h3))]at h;cases h
  ·rw [jl (.inl h1)]at h;cases h
theorem F1{c:aQ}(h0:¬(ag l a).level=0)(h:(cz c l a i).1=0)(hl:(ag l a).slot=a):
  (ag (cz c l a i).2 a).slot=a∧(ag (cz c l a i).2 a).level=(ag l a).level∧Bz c (ag (cz c l a i).2 a)+1≤Bz c (ag l a):=by
 obtain⟨_,k,v,e,hi,hf⟩:=acr h hl
 rw [e]
 refine⟨hl,rfl,J0 ?_ hi⟩
 unfold cw at hf
 rw [if_neg h0,decide_eq_false_iff_not]at hf
 omega
def apf (c:aQ) (l:List Nd) (a:Int):Prop:=¬(ag l a).slot=0∨(2≤(ag l a).level∧cw c (ag l a)=false∧∀j:Nat,j<(ag l a).kids.length→cw c (aw l a j)=false)
theorem F2{c:aQ}{n:Nd}{k:ah}(h:(ak c n k).1=1):¬n.level=0∧n.slot=0∧cw c n=true:=by
 unfold ak at h
 split at h
 ·cases h
 ·rename_i h0
  split at h
  ·rename_i h1;exact⟨h0,h1.1,h1.2⟩
  ·cases h
theorem yO{c:aQ}(t:Tree c l ss)(s:vR c l ss a i P):¬(aw l a i).slot=0∧(aw l a i).level=(ag l a).level-1∧ag l (aw l a i).slot=aw l a i∧0≤(aw l a i).slot∧(aw l a i).slot<l.length:=by
 have hk:=t.at s.mem s.h0 (j:=i.toNat) (by have:=s.hi;omega)
 have oQ:=hk.2.2.2
 rw [s.Ba,s.n]at oQ
 refine⟨fun e=> ?_,oQ,by rw [s.x9];rfl,by rw [s.x9];exact s.x3.1,by rw [s.x9];exact s.x3.2⟩
 have h1:=t.xY
 rw [t.fix,List.map_cons,List.nodup_cons]at h1
 refine h1.1 (List.mem_map.2 ⟨au l P i.toNat,List.mem_flatMap.2 ⟨P,s.mem,?_⟩,?_⟩)
 ·rw [(cx (t.kids s.mem) s.h0).1]
  exact List.mem_map.2 ⟨i.toNat,List.mem_range.2 (by have:=s.hi;omega),rfl⟩
 ·rw [s.Ba,e,t.oD,(di t.slot ⟨Int.le_refl _,by have:=t.pos;omega⟩).1]
theorem aiJ{c:aQ}{k:Nd}(h:cg c p k i=3):(0<k.level∧cw c k=true)∨¬0<k.level:=by
 unfold cg at h
 split at h
 ·rename_i h1;exact .inl h1
 ·split at h
  ·cases h
  ·split at h
   ·cases h
   ·rename_i h3;exact .inr h3
theorem OO{c:aQ}{k:Nd}(h:cg c p k i=5):0<k.level∧cw c k=false∧¬0<bW c.leaf c.bud p k i:=by
 unfold cg at h
 split at h
 ·split at h<;>cases h
 ·rename_i h1
  split at h
  ·cases h
  ·rename_i h2
   split at h
   ·rename_i h3
    refine⟨h3,?_,h2⟩
    cases h4:cw c k
    ·rfl
    ·exact absurd ⟨h3,h4⟩ h1
   ·split at h
    ·split at h<;>cases h
    ·cases h
theorem aiK{c:aQ}(t:Tree c l ss)(h0:¬(ag l 0).level=0)(h:(cG c l).1=0):apf c (cG c l).2 0∧(ag (cG c l).2 0).level=(ag l 0).level+1:=by
 have hp:=t.pos
 obtain⟨P,hP,eP⟩:=t.rl (a:=0) ⟨Int.le_refl _,aa⟩
 have nO:=t.inner hP (by rw [eP];exact h0)
 rw [eP]at nO
 have oQ:=t.lvl hP
 rw [eP]at oQ
 by_cases hk:(cP (ag l 0) l.length ((l.length:Int)+1)).2.2.2=true
 ·by_cases hr:c.aL.toNat-l.length<2
  ·rw [py hk hr]at h;cases h
  ·rw [pz hk hr]
   have hc:(aB (ag l 0) ((l.length:Int)+1)).2.2.2=true:=by rw [←pw _ (l.length:Int)];exact hk
   obtain⟨x,y,q,hh,e,hv,_⟩:=nm (t.fo hP).1 (y:=(l.length:Int)+1) (by rw [eP];exact hc)
   rw [eP]at e hv
   rw [pr hc,e]
   obtain⟨_,_,hh2,_,ka,_,kb,_⟩:True∧True∧hh<(ag l 0).ab.length∧True∧x.kids=(ag l 0).kids.take (hh+1)∧True∧y.kids=(ag l 0).kids.drop (hh+1)∧True:=by
    obtain⟨_,_,g1,_,_,g2,_,g3⟩:=hv.inner h0
    exact⟨trivial,trivial,g1,trivial,g2,trivial,g3,trivial⟩
   have Ak:=(cE nO.2.1).2
   have aVX:=nO.1.2.2
   obtain⟨⟨f1,f2⟩,_⟩:=t.pX
   have e0:ag (iR l (kY (ag l 0) q l.length ((l.length:Int)+1)) (eS (ag l 0) x l.length) (eS (ag l 0) y y.slot)) 0=kY (ag l 0) q l.length ((l.length:Int)+1):=by
    have:=jN (l:=iR l (kY (ag l 0) q l.length ((l.length:Int)+1)) (eS (ag l 0) x l.length) (eS (ag l 0) y y.slot)) (k:=0) (by unfold iR;simp)
    refine Eq.trans this ?_
    unfold iR
    rw [List.getElem_append_left (by simp;exact hp),List.getElem_set_self]
   have ek:∀(j:Nat) (z:Nd),(iR l (kY (ag l 0) q l.length ((l.length:Int)+1)) (eS (ag l 0) x l.length) (eS (ag l 0) y y.slot))[l.length+j]?=some z→ag (iR l (kY (ag l 0) q l.length ((l.length:Int)+1)) (eS (ag l 0) x l.length) (eS (ag l 0) y y.slot)) ((l.length:Int)+j)=z:=fun j z hz=>by
    obtain⟨g1,g2⟩:=List.getElem?_eq_some_iff.1 hz
    have:=jN g1
    rw [show(((l.length+j:Nat)):Int)=(l.length:Int)+j by omega]at this
    rw [this];exact g2
   have ex:ag (iR l (kY (ag l 0) q l.length ((l.length:Int)+1)) (eS (ag l 0) x l.length) (eS (ag l 0) y y.slot)) (l.length:Int)=eS (ag l 0) x l.length:=by
    have:=ek 0 (eS (ag l 0) x l.length) (by unfold iR;rw [List.getElem?_append_right (by simp)];simp)
    simpa using this
   have ey:ag (iR l (kY (ag l 0) q l.length ((l.length:Int)+1)) (eS (ag l 0) x l.length) (eS (ag l 0) y y.slot)) ((l.length:Int)+1)=eS (ag l 0) y y.slot:=by
    have:=ek 1 (eS (ag l 0) y y.slot) (by unfold iR;rw [List.getElem?_append_right (by simp)];simp)
    simpa using this
   refine⟨.inr ?_,by rw [e0];rfl⟩
   dsimp only
   rw [e0]
   refine⟨by show 2≤(ag l 0).level+1;omega,?_,fun j hj=> ?_⟩
   ·unfold cw
    rw [if_neg (by show ¬(ag l 0).level+1=0;omega),decide_eq_false_iff_not]
    show ¬c.bu≤((2:Nat):Int)
    omega
   ·have hj2:j<2:=hj
    unfold aw
    rw [e0]
    have hlx:x.level=(ag l 0).level:=hv.la
    have hly:y.level=(ag l 0).level:=hv.lb
    have hkx:x.kids.length=hh+1:=by rw [ka,List.length_take];omega
    have hky:y.kids.length=(ag l 0).kids.length-(hh+1):=by rw [kb,List.length_drop]
    rcases (by omega:j=0∨j=1)with rfl|rfl
    ·show cw c (ag _ (l.length:Int))=false
     rw [ex]
     unfold cw eS
     dsimp only
     rw [if_neg (by rw [hlx];exact h0),decide_eq_false_iff_not]
     omega
    ·show cw c (ag _ ((l.length:Int)+1))=false
     rw [ey]
     unfold cw eS
     dsimp only
     rw [if_neg (by rw [hly];exact h0),decide_eq_false_iff_not]
     omega
 ·rw [px (by simpa using hk)]at h;cases h
variable {P:List ah}
theorem afo(h:f≤64)(m:aA):9*(uL f P m:Int)≤16*m.size:=by
 unfold uL aA.size
 split<;>omega
theorem apg(h:f≤9)(m:aA):4*(uL f P m:Int)≤1*m.size:=by
 unfold uL aA.size
 split<;>omega
theorem yP{f:Nat}{P:List ah}{p q:Int}(h:∀m:aA,q*(uL f P m:Int)≤p*m.size):∀l:List aA,q*(ET f P l:Int)≤p*bI l
 |[]=>by simp [ET,bI]
 |m::l=>by
  have ih:=yP h l
  have h1:=h m
  simp only [ET,bI,List.map_cons,List.sum_cons]at ih⊢
  rw [Int.natCast_add,Int.mul_add,Int.mul_add]
  omega
section
variable {c:aQ} {l:List Nd} {ss:List aC} {k:ah} {a:Int}
theorem z5(t:Tree c l ss)(ha:0≤a∧a<l.length)(h0:¬(ag l a).level=0):(ag l a).kK c.bu c.bud:=by
 obtain⟨P,hP,e⟩:=t.rl ha
 rw [←e]at h0⊢
 exact t.inner hP h0
def HvK (c:aQ) (K:Nat):Prop:=∀(l:List Nd) (ss:List aC) (a:Int),Tree c l ss→0≤a∧a<l.length→¬(ag l a).level=0→Bz c (ag l a)≤K
theorem acs:HvK c 7345:=fun l ss a t ha h0=>by
 obtain⟨⟨f1,f2⟩,_,⟨b1,b2⟩,_⟩:=t.pX
 have h:=z5 t ha h0
 have h1:=yP (fun m=>afo (f:=c.bu.toNat) (P:=(ag l a).ab) aa m) (ag l a).af
 have h2:=h.2.2.2.1
 unfold Bz
 omega
theorem ax3(hf:c.bu≤9):HvK c 1033:=fun l ss a t ha h0=>by
 obtain⟨⟨f1,f2⟩,_,⟨b1,b2⟩,_⟩:=t.pX
 have h:=z5 t ha h0
 have h1:=yP (fun m=>apg (f:=c.bu.toNat) (P:=(ag l a).ab) aa m) (ag l a).af
 have h2:=h.2.2.2.1
 unfold Bz
 omega
def LF (c:aQ) (n:Nd):Nat:=if n.slot=0 then ET n.kids.length n.ab n.af else Bz c n
variable {K:Nat}
theorem EU(hK:HvK c K):∀(m:Nat) {l:List Nd} {ss:List aC} {a n:Int},Tree c l ss→0≤a∧a<l.length→apf c l a→((ag l a).level.toNat-1)*(K+1)+LF c (ag l a)≤m→∃r,sw c k (m+1) l a n=some r:=by
 intro m
 induction m using Nat.strongRecOn with
 |_ m ih=>
  intro l ss a n t ha hp hm
  rcases gj c (ag l a) k with h|h|⟨h,h0,_⟩
  ·exact⟨_,jm (by rw [sv h])⟩
  ·obtain⟨_,h2,h3⟩:=F2 h
   rcases hp with hp|⟨_,hp,_⟩
   ·exact absurd h2 hp
   ·rw [hp]at h3;cases h3
  ·obtain⟨_,pV,gS⟩:=kD t ha h
   obtain⟨P,s⟩:=nu t ha h0 ⟨pV,gS⟩
   have ii:=je h
   have CI:=(di t.slot ha).1
   obtain⟨T,hT,_⟩:=rm t ha k
   have kZ:=rn t ha k
   have oQ:0<(ag l a).level:=by have:=s.kof.1;exact this
   rcases fz c (ag l a) (aw l a (ak c (ag l a) k).2) (ak c (ag l a) k).2 with hd|hd|⟨hd,hd2⟩|hd
   ·exact⟨_,jm (by rw [ii,Bo hd])⟩
   ·by_cases h3:(cz c l a (ak c (ag l a) k).2).1=0
    ·have e:=ii.trans (Bl hd h3)
     obtain⟨g1,g2,g3⟩:=F1 h0 h3 CI
     rcases hp with hp|⟨q1,q2,q3⟩
     ·rw [ny (by rw [e];simp) (by rw [e];simp)]
      rw [e]at hT kZ⊢
      dsimp only at hT kZ⊢
      unfold LF at hm
      rw [if_neg hp]at hm
      rw [CI]at hp
      obtain⟨m2,rfl⟩:∃m2,m=m2+1:=⟨m-1,aa⟩
      refine ih m2 aa hT kZ (.inl (by rw [g1];exact hp)) ?_
      unfold LF
      rw [g1,if_neg hp,g2]
      omega
     ·exfalso
      have hk:=yO t s
      have hf:=q3 (ak c (ag l a) k).2.toNat aa
      rw [show(((ak c (ag l a) k).2.toNat:Nat):Int)=(ak c (ag l a) k).2 by omega]at hf
      rcases aiJ hd with⟨_,h5⟩|h5
      ·rw [hf]at h5;cases h5
      ·omega
    ·exact⟨_,jm (by rw [ii,Bm hd h3])⟩
   ·have e:=ii.trans (pZ hd)
    obtain⟨x,y,e2,g1,g2,g3,g4,g5,g6,g7,g8⟩:=J2 t s hd2
    rw [e2]at e
    rw [ny (by rw [e];simp) (by rw [e];simp)]
    rw [e]at hT kZ⊢
    dsimp only at hT kZ⊢
    have hw:LF c x+1≤LF c (ag l a):=by
     unfold LF
     rw [g3,g5]
     split
     ·exact g8 _ aa
     ·exact g6
    obtain⟨m2,rfl⟩:∃m2,m=m2+1:=⟨m-1,aa⟩
    refine ih m2 aa hT kZ ?_ (by rw [g1,g4];omega)
    rcases hp with hp|⟨q1,q2,q3⟩
    ·left;rw [g1,g3];exact hp
    ·right
     rw [g1]
     refine⟨by rw [g4];exact q1,(J1 h0 g4 (by rw [g5])).trans q2,fun j hj=> ?_⟩
     rw [g5]at hj
     have ek:aw (cA l x y) a j=ag (cA l x y) ((ag l a).kids.getD j 0):=by
      unfold aw
      rw [g1,g5,Int.toNat_natCast]
     have ek2:aw l a j=ag l ((ag l a).kids.getD j 0):=by unfold aw;rw [Int.toNat_natCast]
     have h7:=g7 ((ag l a).kids.getD j 0)
     obtain⟨P2,s2⟩:=nu t ha h0 (i:=(j:Int)) ⟨aa,aa⟩
     have j6:=(yO t s2).2.1
     rw [ek,J1 (n:=aw l a j) (by rw [j6];omega) (by rw [ek2];exact h7.1) (by rw [ek2,h7.2])]
     exact q3 j hj
   ·have e:=ii.trans (Bn hd)
    obtain⟨k1,k2,k3,k4⟩:=yO t s
    have h5:=OO hd
    rw [zV (by rw [e])]
    rw [e]at hT kZ⊢
    dsimp only at hT kZ⊢
    have hw:=hK l ss (aw l a (ak c (ag l a) k).2).slot t k4 (by rw [k3];omega)
    have hx:((ag l a).level.toNat-1)*(K+1)=((aw l a (ak c (ag l a) k).2).level.toNat-1)*(K+1)+(K+1):=by rw [←Nat.succ_mul];congr 1;omega
    obtain⟨m2,rfl⟩:∃m2,m=m2+1:=⟨m-1,aa⟩
    refine ih m2 aa t k4 (.inl (by rw [k3];exact k1)) ?_
    unfold LF
    rw [k3]at hw⊢
    rw [if_neg k1]
    omega
theorem aiL(h0:¬(ag l 0).level=0)(hl:0<l.length)(h:(cG c l).1=0):(ag (cG c l).2 0).kids.length=2:=by
 by_cases hk:(cP (ag l 0) l.length ((l.length:Int)+1)).2.2.2=true
 ·by_cases hr:c.aL.toNat-l.length<2
  ·rw [py hk hr]at h;cases h
  ·rw [pz hk hr]
   have hc:(aB (ag l 0) ((l.length:Int)+1)).2.2.2=true:=by rw [←pw _ (l.length:Int)];exact hk
   rw [pr hc]
   unfold iR
   rw [show ag (l.set 0 (kY (ag l 0) (aB (ag l 0) ((l.length:Int)+1)).2.2.1 l.length ((l.length:Int)+1))++[eS (ag l 0) (aB (ag l 0) ((l.length:Int)+1)).1 l.length,eS (ag l 0) (aB (ag l 0) ((l.length:Int)+1)).2.1 (aB (ag l 0) ((l.length:Int)+1)).2.1.slot]) 0=kY (ag l 0) (aB (ag l 0) ((l.length:Int)+1)).2.2.1 l.length ((l.length:Int)+1)from ?_]
   ·rfl
   ·have:=jN (l:=l.set 0 (kY (ag l 0) (aB (ag l 0) ((l.length:Int)+1)).2.2.1 l.length ((l.length:Int)+1))++[eS (ag l 0) (aB (ag l 0) ((l.length:Int)+1)).1 l.length,eS (ag l 0) (aB (ag l 0) ((l.length:Int)+1)).2.1 (aB (ag l 0) ((l.length:Int)+1)).2.1.slot]) (k:=0) (by simp)
    refine Eq.trans this ?_
    rw [List.getElem_append_left (by simp;exact hl),List.getElem_set_self]
 ·rw [px (by simpa using hk)]at h;cases h
theorem J3(hK:HvK c K)(v:Nat):∀(w:Nat) {l:List Nd} {ss:List aC} {n:Int},Tree c l ss→(ag l 0).level.toNat=v→Bz c (ag l 0)≤w→∃r,sw c k (v*(K+1)+w+1026) l 0 n=some r:=by
 intro w
 induction w using Nat.strongRecOn with
 |_ w ih=>
  intro l ss n t hv hw
  have ha:(0:Int)≤0∧(0:Int)<l.length:=⟨Int.le_refl _,by have:=t.pos;omega⟩
  obtain⟨T,hT,_⟩:=rm t ha k
  have kZ:=rn t ha k
  have CI:=(di t.slot ha).1
  rcases gj c (ag l 0) k with h|h|⟨h,h0,_⟩
  ·exact⟨_,jm (by rw [sv h])⟩
  ·obtain⟨h0,h2,h3⟩:=F2 h
   by_cases hl:(cG c l).1=0
   ·have e:=zT h hl
    rw [ny (by rw [e];simp) (by rw [e];simp)]
    rw [e]at hT kZ⊢
    dsimp only at hT kZ⊢
    obtain⟨g1,g2⟩:=aiK t h0 hl
    have g3:=aiL h0 t.pos hl
    have oQ:0≤(ag l 0).level:=by
     obtain⟨P,hP,eP⟩:=t.rl ha
     rw [←eP];exact t.lvl hP
    have nO:=z5 hT (a:=0) kZ (by rw [g2];omega)
    have lz:=yP (fun m=>apg (f:=2) (P:=(ag (cG c l).2 0).ab) aa m) (ag (cG c l).2 0).af
    have hbd:=nO.2.2.2.1
    have hb2:=t.pX.2.2.1.2
    refine EU hK (v*(K+1)+w+1024) (n:=n+1) hT kZ g1 ?_
    have e9:(ag (cG c l).2 0).slot=0:=(di hT.slot kZ).1
    unfold LF
    rw [if_pos e9,g3,g2,show((ag l 0).level+1).toNat-1=v by omega]
    omega
   ·exact⟨_,jm (by rw [zU h hl])⟩
  ·obtain⟨_,pV,gS⟩:=kD t ha h
   obtain⟨P,s⟩:=nu t ha h0 ⟨pV,gS⟩
   have ii:=je h
   have oQ:0<(ag l 0).level:=by have:=s.kof.1;exact this
   rcases fz c (ag l 0) (aw l 0 (ak c (ag l 0) k).2) (ak c (ag l 0) k).2 with hd|hd|⟨hd,hd2⟩|hd
   ·exact⟨_,jm (by rw [ii,Bo hd])⟩
   ·by_cases h3:(cz c l 0 (ak c (ag l 0) k).2).1=0
    ·have e:=ii.trans (Bl hd h3)
     obtain⟨g1,g2,g3⟩:=F1 h0 h3 CI
     rw [ny (by rw [e];simp) (by rw [e];simp)]
     rw [e]at hT kZ⊢
     dsimp only at hT kZ⊢
     have:=ih (w-1) aa (n:=n+1) hT (by rw [g2];exact hv) aa
     rwa [show v*(K+1)+(w-1)+1026=v*(K+1)+w+1025 by omega]at this
    ·exact⟨_,jm (by rw [ii,Bm hd h3])⟩
   ·have e:=ii.trans (pZ hd)
    obtain⟨x,y,e2,g1,g2,g3,g4,g5,g6,g7,_⟩:=J2 t s hd2
    rw [e2]at e
    rw [ny (by rw [e];simp) (by rw [e];simp)]
    rw [e]at hT kZ⊢
    dsimp only at hT kZ⊢
    have:=ih (w-1) aa (n:=n+1) hT (by rw [g1,g4];exact hv) (by rw [g1];omega)
    rwa [show v*(K+1)+(w-1)+1026=v*(K+1)+w+1025 by omega]at this
   ·have e:=ii.trans (Bn hd)
    obtain⟨k1,k2,k3,k4⟩:=yO t s
    have h5:=OO hd
    rw [zV (by rw [e])]
    rw [e]at hT kZ⊢
    dsimp only at hT kZ⊢
    have hw:=hK l ss (aw l 0 (ak c (ag l 0) k).2).slot t k4 (by rw [k3];omega)
    have hx:v*(K+1)=((aw l 0 (ak c (ag l 0) k).2).level.toNat-1)*(K+1)+(K+1)+(K+1):=by rw [←Nat.succ_mul,←Nat.succ_mul];congr 1;omega
    refine EU hK (v*(K+1)+w+1024) (n:=n) t k4 (.inl (by rw [k3];exact k1)) ?_
    unfold LF
    rw [k3]at hw⊢
    rw [if_neg k1]
    omega
theorem X4{α β:Type}{f:α→List β}{b:Nat} :∀ {L:List α},(∀y∈L,b≤(f y).length)→b*L.length≤(L.flatMap f).length
 |[],_=>by simp
 |y::L,h=>by
  have ih:=X4 (L:=L) fun z hz=>h z (List.mem_cons_of_mem _ hz)
  have h1:=h y (by simp)
  rw [List.flatMap_cons,List.length_append,List.length_cons,Nat.mul_succ]
  omega
theorem OP{α β:Type}{f:α→List β}{y:α} :∀ {L:List α},y∈L→(f y).length≤(L.flatMap f).length
 |z::L,h=>by
  rw [List.flatMap_cons,List.length_append]
  rcases List.mem_cons.1 h with rfl|h
  ·omega
  ·have:=OP (f:=f) h;omega
theorem OQ(t:Tree c l ss){n:Nat}{x:aC}(hx:x∈ss)(hn:x.n.level.toNat=n+1):(2^(n+1)-1)*x.n.kids.length+1≤(lj l (n+1) x).length:=by
 have h0:¬x.n.level=0:=aa
 have h1:=(cx (t.kids hx) h0).1
 have hl:(bB l x).length=x.n.kids.length:=by rw [h1,gG]
 rw [lj,List.length_cons,←hl]
 have:=X4 (f:=lj l n) (b:=2^(n+1)-1) (L:=bB l x) fun y hy=>by
  have h9:=t.xX hx hy
  have:=t.IC n y h9.1 aa
  omega
 omega
theorem aiM(t:Tree c l ss)(hl:l.length≤60)(hv:(ag l 0).level=4)(hf:10≤c.bu):apf c l 0:=by
 have hp:=t.pos
 have hr:=t.root
 have h1:=t.D8 (bG l 0).n.level.toNat [bG l 0] ss (by exact t.fix) (fun x hx=>hx) (fun x hx=>by simp at hx;rw [hx])
 rw [List.flatMap_cons,List.flatMap_nil,List.append_nil]at h1
 have h2:=h1.length_eq
 rw [t.len]at h2
 have RM:(bG l 0).n.level.toNat=3+1:=by rw [t.oD,hv];rfl
 rw [RM]at h2
 have h3:=OQ t hr RM
 rw [t.oD]at h3
 have h0:¬(ag l 0).level=0:=aa
 refine .inr ⟨aa,?_,fun j hj=> ?_⟩
 ·unfold cw
  rw [if_neg h0,decide_eq_false_iff_not]
  omega
 ·obtain⟨P,s⟩:=nu t (a:=0) ⟨Int.le_refl _,aa⟩ h0 (i:=(j:Int)) ⟨aa,aa⟩
  have hP:P=bG l 0:=t.mC s.mem hr (by rw [s.n,t.oD])
  subst hP
  have hk:=t.at s.mem s.h0 (j:=j) (by rw [t.oD];exact hj)
  have e:=s.Ba
  rw [Int.toNat_natCast]at e
  have oQ:(au l (bG l 0) j).n.level.toNat=2+1:=by rw [hk.2.2.2];omega
  have h4:=OQ t hk.1 oQ
  have hm:au l (bG l 0) j∈bB l (bG l 0):=by
   rw [(cx (t.kids hr) s.h0).1]
   exact List.mem_map.2 ⟨j,List.mem_range.2 (by rw [t.oD];exact hj),rfl⟩
  have h5:=OP (f:=lj l 3) hm
  have h6:(lj l (3+1) (bG l 0)).length=((bB l (bG l 0)).flatMap (lj l 3)).length+1:=by rw [lj,List.length_cons]
  rw [←e]
  unfold cw
  rw [if_neg aa,decide_eq_false_iff_not]
  have h7:(lj l (2+1) (au l (bG l 0) j)).length=(lj l 3 (au l (bG l 0) j)).length:=rfl
  omega
theorem Tree.avS(t:Tree c l ss)(hl:l.length≤60):(ag l 0).level≤4:=by
 have h1:=t.D8 (bG l 0).n.level.toNat [bG l 0] ss (by exact t.fix) (fun x hx=>hx) (fun x hx=>by simp at hx;rw [hx])
 rw [List.flatMap_cons,List.flatMap_nil,List.append_nil]at h1
 have h2:=t.IC _ _ t.root rfl
 rw [←h1.length_eq,t.len]at h2
 rw [←t.oD]
 apply Classical.byContradiction
 intro hn
 have h4:2^6≤2^((bG l 0).n.level.toNat+1):=Nat.pow_le_pow_right aa aa
 omega
theorem avT(t:Tree c l ss)(hl:l.length≤60)(k:ah):∃N r,N≤33000∧sw c k N l 0 0=some r:=by
 have hp:=t.pos
 have ha:(0:Int)≤0∧(0:Int)<l.length:=⟨Int.le_refl _,aa⟩
 by_cases h0:(ag l 0).level=0
 ·exact⟨1,_,aa,jm (by rw [sv (by rw [zL h0])])⟩
 ·have h4:=t.avS hl
  have hl0:0≤(ag l 0).level:=by rw [←t.oD];exact t.lvl t.root
  by_cases hv:(ag l 0).level=4
  ·by_cases hf:10≤c.bu
   ·obtain⟨⟨f1,f2⟩,_,⟨b1,b2⟩,_⟩:=t.pX
    have nO:=z5 t ha h0
    have h1:=yP (fun m=>afo (f:=(ag l 0).kids.length) (P:=(ag l 0).ab) (by have:=nO.1.2.2;omega) m) (ag l 0).af
    have h2:=nO.2.2.2.1
    obtain⟨r,hr⟩:=EU (k:=k) acs (3*7346+7345) (n:=0) t ha (aiM t hl hv hf) (by
     unfold LF
     rw [if_pos (di t.slot ha).1,hv]
     show(4-1)*7346+_≤_
     omega)
    exact⟨_,r,aa,hr⟩
   ·obtain⟨r,hr⟩:=J3 (k:=k) (ax3 aa) (ag l 0).level.toNat 1033 (n:=0) t rfl (ax3 aa l ss 0 t ha h0)
    rw [hv]at hr
    exact⟨_,r,by decide,hr⟩
  ·obtain⟨r,hr⟩:=J3 (k:=k) acs (ag l 0).level.toNat 7345 (n:=0) t rfl (acs l ss 0 t ha h0)
   exact⟨_,r,aa,hr⟩
end
end Go.Fw
