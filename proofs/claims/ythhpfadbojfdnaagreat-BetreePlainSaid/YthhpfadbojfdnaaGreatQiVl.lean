/- Walks of which kid messages are moved on to. -/
import Derived.Test.YthhpfadbojfdnaaGreatQiWe
set_option maxRecDepth 100000
set_option maxHeartbeats 1600000
set_option linter.unusedVariables false
set_option linter.unusedSimpArgs false
set_option linter.unnecessarySimpa false
namespace Go.Proofs.YthhpfadbojfdnaaGreat
open Go Go.Fw Go.RowKit
attribute [local irreducible] Ok W WC
variable {G:GH} {l:List aD} {dH:Value}
theorem M8{v_P:Value}{P:List af}(h_P:az cy G v_P P)(aQ:az dy G dH l)(hs:∀m∈l,m.key.b.size≤16∧m.val.b.size≤16)(kZ:l.length≤100000∧P.length≤100000)(hr:rising P=true):
    Fc Tryz.prog 140 [v_P,dH] G [] (fun v _ _=>v=.tuple #[iV ((jj P l).1),.bool ((jj P l).2)]):=by
 obtain⟨adI,adJ,rfl⟩:=h_P.form
 obtain⟨dz,dA,rfl⟩:=aQ.form
 have hl:=aQ.bq
 have hlP:=h_P.bq
 have j8:=Gv l
 have hfs:∀m∈aM l,m.key.b.size≤16∧m.val.b.size≤16:=fun m h=>hs m (A4 h)
 refine Fc.go [.tmp 4,.tmp 5] Tryz.func140 Tryz.ntmps140 rfl (fun w0=>(g9 14 ?_))
 refine WC.cd (fun zu AG=> ?_) (fun zu AG=> ?_)
 ·refine g9 9 ?_
  show Value.tuple #[Value.int _ _,Value.bool _]=_
  rw [amR aa]
 refine g9 6 ?_
 refine W.ok (Ok.int (n:=((P.length+1:Nat):Int)) (dZ rfl rfl aa) aa) (W.Ju (e:=bE) (a0:=(0:Int)) (n:=P.length+1) dG cV ng rfl HI (⟨rfl,by decide,by decide⟩) rfl rfl (by first|(show _*8≤140737488355328;omega)|(show _*8≤16777216;omega)|(show _*1≤16777216;omega)) (by first|(show _*8≤140737488355328;omega)|(show _*8≤16777216;omega)|(show _*1≤16777216;omega)) (fun v1 H0 Nm=> ?_))
 have q7:=Nm.form
 refine match q7 with|⟨Za,Zb,CI⟩=> ?_
 subst CI
 refine g9 7 ?_
 refine W.cS (V5 aQ) rfl (fun Zr Zs G8 H9 qd=>(g9 5 ?_))
 refine WC.loop (X:=(Nat)×Value×MH) (fun q=>[(22,aK q.1),(0,lV adI P.length adJ),(20,lV Zr ((aM l)).length Zs),(21,aK (((aM l)).length)),(6,q.2.1)]) (fun q G Ml=>Ml=(q.2.2++[])∧aE bE 3 G q.2.1 (Db P ((aM l).take q.1)) q.2.2∧q.1≤(aM l).length) (fun q=>(aM l).length-q.1) (0,lV Za ((List.replicate (P.length+1) (0:Int))).length Zb,H0) ct ?_ ?_
 ·exact⟨rfl,(by exact aE.cast (Nm.mono H9) (arJ P)),aa⟩
 rintro⟨q,LI,M_6⟩ aJh G15 _ B9 ⟨rfl,lE,hq⟩
 try dsimp only at lE hq
 have hwl:=Dc P ((aM l).take q)
 refine WC.fr (f:=gk aJh [(22,aK q),(0,lV adI P.length adJ),(20,lV Zr ((aM l)).length Zs),(21,aK (((aM l)).length)),(6,LI)]) rfl (g9 6 ?_)
 refine WC.cd (fun AI pH=> ?_) (fun AI pH=> ?_)
 ·have Qs:(ae P ((aM l)[q]'aa).key)<(Db P ((aM l).take q)).length:=by rw [Dc];have:(ae P ((aM l)[q]'aa).key)≤P.length:=fy _ _;omega
  have Dn:=sQ Qs
  have jn:=ayp P ((aM l).take q) (ae P ((aM l)[q]'aa).key) (fun m h=>hfs m (gu h))
  have Nv:=QE P ((aM l).take q) (ae P ((aM l)[q]'aa).key)
  have ht9:((aM l).take q).length≤100000:=by rw [bV];omega
  have hz9:=Ik (hfs _ (bN (by omega:q<(aM l).length)))
  have hwi:i64 ((Db P ((aM l).take q))[(ae P ((aM l)[q]'aa).key)]'Qs+((aM l)[q]'aa).size):=⟨aa,aa⟩
  have he9:aD.size ⟨((aM l)[q]'aa).aW,((aM l)[q]'aa).kind,((aM l)[q]'aa).key,((aM l)[q]'aa).hi,((aM l)[q]'aa).bQ,((aM l)[q]'aa).val⟩=((aM l)[q]'aa).size:=rfl
  refine g9 6 ?_
  refine(qd.mono B9).a2 (i:=q) aa (fun HY aIx=>(g9 2 ?_))
  refine W.alloc gL (fun b21=>(g9 3 ?_))
  refine WC.dw iD.k9 (d9 [0,1,2,3,7] ?_)
  refine WD.a1 4 rfl (W.aH (mL (h_P.mono aO) _ hr) rfl (W.nn (lE.a2 (i:=(ae P ((aM l)[q]'aa).key)) aa (fun ai9 aJi=>(WD.tk 5 rfl (aV (i:=(ae P ((aM l)[q]'aa).key)) dG cV lE rfl rfl ⟨rfl,aa⟩) ?_)))))
  refine WD.any [6,8] (by kernel_rfl) rfl ⟨WD.ap ?_,WD.ap ?_,trivial⟩
  ·refine W.ok (dQ (vs:=kB) cV ai9 (ag ah) rfl rfl rfl (by simp)) (W.nn (WD.a1 8 rfl (W.aH (Bq _ _ _ _ _ _) rfl (W.nn (d9 [9] ?_)))))
   refine lE.a2 (i:=(ae P ((aM l)[q]'aa).key)) aa (fun aIy aRm=>(WD.tk 10 rfl (aV (i:=(ae P ((aM l)[q]'aa).key)) dG cV lE rfl rfl ⟨rfl,aa⟩) (WD.a1 11 rfl (W.jD (i:=(ae P ((aM l)[q]'aa).key)) (o:=0) (vs:=kB) (a':=((Db P ((aM l).take q))[(ae P ((aM l)[q]'aa).key)]'Qs+((aM l)[q]'aa).size)) cV rfl rfl rfl rfl rfl (lE) (ag ah) aa (by decide) (fun cs h=>by rw [h.1];exact⟨rfl,hwi⟩) (fun adK Pl=>(W.perm (ag ah).symm (W.nn (WD.done (by kernel_rfl) (pI (jH (g9 3 ?_)))))))))))
   refine W.sub (bB.cons _) (g9 2 ?_)
   exact⟨Le.rfl,(q+1,LI,adK),ct,⟨rfl,(by have h:=Pl;rw [abH aa Qs]at h;exact h),aa⟩,aa⟩
  refine W.aH (Bq _ _ _ _ _ _) rfl (W.nn (WD.a1 6 rfl (W.ok (dQ (vs:=kB) cV ai9 (ag ah) rfl rfl rfl (by simp)) (W.nn (d9 [9] ?_)))))
  refine lE.a2 (i:=(ae P ((aM l)[q]'aa).key)) aa (fun aJj aRn=>(WD.tk 10 rfl (aV (i:=(ae P ((aM l)[q]'aa).key)) dG cV lE rfl rfl ⟨rfl,aa⟩) (WD.a1 11 rfl (W.jD (i:=(ae P ((aM l)[q]'aa).key)) (o:=0) (vs:=kB) (a':=((Db P ((aM l).take q))[(ae P ((aM l)[q]'aa).key)]'Qs+((aM l)[q]'aa).size)) cV rfl rfl rfl rfl rfl (lE) (ag ah) aa (by decide) (fun cs h=>by rw [h.1];exact⟨rfl,hwi⟩) (fun auP auQ=>(W.perm (ag ah).symm (W.nn (WD.done (by kernel_rfl) (pI (jH (g9 3 ?_)))))))))))
  refine W.sub (bB.cons _) (g9 2 ?_)
  exact⟨Le.rfl,(q+1,LI,auP),ct,⟨rfl,(by have h:=auQ;rw [abH aa Qs]at h;exact h),aa⟩,aa⟩
 refine g9 6 ?_
 have adL:=lE
 rw [fI (by omega:(aM l).length≤q)]at adL
 refine g9 13 ?_
 refine WC.loop (X:=Nat) (fun k=>[(9,aK ((iy (oQ P (aM l)) k))),(40,aK k),(6,LI),(38,LI),(39,aK (((Db P (aM l))).length))]) (fun k _ Ml=>Ml=(M_6++[])∧k≤P.length+1) (fun k=>P.length+1-k) 0 ct ?_ ?_
 ·exact⟨rfl,aa⟩
 rintro k aRo G39 _ jL ⟨rfl,hk⟩
 have hbl:=Gi (oQ P (aM l)) k
 have aHl:=Dc P (aM l)
 refine g9 6 ?_
 refine WC.cd (fun h41 p41=> ?_) (fun h41 p41=> ?_)
 ·refine g9 7 ?_
  refine(adL.mono jL).a2 (i:=k) aa (fun aJk aRp=>(W.ok (aV (i:=k) dG cV (adL.mono jL) rfl rfl ⟨aa,aa⟩) (W.ok (dQ (vs:=kB) cV aJk ah rfl rfl rfl (by simp)) (g9 9 ?_))))
  refine(adL.mono jL).a2 (i:=(iy (oQ P (aM l)) k)) aa (fun aBj aRq=>(W.ok (aV (i:=(iy (oQ P (aM l)) k)) dG cV (adL.mono jL) rfl rfl ⟨rfl,aa⟩) (W.ok (dQ (vs:=kB) cV aBj ah rfl rfl rfl (by simp)) (g9 3 ?_))))
  refine WC.cd (fun h50 p50=> ?_) (fun h50 p50=> ?_)
  ·refine g9 11 ?_
   exact⟨Le.rfl,k+1,⟨(iv (by rw [amO (by rw [sQ,sQ]at p50;omega)])),eqv,eqv,eqv,eqv,trivial⟩,⟨rfl,aa⟩,aa⟩
  refine g9 8 ?_
  exact⟨Le.rfl,k+1,⟨(iv (by rw [amP (by rw [sQ,sQ]at p50;omega)])),eqv,eqv,eqv,eqv,trivial⟩,⟨rfl,aa⟩,aa⟩
 refine g9 14 ?_
 show Value.tuple #[Value.int _ _,Value.bool _]=_
 rw [KS aa,show k=P.length+1 by omega]

theorem Br(aQ:az dy G dH l)(zq:af)(zr:af)(ao:Bool)(ni:∀m∈l,m.key.b.size<140737488355328):
    Fc Tryz.prog 116 [dH,.agg #[sV zq.b,sV zr.b,.bool ao]] G [] (fun v G' M'=>M'=[]∧∃u0,v=u0∧az dy G' u0 (aB ⟨zq,zr,ao⟩ l)):=by
 obtain⟨dz,dA,rfl⟩:=aQ.form
 have hl:=aQ.bq
 have hlb:l.length*72≤140737488355328:=aQ.bytes
 refine Fc.go [.tmp 4] Tryz.func116 Tryz.ntmps116 rfl (fun w0=>(g9 2 ?_))
 refine W.box (L:=[sV _,sV _,.bool _]) rfl rfl (fun b1=>(g9 17 ?_))
 refine WC.loop (X:=(Nat)×Value×MH) (fun i=>[(10,lV dz l.length dA),(11,aK l.length),(12,aK i.1),(3,aC b1),(5,i.2.1)]) (fun i G Ml=>Ml=((b1,ar 73 [sV zq.b,sV zr.b,.bool ao])::(i.2.2++[]))∧aE dy 81 G i.2.1 (aB ⟨zq,zr,ao⟩ (l.take i.1)) i.2.2∧i.1≤l.length) (fun i=>l.length-i.1) (0,lV none 0 0,([]:MH)) ct ?_ ?_
 ·exact⟨rfl,(by exact aE.nil),aa⟩
 rintro⟨i,Co,wB⟩ gG2 G2 _ lJ ⟨rfl,gj,hi⟩
 try dsimp only at gj hi
 have qc:=zH (s:=⟨zq,zr,ao⟩) (l:=l.take i)
 have htl:(l.take i).length≤i:=by simp;omega
 refine WC.fr (f:=gk gG2 [(10,lV dz l.length dA),(11,aK l.length),(12,aK i),(3,aC b1),(5,Co)]) rfl (g9 6 ?_)
 refine WC.cd (fun xa pG=> ?_) (fun xa pG=> ?_)
 ·refine g9 6 ?_
  refine(aQ.mono lJ).a2 (i:=i) aa (fun he3 hm4=>(g9 2 ?_))
  refine W.alloc gL (fun b8=>(g9 7 ?_))
  refine W.aH (Kh _ _ _ _ _ _ _ _ _ (ni _ (bN _))) rfl (g9 3 ?_)
  refine W.alloc gL (fun b9=>(g9 9 ?_))
  refine WC.cond rfl (fun ahO=> ?_) (fun ahO=> ?_)
  ·refine g9 3 ?_
   refine W.lit (e:=dy) (l:=[(aD.clip l[i] ⟨zq,zr,ao⟩).1]) (css:=[[iV _,iV _,sV _,sV _,.bool _,sV _]]) gQ im gL rfl rfl rfl rfl rfl rfl ⟨⟨rfl,PH (by assumption)⟩,trivial⟩ (fun aRr TX tI Ds=>(W.app (e:=dy) gQ im gL rfl BL rfl rfl ((gj.mono tI)) (Ds) (ag (ag (ag ah))) (by show((aB ⟨zq,zr,ao⟩ (l.take i)).length+1)*72≤_;omega) (fun v11 HS O3=>(W.perm (ag (ag (ag ah))).symm (g9 7 ?_)))))
   refine W.sub ((bB.cons _).cons _) (g9 2 ?_)
   exact⟨tI,(i+1,v11,HS),ct,⟨rfl,(by have h:=O3;rw [aqV aa ahO];exact h),aa⟩,aa⟩
  refine g9 6 ?_
  refine W.sub ((bB.cons _).cons _) (g9 2 ?_)
  exact⟨Le.rfl,(i+1,Co,wB),ct,⟨rfl,(by have h:=gj;rw [aqW aa ahO];exact h),aa⟩,aa⟩
 refine g9 11 ?_
 refine WC.du gj (ag ah) (fun G14 vY HT=>(g9 2 ?_))
 refine⟨rfl,_,rfl,?_⟩
 ·have h:=HT;rw [fI aa]at h;exact h

variable {M:MH} {b:Nat} {cs:List Value} {l:List Nd} {x:Nd}
theorem auR{c:aX}(h:cz 98 4 3 149 100 b c G l M)(hx:cc G cs x):Fc Tryz.prog 79 [aC b,.agg (List.toArray cs)] G M (fun v G' M'=>v=iV (Iq l x).1∧cz 98 4 3 149 100 b c G' (Iq l x).2 M'):=by
  obtain⟨hc,hl,b2,Ma,rfl,hA⟩:=h
  exact(adM hA hx).mono fun v G' M' hle ⟨e1,e2⟩=>⟨by rw [e1,XD hl],hc,by rw [amr];exact hl,e2.cast (ax Prod.snd (XD hl x))⟩
theorem V6{c:aX}(h:cz 98 4 3 149 100 b c G l M)(hx:cc G cs x):Fc Tryz.prog 39 [aC b,.agg (List.toArray cs)] G M (fun v G' M'=>v=.tuple #[iV (xq c.bp.toNat l x).1.1,iV (xq c.bp.toNat l x).1.2]∧cz 98 4 3 149 100 b c G' (xq c.bp.toNat l x).2 M'):=by
  obtain⟨hc,hl,b2,Ma,rfl,hA⟩:=h
  exact(V7 hA hx).mono fun v G' M' hle ⟨e1,e2⟩=>⟨by rw [e1,PZ hl],hc,afS hl,e2.cast (ax Prod.snd (PZ hl x))⟩
theorem pq{c:aX}(h:cz 98 4 3 149 100 b c G l M)(i:Int):Fc Tryz.prog 88 [aC b,iV i] G M (fun v G' M'=>(∃cs,v=.tuple #[.agg (List.toArray cs),.bool (decide (0≤i∧i<l.length))]∧cc G' cs (ai l i))∧M'=M):=by
  obtain⟨hc,hl,b2,Ma,rfl,hA⟩:=h
  exact(V8 (c:=c) hA i).mono fun v G' M' hle ⟨⟨cs,e1,e2⟩,e3⟩=>⟨⟨cs,by rw [e1,Oa hl],e2.of (ajt hl i)⟩,e3⟩
theorem ahP{c:aX}(h:cz 98 4 3 149 100 b c G l M):Fc Tryz.prog 110 [aC b] G M (fun v G' M'=>az dm G' v l∧M'=M):=by
  obtain⟨hc,hl,b2,Ma,rfl,hA⟩:=h
  exact(ahQ (c:=c) hA).mono fun v G' M' hle ⟨e1,e2⟩=>⟨az.cast e1 (afT hl),e2⟩
theorem anQ{c:aX}(h:cz 98 4 3 149 100 b c G l M):Fc Tryz.prog 123 [aC b] G M (fun v G' M'=>v=aK (c.bp.toNat-l.length)∧M'=M):=by
  obtain⟨hc,hl,b2,Ma,rfl,hA⟩:=h
  exact(anR (c:=c) hA).mono fun v G' M' hle ⟨e1,e2⟩=>⟨by rw [e1];have h1:=qO (jT c.bp.toNat l).2;rw [aa4 hl,lc,Eu hl]at h1;exact ax (fun n:Nat=>Value.int .i64 (n:Int)) aa,e2⟩
theorem Ai(n:Int)(a:Int)(b:Int):
    Fc Tryz.prog 77 [iV n,iV a,iV b] G [] (fun v _ _=>v=.bool (decide (a≤n∧n≤b))):=by
 refine Fc.go [.tmp 6] Tryz.func77 Tryz.ntmps77 rfl (fun w0=>(g9 11 ?_))
 refine W.sd 10 (fun h9 p9=> ?_) (fun h9 p9=> ?_)
 ·refine g9 12 ?_
  refine ax Value.bool ?_
  first|(simp_all;done)|(simp_all;omega)|(simp_all;intros;omega)
 refine g9 9 ?_
 refine ax Value.bool ?_
 first|(simp_all;done)|(simp_all;omega)|(simp_all;intros;omega)

theorem adN(fh:Int)(dF:Int)(iS:Int)(cX:Int)(fF:Int):
    Fc Tryz.prog 37 [.agg #[iV fh,iV dF,iV iS,iV cX,iV fF]] G [] (fun v _ _=>v=.bool (decide (lY (⟨fh,dF,iS,cX,fF⟩:aX)))):=by
 refine Fc.go [.tmp 2] Tryz.func37 Tryz.ntmps37 rfl (fun w0=>(g9 2 ?_))
 refine W.box (L:=[iV _,iV _,iV _,iV _,iV _]) rfl rfl (fun b1=>(g9 7 ?_))
 refine W.aH (Ai _ _ _) rfl (W.mv ?_)
 refine W.sp 6 rfl (fun h5=> ?_) (fun h5=> ?_)
 ·refine g9 5 ?_
  refine W.aH (Ai _ _ _) rfl (g9 2 ?_)
  refine W.sp 11 rfl (fun h9=> ?_) (fun h9=> ?_)
  ·refine g9 5 ?_
   refine W.aH (Ai _ _ _) rfl (g9 2 ?_)
   refine W.sp 16 rfl (fun zu=> ?_) (fun zu=> ?_)
   ·refine g9 5 ?_
    refine W.aH (Ai _ _ _) rfl (g9 2 ?_)
    refine W.sp 21 rfl (fun Cm=> ?_) (fun Cm=> ?_)
    ·refine g9 5 ?_
     refine W.aH (Ai _ _ _) rfl (g9 6 ?_)
     refine ax Value.bool ?_
     rw [eZ,ia]
     simp only [lY]
     first|(simp_all;done)|(simp_all;omega)|(simp_all;intros;omega)
    refine g9 9 ?_
    refine ax Value.bool ?_
    rw [eZ,ia]
    simp only [lY]
    first|(simp_all;done)|(simp_all;omega)|(simp_all;intros;omega)
   refine g9 14 ?_
   refine ax Value.bool ?_
   rw [eZ,ia]
   simp only [lY]
   first|(simp_all;done)|(simp_all;omega)|(simp_all;intros;omega)
  refine g9 19 ?_
  refine ax Value.bool ?_
  rw [eZ,ia]
  simp only [lY]
  first|(simp_all;done)|(simp_all;omega)|(simp_all;intros;omega)
 refine g9 24 ?_
 refine ax Value.bool ?_
 rw [eZ,ia]
 simp only [lY]
 first|(simp_all;done)|(simp_all;omega)|(simp_all;intros;omega)

theorem ahR(s:Int)(hs:i64 s):
    Fc Tryz.prog 40 [iV s] G [] (fun v G' M'=>M'=[]∧∃u0,v=.agg (List.toArray u0)∧cc G' u0 (lZ s)):=by
 refine Fc.go [.cell 2 98] Tryz.func40 Tryz.ntmps40 rfl (fun w0=>(g9 2 ?_))
 refine W.alloc cK (fun b2=>(g9 5 ?_))
 refine W.ok (aY (L:=[iV _,iV _,lV _ _ _,lV _ _ _,sV _,.bool _,iV _,iV _,lV _ _ _,lV _ _ _]) HN cK rfl rfl rfl) (g9 5 ?_)
 refine⟨rfl,_,rfl,?_⟩
 ·exact⟨_,_,_,_,_,_,_,_,rfl,az.nil,az.nil,az.nil,az.nil,(amv hs)⟩

theorem anS(fh:Int)(dF:Int)(iS:Int)(cX:Int)(fF:Int):
    Fc Tryz.prog 17 [.agg #[iV fh,iV dF,iV iS,iV cX,iV fF]] G [] (fun v G' M'=>(¬lY (⟨fh,dF,iS,cX,fF⟩:aX)∧v=.tuple #[.pointer none,iV 2]∧M'=[])∨(lY (⟨fh,dF,iS,cX,fF⟩:aX)∧∃b,v=.tuple #[aC b,iV 0]∧cz 98 4 3 149 100 b (⟨fh,dF,iS,cX,fF⟩:aX) G' [lZ 0] M')):=by
 refine Fc.go [.tmp 2,.tmp 3] Tryz.func17 Tryz.ntmps17 rfl (fun w0=>(g9 2 ?_))
 refine W.box (L:=[iV _,iV _,iV _,iV _,iV _]) rfl rfl (fun b3=>(g9 8 ?_))
 refine W.aH (adN _ _ _ _ _) rfl (g9 3 ?_)
 refine WC.cond rfl (fun h9=> ?_) (fun h9=> ?_)
 ·refine g9 9 ?_
  exact .inl ⟨by simpa using h9,rfl,rfl⟩
 refine g9 6 ?_
 refine W.call (Mp:=[]) (anL (cX)) rfl ah ?_
 intro v7 G4 Ms6 Jh q5
 obtain⟨bAr,eV9,hA9⟩:∃b,v7=.tuple #[aC b,iV 0]∧bY dm 98 4 3 149 b G4 (List.replicate (cX).toNat Nd.zero,List.replicate (cX).toNat false) Ms6:=Or.elim q5 (fun hz=>absurd (by have h8:lY (⟨fh,dF,iS,cX,fF⟩:aX):=(by simpa using h9);unfold lY at h8;dsimp only at h8;omega) hz.1) (fun hz=>hz.2)
 subst eV9
 refine W.perm (ag ah).symm (g9 21 ?_)
 refine W.ok (aY (L:=[iV _,iV _,iV _,iV _,iV _,.pointer _]) aCe aCd rfl rfl rfl) (W.box (L:=[iV _,iV _,iV _,iV _,iV _,.pointer _]) rfl rfl (fun b8=>(g9 6 ?_)))
 refine W.cN (ahR _ ⟨by decide,by decide⟩) rfl (fun _ _ _ _ _ _ _ _ G9 Nu auS auT auU auV anT=>(W.call (Mp:=((b8,ar 100 [iV fh,iV dF,iV iS,iV cX,iV fF,aC bAr])::Ms6)) (Mr:=((b3,ar 23 [iV fh,iV dF,iV iS,iV cX,iV fF])::[])) (V7 (c:=(⟨fh,dF,iS,cX,fF⟩:aX)) (bY.mono Nu hA9) (gp auS auT auU auV anT)) rfl (((ag ah).cons _).trans ah) ?_))
 intro v18 G15 adO B9 RC
 refine match RC with|⟨z9,aJl⟩=> ?_
 subst z9
 refine W.perm (ag ah).symm (g9 15 ?_)
 refine⟨.inr rfl,[_,_],⟨rfl,rfl,trivial⟩,_,bB.cons _,?_⟩
 have hC:lY (⟨fh,dF,iS,cX,fF⟩:aX):=by simpa using h9
 have hE:=PZ (n:=cX.toNat) (l:=[]) (by simp) (lZ 0)
 rw [(aa7 (n:=cX.toNat) (by unfold lY at hC;dsimp only at hC;omega)).2,amp]at hE
 have hS:=aJl
 rw [hE]at hS
 exact .inr ⟨hC,_,by rw [hE];rfl,hC,by show 1≤cX.toNat;unfold lY at hC;dsimp only at hC;omega,by rw [cx];exact hS⟩

theorem ahS{adQ:Value}{ls:List (List aD)}(M9:az (JK dy) G adQ ls)(ht:px ls≤100000000)(hln:ls.length≤100000):
    Fc Tryz.prog 117 [adQ] G [] (fun v G' M'=>M'=[]∧∃u0,v=u0∧az dy G' u0 (dg ls)):=by
 obtain⟨Su,Sv,rfl⟩:=M9.form
 have hl:=M9.bq
 refine Fc.go [.tmp 2] Tryz.func117 Tryz.ntmps117 rfl (fun w0=>(g9 7 ?_))
 refine W.HR (e:=sj) pF jq vD rfl (fun v1 H0 Nm=> ?_)
 have q7:=Nm.form
 refine match q7 with|⟨Za,Zb,CI⟩=> ?_
 subst CI
 refine W.box (L:=[lV _ _ _]) rfl rfl (fun b8=>(g9 5 ?_))
 have m9:Js b8 235 G [] ((b8,ar 235 [lV Za 0 Zb])::H0):=⟨(fun h hh=>by cases hh),_,_,rfl,Nm⟩
 refine WC.perm (M':=(((b8,ar 235 [lV Za 0 Zb])::H0)++[])) (ah.symm.trans ((ah.cons _).trans ah)) (g9 7 ?_)
 refine WC.loop (X:=(Nat×List Hd)×MH) (fun x=>[(12,aK x.1.1),(10,lV Su ls.length Sv),(11,aK ((ls).length)),(3,aC b8)]) (fun x G Ml=>Ml=(x.2++[])∧Js b8 235 G (x.1.2) x.2∧x.1.1≤ls.length∧lu Hd.lt x.1.2∧x.1.2.Perm (hD 0 (ls.take x.1.1))) (fun x=>ls.length-x.1.1) (((0,[]):Nat×List Hd),((b8,ar 235 [lV Za 0 Zb])::H0)) ct ?_ ?_
 ·exact⟨rfl,(by simpa using m9),kW _,(fun c h0 hc _=>by simp at hc),by simp [hD]⟩
 rintro⟨⟨k,H⟩,Y8⟩ adR TX _ tI ⟨rfl,wg,hk,hH,hp⟩
 try dsimp only at wg hk hH hp
 have hHl:=hp.length_eq
 have aJm:=P4 (ls.take k) 0
 have aRs:(ls.take k).length≤k:=by simp;omega
 refine WC.fr (f:=gk adR [(12,aK k),(10,lV Su ls.length Sv),(11,aK ((ls).length)),(3,aC b8)]) rfl (g9 6 ?_)
 refine WC.cd (fun xa pG=> ?_) (fun xa pG=> ?_)
 ·try dsimp only at pG
  refine g9 7 ?_
  have yg:=(M9.mono tI).at (i:=(k)) aa
  refine match yg with|⟨_,akw,⟨_,z3,adS⟩⟩=> ?_
  subst z3
  obtain⟨auW,auX,rfl⟩:=adS.form
  refine W.ok (bd (i:=(k)) J6 T7 (M9.mono tI) rfl rfl ⟨aa,aa⟩) (g9 12 ?_)
  refine WC.cd (fun Cm xb=> ?_) (fun Cm xb=> ?_)
  ·try dsimp only at xb
   refine g9 2 ?_
   refine W.ok (mM afk rfl) (g9 2 ?_)
   refine W.ok (aY (L:=[lV _ _ _,iV _]) aCf vD rfl rfl rfl) (W.ok (mM OS rfl) (W.call (Mp:=Y8) (Ku (vh (b:=b8) (Tb:=235)) wg (a:=((ls[k],(k:Int)):Hd)) ⟨⟨_,_,rfl,adS,⟨by dsimp only;omega,by dsimp only;omega⟩⟩,by dsimp only;omega⟩ aa (fun hl h=>MT hl h)) rfl ah ?_))
   intro _ G15 adO B9 RC
   refine match RC with|⟨z9,aJn⟩=> ?_
   subst z9
   refine g9 8 ?_
   exact⟨B9,(((k+1,qM Hd.lt H ((ls[k],(k:Int)):Hd)):Nat×List Hd),adO),ct,⟨rfl,(by simpa using aJn),by dsimp only;omega,(AT Hd.lo hH _).1,(AT Hd.lo hH _).2.trans (amw aa hp aa)⟩,by dsimp only;omega⟩
  try dsimp only at xb
  refine g9 8 ?_
  exact⟨Le.rfl,(((k+1,H):Nat×List Hd),Y8),ct,⟨rfl,(by simpa using wg),by dsimp only;omega,hH,amx aa hp aa⟩,by dsimp only;omega⟩
 try dsimp only at pG
 refine g9 12 ?_
 refine WC.loop (X:=(Ls×List Hd×List aD)×Value×MH×MH) (fun x=>[(6,x.2.1),(3,aC b8)]) (fun x G Ml=>Ml=(x.2.2.1++(x.2.2.2++[]))∧aE dy 81 G x.2.1 (x.1.2.2) x.2.2.1∧Js b8 235 G (x.1.2.1) x.2.2.2∧lu Hd.lt x.1.2.1∧x.1.2.1.Perm (hD 0 x.1.1)∧x.1.2.2++dg x.1.1=dg ls∧x.1.1.length=ls.length) (fun x=>px x.1.1) (((ls,H,[]):Ls×List Hd×List aD),lV none 0 0,([]:MH),Y8) ct ?_ ?_
 ·exact⟨rfl,(by simpa using aE.nil),(by simpa using wg),hH,by rw [fI aa]at hp;exact hp,by simp,rfl⟩
 rintro⟨⟨cur,H,out⟩,LI,M_6,Y8⟩ ai8 G21 _ uM ⟨rfl,lE,wg,hH,hp,hm,qc⟩
 try dsimp only at lE wg hH hp hm qc
 have AK:=ax List.length hm
 rw [bP]at AK
 have aJo:=afV ls
 have hHl:=hp.length_eq
 have aJm:=P4 cur 0
 refine WC.fr (f:=gk ai8 [(6,LI),(3,aC b8)]) rfl (g9 2 ?_)
 refine match wg with|⟨aDD,pJ,eE,uo,auY⟩=> ?_
 subst uo
 refine WC.perm (M':=((b8,ar 235 [pJ])::(M_6++(eE++[])))) (pmB ah).symm ?_
 refine match auY.form with|⟨hU,hZ,dO⟩=> ?_
 subst dO
 refine g9 4 ?_
 refine W.call (Mp:=eE) (ada auY) rfl (ag (bJ ah)) ?_
 intro _ G22 ach I6 Yo
 refine match Yo with|⟨vg,xW⟩=> ?_
 subst vg
 subst xW
 refine W.perm (ag ah).symm (g9 3 ?_)
 refine WC.cd (fun yf TP=> ?_) (fun yf TP=> ?_)
 ·try dsimp only at TP
  obtain⟨b,hb,Sw⟩:=ard hH hp aa
  have e9:List.drop 1 (List.take (nth H 0).1.length (nth H 0).1)=List.drop 1 (cur[b]'hb.lt):=by rw [rT,Sw]
  have Gg:=(Et Hd.lo hH aa).2.2
  refine g9 4 ?_
  have V3:Js b8 235 G22 H ((b8,ar 235 [lV hU H.length hZ])::eE):=⟨aDD,_,_,rfl,(auY.mono I6)⟩
  refine WC.perm (M':=(((b8,ar 235 [lV hU H.length hZ])::eE)++(M_6++[]))) (ah.symm.trans ((ah.cons _).trans ah)) (g9 2 ?_)
  refine W.ok (mM afk rfl) (W.call (Mp:=((b8,ar 235 [lV hU H.length hZ])::eE)) (Px (vh (b:=b8) (Tb:=235)) V3 aa) rfl ah ?_)
  intro v31 G28 adK atL q29
  refine match q29 with|⟨azh,aBk⟩=> ?_
  refine match azh with|⟨⟨_,_,tp,Zt,auZ⟩,aNS⟩=> ?_
  subst tp
  refine W.ok (Ic OS rfl) (W.alloc vD (fun b35=>(g9 8 ?_)))
  refine Zt.a2 (i:=0) aa (fun aRt aJp=>(W.ok (bd (i:=0) gQ im Zt rfl rfl ⟨aa,aa⟩) (g9 1 ?_)))
  refine W.lit (e:=dy) (l:=[((((nth H 0).1))[0])]) (css:=[[iV _,iV _,sV _,sV _,.bool _,sV _]]) gQ im gL rfl rfl rfl rfl rfl rfl ⟨⟨rfl,aJp⟩,trivial⟩ (fun ajm G41 BR BU=>(W.app (e:=dy) gQ im gL rfl BL rfl rfl ((lE.mono aO)) (BU) (ag (bJ ah)) (by show(_+1)*72≤_;omega) (fun v42 Ie Ig=>(W.perm (ag ah).symm ?_))))
  have PE:=Ig.form
  refine match PE with|⟨CO,CP,zC⟩=> ?_
  subst zC
  refine g9 7 ?_
  refine W.slR (1) (((nth H 0).1).length) gQ im (Zt.mono BR) rfl ⟨_,_,rfl,aa⟩ rfl aa aa (fun v50 aBl=> ?_)
  have q54:=aBl.form
  refine match q54 with|⟨aRu,aRv,DN⟩=> ?_
  subst DN
  refine g9 12 ?_
  refine WC.cd (fun RU zb=> ?_) (fun RU zb=> ?_)
  ·try dsimp only at zb
   refine g9 2 ?_
   refine W.ok (mM afk rfl) (g9 1 ?_)
   refine W.ok (mM OS rfl) (W.call (Mp:=adK) (Ku (vh (b:=b8) (Tb:=235)) ((vh (b:=b8) (Tb:=235)).mono BR aBk) (a:=(((((nth H 0).1).take ((nth H 0).1).length).drop 1,(nth H 0).2):Hd)) ⟨⟨_,_,rfl,aBl,auZ⟩,by dsimp only;omega⟩ aa (fun hl h=>MT hl h)) rfl (ag (bJ ah)) ?_)
   intro _ G55 yJ B7 q56
   refine match q56 with|⟨ast,aJq⟩=> ?_
   subst ast
   refine W.perm (ag ah).symm (W.sub (bB.cons _) (W.perm (M':=(Ie++(yJ++[]))) ((bO _ ((bO _ ah).trans ah)).trans (bJ ah)) (g9 3 ?_)))
   exact⟨aO,(((cur.set b ((cur[b]'hb.lt).drop 1),qM Hd.lt (oE Hd.lt H) (((((nth H 0).1).take ((nth H 0).1).length).drop 1,(nth H 0).2):Hd),out++[(nth H 0).1[0]'(by first|assumption|(rw [Sw];exact hb.ne))]):Ls×List Hd×List aD),lV CO ((out++[((((nth H 0).1))[0])])).length CP,Ie,yJ),ct,⟨rfl,(by simpa using (Ig.mono B7)),(by simpa using aJq),(aa8 hH hp aa hb Sw (el:=(((((nth H 0).1).take ((nth H 0).1).length).drop 1,(nth H 0).2):Hd)) (by rw [e9,Sw]) (by dsimp only;omega)).1,(aa8 hH hp aa hb Sw (el:=(((((nth H 0).1).take ((nth H 0).1).length).drop 1,(nth H 0).2):Hd)) (by rw [e9,Sw]) (by dsimp only;omega)).2,by dsimp only;rw [←hm,yB hb,ci,wv];simp only [Sw],by dsimp only;rw [cg];exact qc⟩,by dsimp only;have:=wS hb;omega⟩
  try dsimp only at zb
  refine WC.sub (bB.cons _) (g9 3 ?_)
  exact⟨aO,(((cur.set b ((cur[b]'hb.lt).drop 1),oE Hd.lt H,out++[(nth H 0).1[0]'(by first|assumption|(rw [Sw];exact hb.ne))]):Ls×List Hd×List aD),lV CO ((out++[((((nth H 0).1))[0])])).length CP,Ie,adK),ct,⟨rfl,(by simpa using Ig),(by simpa using ((vh (b:=b8) (Tb:=235)).mono BR aBk)),(aa9 hH hp aa hb Sw (by rw [e9]at zb;omega)).1,(aa9 hH hp aa hb Sw (by rw [e9]at zb;omega)).2,by dsimp only;rw [←hm,yB hb,ci,wv];simp only [Sw],by dsimp only;rw [cg];exact qc⟩,by dsimp only;have:=wS hb;omega⟩
 try dsimp only at TP
 refine g9 11 ?_
 refine WC.du (lE.mono I6) (ag (bJ ah)) (fun G61 adT Sx=>(g9 2 ?_))
 refine⟨rfl,_,rfl,?_⟩
 ·exact az.cast Sx (by rw [←hm,aba hp aa,cx])

theorem ahT{Cv:Value}{p:List af}(jr:az cy G Cv p){mJ:Value}{c:List Int}(gd:az bE G mJ c):
    Fc Tryz.prog 105 [Cv,mJ] G [] (fun v G' M'=>M'=[]∧∃r:List af×List Int×af×List af×List Int×Bool,r=je p c∧∃u0 u1 u2 u3,v=.tuple #[u0,u1,sV (af.b (r.2.2.1)),u2,u3,.bool (r.2.2.2.2.2)]∧az cy G' u0 (r.1)∧az bE G' u1 (r.2.1)∧az cy G' u2 (r.2.2.2.1)∧az bE G' u3 (r.2.2.2.2.1)):=by
 obtain⟨LQ,LR,rfl⟩:=jr.form
 obtain⟨gR,gS,rfl⟩:=gd.form
 have hp:=jr.bq
 have hc:=gd.bq
 refine Fc.go [.tmp 4,.tmp 5,.tmp 6,.tmp 7,.tmp 8,.tmp 9] Tryz.func105 Tryz.ntmps105 rfl (fun w0=>(g9 17 ?_))
 refine W.sd 14 (fun xa pG=> ?_) (fun xa pG=> ?_)
 ·refine g9 23 ?_
  refine⟨rfl,_,(Ky aa).symm,_,_,_,_,rfl,?_,?_,?_,?_⟩
  ·exact az.nil
  ·exact az.nil
  ·exact az.nil
  exact az.nil
 refine g9 15 ?_
 refine WC.cn (fun j1 nh=> ?_) (fun j1 nh=> ?_)
 ·refine g9 13 ?_
  refine⟨rfl,_,(Ky aa).symm,_,_,_,_,rfl,?_,?_,?_,?_⟩
  ·exact az.nil
  ·exact az.nil
  ·exact az.nil
  exact az.nil
 refine g9 7 ?_
 refine W.ok (zE rfl rfl aa aa aa) (g9 4 ?_)
 refine WC.dw bB (d9 [0,1,2] ?_)
 have FZ:=az.slice jr (lo:=0) (hi:=((c.length+1) / 2)-1) aa aa
 refine WD.tk 3 rfl (ok_slice (0) (((c.length+1) / 2)-1) dL gi jr rfl rfl ⟨_,_,rfl,aa⟩ ⟨aa,aa⟩) (d9 [5,6] ?_)
 have si:=az.slice gd (lo:=0) (hi:=((c.length+1) / 2)) aa aa
 refine WD.tk 7 rfl (ok_slice (0) (((c.length+1) / 2)) dG cV gd rfl rfl ⟨_,_,rfl,aa⟩ ⟨aa,aa⟩) (d9 [9,10,11] ?_)
 refine jr.a1 (i:=((c.length+1) / 2)-1) aa (fun he3=>(WD.tk 12 rfl (bd (i:=((c.length+1) / 2)-1) dL gi jr rfl rfl ⟨aa,aa⟩) (d9 [13,14,15] ?_)))
 have hs6:=az.slice jr (lo:=((c.length+1) / 2)) (hi:=p.length) aa aa
 refine WD.tk 16 rfl (ok_slice (((c.length+1) / 2)) (p.length) dL gi jr rfl ⟨_,_,rfl,aa⟩ rfl ⟨aa,aa⟩) (d9 [18,19] ?_)
 have hs7:=az.slice gd (lo:=((c.length+1) / 2)) (hi:=c.length) aa aa
 refine WD.tk 20 rfl (ok_slice (((c.length+1) / 2)) (c.length) dG cV gd rfl ⟨_,_,rfl,aa⟩ rfl ⟨aa,aa⟩) (WD.a1 4 rfl (W.cS (x5 FZ) rfl (fun Zr Zs G8 H9 qd=>(W.nn (WD.a1 8 rfl (W.cS (x6 (si.mono H9)) rfl (fun adU adV G15 B9 rq=>(W.nn (WD.a1 17 rfl (W.cS (x5 (hs6.mono aO)) rfl (fun au0 au1 G22 I6 au2=>(W.nn (WD.a1 21 rfl (W.cS (x6 (hs7.mono aO)) rfl (fun aJr aJs Jl tH aJt=>(W.nn (d9 [22,23,24,25,26,27] ?_)))))))))))))))))
 refine g9 4 ?_
 refine⟨rfl,_,(Kz aa).symm,_,_,_,_,rfl,?_,?_,?_,?_⟩
 ·exact az.cast ((qd.mono aO)) (by simp)
 ·exact az.cast ((rq.mono aO)) (by simp)
 ·exact az.cast ((au2.mono tH)) (by simp)
 exact az.cast (aJt) (by simp)

variable {a:Nd} {FF:List Value}
theorem adW(cJ:cc G FF a)(ni:∀m∈a.aj,m.key.b.size<140737488355328):
    Fc Tryz.prog 180 [.agg (List.toArray FF)] G [] (fun v G' M'=>M'=[]∧∃r:Nd×Nd×af×Bool,r=ch a∧∃u0 u1,v=.tuple #[.agg (List.toArray u0),.agg (List.toArray u1),sV (af.b (r.2.2.1)),.bool (r.2.2.2)]∧cc G' u0 (r.1)∧cc G' u1 (r.2.1)):=by
 obtain⟨_,_,_,_,_,_,_,_,rfl,ru,rv,mE,nq,iM⟩:=cJ
 refine Fc.go [.cell 2 98,.cell 3 98,.tmp 4,.tmp 5] Tryz.func180 Tryz.ntmps180 rfl (fun w0=>(g9 2 ?_))
 refine W.box (L:=[iV _,iV _,lV _ _ _,lV _ _ _,sV _,.bool _,iV _,iV _,lV _ _ _,lV _ _ _]) rfl rfl (fun b36=>(W.alloc cK (fun b37=>(W.alloc cK (fun b38=>(g9 5 ?_))))))
 refine WC.dw ((bB.k9.cons _).cons _) (d9 [0,1,2,3] ?_)
 refine g9 10 ?_
 refine WC.cd (fun ir ry=> ?_) (fun ir ry=> ?_)
 ·refine g9 4 ?_
  refine W.call (Mp:=[]) (Lj nq) rfl ah ?_
  intro _ G39 _ jL q42
  refine match q42 with|⟨Ah,_,Dw,_,_,Jp,V9,BU⟩=> ?_
  subst Ah
  subst Dw
  subst Jp
  have q47:=V9.form
  refine match q47 with|⟨aJu,aJv,ac6⟩=> ?_
  subst ac6
  have Xo:=BU.form
  refine match Xo with|⟨aJw,aJx,adX⟩=> ?_
  subst adX
  refine g9 14 ?_
  refine WC.dw ((bB.k9.cons _).cons _) (d9 [2,3] ?_)
  refine WD.any [0,1] (by kernel_rfl) rfl ⟨WD.ap ?_,WD.ap ?_,trivial⟩
  ·refine g9 1 ?_
   refine W.nn ?_
   refine WD.any [1,4] (by kernel_rfl) rfl ⟨WD.ap ?_,WD.ap ?_,trivial⟩
   ·refine g9 1 ?_
    refine W.nn (d9 [4,5,6,7] ?_)
    refine g9 5 ?_
    refine⟨rfl,_,(mO ry).symm,_,_,rfl,?_,?_⟩
    ·exact⟨_,_,_,_,_,_,_,_,rfl,(ru.mono jL),(rv.mono jL),(mE.mono jL),V9,iM⟩
    exact⟨_,_,_,_,_,_,_,_,rfl,(ru.mono jL),(rv.mono jL),(mE.mono jL),BU,iM⟩
   refine g9 1 ?_
   refine W.nn (WD.a1 1 rfl (g9 1 ?_))
   refine W.nn (d9 [5,6,7] ?_)
   refine g9 5 ?_
   refine⟨rfl,_,(mO ry).symm,_,_,rfl,?_,?_⟩
   ·exact⟨_,_,_,_,_,_,_,_,rfl,(ru.mono jL),(rv.mono jL),(mE.mono jL),V9,iM⟩
   exact⟨_,_,_,_,_,_,_,_,rfl,(ru.mono jL),(rv.mono jL),(mE.mono jL),BU,iM⟩
  refine g9 1 ?_
  refine W.nn (WD.a1 0 rfl (g9 1 ?_))
  refine W.nn (d9 [4,5,6,7] ?_)
  refine g9 5 ?_
  refine⟨rfl,_,(mO ry).symm,_,_,rfl,?_,?_⟩
  ·exact⟨_,_,_,_,_,_,_,_,rfl,(ru.mono jL),(rv.mono jL),(mE.mono jL),V9,iM⟩
  exact⟨_,_,_,_,_,_,_,_,rfl,(ru.mono jL),(rv.mono jL),(mE.mono jL),BU,iM⟩
 refine g9 9 ?_
 refine W.aH (FU ru rv) rfl (g9 3 ?_)
 refine WC.cond rfl (fun vU=> ?_) (fun vU=> ?_)
 ·refine WC.seq (WC.dw ((bB.k9.cons _).cons _) ?_)
  refine WD.any [0,1] (by kernel_rfl) rfl ⟨WD.ap ?_,WD.ap ?_,trivial⟩
  ·refine g9 1 ?_
   refine W.nn ?_
   refine WD.any [1,2] (by kernel_rfl) rfl ⟨WD.ap ?_,WD.ap ?_,trivial⟩
   ·refine g9 1 ?_
    refine W.nn (d9 [2,3,4,5] ?_)
    refine g9 5 ?_
    refine⟨rfl,_,(qN ry (by simpa using vU)).symm,_,_,rfl,?_,?_⟩
    ·exact(gp ru rv mE nq iM)
    exact(gp ru rv mE nq iM)
   refine g9 1 ?_
   refine W.nn (WD.a1 1 rfl (g9 1 ?_))
   refine W.nn (d9 [3,4,5] ?_)
   refine g9 5 ?_
   refine⟨rfl,_,(qN ry (by simpa using vU)).symm,_,_,rfl,?_,?_⟩
   ·exact(gp ru rv mE nq iM)
   exact(gp ru rv mE nq iM)
  refine g9 1 ?_
  refine W.nn (WD.a1 0 rfl (g9 1 ?_))
  refine W.nn (d9 [2,3,4,5] ?_)
  refine g9 5 ?_
  refine⟨rfl,_,(qN ry (by simpa using vU)).symm,_,_,rfl,?_,?_⟩
  ·exact(gp ru rv mE nq iM)
  exact(gp ru rv mE nq iM)
 refine g9 8 ?_
 refine W.call (Mp:=[]) (ahT ru rv) rfl ah ?_
 intro _ G50 _ VO Ys
 refine match Ys with|⟨Sy,_,adY,_,_,_,_,PA,DS,Wa,FC,Wb⟩=> ?_
 subst Sy
 subst adY
 subst PA
 have Xp:=DS.form
 refine match Xp with|⟨aJy,aJz,I9⟩=> ?_
 subst I9
 have q62:=Wa.form
 refine match q62 with|⟨au3,au4,acI⟩=> ?_
 subst acI
 have Yt:=FC.form
 refine match Yt with|⟨au5,au6,Ib⟩=> ?_
 subst Ib
 have q66:=Wb.form
 refine match q66 with|⟨aJA,aJB,Ih⟩=> ?_
 subst Ih
 refine g9 20 ?_
 refine WC.dw ((bB.k9.cons _).cons _) (d9 [0,1,2] ?_)
 refine WD.tk 3 rfl (aY (L:=[sV _,sV _,.bool _]) zm fR rfl rfl rfl) (d9 [5,6,7] ?_)
 refine WD.tk 8 rfl (aY (L:=[sV _,sV _,.bool _]) zm fR rfl rfl rfl) (WD.a1 4 rfl (W.cS (Br (mE.mono VO) af.nil _ _ (by assumption)) rfl (fun au7 au8 G67 MO ak9=>(W.nn (d9 [10] ?_)))))
 refine WD.a1 9 rfl (W.cS (Br (mE.mono aO) _ af.nil _ (by assumption)) rfl (fun aJC aJD G74 x7 adZ=>(W.nn (d9 [11,12,13] ?_))))
 refine g9 3 ?_
 refine WC.dw ((bB.k9.cons _).cons _) (d9 [2,3] ?_)
 refine WD.any [0,1] (by kernel_rfl) rfl ⟨WD.ap ?_,WD.ap ?_,trivial⟩
 ·refine g9 1 ?_
  refine W.nn ?_
  refine WD.any [1,4] (by kernel_rfl) rfl ⟨WD.ap ?_,WD.ap ?_,trivial⟩
  ·refine g9 1 ?_
   refine W.nn (d9 [4,5,6,7] ?_)
   refine g9 4 ?_
   refine⟨rfl,_,(mQ ry (by simpa using vU)).symm,_,_,rfl,?_,?_⟩
   ·exact⟨_,_,_,_,_,_,_,_,rfl,(DS.mono aO),(Wa.mono aO),(ak9.mono x7),(nq.mono aO),iM⟩
   exact⟨_,_,_,_,_,_,_,_,rfl,(FC.mono aO),(Wb.mono aO),adZ,(nq.mono aO),iM⟩
  refine g9 1 ?_
  refine W.nn (WD.a1 1 rfl (g9 1 ?_))
  refine W.nn (d9 [5,6,7] ?_)
  refine g9 4 ?_
  refine⟨rfl,_,(mQ ry (by simpa using vU)).symm,_,_,rfl,?_,?_⟩
  ·exact⟨_,_,_,_,_,_,_,_,rfl,(DS.mono aO),(Wa.mono aO),(ak9.mono x7),(nq.mono aO),iM⟩
  exact⟨_,_,_,_,_,_,_,_,rfl,(FC.mono aO),(Wb.mono aO),adZ,(nq.mono aO),iM⟩
 refine g9 1 ?_
 refine W.nn (WD.a1 0 rfl (g9 1 ?_))
 refine W.nn (d9 [4,5,6,7] ?_)
 refine g9 4 ?_
 refine⟨rfl,_,(mQ ry (by simpa using vU)).symm,_,_,rfl,?_,?_⟩
 ·exact⟨_,_,_,_,_,_,_,_,rfl,(DS.mono aO),(Wa.mono aO),(ak9.mono x7),(nq.mono aO),iM⟩
 exact⟨_,_,_,_,_,_,_,_,rfl,(FC.mono aO),(Wb.mono aO),adZ,(nq.mono aO),iM⟩

theorem DT(cJ:cc G FF a)(i:Int)(hi:i64 i)(ni:∀m∈a.aj,m.key.b.size<140737488355328):
    Fc Tryz.prog 154 [.agg (List.toArray FF),iV i] G [] (fun v G' M'=>M'=[]∧∃r:Nd×Nd×af×Bool,r=aS a i∧∃u0 u1,v=.tuple #[.agg (List.toArray u0),.agg (List.toArray u1),sV (af.b (r.2.2.1)),.bool (r.2.2.2)]∧cc G' u0 (r.1)∧cc G' u1 (r.2.1)):=by
 obtain⟨_,_,_,_,_,_,_,_,rfl,ru,rv,mE,nq,iM⟩:=cJ
 refine Fc.go [.cell 4 98,.cell 5 98,.tmp 6,.tmp 7] Tryz.func154 Tryz.ntmps154 rfl (fun w0=>(g9 2 ?_))
 refine W.box (L:=[iV _,iV _,lV _ _ _,lV _ _ _,sV _,.bool _,iV _,iV _,lV _ _ _,lV _ _ _]) rfl rfl (fun b81=>(W.alloc cK (fun b82=>(W.alloc cK (fun b83=>(g9 7 ?_))))))
 refine W.cM (adW (gp ru rv mE nq iM) (by assumption)) rfl (fun _ _ _ _ _ _ _ _ _ _ _ _ _ _ _ _ G84 B3 Sz SA SB SC aFO SD SE SF SG aFP=>(g9 18 ?_))
 refine WC.cond rfl (fun iQ=> ?_) (fun iQ=> ?_)
 ·refine g9 2 ?_
  refine W.ok (aY (L:=[iV _,iV _,lV _ _ _,lV _ _ _,sV _,.bool _,iV _,iV _,lV _ _ _,lV _ _ _]) HN cK rfl rfl rfl) (W.ok (aY (L:=[iV _,iV _,lV _ _ _,lV _ _ _,sV _,.bool _,iV _,iV _,lV _ _ _,lV _ _ _]) HN cK rfl rfl rfl) (g9 9 ?_))
  refine⟨rfl,_,(tW (by simpa using iQ)).symm,_,_,rfl,?_,?_⟩
  ·exact⟨_,_,_,_,_,_,_,_,rfl,az.nil,az.nil,az.nil,az.nil,Nd.oF⟩
  exact⟨_,_,_,_,_,_,_,_,rfl,az.nil,az.nil,az.nil,az.nil,Nd.oF⟩
 refine g9 22 ?_
 refine WC.dw ((bB.k9.cons _).cons _) (d9 [4] ?_)
 refine WD.any [0,2] (by kernel_rfl) rfl ⟨WD.ap ?_,WD.ap ?_,trivial⟩
 ·refine g9 1 ?_
  refine W.nn ?_
  refine WD.any [1,2] (by kernel_rfl) rfl ⟨WD.ap ?_,WD.ap ?_,trivial⟩
  ·refine W.cN (iP (show cc _ _ { (ch a).1 with high:=(ch a).2.2.1,fp:=false,right:=i } from⟨_,_,_,_,_,_,_,_,rfl,Sz,SA,SB,SC,(zI (by assumption) hi)⟩)) rfl (fun _ _ _ _ _ _ _ _ G93 B8 SH SI SJ SK Wc=>(W.nn (WD.a1 2 rfl (g9 1 ?_))))
   refine W.nn (WD.a1 3 rfl (W.cN (iP (show cc _ _ { (ch a).2.1 with slot:=i } from⟨_,_,_,_,_,_,_,_,rfl,(SD.mono B8),(SE.mono B8),(SF.mono B8),(SG.mono B8),(wO (by assumption) hi)⟩)) rfl (fun _ _ _ _ _ _ _ _ G99 B5 anU anV anW anX aDE=>(W.nn (d9 [5,6,7,8] ?_)))))
   refine g9 4 ?_
   refine⟨rfl,_,(gG (by simpa using iQ)).symm,_,_,rfl,?_,?_⟩
   ·exact⟨_,_,_,_,_,_,_,_,rfl,(SH.mono B5),(SI.mono B5),(SJ.mono B5),(SK.mono B5),zI (by assumption) hi⟩
   exact⟨_,_,_,_,_,_,_,_,rfl,anU,anV,anW,anX,wO (by assumption) hi⟩
  refine g9 1 ?_
  refine W.nn (WD.a1 1 rfl (W.cN (iP (show cc _ _ { (ch a).1 with high:=(ch a).2.2.1,fp:=false,right:=i } from⟨_,_,_,_,_,_,_,_,rfl,Sz,SA,SB,SC,(zI (by assumption) hi)⟩)) rfl (fun _ _ _ _ _ _ _ _ aRw Zu anY anZ an0 an1 aDF=>(W.nn (WD.a1 3 rfl (W.cN (iP (show cc _ _ { (ch a).2.1 with slot:=i } from⟨_,_,_,_,_,_,_,_,rfl,(SD.mono Zu),(SE.mono Zu),(SF.mono Zu),(SG.mono Zu),(wO (by assumption) hi)⟩)) rfl (fun _ _ _ _ _ _ _ _ aJE DU an2 an3 an4 an5 aDG=>(W.nn (d9 [5,6,7,8] ?_)))))))))
  refine g9 4 ?_
  refine⟨rfl,_,(gG (by simpa using iQ)).symm,_,_,rfl,?_,?_⟩
  ·exact⟨_,_,_,_,_,_,_,_,rfl,(anY.mono DU),(anZ.mono DU),(an0.mono DU),(an1.mono DU),zI (by assumption) hi⟩
  exact⟨_,_,_,_,_,_,_,_,rfl,an2,an3,an4,an5,wO (by assumption) hi⟩
 refine g9 1 ?_
 refine W.nn (WD.a1 0 rfl (g9 1 ?_))
 refine W.nn (WD.a1 1 rfl (W.cN (iP (show cc _ _ { (ch a).1 with high:=(ch a).2.2.1,fp:=false,right:=i } from⟨_,_,_,_,_,_,_,_,rfl,Sz,SA,SB,SC,(zI (by assumption) hi)⟩)) rfl (fun _ _ _ _ _ _ _ _ aRx Zv an6 an7 an8 an9 aDH=>(W.nn (WD.a1 3 rfl (W.cN (iP (show cc _ _ { (ch a).2.1 with slot:=i } from⟨_,_,_,_,_,_,_,_,rfl,(SD.mono Zv),(SE.mono Zv),(SF.mono Zv),(SG.mono Zv),(wO (by assumption) hi)⟩)) rfl (fun _ _ _ _ _ _ _ _ aRy Zw aoa aob aoc aod aDI=>(W.nn (d9 [5,6,7,8] ?_)))))))))
 refine g9 4 ?_
 refine⟨rfl,_,(gG (by simpa using iQ)).symm,_,_,rfl,?_,?_⟩
 ·exact⟨_,_,_,_,_,_,_,_,rfl,(an6.mono Zw),(an7.mono Zw),(an8.mono Zw),(an9.mono Zw),zI (by assumption) hi⟩
 exact⟨_,_,_,_,_,_,_,_,rfl,aoa,aob,aoc,aod,wO (by assumption) hi⟩

variable {yN:List Value}
theorem Wd{n:Nd}(lA:cc G yN n)(x:Int)(y:Int)(hx:i64 x)(hy:i64 y)(Df:i64 (n.level+1))(ni:∀m∈n.aj,m.key.b.size<140737488355328):
    Fc Tryz.prog 122 [.agg (List.toArray yN),iV x,iV y] G [] (fun v G' M'=>M'=[]∧∃r:Nd×Nd×Nd×Bool,r=eS n x y∧∃u0 u1 u2,v=.tuple #[.agg (List.toArray u0),.agg (List.toArray u1),.agg (List.toArray u2),.bool (r.2.2.2)]∧cc G' u0 (r.1)∧cc G' u1 (r.2.1)∧cc G' u2 (r.2.2.1)):=by
 obtain⟨_,_,_,_,_,_,_,_,rfl,fk,eX,nr,fH,jO⟩:=lA
 have Qf:=hx.1
 have C3:=hx.2
 have hy1:=hy.1
 have hy2:=hy.2
 have aJF:=Df.1
 have aJG:=Df.2
 refine Fc.go [.cell 6 98,.cell 7 98,.cell 8 98,.tmp 9] Tryz.func122 Tryz.ntmps122 rfl (fun w0=>(g9 2 ?_))
 refine W.box (L:=[iV _,iV _,lV _ _ _,lV _ _ _,sV _,.bool _,iV _,iV _,lV _ _ _,lV _ _ _]) rfl rfl (fun b1=>(W.alloc cK (fun b2=>(W.alloc cK (fun b3=>(W.alloc cK (fun b4=>(g9 7 ?_))))))))
 refine W.cM (DT (gp fk eX nr fH jO) _ (by assumption) (by assumption)) rfl (fun _ _ _ _ _ _ _ _ _ _ _ _ _ _ _ _ G5 hG5 ala alb aNT alc aJH OD OE ald OF au9=>(g9 18 ?_))
 refine WC.cond rfl (fun j1=> ?_) (fun j1=> ?_)
 ·refine g9 2 ?_
  refine W.ok (aY (L:=[iV _,iV _,lV _ _ _,lV _ _ _,sV _,.bool _,iV _,iV _,lV _ _ _,lV _ _ _]) HN cK rfl rfl rfl) (W.ok (aY (L:=[iV _,iV _,lV _ _ _,lV _ _ _,sV _,.bool _,iV _,iV _,lV _ _ _,lV _ _ _]) HN cK rfl rfl rfl) (W.ok (aY (L:=[iV _,iV _,lV _ _ _,lV _ _ _,sV _,.bool _,iV _,iV _,lV _ _ _,lV _ _ _]) HN cK rfl rfl rfl) (g9 9 ?_)))
  refine⟨rfl,_,(aby (by simpa using j1)).symm,_,_,_,rfl,?_,?_,?_⟩
  ·exact⟨_,_,_,_,_,_,_,_,rfl,az.nil,az.nil,az.nil,az.nil,Nd.oF⟩
  ·exact⟨_,_,_,_,_,_,_,_,rfl,az.nil,az.nil,az.nil,az.nil,Nd.oF⟩
  exact⟨_,_,_,_,_,_,_,_,rfl,az.nil,az.nil,az.nil,az.nil,Nd.oF⟩
 refine g9 5 ?_
 refine W.cN (iP (gE hG5 fk eX nr fH jO)) rfl (fun _ _ _ _ _ _ _ _ G14 vY SL SM JL SN We=>(g9 15 ?_))
 refine W.lit (e:=cy) (l:=[_]) (css:=[[sV _]]) dL gi wy rfl rfl rfl rfl rfl rfl ⟨rfl,trivial⟩ (fun aRz G20 zz H3=>(g9 2 ?_))
 refine W.lit (e:=bE) (l:=[_,_]) (css:=[[iV _],[iV _]]) dG cV ng rfl rfl rfl rfl rfl rfl ⟨⟨rfl,aa,aa⟩,⟨rfl,aa,aa⟩,trivial⟩ (fun aJI G21 uM BP=>(g9 23 ?_))
 refine WC.cn (fun h42 p42=> ?_) (fun h42 p42=> ?_)
 ·refine g9 16 ?_
  refine WC.dw (((bB.k9.k9).k9).k9) (d9 [0,1,2,3,4,5,6] ?_)
  refine g9 4 ?_
  refine⟨rfl,_,(amJ (by simpa using j1) p42).symm,_,_,_,rfl,?_,?_,?_⟩
  ·exact⟨_,_,_,_,_,_,_,_,rfl,(H3.mono uM),BP,(JL.mono aO),az.nil,⟨jO.1,Df,jO.2.2⟩⟩
  ·exact⟨_,_,_,_,_,_,_,_,rfl,(ala.mono aO),(alb.mono aO),az.nil,(alc.mono aO),⟨hx,(show Nd.Ok (aS n y).1 from by assumption).2.1,(show Nd.Ok (aS n y).1 from by assumption).2.2.1,(show i64 0 from⟨by decide,by decide⟩)⟩⟩
  exact⟨_,_,_,_,_,_,_,_,rfl,(OD.mono aO),(OE.mono aO),az.nil,(OF.mono aO),⟨(show Nd.Ok (aS n y).2.1 from by assumption).1,(show Nd.Ok (aS n y).2.1 from by assumption).2.1,(show Nd.Ok (aS n y).2.1 from by assumption).2.2.1,(show i64 0 from⟨by decide,by decide⟩)⟩⟩
 refine g9 14 ?_
 refine WC.dw (((bB.k9.k9).k9).k9) (d9 [0,1,2,3,4,5,6] ?_)
 refine g9 4 ?_
 refine⟨rfl,_,(amK (by simpa using j1) p42).symm,_,_,_,rfl,?_,?_,?_⟩
 ·exact⟨_,_,_,_,_,_,_,_,rfl,(H3.mono uM),BP,az.nil,az.nil,⟨jO.1,Df,jO.2.2⟩⟩
 ·exact⟨_,_,_,_,_,_,_,_,rfl,(ala.mono aO),(alb.mono aO),az.nil,(alc.mono aO),⟨hx,(show Nd.Ok (aS n y).1 from by assumption).2.1,(show Nd.Ok (aS n y).1 from by assumption).2.2.1,(show Nd.Ok (aS n y).1 from by assumption).2.2.2⟩⟩
 exact⟨_,_,_,_,_,_,_,_,rfl,(OD.mono aO),(OE.mono aO),az.nil,(OF.mono aO),⟨(show Nd.Ok (aS n y).2.1 from by assumption).1,(show Nd.Ok (aS n y).2.1 from by assumption).2.1,(show Nd.Ok (aS n y).2.1 from by assumption).2.2.1,(show Nd.Ok (aS n y).2.1 from by assumption).2.2.2⟩⟩

theorem Aj(fh:Int)(dF:Int)(iS:Int)(cX:Int)(fF:Int){n:Nd}(lA:cc G yN n):
    Fc Tryz.prog 139 [.agg #[iV fh,iV dF,iV iS,iV cX,iV fF],.agg (List.toArray yN)] G [] (fun v _ _=>v=.bool (dE (⟨fh,dF,iS,cX,fF⟩:aX) n)):=by
 obtain⟨_,_,_,_,_,_,_,_,rfl,fk,eX,nr,fH,jO⟩:=lA
 have h1:=fk.bq
 have h2:=eX.bq
 have h3:=nr.bq
 have h4:=fH.bq
 refine Fc.go [.tmp 4] Tryz.func139 Tryz.ntmps139 rfl (fun w0=>(g9 2 ?_))
 refine W.box (L:=[iV _,iV _,iV _,iV _,iV _]) rfl rfl (fun b22=>(W.box (L:=[iV _,iV _,lV _ _ _,lV _ _ _,sV _,.bool _,iV _,iV _,lV _ _ _,lV _ _ _]) rfl rfl (fun b23=>(g9 11 ?_))))
 refine WC.cd (fun h7 p7=> ?_) (fun h7 p7=> ?_)
 ·refine g9 14 ?_
  refine ax Value.bool ?_
  first|(rw [dE,if_pos p7];done)|(rw [dE,if_pos p7];first|(simp_all;done)|(simp_all;omega))
 refine g9 15 ?_
 refine ax Value.bool ?_
 first|(rw [dE,if_neg p7];done)|(rw [dE,if_neg p7];first|(simp_all;done)|(simp_all;omega))

theorem ad0(cf:Int)(cl:Int)(cb:Int)(cs:Int)(cr:Int){n:Nd}(lA:cc G yN n)(k:af)(hq:Gj n):
    Fc Tryz.prog 106 [.agg #[iV cf,iV cl,iV cb,iV cs,iV cr],.agg (List.toArray yN),sV k.b] G [] (fun v _ _=>v=.tuple #[iV ((bI (⟨cf,cl,cb,cs,cr⟩:aX) n k).1),iV ((bI (⟨cf,cl,cb,cs,cr⟩:aX) n k).2)]):=by
 obtain⟨_,_,_,_,_,_,_,_,rfl,fk,eX,nr,fH,jO⟩:=lA
 refine Fc.go [.tmp 6,.tmp 7] Tryz.func106 Tryz.ntmps106 rfl (fun w0=>(g9 2 ?_))
 refine W.box (L:=[iV _,iV _,iV _,iV _,iV _]) rfl rfl (fun b1=>(W.box (L:=[iV _,iV _,lV _ _ _,lV _ _ _,sV _,.bool _,iV _,iV _,lV _ _ _,lV _ _ _]) rfl rfl (fun b2=>(g9 14 ?_))))
 refine WC.cd (fun xa pG=> ?_) (fun xa pG=> ?_)
 ·refine g9 10 ?_
  show Value.tuple #[Value.int _ _,Value.int _ _]=_
  rw [UQ pG]
 refine g9 6 ?_
 refine W.sd 18 (fun rX lI=> ?_) (fun rX lI=> ?_)
 ·refine g9 5 ?_
  refine W.aH (Aj cf cl cb cs cr (n:=n) (gp fk eX nr fH jO)) rfl (g9 4 ?_)
  refine WC.cond rfl (fun Cw=> ?_) (fun Cw=> ?_)
  ·refine g9 10 ?_
   show Value.tuple #[Value.int _ _,Value.int _ _]=_
   rw [UR pG lI Cw]
  refine g9 9 ?_
  refine W.aH (M8 fk nr (hq pG).2.1 (hq pG).2.2 (hq pG).1) rfl (g9 14 ?_)
  refine WC.cond rfl (fun yf=> ?_) (fun yf=> ?_)
  ·refine g9 4 ?_
   refine W.aH (mL fk _ (hq pG).1) rfl (g9 12 ?_)
   show Value.tuple #[Value.int _ _,Value.int _ _]=_
   rw [US pG (fun h=>by rw [Cw]at h;exact absurd h.2 (by simp)) (by simpa using yf)]
  refine g9 11 ?_
  show Value.tuple #[Value.int _ _,Value.int _ _]=_
  rw [KT pG (fun h=>by rw [Cw]at h;exact absurd h.2 (by simp)) (by simpa using yf)]
 refine g9 17 ?_
 refine W.aH (M8 fk nr (hq pG).2.1 (hq pG).2.2 (hq pG).1) rfl (g9 14 ?_)
 refine WC.cond rfl (fun yf=> ?_) (fun yf=> ?_)
 ·refine g9 4 ?_
  refine W.aH (mL fk _ (hq pG).1) rfl (g9 12 ?_)
  show Value.tuple #[Value.int _ _,Value.int _ _]=_
  rw [US pG (fun h=>lI h.1) (by simpa using yf)]
 refine g9 11 ?_
 show Value.tuple #[Value.int _ _,Value.int _ _]=_
 rw [KT pG (fun h=>lI h.1) (by simpa using yf)]

variable {Ak:List Value} {Al:List Value} {k:Nd} {p:Nd}
theorem ad1(cf:Int)(cl:Int)(cb:Int)(cs:Int)(cr:Int)(jr:cc G Al p)(SO:cc G Ak k)(i:Int)(hq:Re cb p k)(hi:i64 i)(hko:ku p k i)(Iy:fq p.aj)(o9:p.kids.length=p.ab.length+1):
    Fc Tryz.prog 141 [.agg #[iV cf,iV cl,iV cb,iV cs,iV cr],.agg (List.toArray Al),.agg (List.toArray Ak),iV i] G [] (fun v _ _=>v=iV (cQ (⟨cf,cl,cb,cs,cr⟩:aX) p k i)):=by
 obtain⟨_,_,_,_,_,_,_,_,rfl,mr,oi,mw,oY,il⟩:=jr
 obtain⟨_,_,_,_,_,_,_,_,rfl,oj,om,oq,ot,iO⟩:=SO
 refine Fc.go [.tmp 8] Tryz.func141 Tryz.ntmps141 rfl (fun w0=>(g9 2 ?_))
 refine W.box (L:=[iV _,iV _,iV _,iV _,iV _]) rfl rfl (fun b1=>(W.box (L:=[iV _,iV _,lV _ _ _,lV _ _ _,sV _,.bool _,iV _,iV _,lV _ _ _,lV _ _ _]) rfl rfl (fun b2=>(W.box (L:=[iV _,iV _,lV _ _ _,lV _ _ _,sV _,.bool _,iV _,iV _,lV _ _ _,lV _ _ _]) rfl rfl (fun b3=>(g9 13 ?_))))))
 refine W.aH (Aj cf cl cb cs cr (n:=p) (gp mr oi mw oY il)) rfl (g9 2 ?_)
 refine WC.cond rfl (fun jC=> ?_) (fun jC=> ?_)
 ·refine g9 12 ?_
  refine W.sd 17 (fun iQ mz=> ?_) (fun iQ mz=> ?_)
  ·refine g9 5 ?_
   refine W.aH (Aj cf cl cb cs cr (n:=k) (gp oj om oq ot iO)) rfl (g9 4 ?_)
   refine WC.cond rfl (fun j1=> ?_) (fun j1=> ?_)
   ·refine g9 10 ?_
    refine ax (Value.int .i64) ?_
    rw [UT (c:=(⟨cf,cl,cb,cs,cr⟩:aX)) aa j1]
    rw [if_pos jC]
   refine g9 6 ?_
   refine W.aH (x8 cf cl cb cs cr (p:=p) (k:=k) (gp mr oi mw oY il) (gp oj om oq ot iO) i hq.hb hq.hr hq.uj hq.pM hq.ox hq.uk hi hq.kr) rfl (g9 4 ?_)
   refine WC.cd (fun ye Lx=> ?_) (fun ye Lx=> ?_)
   ·refine g9 9 ?_
    refine ax (Value.int .i64) ?_
    exact(EC (c:=(⟨cf,cl,cb,cs,cr⟩:aX)) (fun h=>by rw [j1]at h;exact absurd h.2 (by simp)) (show 0<c9 cl cb p k i by omega)).symm
   refine g9 8 ?_
   refine WC.cd (fun DV x9=> ?_) (fun DV x9=> ?_)
   ·refine g9 9 ?_
    refine ax (Value.int .i64) ?_
    exact(ED (c:=(⟨cf,cl,cb,cs,cr⟩:aX)) (fun h=>by rw [j1]at h;exact absurd h.2 (by simp)) (show ¬0<c9 cl cb p k i by omega) aa).symm
   refine g9 6 ?_
   refine W.aH (EY cf cl cb cs cr (p:=p) (k:=k) (gp mr oi mw oY il) (gp oj om oq ot iO) i hq.hb hq.hr hq.uj hq.pM hq.ox hq.uk hi hq.kr) rfl (g9 3 ?_)
   refine WC.cond rfl (fun pY=> ?_) (fun pY=> ?_)
   ·have GU:0<(aJ p.ab p.aj i).length:=(Cu pY).2.1
    refine g9 10 ?_
    refine ax (Value.int .i64) ?_
    rw [EE (c:=(⟨cf,cl,cb,cs,cr⟩:aX)) (show ¬0<c9 cl cb p k i by omega) aa GU]
    rw [if_pos jC]
   have GU:¬0<(aJ p.ab p.aj i).length:=fun hh=>OU pY ⟨hko,hh,aa⟩
   refine g9 10 ?_
   refine ax (Value.int .i64) ?_
   exact(IL (c:=(⟨cf,cl,cb,cs,cr⟩:aX)) (show ¬0<c9 cl cb p k i by omega) aa GU).symm
  refine g9 14 ?_
  refine W.aH (x8 cf cl cb cs cr (p:=p) (k:=k) (gp mr oi mw oY il) (gp oj om oq ot iO) i hq.hb hq.hr hq.uj hq.pM hq.ox hq.uk hi hq.kr) rfl (g9 4 ?_)
  refine WC.cd (fun ye Lx=> ?_) (fun ye Lx=> ?_)
  ·refine g9 9 ?_
   refine ax (Value.int .i64) ?_
   exact(EC (c:=(⟨cf,cl,cb,cs,cr⟩:aX)) (fun h=>by omega) (show 0<c9 cl cb p k i by omega)).symm
  refine g9 8 ?_
  refine WC.cd (fun DV x9=> ?_) (fun DV x9=> ?_)
  ·refine g9 9 ?_
   refine ax (Value.int .i64) ?_
   exact(ED (c:=(⟨cf,cl,cb,cs,cr⟩:aX)) (fun h=>by omega) (show ¬0<c9 cl cb p k i by omega) aa).symm
  refine g9 6 ?_
  refine W.aH (EY cf cl cb cs cr (p:=p) (k:=k) (gp mr oi mw oY il) (gp oj om oq ot iO) i hq.hb hq.hr hq.uj hq.pM hq.ox hq.uk hi hq.kr) rfl (g9 3 ?_)
  refine WC.cond rfl (fun pY=> ?_) (fun pY=> ?_)
  ·have GU:0<(aJ p.ab p.aj i).length:=(Cu pY).2.1
   refine g9 10 ?_
   refine ax (Value.int .i64) ?_
   rw [EE (c:=(⟨cf,cl,cb,cs,cr⟩:aX)) (show ¬0<c9 cl cb p k i by omega) aa GU]
   rw [if_pos jC]
  have GU:¬0<(aJ p.ab p.aj i).length:=fun hh=>OU pY ⟨hko,hh,aa⟩
  refine g9 10 ?_
  refine ax (Value.int .i64) ?_
  exact(IL (c:=(⟨cf,cl,cb,cs,cr⟩:aX)) (show ¬0<c9 cl cb p k i by omega) aa GU).symm
 refine g9 10 ?_
 refine W.sd 17 (fun iQ mz=> ?_) (fun iQ mz=> ?_)
 ·refine g9 5 ?_
  refine W.aH (Aj cf cl cb cs cr (n:=k) (gp oj om oq ot iO)) rfl (g9 4 ?_)
  refine WC.cond rfl (fun j1=> ?_) (fun j1=> ?_)
  ·refine g9 10 ?_
   refine ax (Value.int .i64) ?_
   rw [UT (c:=(⟨cf,cl,cb,cs,cr⟩:aX)) aa j1]
   rw [if_neg (by rw [jC]<;>simp)]
  refine g9 6 ?_
  refine W.aH (x8 cf cl cb cs cr (p:=p) (k:=k) (gp mr oi mw oY il) (gp oj om oq ot iO) i hq.hb hq.hr hq.uj hq.pM hq.ox hq.uk hi hq.kr) rfl (g9 4 ?_)
  refine WC.cd (fun ye Lx=> ?_) (fun ye Lx=> ?_)
  ·refine g9 9 ?_
   refine ax (Value.int .i64) ?_
   exact(EC (c:=(⟨cf,cl,cb,cs,cr⟩:aX)) (fun h=>by rw [j1]at h;exact absurd h.2 (by simp)) (show 0<c9 cl cb p k i by omega)).symm
  refine g9 8 ?_
  refine WC.cd (fun DV x9=> ?_) (fun DV x9=> ?_)
  ·refine g9 9 ?_
   refine ax (Value.int .i64) ?_
   exact(ED (c:=(⟨cf,cl,cb,cs,cr⟩:aX)) (fun h=>by rw [j1]at h;exact absurd h.2 (by simp)) (show ¬0<c9 cl cb p k i by omega) aa).symm
  refine g9 6 ?_
  refine W.aH (EY cf cl cb cs cr (p:=p) (k:=k) (gp mr oi mw oY il) (gp oj om oq ot iO) i hq.hb hq.hr hq.uj hq.pM hq.ox hq.uk hi hq.kr) rfl (g9 3 ?_)
  refine WC.cond rfl (fun pY=> ?_) (fun pY=> ?_)
  ·have GU:0<(aJ p.ab p.aj i).length:=(Cu pY).2.1
   refine g9 10 ?_
   refine ax (Value.int .i64) ?_
   rw [EE (c:=(⟨cf,cl,cb,cs,cr⟩:aX)) (show ¬0<c9 cl cb p k i by omega) aa GU]
   rw [if_neg (by rw [jC]<;>simp)]
  have GU:¬0<(aJ p.ab p.aj i).length:=fun hh=>OU pY ⟨hko,hh,aa⟩
  refine g9 10 ?_
  refine ax (Value.int .i64) ?_
  exact(IL (c:=(⟨cf,cl,cb,cs,cr⟩:aX)) (show ¬0<c9 cl cb p k i by omega) aa GU).symm
 refine g9 14 ?_
 refine W.aH (x8 cf cl cb cs cr (p:=p) (k:=k) (gp mr oi mw oY il) (gp oj om oq ot iO) i hq.hb hq.hr hq.uj hq.pM hq.ox hq.uk hi hq.kr) rfl (g9 4 ?_)
 refine WC.cd (fun ye Lx=> ?_) (fun ye Lx=> ?_)
 ·refine g9 9 ?_
  refine ax (Value.int .i64) ?_
  exact(EC (c:=(⟨cf,cl,cb,cs,cr⟩:aX)) (fun h=>by omega) (show 0<c9 cl cb p k i by omega)).symm
 refine g9 8 ?_
 refine WC.cd (fun DV x9=> ?_) (fun DV x9=> ?_)
 ·refine g9 9 ?_
  refine ax (Value.int .i64) ?_
  exact(ED (c:=(⟨cf,cl,cb,cs,cr⟩:aX)) (fun h=>by omega) (show ¬0<c9 cl cb p k i by omega) aa).symm
 refine g9 6 ?_
 refine W.aH (EY cf cl cb cs cr (p:=p) (k:=k) (gp mr oi mw oY il) (gp oj om oq ot iO) i hq.hb hq.hr hq.uj hq.pM hq.ox hq.uk hi hq.kr) rfl (g9 3 ?_)
 refine WC.cond rfl (fun pY=> ?_) (fun pY=> ?_)
 ·have GU:0<(aJ p.ab p.aj i).length:=(Cu pY).2.1
  refine g9 10 ?_
  refine ax (Value.int .i64) ?_
  rw [EE (c:=(⟨cf,cl,cb,cs,cr⟩:aX)) (show ¬0<c9 cl cb p k i by omega) aa GU]
  rw [if_neg (by rw [jC]<;>simp)]
 have GU:¬0<(aJ p.ab p.aj i).length:=fun hh=>OU pY ⟨hko,hh,aa⟩
 refine g9 10 ?_
 refine ax (Value.int .i64) ?_
 exact(IL (c:=(⟨cf,cl,cb,cs,cr⟩:aX)) (show ¬0<c9 cl cb p k i by omega) aa GU).symm

theorem ava:F7 Tryz.prog 258=some 4:=by kernel_rfl
theorem mz4:zvK Tryz.prog 4=some (.bool false):=by kernel_rfl

theorem oZ(cf:Int)(cl:Int)(cb:Int)(cs:Int)(cr:Int)(jr:cc G Al p)(SO:cc G Ak k)(i:Int)(hb:0≤cb∧cb≤9223372036854775807)(hr:rising p.ab=true)(uj:∀q∈p.ab,q.b.size≤16)(pM:∀m∈p.aj,m.R)(ox:∀m∈k.aj,m.key.b.size≤16∧m.val.b.size≤16)(uk:bc k.rows)(hi:i64 i)(kr:k.aj.length+p.aj.length≤100000∧k.rows.length≤100000):
    Fc Tryz.prog 143 [.agg #[iV cf,iV cl,iV cb,iV cs,iV cr],.agg (List.toArray Al),.agg (List.toArray Ak),iV i] G [] (fun v G' M'=>M'=[]∧∃r:Nd×Nd×Nat,r=eC cl cb p k i∧∃u0 u1,v=.tuple #[.agg (List.toArray u0),.agg (List.toArray u1),aK r.2.2]∧cc G' u0 (r.1)∧cc G' u1 (r.2.1)):=by
 obtain⟨Ca,Cb,Cc,Ce,yO,yP,Cf,Cg,rfl,mr,oi,mw,oY,il⟩:=jr
 obtain⟨FG,FH,FI,FJ,FK,FL,FM,FN,rfl,oj,om,oq,ot,iO⟩:=SO
 have hpk:∀m∈p.aj,m.key.b.size<140737488355328:=fun m h=>by have:=(fg (pM m h)).1;omega
 have hlm:=mw.bq
 have j8:=ab4 p.ab p.aj i
 have htl:((aJ p.ab p.aj i).take (bF cl cb k (aJ p.ab p.aj i)).2).length≤(aJ p.ab p.aj i).length:=by rw [bV];omega
 refine Fc.go [.cell 8 98,.cell 9 98,.tmp 10] Tryz.func143 Tryz.ntmps143 rfl (fun w0=>(g9 2 ?_))
 refine W.box (L:=[iV _,iV _,iV _,iV _,iV _]) rfl rfl (fun b1=>(W.box (L:=[iV _,iV _,lV _ _ _,lV _ _ _,sV _,.bool _,iV _,iV _,lV _ _ _,lV _ _ _]) rfl rfl (fun b2=>(W.box (L:=[iV _,iV _,lV _ _ _,lV _ _ _,sV _,.bool _,iV _,iV _,lV _ _ _,lV _ _ _]) rfl rfl (fun b3=>(W.alloc cK (fun b4=>(W.alloc cK (fun b5=>(g9 9 ?_))))))))))
 refine W.aH (GV (p:=p) (k:=k) (gp mr oi mw oY il) (gp oj om oq ot iO) i) rfl (g9 3 ?_)
 refine WC.cond rfl (fun h24=> ?_) (fun h24=> ?_)
 ·refine WC.seq (WC.dw ((((bB.k9.k9).k9).cons _).cons _) (d9 [0,2] ?_))
  refine WD.a1 1 rfl (W.cN (iP (a:=p) (gp mr oi mw oY il)) rfl (fun _ _ _ _ _ _ _ _ G6 vF OD OE ald OF au9=>(W.nn (WD.a1 3 rfl (W.cN (iP (a:=k) (gE vF oj om oq ot iO)) rfl (fun _ _ _ _ _ _ _ _ G12 JM avb avc avd ave aFQ=>(W.nn (d9 [4,5,6] ?_))))))))
  refine g9 5 ?_
  refine⟨rfl,_,(asa (by simpa using h24)).symm,_,_,rfl,?_,?_⟩
  ·exact(gE JM OD OE ald OF il)
  exact(gp avb avc avd ave iO)
 have hko:ku p k i:=by simpa using h24
 refine g9 8 ?_
 refine W.call (Mp:=[]) (Wf cf cl cb cs cr (p:=p) (k:=k) (gp mr oi mw oY il) (gp oj om oq ot iO) i hb hr uj pM ox uk hi kr) rfl ah ?_
 intro _ G18 _ FE Kr
 refine match Kr with|⟨Aa,_,Af,_,_,xe,wh,H3⟩=> ?_
 subst Aa
 subst Af
 subst xe
 refine match wh with|⟨qh,qi,qj,qk,ql,qm,qn,qo,vg,ad2,ad3,ad4,ad5,EZ⟩=> ?_
 subst vg
 have DK:=H3.form
 refine match DK with|⟨Am,An,xW⟩=> ?_
 subst xW
 refine g9 3 ?_
 refine W.alloc cK (fun GW=>(g9 12 ?_))
 refine WC.cd (fun pY GO=> ?_) (fun pY GO=> ?_)
 ·refine WC.seq (WC.dw (((((bB.k9.k9).k9).cons _).cons _).k9) (d9 [0,2] ?_))
  refine WD.a1 1 rfl (W.cN (iP (a:=p) (gE FE mr oi mw oY il)) rfl (fun _ _ _ _ _ _ _ _ Jl tH ad6 ad7 ad8 ad9 aoe=>(W.nn (WD.a1 3 rfl (W.cN (iP (a:=k) (gE aO oj om oq ot iO)) rfl (fun _ _ _ _ _ _ _ _ G35 avf avg avh avi avj aFR=>(W.nn (d9 [4,5,6] ?_))))))))
  refine g9 5 ?_
  refine⟨rfl,_,(asb hko aa).symm,_,_,rfl,?_,?_⟩
  ·exact(gE avf ad6 ad7 ad8 ad9 il)
  exact(gp avg avh avi avj iO)
 refine g9 4 ?_
 refine W.makeMap (V:=XE) (fun Ci aJJ=>(W.perm (ag (Ms:=[(Ci,Obj.map #[] 0)]) (ag (Ms:=[(Ci,Obj.map #[] 0)]) (ag (Ms:=[(Ci,Obj.map #[] 0)]) (ag (Ms:=[(Ci,Obj.map #[] 0)]) (ag (Ms:=[(Ci,Obj.map #[] 0)]) (ag (Ms:=[(Ci,Obj.map #[] 0)]) ah)))))).symm (g9 12 ?_)))
 refine WC.loop (X:=(Nat)×MH) (fun y=>[(47,aK y.1),(5,aC b2),(8,aC b4),(9,aC b5),(11,aC GW),(3,iV i),(12,lV Am (((aJ p.ab p.aj i).take (bF cl cb k (aJ p.ab p.aj i)).2)).length An),(45,lV Am (((aJ p.ab p.aj i).take (bF cl cb k (aJ p.ab p.aj i)).2)).length An),(46,aK ((((aJ p.ab p.aj i).take (bF cl cb k (aJ p.ab p.aj i)).2)).length)),(13,.map (some Ci))]) (fun y G Ml=>Ml=((GW,ar 98 (j7 ((bF cl cb k (aJ p.ab p.aj i)).1) qh qi qj qk ql qm qn qo))::((b5,ar 98 xf)::((b4,ar 98 xf)::((b3,ar 98 (j7 k FG FH FI FJ FK FL FM FN))::((b2,ar 98 (j7 p Ca Cb Cc Ce yO yP Cf Cg))::((b1,ar 23 [iV cf,iV cl,iV cb,iV cs,iV cr])::(y.2++[])))))))∧TK XE Ci G ((Ld (((aJ p.ab p.aj i).take (bF cl cb k (aJ p.ab p.aj i)).2).take y.1))) y.2∧y.1≤((aJ p.ab p.aj i).take (bF cl cb k (aJ p.ab p.aj i)).2).length) (fun y=>((aJ p.ab p.aj i).take (bF cl cb k (aJ p.ab p.aj i)).2).length-y.1) (0,[(Ci,Obj.map #[] 0)]) ct ?_ ?_
 ·exact⟨rfl,(by exact aJJ),kW _⟩
 rintro⟨y,JN⟩ aJK G43 _ Wg ⟨rfl,ahU,hy⟩
 try dsimp only at ahU hy
 refine WC.fr (f:=gk aJK [(47,aK y),(5,aC b2),(8,aC b4),(9,aC b5),(11,aC GW),(3,iV i),(12,lV Am (((aJ p.ab p.aj i).take (bF cl cb k (aJ p.ab p.aj i)).2)).length An),(45,lV Am (((aJ p.ab p.aj i).take (bF cl cb k (aJ p.ab p.aj i)).2)).length An),(46,aK ((((aJ p.ab p.aj i).take (bF cl cb k (aJ p.ab p.aj i)).2)).length)),(13,.map (some Ci))]) rfl (g9 6 ?_)
 refine WC.cd (fun h48 p48=> ?_) (fun h48 p48=> ?_)
 ·refine g9 6 ?_
  refine(H3.mono Wg).a2 (i:=y) aa (fun aBj aRA=>(g9 2 ?_))
  refine W.alloc gL (fun b49=>(g9 7 ?_))
  refine W.aCH (V:=XE) (k:=((((aJ p.ab p.aj i).take (bF cl cb k (aJ p.ab p.aj i)).2))[y]).aW) ava rfl rfl rfl ahU (ag (ag (ag (ag (ag (ag (ag ah))))))) rfl (fun LV aJL=>(W.perm (ag (ag (ag (ag (ag (ag (ag ah))))))).symm (g9 6 ?_)))
  refine W.sub (bB.cons _) (g9 2 ?_)
  exact⟨Le.rfl,(y+1,LV),ct,⟨rfl,(by rw [agN aa];exact aJL),aa⟩,aa⟩
 refine g9 6 ?_
 have aBm:=ahU
 rw [fI (by omega:((aJ p.ab p.aj i).take (bF cl cb k (aJ p.ab p.aj i)).2).length≤y)]at aBm
 refine g9 2 ?_
 refine W.cN (iP (a:=p) (gE aO mr oi mw oY il)) rfl (fun SP SQ SR SS _ _ SU SV G53 zD avk avl aJM avm aFS=>(W.alloc cK (fun wM=>(g9 19 ?_))))
 have avn:Fe 98 81 wM G53 ({ p with aj:=[] }) ((wM,ar 98 [iV (p).slot,iV (p).level,lV SP ((p).ab).length SQ,lV SR ((p).kids).length SS,sV (p).high.b,.bool (p).fp,iV (p).right,iV (p).seen,lV none 0 0,lV SU ((p).rows).length SV])::[]):=⟨_,_,_,_,_,_,_,_,rfl,avk,avl,aE.nil,avm,il⟩
 have avn:=Fe.cast avn (n':={ p with aj:=dC p.ab i ((aJ p.ab p.aj i).take (bF cl cb k (aJ p.ab p.aj i)).2) (p.aj.take 0) }) rfl
 refine WC.perm (M':=((GW,ar 98 (j7 ((bF cl cb k (aJ p.ab p.aj i)).1) qh qi qj qk ql qm qn qo))::((b5,ar 98 xf)::((b4,ar 98 xf)::((b3,ar 98 (j7 k FG FH FI FJ FK FL FM FN))::((b2,ar 98 (j7 p Ca Cb Cc Ce yO yP Cf Cg))::((b1,ar 23 [iV cf,iV cl,iV cb,iV cs,iV cr])::(((wM,ar 98 [iV (p).slot,iV (p).level,lV SP ((p).ab).length SQ,lV SR ((p).kids).length SS,sV (p).high.b,.bool (p).fp,iV (p).right,iV (p).seen,lV none 0 0,lV SU ((p).rows).length SV])::[])++(JN++[]))))))))) ((ag (ag (ag (ag (ag (ag ah)))))).symm.trans ah) ?_
 refine WC.loop (X:=(Nat)×MH) (fun q=>[(61,aK q.1),(13,.map (some Ci)),(5,aC b2),(8,aC b4),(9,aC b5),(11,aC GW),(3,iV i),(12,lV Am (((aJ p.ab p.aj i).take (bF cl cb k (aJ p.ab p.aj i)).2)).length An),(59,lV yO p.aj.length yP),(60,aK ((p.aj).length)),(16,aC wM)]) (fun q G Ml=>Ml=((GW,ar 98 (j7 ((bF cl cb k (aJ p.ab p.aj i)).1) qh qi qj qk ql qm qn qo))::((b5,ar 98 xf)::((b4,ar 98 xf)::((b3,ar 98 (j7 k FG FH FI FJ FK FL FM FN))::((b2,ar 98 (j7 p Ca Cb Cc Ce yO yP Cf Cg))::((b1,ar 23 [iV cf,iV cl,iV cb,iV cs,iV cr])::(q.2++(JN++[]))))))))∧Fe 98 81 wM G ({ p with aj:=dC p.ab i ((aJ p.ab p.aj i).take (bF cl cb k (aJ p.ab p.aj i)).2) (p.aj.take q.1) }) q.2∧q.1≤p.aj.length) (fun q=>p.aj.length-q.1) (0,((wM,ar 98 [iV (p).slot,iV (p).level,lV SP ((p).ab).length SQ,lV SR ((p).kids).length SS,sV (p).high.b,.bool (p).fp,iV (p).right,iV (p).seen,lV none 0 0,lV SU ((p).rows).length SV])::[])) ct ?_ ?_
 ·exact⟨rfl,(by exact avn),kW _⟩
 rintro⟨q,avo⟩ aJN G61 _ adT ⟨rfl,DW,hq⟩
 try dsimp only at DW hq
 have Qs:=anf p.ab i ((aJ p.ab p.aj i).take (bF cl cb k (aJ p.ab p.aj i)).2) p.aj q
 refine WC.fr (f:=gk aJN [(61,aK q),(13,.map (some Ci)),(5,aC b2),(8,aC b4),(9,aC b5),(11,aC GW),(3,iV i),(12,lV Am (((aJ p.ab p.aj i).take (bF cl cb k (aJ p.ab p.aj i)).2)).length An),(59,lV yO p.aj.length yP),(60,aK ((p.aj).length)),(16,aC wM)]) rfl (g9 6 ?_)
 refine WC.cd (fun h62 p62=> ?_) (fun h62 p62=> ?_)
 ·refine g9 6 ?_
  refine(mw.mono (((FE.trans Wg).trans zD).trans adT)).a2 (i:=q) aa (fun aRB avp=>(g9 2 ?_))
  refine W.alloc gL (fun b67=>(g9 8 ?_))
  refine W.aCK (V:=XE) ava mz4 rfl rfl rfl (TK.mono aO aBm) (ag (ag (ag (ag (ag (ag (ag (bJ ah)))))))) (fun v68 avq=> ?_)
  have aDJ:=avq
  subst aDJ
  refine g9 10 ?_
  refine W.sp 72 rfl (fun h71=> ?_) (fun h71=> ?_)
  ·have hg:(p.aj[q]'aa).aW∈((aJ p.ab p.aj i).take (bF cl cb k (aJ p.ab p.aj i)).2).map aD.aW:=by have h9:=h71;rw [Vi]at h9;simpa using h9
   refine g9 9 ?_
   refine WC.cd (fun h75 p75=> ?_) (fun h75 p75=> ?_)
   ·refine WC.dw ((((((bB.k9.k9).k9).k9).k9).k9).cons _) (d9 [1,2,3] ?_)
    refine WD.any [0,4] (by kernel_rfl) rfl ⟨WD.ap ?_,WD.ap ?_,trivial⟩
    ·refine g9 1 ?_
     refine W.nn (WD.a1 4 rfl (W.aH (lH (mr.mono aO) _ hi) rfl (W.nn (WD.a1 5 rfl (W.aH (Na _ _ _ _ _ _ _ _ _ (hpk _ (bN (by omega:q<p.aj.length)))) rfl (W.nn (d9 [6,7,8,9,10] ?_)))))))
     refine g9 7 ?_
     refine WC.cond rfl (fun GX=> ?_) (fun GX=> ?_)
     ·obtain⟨Zx,Zy,Zz,ZA,aOM,ZB,ZC,aDK,aDL,avr,avs,ahV,avt,aNU⟩:=DW
      subst aDL
      have aDM:=ahV.form
      refine match aDM with|⟨aDN,aDO,Jb⟩=> ?_
      subst Jb
      dsimp only at avr avs ahV avt
      refine WC.perm (M':=((wM,ar 98 [iV p.slot,iV p.level,lV Zx p.ab.length Zy,lV Zz p.kids.length ZA,sV p.high.b,.bool p.fp,iV p.right,iV p.seen,lV aDN (dC p.ab i ((aJ p.ab p.aj i).take (bF cl cb k (aJ p.ab p.aj i)).2) (p.aj.take q)).length aDO,lV ZB p.rows.length ZC])::((b67,ar 81 [iV ((bw (p.aj[q]'aa) (aA p.ab i)).1.aW),iV ((bw (p.aj[q]'aa) (aA p.ab i)).1.kind),sV ((bw (p.aj[q]'aa) (aA p.ab i)).1.key).b,sV ((bw (p.aj[q]'aa) (aA p.ab i)).1.hi).b,.bool ((bw (p.aj[q]'aa) (aA p.ab i)).1.bQ),sV ((bw (p.aj[q]'aa) (aA p.ab i)).1.val).b])::((GW,ar 98 (j7 ((bF cl cb k (aJ p.ab p.aj i)).1) qh qi qj qk ql qm qn qo))::((b5,ar 98 xf)::((b4,ar 98 xf)::((b3,ar 98 (j7 k FG FH FI FJ FK FL FM FN))::((b2,ar 98 (j7 p Ca Cb Cc Ce yO yP Cf Cg))::((b1,ar 23 [iV cf,iV cl,iV cb,iV cs,iV cr])::(aDK++(JN++[]))))))))))) (nV (nV (nV (nV (nV (nV (nV ah))))))).symm (g9 4 ?_)
      refine W.lit (e:=dy) (l:=[(bw (p.aj[q]'aa) (aA p.ab i)).1]) (css:=[[iV _,iV _,sV _,sV _,.bool _,sV _]]) gQ im gL rfl rfl rfl rfl rfl rfl ⟨⟨rfl,MJ avp⟩,trivial⟩ (fun asY G72 Ad acL=>(W.app (e:=dy) gQ im gL rfl BL rfl rfl ((ahV.mono Ad)) (acL) (ag (ag (ag (ag (ag (ag (ag (ag ah)))))))) (by show(List.length _+1)*72≤_;omega) (fun v73 aea ale=>(W.perm (ag (ag (ag (ag (ag (ag (ag (ag ah)))))))).symm ?_))))
      have q79:=ale.form
      refine match q79 with|⟨avu,avv,aeb⟩=> ?_
      subst aeb
      refine g9 5 ?_
      have avw:Fe 98 81 wM G72 ({ p with aj:=(dC p.ab i ((aJ p.ab p.aj i).take (bF cl cb k (aJ p.ab p.aj i)).2) (p.aj.take q)++[(bw (p.aj[q]'aa) (aA p.ab i)).1]) }) ((wM,ar 98 [iV p.slot,iV p.level,lV Zx p.ab.length Zy,lV Zz p.kids.length ZA,sV p.high.b,.bool p.fp,iV p.right,iV p.seen,lV avu ((dC p.ab i ((aJ p.ab p.aj i).take (bF cl cb k (aJ p.ab p.aj i)).2) (p.aj.take q)++[(bw (p.aj[q]'aa) (aA p.ab i)).1])).length avv,lV ZB p.rows.length ZC])::aea):=⟨_,_,_,_,_,_,_,_,rfl,(avr.mono Ad),(avs.mono Ad),ale,(avt.mono Ad),il⟩
      have avw:=Fe.cast avw (Rc aa (ajP hg p75 GX))
      refine WC.perm (M':=((b67,ar 81 [iV ((bw (p.aj[q]'aa) (aA p.ab i)).1.aW),iV ((bw (p.aj[q]'aa) (aA p.ab i)).1.kind),sV ((bw (p.aj[q]'aa) (aA p.ab i)).1.key).b,sV ((bw (p.aj[q]'aa) (aA p.ab i)).1.hi).b,.bool ((bw (p.aj[q]'aa) (aA p.ab i)).1.bQ),sV ((bw (p.aj[q]'aa) (aA p.ab i)).1.val).b])::((GW,ar 98 (j7 ((bF cl cb k (aJ p.ab p.aj i)).1) qh qi qj qk ql qm qn qo))::((b5,ar 98 xf)::((b4,ar 98 xf)::((b3,ar 98 (j7 k FG FH FI FJ FK FL FM FN))::((b2,ar 98 (j7 p Ca Cb Cc Ce yO yP Cf Cg))::((b1,ar 23 [iV cf,iV cl,iV cb,iV cs,iV cr])::(((wM,ar 98 [iV p.slot,iV p.level,lV Zx p.ab.length Zy,lV Zz p.kids.length ZA,sV p.high.b,.bool p.fp,iV p.right,iV p.seen,lV avu ((dC p.ab i ((aJ p.ab p.aj i).take (bF cl cb k (aJ p.ab p.aj i)).2) (p.aj.take q)++[(bw (p.aj[q]'aa) (aA p.ab i)).1])).length avv,lV ZB p.rows.length ZC])::aea)++(JN++[])))))))))) ((ag (ag (ag (ag (ag (ag (ag ah))))))).symm.trans (((ag (ag (ag (ag (ag (ag (ag ah))))))).cons _).trans ah)) (g9 3 ?_)
      refine W.sub (bB.cons _) (g9 2 ?_)
      exact⟨Ad,(q+1,((wM,ar 98 [iV p.slot,iV p.level,lV Zx p.ab.length Zy,lV Zz p.kids.length ZA,sV p.high.b,.bool p.fp,iV p.right,iV p.seen,lV avu ((dC p.ab i ((aJ p.ab p.aj i).take (bF cl cb k (aJ p.ab p.aj i)).2) (p.aj.take q)++[(bw (p.aj[q]'aa) (aA p.ab i)).1])).length avv,lV ZB p.rows.length ZC])::aea)),ct,⟨rfl,(by exact avw),aa⟩,aa⟩
     refine g9 6 ?_
     refine W.sub (bB.cons _) (g9 2 ?_)
     exact⟨Le.rfl,(q+1,avo),ct,⟨rfl,(by exact Fe.cast DW (Rd aa (Yd hg (fun hh=>absurd (GX.symm.trans hh.2) (by simp))))),aa⟩,aa⟩
    refine W.aH (lH (mr.mono aO) _ hi) rfl (W.nn (WD.a1 0 rfl (g9 1 ?_)))
    refine W.nn (WD.a1 5 rfl (W.aH (Na _ _ _ _ _ _ _ _ _ (hpk _ (bN (by omega:q<p.aj.length)))) rfl (W.nn (d9 [6,7,8,9,10] ?_))))
    refine g9 7 ?_
    refine WC.cond rfl (fun GX=> ?_) (fun GX=> ?_)
    ·obtain⟨ZD,ZE,ZF,ZG,aON,ZH,ZI,aDP,aDQ,avx,avy,ahW,avz,aNV⟩:=DW
     subst aDQ
     have aDR:=ahW.form
     refine match aDR with|⟨aDS,aDT,avA⟩=> ?_
     subst avA
     dsimp only at avx avy ahW avz
     refine WC.perm (M':=((wM,ar 98 [iV p.slot,iV p.level,lV ZD p.ab.length ZE,lV ZF p.kids.length ZG,sV p.high.b,.bool p.fp,iV p.right,iV p.seen,lV aDS (dC p.ab i ((aJ p.ab p.aj i).take (bF cl cb k (aJ p.ab p.aj i)).2) (p.aj.take q)).length aDT,lV ZH p.rows.length ZI])::((b67,ar 81 [iV ((bw (p.aj[q]'aa) (aA p.ab i)).1.aW),iV ((bw (p.aj[q]'aa) (aA p.ab i)).1.kind),sV ((bw (p.aj[q]'aa) (aA p.ab i)).1.key).b,sV ((bw (p.aj[q]'aa) (aA p.ab i)).1.hi).b,.bool ((bw (p.aj[q]'aa) (aA p.ab i)).1.bQ),sV ((bw (p.aj[q]'aa) (aA p.ab i)).1.val).b])::((GW,ar 98 (j7 ((bF cl cb k (aJ p.ab p.aj i)).1) qh qi qj qk ql qm qn qo))::((b5,ar 98 xf)::((b4,ar 98 xf)::((b3,ar 98 (j7 k FG FH FI FJ FK FL FM FN))::((b2,ar 98 (j7 p Ca Cb Cc Ce yO yP Cf Cg))::((b1,ar 23 [iV cf,iV cl,iV cb,iV cs,iV cr])::(aDP++(JN++[]))))))))))) (nV (nV (nV (nV (nV (nV (nV ah))))))).symm (g9 4 ?_)
     refine W.lit (e:=dy) (l:=[(bw (p.aj[q]'aa) (aA p.ab i)).1]) (css:=[[iV _,iV _,sV _,sV _,.bool _,sV _]]) gQ im gL rfl rfl rfl rfl rfl rfl ⟨⟨rfl,MJ avp⟩,trivial⟩ (fun aRC G83 aec aJO=>(W.app (e:=dy) gQ im gL rfl BL rfl rfl ((ahW.mono aec)) (aJO) (ag (ag (ag (ag (ag (ag (ag (ag ah)))))))) (by show(List.length _+1)*72≤_;omega) (fun v84 adq akV=>(W.perm (ag (ag (ag (ag (ag (ag (ag (ag ah)))))))).symm ?_))))
     have q90:=akV.form
     refine match q90 with|⟨avB,avC,aJP⟩=> ?_
     subst aJP
     refine g9 5 ?_
     have avD:Fe 98 81 wM G83 ({ p with aj:=(dC p.ab i ((aJ p.ab p.aj i).take (bF cl cb k (aJ p.ab p.aj i)).2) (p.aj.take q)++[(bw (p.aj[q]'aa) (aA p.ab i)).1]) }) ((wM,ar 98 [iV p.slot,iV p.level,lV ZD p.ab.length ZE,lV ZF p.kids.length ZG,sV p.high.b,.bool p.fp,iV p.right,iV p.seen,lV avB ((dC p.ab i ((aJ p.ab p.aj i).take (bF cl cb k (aJ p.ab p.aj i)).2) (p.aj.take q)++[(bw (p.aj[q]'aa) (aA p.ab i)).1])).length avC,lV ZH p.rows.length ZI])::adq):=⟨_,_,_,_,_,_,_,_,rfl,(avx.mono aec),(avy.mono aec),akV,(avz.mono aec),il⟩
     have avD:=Fe.cast avD (Rc aa (ajP hg p75 GX))
     refine WC.perm (M':=((b67,ar 81 [iV ((bw (p.aj[q]'aa) (aA p.ab i)).1.aW),iV ((bw (p.aj[q]'aa) (aA p.ab i)).1.kind),sV ((bw (p.aj[q]'aa) (aA p.ab i)).1.key).b,sV ((bw (p.aj[q]'aa) (aA p.ab i)).1.hi).b,.bool ((bw (p.aj[q]'aa) (aA p.ab i)).1.bQ),sV ((bw (p.aj[q]'aa) (aA p.ab i)).1.val).b])::((GW,ar 98 (j7 ((bF cl cb k (aJ p.ab p.aj i)).1) qh qi qj qk ql qm qn qo))::((b5,ar 98 xf)::((b4,ar 98 xf)::((b3,ar 98 (j7 k FG FH FI FJ FK FL FM FN))::((b2,ar 98 (j7 p Ca Cb Cc Ce yO yP Cf Cg))::((b1,ar 23 [iV cf,iV cl,iV cb,iV cs,iV cr])::(((wM,ar 98 [iV p.slot,iV p.level,lV ZD p.ab.length ZE,lV ZF p.kids.length ZG,sV p.high.b,.bool p.fp,iV p.right,iV p.seen,lV avB ((dC p.ab i ((aJ p.ab p.aj i).take (bF cl cb k (aJ p.ab p.aj i)).2) (p.aj.take q)++[(bw (p.aj[q]'aa) (aA p.ab i)).1])).length avC,lV ZH p.rows.length ZI])::adq)++(JN++[])))))))))) ((ag (ag (ag (ag (ag (ag (ag ah))))))).symm.trans (((ag (ag (ag (ag (ag (ag (ag ah))))))).cons _).trans ah)) (g9 3 ?_)
     refine W.sub (bB.cons _) (g9 2 ?_)
     exact⟨aec,(q+1,((wM,ar 98 [iV p.slot,iV p.level,lV ZD p.ab.length ZE,lV ZF p.kids.length ZG,sV p.high.b,.bool p.fp,iV p.right,iV p.seen,lV avB ((dC p.ab i ((aJ p.ab p.aj i).take (bF cl cb k (aJ p.ab p.aj i)).2) (p.aj.take q)++[(bw (p.aj[q]'aa) (aA p.ab i)).1])).length avC,lV ZH p.rows.length ZI])::adq)),ct,⟨rfl,(by exact avD),aa⟩,aa⟩
    refine g9 6 ?_
    refine W.sub (bB.cons _) (g9 2 ?_)
    exact⟨Le.rfl,(q+1,avo),ct,⟨rfl,(by exact Fe.cast DW (Rd aa (Yd hg (fun hh=>absurd (GX.symm.trans hh.2) (by simp))))),aa⟩,aa⟩
   refine g9 7 ?_
   refine WC.cond rfl (fun h69=> ?_) (fun h69=> ?_)
   ·exfalso
    simp_all
   refine g9 6 ?_
   refine W.sub (bB.cons _) (g9 2 ?_)
   exact⟨Le.rfl,(q+1,avo),ct,⟨rfl,(by exact Fe.cast DW (Rd aa (Yd hg (fun hh=>p75 hh.1)))),aa⟩,aa⟩
  have hng:¬(p.aj[q]'aa).aW∈((aJ p.ab p.aj i).take (bF cl cb k (aJ p.ab p.aj i)).2).map aD.aW:=by have h9:=h71;rw [Vi]at h9;simpa using h9
  refine g9 14 ?_
  refine WC.cond rfl (fun h69=> ?_) (fun h69=> ?_)
  ·obtain⟨ZJ,ZK,ZL,ZM,aOO,ZN,ZO,aDU,aDV,avE,avF,ahX,avG,aNW⟩:=DW
   subst aDV
   have aDW:=ahX.form
   refine match aDW with|⟨aDX,aDY,acs⟩=> ?_
   subst acs
   dsimp only at avE avF ahX avG
   refine WC.perm (M':=((wM,ar 98 [iV p.slot,iV p.level,lV ZJ p.ab.length ZK,lV ZL p.kids.length ZM,sV p.high.b,.bool p.fp,iV p.right,iV p.seen,lV aDX (dC p.ab i ((aJ p.ab p.aj i).take (bF cl cb k (aJ p.ab p.aj i)).2) (p.aj.take q)).length aDY,lV ZN p.rows.length ZO])::((b67,ar 81 [iV ((p.aj)[q]).aW,iV ((p.aj)[q]).kind,sV ((p.aj)[q]).key.b,sV ((p.aj)[q]).hi.b,.bool ((p.aj)[q]).bQ,sV ((p.aj)[q]).val.b])::((GW,ar 98 (j7 ((bF cl cb k (aJ p.ab p.aj i)).1) qh qi qj qk ql qm qn qo))::((b5,ar 98 xf)::((b4,ar 98 xf)::((b3,ar 98 (j7 k FG FH FI FJ FK FL FM FN))::((b2,ar 98 (j7 p Ca Cb Cc Ce yO yP Cf Cg))::((b1,ar 23 [iV cf,iV cl,iV cb,iV cs,iV cr])::(aDU++(JN++[]))))))))))) (nV (nV (nV (nV (nV (nV (nV ah))))))).symm (g9 4 ?_)
   refine W.lit (e:=dy) (l:=[(p.aj[q]'aa)]) (css:=[[iV _,iV _,sV _,sV _,.bool _,sV _]]) gQ im gL rfl rfl rfl rfl rfl rfl ⟨⟨rfl,avp⟩,trivial⟩ (fun aRD G94 SW aJQ=>(W.app (e:=dy) gQ im gL rfl BL rfl rfl ((ahX.mono SW)) (aJQ) (ag (ag (ag (ag (ag (ag (ag (ag ah)))))))) (by show(List.length _+1)*72≤_;omega) (fun v95 R5 akW=>(W.perm (ag (ag (ag (ag (ag (ag (ag (ag ah)))))))).symm ?_))))
   have asA:=akW.form
   refine match asA with|⟨avH,avI,aDZ⟩=> ?_
   subst aDZ
   refine g9 5 ?_
   have ahY:Fe 98 81 wM G94 ({ p with aj:=(dC p.ab i ((aJ p.ab p.aj i).take (bF cl cb k (aJ p.ab p.aj i)).2) (p.aj.take q)++[(p.aj[q]'aa)]) }) ((wM,ar 98 [iV p.slot,iV p.level,lV ZJ p.ab.length ZK,lV ZL p.kids.length ZM,sV p.high.b,.bool p.fp,iV p.right,iV p.seen,lV avH ((dC p.ab i ((aJ p.ab p.aj i).take (bF cl cb k (aJ p.ab p.aj i)).2) (p.aj.take q)++[(p.aj[q]'aa)])).length avI,lV ZN p.rows.length ZO])::R5):=⟨_,_,_,_,_,_,_,_,rfl,(avE.mono SW),(avF.mono SW),akW,(avG.mono SW),il⟩
   have ahY:=Fe.cast ahY (Rc aa (asc hng))
   refine WC.perm (M':=((b67,ar 81 [iV ((p.aj)[q]).aW,iV ((p.aj)[q]).kind,sV ((p.aj)[q]).key.b,sV ((p.aj)[q]).hi.b,.bool ((p.aj)[q]).bQ,sV ((p.aj)[q]).val.b])::((GW,ar 98 (j7 ((bF cl cb k (aJ p.ab p.aj i)).1) qh qi qj qk ql qm qn qo))::((b5,ar 98 xf)::((b4,ar 98 xf)::((b3,ar 98 (j7 k FG FH FI FJ FK FL FM FN))::((b2,ar 98 (j7 p Ca Cb Cc Ce yO yP Cf Cg))::((b1,ar 23 [iV cf,iV cl,iV cb,iV cs,iV cr])::(((wM,ar 98 [iV p.slot,iV p.level,lV ZJ p.ab.length ZK,lV ZL p.kids.length ZM,sV p.high.b,.bool p.fp,iV p.right,iV p.seen,lV avH ((dC p.ab i ((aJ p.ab p.aj i).take (bF cl cb k (aJ p.ab p.aj i)).2) (p.aj.take q)++[(p.aj[q]'aa)])).length avI,lV ZN p.rows.length ZO])::R5)++(JN++[])))))))))) ((ag (ag (ag (ag (ag (ag (ag ah))))))).symm.trans (((ag (ag (ag (ag (ag (ag (ag ah))))))).cons _).trans ah)) (g9 3 ?_)
   refine W.sub (bB.cons _) (g9 2 ?_)
   exact⟨SW,(q+1,((wM,ar 98 [iV p.slot,iV p.level,lV ZJ p.ab.length ZK,lV ZL p.kids.length ZM,sV p.high.b,.bool p.fp,iV p.right,iV p.seen,lV avH ((dC p.ab i ((aJ p.ab p.aj i).take (bF cl cb k (aJ p.ab p.aj i)).2) (p.aj.take q)++[(p.aj[q]'aa)])).length avI,lV ZN p.rows.length ZO])::R5)),ct,⟨rfl,(by exact ahY),aa⟩,aa⟩
  exfalso
  simp_all
 refine g9 11 ?_
 refine(H3.mono ((Wg.trans zD).trans adT)).a2 (i:=((aJ p.ab p.aj i).take (bF cl cb k (aJ p.ab p.aj i)).2).length-1) aa (fun aOP aD0=>(W.ok (bd (i:=((aJ p.ab p.aj i).take (bF cl cb k (aJ p.ab p.aj i)).2).length-1) gQ im (H3.mono aO) rfl rfl ⟨aa,aa⟩) (g9 7 ?_)))
 have aD1:=Fe.cast DW (n':={ p with aj:=dC p.ab i ((aJ p.ab p.aj i).take (bF cl cb k (aJ p.ab p.aj i)).2) p.aj }) (by rw [fI (show p.aj.length≤q by omega)])
 have hTl:(((aJ p.ab p.aj i).take (bF cl cb k (aJ p.ab p.aj i)).2)[((aJ p.ab p.aj i).take (bF cl cb k (aJ p.ab p.aj i)).2).length-1]'aa).Ok:=aD0
 obtain⟨azi,azj,azk,azl,aNX,azm,azn,azo,azp,alf,alg,ZP,alh,aJR⟩:=aD1
 subst azp
 have azq:=ZP.form
 refine match azq with|⟨azr,azs,Bp⟩=> ?_
 subst Bp
 dsimp only at alf alg ZP alh
 refine WC.perm (M':=((wM,ar 98 [iV p.slot,iV p.level,lV azi p.ab.length azj,lV azk p.kids.length azl,sV p.high.b,.bool p.fp,iV p.right,iV p.seen,lV azr (dC p.ab i ((aJ p.ab p.aj i).take (bF cl cb k (aJ p.ab p.aj i)).2) p.aj).length azs,lV azm p.rows.length azn])::((GW,ar 98 [iV ((bF cl cb k (aJ p.ab p.aj i)).1).slot,iV ((bF cl cb k (aJ p.ab p.aj i)).1).level,lV qh (((bF cl cb k (aJ p.ab p.aj i)).1).ab).length qi,lV qj (((bF cl cb k (aJ p.ab p.aj i)).1).kids).length qk,sV ((bF cl cb k (aJ p.ab p.aj i)).1).high.b,.bool ((bF cl cb k (aJ p.ab p.aj i)).1).fp,iV ((bF cl cb k (aJ p.ab p.aj i)).1).right,iV ((((aJ p.ab p.aj i).take (bF cl cb k (aJ p.ab p.aj i)).2))[(((aJ p.ab p.aj i).take (bF cl cb k (aJ p.ab p.aj i)).2).length-1)]).aW,lV ql (((bF cl cb k (aJ p.ab p.aj i)).1).aj).length qm,lV qn (((bF cl cb k (aJ p.ab p.aj i)).1).rows).length qo])::((b5,ar 98 xf)::((b4,ar 98 xf)::((b3,ar 98 (j7 k FG FH FI FJ FK FL FM FN))::((b2,ar 98 (j7 p Ca Cb Cc Ce yO yP Cf Cg))::((b1,ar 23 [iV cf,iV cl,iV cb,iV cs,iV cr])::(azo++(JN++[])))))))))) (nV (nV (nV (nV (nV (nV ah)))))).symm (WC.du ZP (ag (ag (ag (ag (ag (ag (ag ah))))))) (fun aJE DU aD2=>(WC.dw ((((((bB.k9.k9).k9).cons _).cons _).k9).k9) (d9 [0,1,2,3,4,5,6] ?_))))
 refine g9 4 ?_
 refine⟨rfl,_,(ayy hko rfl aa).symm,_,_,rfl,?_,?_⟩
 ·exact⟨_,_,_,_,_,_,_,_,rfl,(alf.mono DU),(alg.mono DU),aD2,(alh.mono DU),il⟩
 exact⟨_,_,_,_,_,_,_,_,rfl,(ad2.mono aO),(ad3.mono aO),(ad4.mono aO),(ad5.mono aO),⟨EZ.1,EZ.2.1,EZ.2.2.1,hTl.1⟩⟩

variable {ss:List aw}
theorem aof{c c2:aX}(h:cz 98 4 3 149 100 b c G l M)(t:Tree c2 l ss){x:aw}(hx:x∈ss):Fc Tryz.prog 88 [aC b,iV x.n.slot] G M (fun v G' M'=>(∃cs,v=.tuple #[.agg (List.toArray cs),.bool true]∧cc G' cs x.n)∧M'=M):=
  (pq h _).mono fun v G' M' _ ⟨⟨cs,e1,e2⟩,e3⟩=>⟨⟨cs,by rw [e1,dB (t.nd hx).1],e2.of (t.nd hx).2.1.symm⟩,e3⟩
variable {bj:MH} {bA:Nat}
theorem ali{c c2:aX}(cC:cz 98 4 3 149 100 bA c G l bj)(t:Tree c2 l ss)(k:af):
    Fc Tryz.prog 81 [aC bA,sV k.b] G bj (fun v G' M'=>M'=bj∧∃u1 u2,v=.tuple #[u1,u2]∧az dm G' u1 ((eF l k).map (·.n))∧az oH G' u2 ((eF l k).map (·.s))):=by
 refine Fc.go [.tmp 4,.tmp 5] Tryz.func81 Tryz.ntmps81 rfl (fun w0=>(WC.perm (M':=(bj++[])) (by simp) (g9 8 ?_)))
 refine W.aH (yu) rfl (W.alloc fR (fun vG=>(g9 10 ?_)))
 refine WC.loop (X:=(aw×List aw×Int)×Value×MH×Value×MH) (fun x=>[(6,iV x.1.1.n.slot),(8,iV x.1.2.2),(0,aC bA),(7,aC vG),(1,sV k.b),(4,x.2.1),(5,x.2.2.2.1)]) (fun x G Ml=>Ml=((vG,ar 73 [sV (x.1.1.s).lo.b,sV (x.1.1.s).hi.b,.bool (x.1.1.s).bQ])::(x.2.2.1++(x.2.2.2.2++(bj++[]))))∧aE dm 98 G x.2.1 (x.1.2.1.map (fun y:aw=>y.n)) x.2.2.1∧aE oH 73 G x.2.2.2.1 (x.1.2.1.map (fun y:aw=>y.s)) x.2.2.2.2∧At l ss k x.1.1 x.1.2.1 x.1.2.2) (fun x=>x.1.1.n.level.toNat) (((bC l 0,[],-1):aw×List aw×Int),lV none 0 0,([]:MH),lV none 0 0,([]:MH)) ⟨(ax (Value.int .i64) t.oN.symm),eqv,eqv,eqv,eqv,eqv,eqv,trivial⟩ ?_ ?_
 ·exact⟨rfl,(by simpa using aE.nil),(by simpa using aE.nil),At.init t k⟩
 rintro⟨⟨x,P,lv⟩,LJ,yi,Co,wB⟩ aJS G12 _ JM ⟨rfl,gD,gj,hA⟩
 try dsimp only at gD gj hA
 have Gg:=hA.aG5 t
 have hlx:=t.lvl hA.mem
 have Df:=hA.lv
 refine g9 5 ?_
 refine W.call (Mp:=bj) (aof (cz.mono JM cC) t hA.mem) rfl (ag (bJ (bJ ah))) ?_
 intro v16 Xa Fk lT yg
 refine match yg with|⟨⟨_,CJ,⟨qp,qq,qs,qt,qu,qv,qw,qx,Ao,nu,qy,JO,JP,Ap⟩⟩,GZ⟩=> ?_
 subst CJ
 subst Ao
 have GZ:=GZ.symm
 subst GZ
 refine W.perm (ag ah).symm (g9 3 ?_)
 refine W.alloc cK (fun Ff=>(g9 16 ?_))
 refine W.sd 24 (fun AI pH=> ?_) (fun AI pH=> ?_)
 ·try dsimp only at pH
  have aRE:=Ap.2.1.2
  refine g9 15 ?_
  refine WC.cn (fun ye Lx=> ?_) (fun ye Lx=> ?_)
  ·try dsimp only at Lx
   exfalso;omega
  try dsimp only at Lx
  refine g9 2 ?_
  refine WC.perm (M':=((Ff,ar 98 (j7 x.n qp qq qs qt qu qv qw qx))::((vG,ar 73 [sV (x.s).lo.b,sV (x.s).hi.b,.bool (x.s).bQ])::(yi++(wB++(bj++[])))))) ((((bO _ ((bO _ ah).trans (bJ ah))).trans (bJ ah)).cons _).cons _) ?_
  refine WC.join (X:=(Unit)×Value×MH×Value×MH) (fun u7=>[(8,iV x.n.level),(0,aC bA),(7,aC vG),(9,aC Ff),(1,sV k.b),(4,u7.2.1),(5,u7.2.2.2.1)]) (fun u7 G Ml=>Ml=((Ff,ar 98 (j7 x.n qp qq qs qt qu qv qw qx))::((vG,ar 73 [sV (x.s).lo.b,sV (x.s).hi.b,.bool (x.s).bQ])::(u7.2.2.1++(u7.2.2.2.2++(bj++[])))))∧aE dm 98 G u7.2.1 ((P++[x]).map (fun y:aw=>y.n)) u7.2.2.1∧aE oH 73 G u7.2.2.2.1 ((P++[x]).map (fun y:aw=>y.s)) u7.2.2.2.2) ?_ ?_
  ·refine WC.dw (iD.k9.k9) (d9 [0,1,4,5,8,9] ?_)
   refine WD.any [2,6] (by kernel_rfl) rfl ⟨WD.ap ?_,WD.ap ?_,trivial⟩
   ·refine W.lit (e:=dm) (l:=[x.n]) (css:=[[iV _,iV _,lV _ _ _,lV _ _ _,sV _,.bool _,iV _,iV _,lV _ _ _,lV _ _ _]]) mI jQ cK rfl rfl rfl rfl rfl rfl ⟨(gp nu qy JO JP Ap),trivial⟩ (fun aJI G21 uM BP=>(W.nn ?_))
    refine WD.any [3,6] (by kernel_rfl) rfl ⟨WD.ap ?_,WD.ap ?_,trivial⟩
    ·refine W.app (e:=dm) mI jQ cK rfl HL rfl rfl ((gD.mono aO)) (BP) (ag (ag ah)) (by show(List.length _+1)*152≤_;rw [dt];omega) (fun v22 aaE aqw=>(W.perm (ag (ag ah)).symm (W.nn (WD.a1 6 rfl (W.lit (e:=oH) (l:=[x.s]) (css:=[[sV _,sV _,.bool _]]) qL jG fR rfl rfl rfl rfl rfl rfl ⟨rfl,trivial⟩ (fun aRF G25 H4 H5=>(W.nn (WD.a1 7 rfl (W.app (e:=oH) qL jG fR rfl T6 rfl rfl ((gj.mono aO)) (H5) (ag (ag (bJ ah))) (by show(List.length _+1)*40≤_;rw [dt];omega) (fun v26 CK LZ=>(W.perm (ag (ag ah)).symm (W.nn (d9 [10,11,12] ?_)))))))))))))
     refine WD.ua (M':=((Ff,ar 98 (j7 x.n qp qq qs qt qu qv qw qx))::((vG,ar 73 [sV (x.s).lo.b,sV (x.s).hi.b,.bool (x.s).bQ])::(aaE++(CK++(bj++[])))))) (by kernel_rfl) bB ((((bO _ ((bO _ ah).trans ah)).trans (bJ ah)).cons _).cons _) (jH ?_)
     exact⟨aO,((),v22,aaE,v26,CK),ct,⟨rfl,(by have h:=(aqw.mono H4);rw [bU];exact h),(by have h:=LZ;rw [bU];exact h)⟩⟩
    refine W.lit (e:=oH) (l:=[x.s]) (css:=[[sV _,sV _,.bool _]]) qL jG fR rfl rfl rfl rfl rfl rfl ⟨rfl,trivial⟩ (fun aRG Jl tH aJT=>(W.nn (WD.a1 3 rfl (W.app (e:=dm) mI jQ cK rfl HL rfl rfl ((gD.mono aO)) ((BP.mono tH)) (ag (ag ah)) (by show(List.length _+1)*152≤_;rw [dt];omega) (fun v30 oC Po=>(W.perm (ag (ag ah)).symm (W.nn (WD.a1 7 rfl (W.app (e:=oH) qL jG fR rfl T6 rfl rfl ((gj.mono aO)) (aJT) (ag (ag (bJ ah))) (by show(List.length _+1)*40≤_;rw [dt];omega) (fun v33 JQ aJU=>(W.perm (ag (ag ah)).symm (W.nn (d9 [10,11,12] ?_)))))))))))))
    refine WD.ua (M':=((Ff,ar 98 (j7 x.n qp qq qs qt qu qv qw qx))::((vG,ar 73 [sV (x.s).lo.b,sV (x.s).hi.b,.bool (x.s).bQ])::(oC++(JQ++(bj++[])))))) (by kernel_rfl) bB ((((bO _ ((bO _ ah).trans ah)).trans (bJ ah)).cons _).cons _) (jH ?_)
    exact⟨aO,((),v30,oC,v33,JQ),ct,⟨rfl,(by have h:=Po;rw [bU];exact h),(by have h:=aJU;rw [bU];exact h)⟩⟩
   refine W.lit (e:=oH) (l:=[x.s]) (css:=[[sV _,sV _,.bool _]]) qL jG fR rfl rfl rfl rfl rfl rfl ⟨rfl,trivial⟩ (fun aRH G36 CL alj=>(W.nn (WD.a1 2 rfl (W.lit (e:=dm) (l:=[x.n]) (css:=[[iV _,iV _,lV _ _ _,lV _ _ _,sV _,.bool _,iV _,iV _,lV _ _ _,lV _ _ _]]) mI jQ cK rfl rfl rfl rfl rfl rfl ⟨(gE CL nu qy JO JP Ap),trivial⟩ (fun aRI G37 aaF aqx=>(W.nn (WD.a1 3 rfl (W.app (e:=dm) mI jQ cK rfl HL rfl rfl ((gD.mono aO)) (aqx) (ag (ag ah)) (by show(List.length _+1)*152≤_;rw [dt];omega) (fun v38 BS Fo=>(W.perm (ag (ag ah)).symm (W.nn (WD.a1 7 rfl (W.app (e:=oH) qL jG fR rfl T6 rfl rfl ((gj.mono aO)) ((alj.mono aaF)) (ag (ag (bJ ah))) (by show(List.length _+1)*40≤_;rw [dt];omega) (fun v41 DM avJ=>(W.perm (ag (ag ah)).symm (W.nn (d9 [10,11,12] ?_)))))))))))))))))
   refine WD.ua (M':=((Ff,ar 98 (j7 x.n qp qq qs qt qu qv qw qx))::((vG,ar 73 [sV (x.s).lo.b,sV (x.s).hi.b,.bool (x.s).bQ])::(BS++(DM++(bj++[])))))) (by kernel_rfl) bB ((((bO _ ((bO _ ah).trans ah)).trans (bJ ah)).cons _).cons _) (jH ?_)
   exact⟨aO,((),v38,BS,v41,DM),ct,⟨rfl,(by have h:=Fo;rw [bU];exact h),(by have h:=avJ;rw [bU];exact h)⟩⟩
  rintro⟨u7,LJ,yi,Co,wB⟩ aRJ G44 _ Nb ⟨rfl,gD,gj⟩
  try dsimp only at gD gj
  refine g9 6 ?_
  refine W.sd 46 (fun h45 tq=> ?_) (fun h45 tq=> ?_)
  ·try dsimp only at tq
   refine g9 18 ?_
   refine WC.du gD (ag (ag ah)) (fun G45 RO aJV=>(WC.du (gj.mono RO) (ag (ag ah)) (fun G46 avK Nc=>(g9 5 ?_))))
   refine⟨.inr rfl,[_,_],⟨rfl,rfl,trivial⟩,_,((aI _ _).cons _).cons _,?_⟩
   refine⟨rfl,_,_,rfl,az.cast (aJV.mono avK) (by rw [hA.last tq]),az.cast Nc (by rw [hA.last tq])⟩
  try dsimp only at tq
  refine g9 9 ?_
  refine W.aH (FU (nu.mono Nb) (qy.mono Nb)) rfl (g9 5 ?_)
  refine WC.cond rfl (fun h52=> ?_) (fun h52=> ?_)
  ·have h0:=t.right hA.mem tq;simp [h0]at h52
  have XM:=t.nS hA.mem tq k
  have o9:x.n.kids.length≤4000:=(t.C2.at (.inr (t.nd hA.mem).2.2)).1
  refine g9 7 ?_
  refine W.aH (mL (nu.mono Nb) _ (dp (t.right hA.mem tq)).1) rfl (g9 3 ?_)
  refine WC.dw ((bB.cons _).k9) (d9 [0,1,2] ?_)
  refine(qy.mono Nb).a2 (i:=ae x.n.ab k) aa (fun aRK aRL=>(WD.tk 3 rfl (bd (i:=ae x.n.ab k) dG cV (qy.mono Nb) rfl rfl ⟨aa,aa⟩) (d9 [4,6,7,8] ?_)))
  refine WD.any [5,9] (by kernel_rfl) rfl ⟨WD.ap ?_,WD.ap ?_,trivial⟩
  ·refine g9 1 ?_
   refine W.nn (WD.a1 9 rfl (W.aH (lH (nu.mono Nb) _ ⟨aa,aa⟩) rfl (W.nn (WD.a1 10 rfl (W.aH (nH _ _ _ _ _ _) rfl (W.nn (d9 [11,12] ?_)))))))
   refine WD.ua (M':=((vG,ar 73 [sV ((aq l x (ae x.n.ab k)).s).lo.b,sV ((aq l x (ae x.n.ab k)).s).hi.b,.bool ((aq l x (ae x.n.ab k)).s).bQ])::(yi++(wB++(bj++[]))))) (by kernel_rfl) (bB.cons _) ah (pI (jH ?_))
   exact⟨aO,(((aq l x (ae x.n.ab k),P++[x],x.n.level):aw×List aw×Int),LJ,yi,Co,wB),⟨(ax (Value.int .i64) (At.slot t hA.mem tq k).symm),eqv,eqv,eqv,eqv,eqv,eqv,trivial⟩,⟨rfl,(by simpa using gD),(by simpa using gj),hA.next t tq⟩,by have:=(t.at hA.mem aa (t.nS hA.mem tq k)).2.2.2;dsimp only;omega⟩
  refine W.aH (lH (nu.mono Nb) _ ⟨aa,aa⟩) rfl (W.nn (WD.a1 5 rfl (g9 1 ?_)))
  refine W.nn (WD.a1 10 rfl (W.aH (nH _ _ _ _ _ _) rfl (W.nn (d9 [11,12] ?_))))
  refine WD.ua (M':=((vG,ar 73 [sV ((aq l x (ae x.n.ab k)).s).lo.b,sV ((aq l x (ae x.n.ab k)).s).hi.b,.bool ((aq l x (ae x.n.ab k)).s).bQ])::(yi++(wB++(bj++[]))))) (by kernel_rfl) (bB.cons _) ah (pI (jH ?_))
  exact⟨aO,(((aq l x (ae x.n.ab k),P++[x],x.n.level):aw×List aw×Int),LJ,yi,Co,wB),⟨(ax (Value.int .i64) (At.slot t hA.mem tq k).symm),eqv,eqv,eqv,eqv,eqv,eqv,trivial⟩,⟨rfl,(by simpa using gD),(by simpa using gj),hA.next t tq⟩,by have:=(t.at hA.mem aa (t.nS hA.mem tq k)).2.2.2;dsimp only;omega⟩
 try dsimp only at pH
 refine g9 13 ?_
 refine WC.perm (M':=((Ff,ar 98 (j7 x.n qp qq qs qt qu qv qw qx))::((vG,ar 73 [sV (x.s).lo.b,sV (x.s).hi.b,.bool (x.s).bQ])::(yi++(wB++(bj++[])))))) ((((bO _ ((bO _ ah).trans (bJ ah))).trans (bJ ah)).cons _).cons _) ?_
 refine WC.join (X:=(Unit)×Value×MH×Value×MH) (fun u7=>[(8,iV x.n.level),(0,aC bA),(7,aC vG),(9,aC Ff),(1,sV k.b),(4,u7.2.1),(5,u7.2.2.2.1)]) (fun u7 G Ml=>Ml=((Ff,ar 98 (j7 x.n qp qq qs qt qu qv qw qx))::((vG,ar 73 [sV (x.s).lo.b,sV (x.s).hi.b,.bool (x.s).bQ])::(u7.2.2.1++(u7.2.2.2.2++(bj++[])))))∧aE dm 98 G u7.2.1 ((P++[x]).map (fun y:aw=>y.n)) u7.2.2.1∧aE oH 73 G u7.2.2.2.1 ((P++[x]).map (fun y:aw=>y.s)) u7.2.2.2.2) ?_ ?_
 ·refine WC.dw (iD.k9.k9) (d9 [0,1,4,5,8,9] ?_)
  refine WD.any [2,6] (by kernel_rfl) rfl ⟨WD.ap ?_,WD.ap ?_,trivial⟩
  ·refine W.lit (e:=dm) (l:=[x.n]) (css:=[[iV _,iV _,lV _ _ _,lV _ _ _,sV _,.bool _,iV _,iV _,lV _ _ _,lV _ _ _]]) mI jQ cK rfl rfl rfl rfl rfl rfl ⟨(gp nu qy JO JP Ap),trivial⟩ (fun aRM G51 asT DS=>(W.nn ?_))
   refine WD.any [3,6] (by kernel_rfl) rfl ⟨WD.ap ?_,WD.ap ?_,trivial⟩
   ·refine W.app (e:=dm) mI jQ cK rfl HL rfl rfl ((gD.mono aO)) (DS) (ag (ag ah)) (by show(List.length _+1)*152≤_;rw [dt];omega) (fun v52 RD avL=>(W.perm (ag (ag ah)).symm (W.nn (WD.a1 6 rfl (W.lit (e:=oH) (l:=[x.s]) (css:=[[sV _,sV _,.bool _]]) qL jG fR rfl rfl rfl rfl rfl rfl ⟨rfl,trivial⟩ (fun aIN G55 B7 aud=>(W.nn (WD.a1 7 rfl (W.app (e:=oH) qL jG fR rfl T6 rfl rfl ((gj.mono aO)) (aud) (ag (ag (bJ ah))) (by show(List.length _+1)*40≤_;rw [dt];omega) (fun v56 yJ FD=>(W.perm (ag (ag ah)).symm (W.nn (d9 [10,11,12] ?_)))))))))))))
    refine WD.ua (M':=((Ff,ar 98 (j7 x.n qp qq qs qt qu qv qw qx))::((vG,ar 73 [sV (x.s).lo.b,sV (x.s).hi.b,.bool (x.s).bQ])::(RD++(yJ++(bj++[])))))) (by kernel_rfl) bB ((((bO _ ((bO _ ah).trans ah)).trans (bJ ah)).cons _).cons _) (jH ?_)
    exact⟨aO,((),v52,RD,v56,yJ),ct,⟨rfl,(by have h:=(avL.mono B7);rw [bU];exact h),(by have h:=FD;rw [bU];exact h)⟩⟩
   refine W.lit (e:=oH) (l:=[x.s]) (css:=[[sV _,sV _,.bool _]]) qL jG fR rfl rfl rfl rfl rfl rfl ⟨rfl,trivial⟩ (fun aRN G59 LW Wh=>(W.nn (WD.a1 3 rfl (W.app (e:=dm) mI jQ cK rfl HL rfl rfl ((gD.mono aO)) ((DS.mono LW)) (ag (ag ah)) (by show(List.length _+1)*152≤_;rw [dt];omega) (fun v60 PB ajq=>(W.perm (ag (ag ah)).symm (W.nn (WD.a1 7 rfl (W.app (e:=oH) qL jG fR rfl T6 rfl rfl ((gj.mono aO)) (Wh) (ag (ag (bJ ah))) (by show(List.length _+1)*40≤_;rw [dt];omega) (fun v63 aed aJW=>(W.perm (ag (ag ah)).symm (W.nn (d9 [10,11,12] ?_)))))))))))))
   refine WD.ua (M':=((Ff,ar 98 (j7 x.n qp qq qs qt qu qv qw qx))::((vG,ar 73 [sV (x.s).lo.b,sV (x.s).hi.b,.bool (x.s).bQ])::(PB++(aed++(bj++[])))))) (by kernel_rfl) bB ((((bO _ ((bO _ ah).trans ah)).trans (bJ ah)).cons _).cons _) (jH ?_)
   exact⟨aO,((),v60,PB,v63,aed),ct,⟨rfl,(by have h:=ajq;rw [bU];exact h),(by have h:=aJW;rw [bU];exact h)⟩⟩
  refine W.lit (e:=oH) (l:=[x.s]) (css:=[[sV _,sV _,.bool _]]) qL jG fR rfl rfl rfl rfl rfl rfl ⟨rfl,trivial⟩ (fun aRO G66 V4 avM=>(W.nn (WD.a1 2 rfl (W.lit (e:=dm) (l:=[x.n]) (css:=[[iV _,iV _,lV _ _ _,lV _ _ _,sV _,.bool _,iV _,iV _,lV _ _ _,lV _ _ _]]) mI jQ cK rfl rfl rfl rfl rfl rfl ⟨(gE V4 nu qy JO JP Ap),trivial⟩ (fun aRP G67 MO avN=>(W.nn (WD.a1 3 rfl (W.app (e:=dm) mI jQ cK rfl HL rfl rfl ((gD.mono aO)) (avN) (ag (ag ah)) (by show(List.length _+1)*152≤_;rw [dt];omega) (fun v68 acJ aJX=>(W.perm (ag (ag ah)).symm (W.nn (WD.a1 7 rfl (W.app (e:=oH) qL jG fR rfl T6 rfl rfl ((gj.mono aO)) ((avM.mono MO)) (ag (ag (bJ ah))) (by show(List.length _+1)*40≤_;rw [dt];omega) (fun v71 ajj aJY=>(W.perm (ag (ag ah)).symm (W.nn (d9 [10,11,12] ?_)))))))))))))))))
  refine WD.ua (M':=((Ff,ar 98 (j7 x.n qp qq qs qt qu qv qw qx))::((vG,ar 73 [sV (x.s).lo.b,sV (x.s).hi.b,.bool (x.s).bQ])::(acJ++(ajj++(bj++[])))))) (by kernel_rfl) bB ((((bO _ ((bO _ ah).trans ah)).trans (bJ ah)).cons _).cons _) (jH ?_)
  exact⟨aO,((),v68,acJ,v71,ajj),ct,⟨rfl,(by have h:=aJX;rw [bU];exact h),(by have h:=aJY;rw [bU];exact h)⟩⟩
 rintro⟨u7,LJ,yi,Co,wB⟩ aRQ G74 _ x7 ⟨rfl,gD,gj⟩
 try dsimp only at gD gj
 refine g9 6 ?_
 refine W.sd 46 (fun h45 tq=> ?_) (fun h45 tq=> ?_)
 ·try dsimp only at tq
  refine g9 18 ?_
  refine WC.du gD (ag (ag ah)) (fun G75 aAm adZ=>(WC.du (gj.mono aAm) (ag (ag ah)) (fun G76 LY avO=>(g9 5 ?_))))
  refine⟨.inr rfl,[_,_],⟨rfl,rfl,trivial⟩,_,((aI _ _).cons _).cons _,?_⟩
  refine⟨rfl,_,_,rfl,az.cast (adZ.mono LY) (by rw [hA.last tq]),az.cast avO (by rw [hA.last tq])⟩
 try dsimp only at tq
 refine g9 9 ?_
 refine W.aH (FU (nu.mono x7) (qy.mono x7)) rfl (g9 5 ?_)
 refine WC.cond rfl (fun h52=> ?_) (fun h52=> ?_)
 ·have h0:=t.right hA.mem tq;simp [h0]at h52
 have XM:=t.nS hA.mem tq k
 have o9:x.n.kids.length≤4000:=(t.C2.at (.inr (t.nd hA.mem).2.2)).1
 refine g9 7 ?_
 refine W.aH (mL (nu.mono x7) _ (dp (t.right hA.mem tq)).1) rfl (g9 3 ?_)
 refine WC.dw ((bB.cons _).k9) (d9 [0,1,2] ?_)
 refine(qy.mono x7).a2 (i:=ae x.n.ab k) aa (fun aRR aRS=>(WD.tk 3 rfl (bd (i:=ae x.n.ab k) dG cV (qy.mono x7) rfl rfl ⟨aa,aa⟩) (d9 [4,6,7,8] ?_)))
 refine WD.any [5,9] (by kernel_rfl) rfl ⟨WD.ap ?_,WD.ap ?_,trivial⟩
 ·refine g9 1 ?_
  refine W.nn (WD.a1 9 rfl (W.aH (lH (nu.mono x7) _ ⟨aa,aa⟩) rfl (W.nn (WD.a1 10 rfl (W.aH (nH _ _ _ _ _ _) rfl (W.nn (d9 [11,12] ?_)))))))
  refine WD.ua (M':=((vG,ar 73 [sV ((aq l x (ae x.n.ab k)).s).lo.b,sV ((aq l x (ae x.n.ab k)).s).hi.b,.bool ((aq l x (ae x.n.ab k)).s).bQ])::(yi++(wB++(bj++[]))))) (by kernel_rfl) (bB.cons _) ah (pI (jH ?_))
  exact⟨aO,(((aq l x (ae x.n.ab k),P++[x],x.n.level):aw×List aw×Int),LJ,yi,Co,wB),⟨(ax (Value.int .i64) (At.slot t hA.mem tq k).symm),eqv,eqv,eqv,eqv,eqv,eqv,trivial⟩,⟨rfl,(by simpa using gD),(by simpa using gj),hA.next t tq⟩,by have:=(t.at hA.mem aa (t.nS hA.mem tq k)).2.2.2;dsimp only;omega⟩
 refine W.aH (lH (nu.mono x7) _ ⟨aa,aa⟩) rfl (W.nn (WD.a1 5 rfl (g9 1 ?_)))
 refine W.nn (WD.a1 10 rfl (W.aH (nH _ _ _ _ _ _) rfl (W.nn (d9 [11,12] ?_))))
 refine WD.ua (M':=((vG,ar 73 [sV ((aq l x (ae x.n.ab k)).s).lo.b,sV ((aq l x (ae x.n.ab k)).s).hi.b,.bool ((aq l x (ae x.n.ab k)).s).bQ])::(yi++(wB++(bj++[]))))) (by kernel_rfl) (bB.cons _) ah (pI (jH ?_))
 exact⟨aO,(((aq l x (ae x.n.ab k),P++[x],x.n.level):aw×List aw×Int),LJ,yi,Co,wB),⟨(ax (Value.int .i64) (At.slot t hA.mem tq k).symm),eqv,eqv,eqv,eqv,eqv,eqv,trivial⟩,⟨rfl,(by simpa using gD),(by simpa using gj),hA.next t tq⟩,by have:=(t.at hA.mem aa (t.nS hA.mem tq k)).2.2.2;dsimp only;omega⟩

theorem Wi{c:aX}(h:cz 98 4 3 149 100 b c G l M)(hr:l.length<c.bp.toNat)(hx:cc G cs x)(k:Int)(hk:k=l.length):Fc Tryz.prog 39 [aC b,.agg (List.toArray cs)] G M (fun v G' M'=>v=.tuple #[iV k,iV 0]∧cz 98 4 3 149 100 b c G' (tk l x) M'):=
  (V6 h hx).mono fun v G' M' _ ⟨e1,e2⟩=>by rw [abE hr]at e1 e2;exact⟨by rw [e1,hk],e2⟩
theorem eA{c:aX}(h:cz 98 4 3 149 100 b c G l M)(hs:0≤x.slot∧x.slot<l.length)(hx:cc G cs x):Fc Tryz.prog 79 [aC b,.agg (List.toArray cs)] G M (fun v G' M'=>v=iV 0∧cz 98 4 3 149 100 b c G' (l.set x.slot.toNat x) M'):=
  (auR h hx).mono fun v G' M' _ ⟨e1,e2⟩=>by rw [XC hs]at e1 e2;exact⟨e1,e2⟩
theorem cz.to{c:aX}{l':List Nd}(h:cz 98 4 3 149 100 b c G l M)(e:l=l'):cz 98 4 3 149 100 b c G l' M:=e▸h
theorem Wj{c c2:aX}(cC:cz 98 4 3 149 100 bA c G l bj)(t:Tree c2 l ss):
    Fc Tryz.prog 89 [aC bA] G bj (fun v G' M'=>v=iV (dJ c l).1∧cz 98 4 3 149 100 bA c G' (dJ c l).2 M'):=by
 have hp0:=t.pos
 have aD3:=t.C2.1
 have hrn:=t.pK
 have AO:(ai l 0).slot=0:=by rw [←hrn];exact t.oN
 have aJZ:=t.Iz
 rw [hrn]at aJZ
 have aJ0:=t.lvl t.root
 rw [hrn]at aJ0
 have hz0:i64 0:=⟨by decide,by decide⟩
 have Df:i64 ((ai l 0).level+1):=⟨aa,aa⟩
 have ni:∀m∈(ai l 0).aj,m.key.b.size<140737488355328:=fun m hm=>by rw [←hrn]at hm;have:=(fg ((t.aj t.root).2.1 m hm)).1;omega
 have hxi:i64 (l.length:Int):=⟨aa,aa⟩
 have hyi:i64 ((l.length:Int)+1):=⟨aa,aa⟩
 refine Fc.go [.tmp 2] Tryz.func89 Tryz.ntmps89 rfl (fun w0=>(WC.perm (M':=(bj++[])) (by simp) (g9 8 ?_)))
 refine W.call (Mp:=bj) (pq cC _) rfl ah ?_
 intro v11 G8 Pq H9 q9
 refine match q9 with|⟨⟨_,z3,⟨_,_,_,_,_,_,_,_,Rj,JR,JS,JT,JU,E0⟩⟩,Pr⟩=> ?_
 subst z3
 subst Rj
 have Pr:=Pr.symm
 subst Pr
 refine g9 3 ?_
 refine W.alloc cK (fun yT=>(g9 11 ?_))
 refine WC.cn (fun AI pH=> ?_) (fun AI pH=> ?_)
 ·try dsimp only at pH
  exfalso;omega
 try dsimp only at pH
 refine g9 6 ?_
 refine W.call (Mp:=[]) (Wd (gp JR JS JT JU E0) 0 0 (by assumption) (by assumption) Df ni) rfl ah ?_
 intro _ G16 _ aA3 DI
 refine match DI with|⟨uN,_,Aa,_,_,_,Af,avP,DX,wh⟩=> ?_
 subst uN
 subst Aa
 subst Af
 refine match avP with|⟨_,_,_,_,_,_,_,_,xe,aJ1,aJ2,aJ3,aJ4,aFT⟩=> ?_
 subst xe
 refine match DX with|⟨_,_,_,_,_,_,_,_,vg,aJ5,aJ6,aJ7,aJ8,aFU⟩=> ?_
 subst vg
 refine match wh with|⟨_,_,_,_,_,_,_,_,xW,ad2,ad3,ad4,ad5,EZ⟩=> ?_
 subst xW
 refine g9 5 ?_
 refine W.alloc cK (fun b27=>(W.alloc cK (fun GW=>(W.alloc cK (fun b29=>(g9 12 ?_))))))
 refine WC.cond rfl (fun yf=> ?_) (fun yf=> ?_)
 ·refine g9 7 ?_
  refine⟨.inr rfl,[_],⟨rfl,trivial⟩,_,((((aI _ _).cons _).cons _).cons _).cons _,?_⟩
  exact⟨ax (fun p:Int×List Nd=>Value.int .i64 p.1) (II (by simpa using yf)).symm,cz.to (cz.mono aO cC) (ax Prod.snd (II (by simpa using yf))).symm⟩
 have dI:(eS (ai l 0) 0 0).2.2.2=true:=by simpa using yf
 obtain⟨FZ,si,hs3⟩:=XV (x:=(l.length:Int)) (y:=(l.length:Int)+1) dI
 rw [AO]at FZ
 refine g9 6 ?_
 refine W.call (Mp:=bj) (anQ (cz.mono aO cC)) rfl (ag (ag (ag (ag ah)))) ?_
 intro v33 G30 aRT aBn q31
 refine match q31 with|⟨zB,ahZ⟩=> ?_
 subst zB
 have ahZ:=ahZ.symm
 subst ahZ
 refine W.perm (ag (ag (ag (ag ah)))).symm (g9 3 ?_)
 refine WC.cd (fun h35 JV=> ?_) (fun h35 JV=> ?_)
 ·try dsimp only at JV
  refine g9 7 ?_
  refine⟨.inr rfl,[_],⟨rfl,trivial⟩,_,((((aI _ _).cons _).cons _).cons _).cons _,?_⟩
  exact⟨ax (fun p:Int×List Nd=>Value.int .i64 p.1) (xz dI aa).symm,cz.to (cz.mono aO cC) (ax Prod.snd (xz dI aa)).symm⟩
 try dsimp only at JV
 refine g9 6 ?_
 refine W.call (Mp:=bj) (Wi (cz.mono aO cC) aa (gE aO JR JS JT JU E0) (l.length:Int) (by rfl)) rfl (ag (ag (ag (ag ah)))) ?_
 intro v39 G36 HZ CL Ks
 refine match Ks with|⟨Py,Fl⟩=> ?_
 subst Py
 refine W.perm (ag (ag (ag (ag ah)))).symm (g9 11 ?_)
 refine W.call (Mp:=HZ) (Wi Fl (by rw [yD];omega) (gE aO JR JS JT JU E0) ((l.length:Int)+1) (by rw [yD];omega)) rfl (ag (ag (ag (ag ah)))) ?_
 intro v45 G42 Pz ajh q43
 refine match q43 with|⟨zC,aqH⟩=> ?_
 subst zC
 refine W.perm (ag (ag (ag (ag ah)))).symm (g9 12 ?_)
 refine W.call (Mp:=[]) (Wd (gE aO JR JS JT JU E0) _ _ (by assumption) (by assumption) Df ni) rfl ah ?_
 intro _ G48 _ CM q52
 refine match q52 with|⟨DN,_,Jq,_,_,_,PF,aqM,aJ9,DS⟩=> ?_
 subst DN
 subst Jq
 subst PF
 refine match aqM with|⟨_,_,_,_,_,_,_,_,Sy,avQ,avR,avS,avT,aog⟩=> ?_
 subst Sy
 refine match aJ9 with|⟨_,_,_,_,_,_,_,_,adY,avU,avV,avW,avX,aoh⟩=> ?_
 subst adY
 refine match DS with|⟨_,_,_,_,_,_,_,_,PA,aee,aef,aeg,aeh,Wk⟩=> ?_
 subst PA
 refine g9 5 ?_
 refine W.alloc cK (fun wM=>(W.alloc cK (fun b60=>(W.alloc cK (fun b61=>(g9 10 ?_))))))
 refine W.call (Mp:=Pz) (eA (cz.mono CM aqH) (by simp only [cg,yD];omega) (gp avQ avR avS avT aog)) rfl (ag (ag (ag (ag (ag (ag (ag ah))))))) ?_
 intro v65 G62 aed aBo q63
 refine match q63 with|⟨Ja,aBp⟩=> ?_
 subst Ja
 refine W.perm (ag (ag (ag (ag (ag (ag (ag ah))))))).symm (g9 6 ?_)
 refine W.call (Mp:=aed) (eA aBp (by simp only [cg,yD];omega) (gE aBo avU avV avW avX aoh)) rfl (ag (ag (ag (ag (ag (ag (ag ah))))))) ?_
 intro v71 G68 akP M7 q69
 refine match q69 with|⟨adp,aKa⟩=> ?_
 subst adp
 refine W.perm (ag (ag (ag (ag (ag (ag (ag ah))))))).symm (g9 6 ?_)
 refine W.call (Mp:=akP) (eA aKa (by simp only [cg,yD];omega) (gE aO aee aef aeg aeh Wk)) rfl (ag (ag (ag (ag (ag (ag (ag ah))))))) ?_
 intro v77 G74 adx x7 q75
 refine match q75 with|⟨avY,aKb⟩=> ?_
 subst avY
 refine W.perm (ag (ag (ag (ag (ag (ag (ag ah))))))).symm (g9 4 ?_)
 refine⟨.inr rfl,[_],⟨rfl,trivial⟩,_,(((((((aI _ _).cons _).cons _).cons _).cons _).cons _).cons _).cons _,?_⟩
 exact⟨ax (fun p:Int×List Nd=>Value.int .i64 p.1) (zO dI aa).symm,cz.to aKb ((af8 aa si hs3 t.pos).trans (ax Prod.snd (zO dI aa)).symm)⟩

theorem aei{c:aX}{j6:Nat}{a:List Nd×List Bool}{kP:MH}(cJ:bY dm 98 4 3 149 j6 G a kP):
    Fc Tryz.prog 107 [aC bA] G ((bA,ar 100 [iV c.fan,iV c.leaf,iV c.aT,iV c.bp,iV c.rest,aC j6])::(kP)) (fun v G' M'=>v=.agg (List.toArray [iV c.fan,iV c.leaf,iV c.aT,iV c.bp,iV c.rest])∧M'=(bA,ar 100 [iV c.fan,iV c.leaf,iV c.aT,iV c.bp,iV c.rest,aC j6])::kP):=by
 refine Fc.go [.cell 2 23] Tryz.func107 Tryz.ntmps107 rfl (fun w0=>(WC.perm (M':=((bA,ar 100 [iV c.fan,iV c.leaf,iV c.aT,iV c.bp,iV c.rest,aC j6])::(kP++[]))) (by simp) (g9 2 ?_)))
 refine W.alloc aiZ (fun b1=>(g9 6 ?_))
 refine W.ok (fx HM rfl rfl) (g9 15 ?_)
 refine⟨.inr rfl,[_],⟨⟨_,_,_,_,_,rfl,cY (i:=0) rfl,azY,(by simp),rfl,rfl⟩,trivial⟩,_,bB.k9.cons _,?_⟩
 exact⟨rfl,ax _ (cx _)⟩

theorem iT{c:aX}(h:cz 98 4 3 149 100 b c G l M):Fc Tryz.prog 107 [aC b] G M (fun v G' M'=>v=.agg (List.toArray [iV c.fan,iV c.leaf,iV c.aT,iV c.bp,iV c.rest])∧M'=M):=by
  obtain⟨hc,hl,b2,Ma,rfl,hA⟩:=h
  exact aei (c:=c) hA
theorem aoi{c:aX}(h:cz 98 4 3 149 100 b c G l M)(hx:cc G cs x):Fc Tryz.prog 39 [aC b,.agg (List.toArray cs)] G M (fun v G' M'=>(l.length<c.bp.toNat∧v=.tuple #[iV (l.length:Int),iV 0]∧cz 98 4 3 149 100 b c G' (tk l x) M')∨(¬l.length<c.bp.toNat∧v=.tuple #[iV 0,iV 4]∧cz 98 4 3 149 100 b c G' l M')):=by
  refine(V6 h hx).mono fun v G' M' _ ⟨e1,e2⟩=> ?_
  by_cases hr:l.length<c.bp.toNat
  ·rw [abE hr]at e1 e2;exact .inl ⟨hr,e1,e2⟩
  rw [aa3 hr]at e1 e2;exact .inr ⟨hr,e1,e2⟩
theorem aoj{c c2:aX}(cC:cz 98 4 3 149 100 bA c G l bj)(t:Tree c2 l ss)(p:Int)(i:Nat)(jK:i64 ((i:Nat):Int)):
    Fc Tryz.prog 142 [aC bA,iV p,aK i] G bj (fun v G' M'=>v=iV (m5 c l p i).1∧cz 98 4 3 149 100 bA c G' (m5 c l p i).2 M'):=by
 have aD3:=t.C2.1
 have hz0:i64 0:=⟨by decide,by decide⟩
 have hyi:i64 (l.length:Int):=⟨aa,aa⟩
 have tw:=jK.1
 have jY:=jK.2
 refine Fc.go [.tmp 6] Tryz.func142 Tryz.ntmps142 rfl (fun w0=>(WC.perm (M':=(bj++[])) (by simp) (g9 9 ?_)))
 refine W.ok (fx HM rfl rfl) (g9 9 ?_)
 refine W.call (Mp:=bj) (pq cC _) rfl ah ?_
 intro v5 G2 H6 lJ q3
 refine match q3 with|⟨⟨_,DB,⟨_,_,_,_,_,_,_,_,GN,OG,JW,OH,OI,JX⟩⟩,sf⟩=> ?_
 subst DB
 subst GN
 have sf:=sf.symm
 subst sf
 refine g9 3 ?_
 refine W.alloc cK (fun b9=>(g9 10 ?_))
 refine W.sm 34 (fun DV x9=> ?_) (fun DV x9=> ?_)
 ·try dsimp only at x9
  refine g9 20 ?_
  refine⟨.inr rfl,[_],⟨rfl,trivial⟩,_,(aI _ _).cons _,?_⟩
  have hE:=sO (c:=c) (l:=l) (p:=p) (i:=i) (.inl (by simp at DV;omega))
  exact⟨ax (fun q:Int×List Nd=>Value.int .i64 q.1) hE.symm,cz.to (cz.mono lJ cC) (ax Prod.snd hE).symm⟩
 try dsimp only at x9
 have h1:0≤p∧p<(l.length:Int):=by simpa using DV
 refine g9 6 ?_
 refine W.sd 38 (fun h36 Aq=> ?_) (fun h36 Aq=> ?_)
 ·try dsimp only at Aq
  exfalso;omega
 try dsimp only at Aq
 refine g9 13 ?_
 refine WC.cd (fun h43 SX=> ?_) (fun h43 SX=> ?_)
 ·try dsimp only at SX
  refine g9 7 ?_
  refine⟨.inr rfl,[_],⟨rfl,trivial⟩,_,(aI _ _).cons _,?_⟩
  have hE:=sO (c:=c) (l:=l) (p:=p) (i:=i) (.inr (.inl aa))
  exact⟨ax (fun q:Int×List Nd=>Value.int .i64 q.1) hE.symm,cz.to (cz.mono lJ cC) (ax Prod.snd hE).symm⟩
 try dsimp only at SX
 have h2:¬(ai l p).kids.length≤i:=by omega
 have hkd:(ai l p).kids[i]'aa=fT l p i:=by unfold fT;rw [fc,eY aa];rfl
 refine g9 8 ?_
 refine JW.a2 (i:=i) aa (fun ap8 aRU=>(g9 2 ?_))
 refine W.call (Mp:=bj) (pq (cz.mono lJ cC) (fT l p i)) (ax (fun k:Int=>[_,Value.int .i64 k]) hkd) (ag ah) ?_
 intro v17 G14 O4 vY q15
 refine match q15 with|⟨⟨_,Ao,⟨_,_,_,_,_,_,_,_,z9,SY,SZ,S0,S3,LK⟩⟩,Ha⟩=> ?_
 subst Ao
 subst z9
 have Ha:=Ha.symm
 subst Ha
 refine W.perm (ag ah).symm (g9 3 ?_)
 refine W.alloc cK (fun b21=>(g9 13 ?_))
 refine WC.cn (fun h57 p57=> ?_) (fun h57 p57=> ?_)
 ·try dsimp only at p57
  refine g9 8 ?_
  refine⟨.inr rfl,[_],⟨rfl,trivial⟩,_,((aI _ _).cons _).cons _,?_⟩
  have hE:=sO (c:=c) (l:=l) (p:=p) (i:=i) (.inr (.inr (by simp at h57;omega)))
  exact⟨ax (fun q:Int×List Nd=>Value.int .i64 q.1) hE.symm,cz.to (cz.mono aO cC) (ax Prod.snd hE).symm⟩
 try dsimp only at p57
 have h3:0≤fT l p i∧fT l p i<(l.length:Int):=by simpa using h57
 have ox:=cZ t.slot h3
 have pM:=cZ t.slot h1
 have ni:∀m∈(ai l (fT l p i)).aj,m.key.b.size<140737488355328:=fun m hm=>by have:=((t.C2.2 _ ox.2).2.2.2.2.2.1 m hm).1;omega
 have hz9:(ai l p).ab.length≤1000000∧(ai l p).kids.length≤1000000:=by have:=t.C2.2 _ pM.2;exact⟨by have:=this.2.1;omega,by have:=this.1;omega⟩
 refine WC.seq (WC.dw (iD.k9.k9) (d9 [0,2] ?_))
 refine WD.a1 1 rfl (W.call (Mp:=bj) (iT (cz.mono aO cC)) rfl (ag (ag ah)) ?_)
 intro v25 G22 ach I6 Yo
 refine match Yo with|⟨aej,ah0⟩=> ?_
 subst aej
 have ah0:=ah0.symm
 subst ah0
 refine W.perm (ag (ag ah)).symm (W.nn (WD.a1 3 rfl (W.aH (Aj _ _ _ _ _ (gE aO OG JW OH OI JX)) rfl (W.nn (d9 [4] ?_)))))
 refine g9 2 ?_
 refine WC.cond rfl (fun h62=> ?_) (fun h62=> ?_)
 ·refine g9 8 ?_
  refine⟨.inr rfl,[_],⟨rfl,trivial⟩,_,((aI _ _).cons _).cons _,?_⟩
  have hE:=QD (c:=c) h1 h2 h3 (by simpa using h62)
  exact⟨ax (fun q:Int×List Nd=>Value.int .i64 q.1) hE.symm,cz.to (cz.mono aO cC) (ax Prod.snd hE).symm⟩
 have h4:dE c (ai l p)=false:=by simpa using h62
 refine g9 6 ?_
 refine W.cM (DT (gE I6 SY SZ S0 S3 LK) 0 hz0 ni) rfl (fun _ _ _ _ _ _ _ _ _ _ _ _ _ _ _ _ G28 atL aKc aKd aKe aKf aFV ad6 ad7 ad8 ad9 aoe=>(g9 5 ?_))
 refine W.alloc cK (fun b37=>(W.alloc cK (fun b38=>(g9 12 ?_))))
 refine W.call (Mp:=[]) (Wl (gE aO OG JW OH OI JX) i (aS (ai l (fT l p i)) 0).2.2.1 0 hz9 jK hz0) rfl ah ?_
 intro _ G39 _ jL q41
 refine match q41 with|⟨aek,_,Ah,_,Dw,V9⟩=> ?_
 subst aek
 subst Ah
 subst Dw
 refine match V9 with|⟨_,_,_,_,_,_,_,_,Jp,aKg,aKh,aKi,aKj,aFW⟩=> ?_
 subst Jp
 refine g9 3 ?_
 refine W.alloc cK (fun b46=>(g9 9 ?_))
 refine W.sp 79 rfl (fun h78=> ?_) (fun h78=> ?_)
 ·refine g9 13 ?_
  refine⟨.inr rfl,[_],⟨rfl,trivial⟩,_,(((((aI _ _).cons _).cons _).cons _).cons _).cons _,?_⟩
  have hE:=zP (c:=c) h1 h2 h3 h4 (.inl (by unfold fU;rw [Mv _ _ 0];simpa using h78))
  exact⟨ax (fun q:Int×List Nd=>Value.int .i64 q.1) hE.symm,cz.to (cz.mono aO cC) (ax Prod.snd hE).symm⟩
 have h5:(fU l p i).2.2.2=true:=by unfold fU;rw [Mv _ _ 0];simpa using h78
 refine g9 7 ?_
 refine WC.cond rfl (fun h81=> ?_) (fun h81=> ?_)
 ·refine g9 7 ?_
  refine⟨.inr rfl,[_],⟨rfl,trivial⟩,_,(((((aI _ _).cons _).cons _).cons _).cons _).cons _,?_⟩
  have hE:=zP (c:=c) h1 h2 h3 h4 (.inr (by unfold sN fU;rw [C9 _ _ 0,QC _ _ _ _ 0];simpa using h81))
  exact⟨ax (fun q:Int×List Nd=>Value.int .i64 q.1) hE.symm,cz.to (cz.mono aO cC) (ax Prod.snd hE).symm⟩
 have h6:(sN l p i).2=true:=by unfold sN fU;rw [C9 _ _ 0,QC _ _ _ _ 0];simpa using h81
 have FW:=Gh h5
 have FZ:(aS (ai l (fT l p i)) (l.length:Int)).1.slot=fT l p i:=FW.1.trans ox.1
 have hs3:(aS (ai l (fT l p i)) (l.length:Int)).2.1.slot=(l.length:Int):=FW.2
 have si:0≤(aS (ai l (fT l p i)) (l.length:Int)).1.slot∧(aS (ai l (fT l p i)) (l.length:Int)).1.slot<(l.length:Int):=by rw [FZ];exact h3
 have e9:sN l p i=(jg (ai l p) i (aS (ai l (fT l p i)) 0).2.2.1 (l.length:Int)):=by unfold sN fU;rw [C9 _ _ 0]
 have hs4:(jg (ai l p) i (aS (ai l (fT l p i)) 0).2.2.1 (l.length:Int)).1.slot=p:=by rw [←e9];exact(abG h6).trans pM.1
 have aKk:((l.set (aS (ai l (fT l p i)) (l.length:Int)).1.slot.toNat (aS (ai l (fT l p i)) (l.length:Int)).1).set p.toNat (jg (ai l p) i (aS (ai l (fT l p i)) 0).2.2.1 (l.length:Int)).1)++[(aS (ai l (fT l p i)) (l.length:Int)).2.1]=BZ l p i:=by unfold BZ;rw [e9];rfl
 refine g9 6 ?_
 refine W.call (Mp:=bj) (aoi (cz.mono aO cC) (gE aO SY SZ S0 S3 LK)) rfl (ag (ag (ag (ag (ag ah))))) ?_
 intro v50 G47 aKl aRV PE
 refine Or.elim PE (fun q51=> ?_) (fun q52=> ?_)
 ·refine match q51 with|⟨hrm,DN,m9⟩=> ?_
  subst DN
  refine W.perm (ag (ag (ag (ag (ag ah))))).symm (g9 21 ?_)
  refine W.cM (DT (gE aO SY SZ S0 S3 LK) (l.length:Int) hyi ni) rfl (fun _ _ _ _ _ _ _ _ _ _ _ _ _ _ _ _ G54 z8 avZ av0 av1 av2 aok av3 av4 av5 av6 aol=>(g9 5 ?_))
  refine W.alloc cK (fun b63=>(W.alloc cK (fun b64=>(g9 12 ?_))))
  refine W.call (Mp:=[]) (Wl ⟨_,_,_,_,_,_,_,_,rfl,(OG.mono aO),(JW.mono aO),(OH.mono aO),(OI.mono aO),JX⟩ i (aS (ai l (fT l p i)) 0).2.2.1 (l.length:Int) hz9 jK hyi) rfl ah ?_
  intro _ G65 _ aKm q67
  refine match q67 with|⟨ac8,_,aaL,_,aKn,avM⟩=> ?_
  subst ac8
  subst aaL
  subst aKn
  refine match avM with|⟨_,_,_,_,_,_,_,_,Jb,av7,av8,av9,awa,aom⟩=> ?_
  subst Jb
  refine g9 3 ?_
  refine W.alloc cK (fun b72=>(g9 8 ?_))
  refine W.call (Mp:=aKl) (eA (cz.mono aO m9) (by simp only [cg,yD];omega) (gE aKm avZ av0 av1 av2 aok)) rfl (ag (ag (ag (ag (ag (ag (ag (ag ah)))))))) ?_
  intro v76 G73 aBq alk q74
  refine match q74 with|⟨aeb,aKo⟩=> ?_
  subst aeb
  refine W.perm (ag (ag (ag (ag (ag (ag (ag (ag ah)))))))).symm (g9 6 ?_)
  refine W.call (Mp:=aBq) (eA aKo (by simp only [cg,yD];omega) (gE aO av3 av4 av5 av6 aol)) rfl (ag (ag (ag (ag (ag (ag (ag (ag ah)))))))) ?_
  intro v82 G79 aco Dy q80
  refine match q80 with|⟨aKp,acq⟩=> ?_
  subst aKp
  refine W.perm (ag (ag (ag (ag (ag (ag (ag (ag ah)))))))).symm (g9 6 ?_)
  refine W.call (Mp:=aco) (eA acq (by simp only [cg,yD];omega) (gE aO av7 av8 av9 awa aom)) rfl (ag (ag (ag (ag (ag (ag (ag (ag ah)))))))) ?_
  intro v88 G85 acr B4 q86
  refine match q86 with|⟨asy,aKq⟩=> ?_
  subst asy
  refine W.perm (ag (ag (ag (ag (ag (ag (ag (ag ah)))))))).symm (g9 4 ?_)
  refine⟨.inr rfl,[_],⟨rfl,trivial⟩,_,((((((((aI _ _).cons _).cons _).cons _).cons _).cons _).cons _).cons _).cons _,?_⟩
  have hE:=(IK (c:=c) h1 h2 h3 h4 h5 h6 aa)
  exact⟨ax (fun q:Int×List Nd=>Value.int .i64 q.1) hE.symm,cz.to aKq ((af9 si hs3 hs4 h1).trans ((aKk).trans (ax Prod.snd hE).symm))⟩
 refine match q52 with|⟨hrm,RV,m9⟩=> ?_
 subst RV
 refine W.perm (ag (ag (ag (ag (ag ah))))).symm (g9 23 ?_)
 refine⟨.inr rfl,[_],⟨rfl,trivial⟩,_,(((((aI _ _).cons _).cons _).cons _).cons _).cons _,?_⟩
 have hE:=IJ (c:=c) h1 h2 h3 h4 h5 h6 aa
 exact⟨ax (fun q:Int×List Nd=>Value.int .i64 q.1) hE.symm,cz.to m9 (ax Prod.snd hE).symm⟩

theorem ah1{c c2:aX}(cC:cz 98 4 3 149 100 bA c G l bj)(t:Tree c2 l ss)(p:Int)(i:Int)(hn9:i<0):
    Fc Tryz.prog 142 [aC bA,iV p,iV i] G bj (fun v G' M'=>M'=bj∧v=iV 8):=by
 refine Fc.go [.tmp 6] Tryz.func142 Tryz.ntmps142 rfl (fun w0=>(WC.perm (M':=(bj++[])) (by simp) (g9 9 ?_)))
 refine W.ok (fx HM rfl rfl) (g9 9 ?_)
 refine W.call (Mp:=bj) (pq cC _) rfl ah ?_
 intro v4 G1 Ms3 pX q2
 refine match q2 with|⟨⟨_,CI,⟨_,_,_,_,_,_,_,_,DB,aNY,aNZ,aN0,aN1,aKr⟩⟩,DY⟩=> ?_
 subst CI
 subst DB
 have DY:=DY.symm
 subst DY
 refine g9 3 ?_
 refine W.alloc cK (fun b8=>(g9 10 ?_))
 refine W.sm 34 (fun DV x9=> ?_) (fun DV x9=> ?_)
 ·refine g9 20 ?_
  refine⟨.inr rfl,[_],⟨rfl,trivial⟩,_,(aI _ _).cons _,?_⟩
  exact⟨rfl,rfl⟩
 refine g9 6 ?_
 refine W.sd 38 (fun h36 Aq=> ?_) (fun h36 Aq=> ?_)
 ·refine g9 16 ?_
  refine⟨.inr rfl,[_],⟨rfl,trivial⟩,_,(aI _ _).cons _,?_⟩
  exact⟨rfl,rfl⟩
 exfalso;omega

theorem ah2{c c2:aX}(h:cz 98 4 3 149 100 b c G l M)(t:Tree c2 l ss)(p i:Int)(hi:i64 i):Fc Tryz.prog 142 [aC b,iV p,iV i] G M (fun v G' M'=>v=iV (dx c l p i).1∧cz 98 4 3 149 100 b c G' (dx c l p i).2 M'):=by
  by_cases hn:i<0
  · refine(ah1 h t p i hn).mono fun v G' M' hle ⟨e1,e2⟩=> ?_
    subst e1
    unfold dx
    rw [if_pos hn]
    exact⟨e2,h.mono hle⟩
  obtain⟨n,rfl⟩:∃n:Nat,i=(n:Int):=⟨i.toNat,aa⟩
  have h0:=aoj h t p n hi
  unfold dx
  rw [if_neg hn]
  exact h0
end Go.Proofs.YthhpfadbojfdnaaGreat
