/- Walks of the heap of lists of messages. -/
import Derived.Test.YthhpfadbojfdnaaGreatQiFt
import Derived.Test.YthhpfadbojfdnaaGreatQiNz
set_option maxRecDepth 100000
set_option maxHeartbeats 1600000
set_option linter.unusedVariables false
set_option linter.unusedSimpArgs false
set_option linter.unnecessarySimpa false
namespace Go.Proofs.YthhpfadbojfdnaaGreat
open Go Go.Fw Go.RowKit
attribute [local irreducible] Ok W WC
variable {G:GH} {eu:MH} {l:List Hd} {dH:Value}
theorem ada(aQ:aE sj 237 G dH l eu):
    Fc Tryz.prog 150 [dH] G eu (fun v _ M'=>v=iV ((l.length:Int))∧eu=M'):=by
 refine Fc.go [.tmp 2] Tryz.func150 Tryz.ntmps150 rfl (fun w0=>(WC.perm (M':=(eu++[])) (by simp) (g9 13 ?_)))
 refine⟨.inr rfl,[_],⟨rfl,trivial⟩,_,aI _ _,?_⟩
 exact⟨rfl,rfl⟩

theorem anB(aQ:aE sj 237 G dH l eu)(i:Nat)(j:Nat)(hi:i<l.length)(hj:j<l.length)(hi0:0<l[i].1.length)(Xy:0<l[j].1.length):
    Fc Tryz.prog 225 [dH,aK i,aK j] G eu (fun v _ M'=>v=.bool (Hd.lt (nth l i) (nth l j))∧eu=M'):=by
 have hl:=aQ.bq
 refine Fc.go [.tmp 6] Tryz.func225 Tryz.ntmps225 rfl (fun w0=>(WC.perm (M':=(eu++[])) (by simp) (g9 6 ?_)))
 refine WC.dw bB (d9 [0,1] ?_)
 have q4:=aQ.at (i:=i) aa
 refine match q4 with|⟨_,he1,⟨_,_,e_3,DO,aNC⟩⟩=> ?_
 subst e_3
 refine WD.tk 2 rfl (aV (i:=i) pF jq aQ rfl rfl ⟨aa,aa⟩) (WD.tk 3 rfl (dQ (vs:=[lV _ _ _,iV _]) jq he1 ah rfl rfl rfl (by simp)) (d9 [4,5] ?_))
 have q8:=aQ.at (i:=j) aa
 refine match q8 with|⟨_,he5,⟨_,_,DB,DP,aND⟩⟩=> ?_
 subst DB
 refine WD.tk 6 rfl (aV (i:=j) pF jq aQ rfl rfl ⟨aa,aa⟩) (WD.tk 7 rfl (dQ (vs:=[lV _ _ _,iV _]) jq he5 ah rfl rfl rfl (by simp)) ?_)
 refine WD.any [8,9] (by kernel_rfl) rfl ⟨WD.ap ?_,WD.ap ?_,trivial⟩
 ·refine W.alloc vD (fun b9=>(W.nn (WD.a1 9 rfl (W.alloc vD (fun b10=>(W.nn (d9 [10,11] ?_)))))))
  refine g9 6 ?_
  refine DO.a2 (i:=0) aa (fun akw aQR=>(W.ok (bd (i:=0) gQ im DO rfl rfl ⟨aa,aa⟩) (g9 4 ?_)))
  refine DP.a2 (i:=0) aa (fun HY aIx=>(W.ok (bd (i:=0) gQ im DP rfl rfl ⟨aa,aa⟩) (g9 4 ?_)))
  refine W.sd 28 (fun Cx w8=> ?_) (fun Cx w8=> ?_)
  ·refine g9 23 ?_
   refine⟨.inr rfl,[_],⟨rfl,trivial⟩,_,((aI _ _).cons _).cons _,?_⟩
   refine⟨?_,rfl⟩
   refine ax Value.bool ?_
   rw [eJ hi,eJ hj,Hd.lt,Hd.tX hi0,Hd.tX Xy]
   simp_all
  refine g9 5 ?_
  refine DO.a2 (i:=0) aa (fun aQS aQT=>(W.ok (bd (i:=0) gQ im DO rfl rfl ⟨aa,aa⟩) (g9 9 ?_)))
  refine DP.a2 (i:=0) aa (fun aIy aQU=>(W.ok (bd (i:=0) gQ im DP rfl rfl ⟨aa,aa⟩) (g9 8 ?_)))
  refine W.sd 40 (fun pY GO=> ?_) (fun pY GO=> ?_)
  ·refine g9 17 ?_
   refine⟨.inr rfl,[_],⟨rfl,trivial⟩,_,((aI _ _).cons _).cons _,?_⟩
   refine⟨?_,rfl⟩
   refine ax Value.bool ?_
   rw [eJ hi,eJ hj,Hd.lt,Hd.tX hi0,Hd.tX Xy]
   simp_all
  refine g9 12 ?_
  refine⟨.inr rfl,[_],⟨rfl,trivial⟩,_,((aI _ _).cons _).cons _,?_⟩
  refine⟨?_,rfl⟩
  refine ax Value.bool ?_
  rw [eJ hi,eJ hj,Hd.lt,Hd.tX hi0,Hd.tX Xy]
  simp_all
 refine W.alloc vD (fun b31=>(W.nn (WD.a1 8 rfl (W.alloc vD (fun b32=>(W.nn (d9 [10,11] ?_)))))))
 refine g9 6 ?_
 refine DO.a2 (i:=0) aa (fun aIz aQV=>(W.ok (bd (i:=0) gQ im DO rfl rfl ⟨aa,aa⟩) (g9 4 ?_)))
 refine DP.a2 (i:=0) aa (fun aIA aQW=>(W.ok (bd (i:=0) gQ im DP rfl rfl ⟨aa,aa⟩) (g9 4 ?_)))
 refine W.sd 28 (fun Cx w8=> ?_) (fun Cx w8=> ?_)
 ·refine g9 23 ?_
  refine⟨.inr rfl,[_],⟨rfl,trivial⟩,_,((aI _ _).cons _).cons _,?_⟩
  refine⟨?_,rfl⟩
  refine ax Value.bool ?_
  rw [eJ hi,eJ hj,Hd.lt,Hd.tX hi0,Hd.tX Xy]
  simp_all
 refine g9 5 ?_
 refine DO.a2 (i:=0) aa (fun aQX aQY=>(W.ok (bd (i:=0) gQ im DO rfl rfl ⟨aa,aa⟩) (g9 9 ?_)))
 refine DP.a2 (i:=0) aa (fun aQZ aQ0=>(W.ok (bd (i:=0) gQ im DP rfl rfl ⟨aa,aa⟩) (g9 8 ?_)))
 refine W.sd 40 (fun pY GO=> ?_) (fun pY GO=> ?_)
 ·refine g9 17 ?_
  refine⟨.inr rfl,[_],⟨rfl,trivial⟩,_,((aI _ _).cons _).cons _,?_⟩
  refine⟨?_,rfl⟩
  refine ax Value.bool ?_
  rw [eJ hi,eJ hj,Hd.lt,Hd.tX hi0,Hd.tX Xy]
  simp_all
 refine g9 12 ?_
 refine⟨.inr rfl,[_],⟨rfl,trivial⟩,_,((aI _ _).cons _).cons _,?_⟩
 refine⟨?_,rfl⟩
 refine ax Value.bool ?_
 rw [eJ hi,eJ hj,Hd.lt,Hd.tX hi0,Hd.tX Xy]
 simp_all

theorem anC(aQ:aE sj 237 G dH l eu)(i:Nat)(j:Nat)(hi:i<l.length)(hj:j<l.length):
    Fc Tryz.prog 228 [dH,aK i,aK j] G eu (fun v G' M'=>v=.tuple #[]∧aE sj 237 G' dH (iX l i j) M'):=by
 have hl:=aQ.bq
 have hls:(l.set i l[j]).length=l.length:=cg ..
 refine Fc.go [] Tryz.func228 Tryz.ntmps228 rfl (fun w0=>(WC.perm (M':=(eu++[])) (by simp) (WC.dw iD (d9 [0,1,2,3,4,5] ?_))))
 have q56:=aQ.at (i:=j) aa
 refine match q56 with|⟨_,aBa,⟨_,_,PF,akx,adb⟩⟩=> ?_
 subst PF
 refine WD.tk 6 rfl (aV (i:=j) pF jq aQ rfl rfl ⟨aa,aa⟩) (d9 [8,9] ?_)
 have Xp:=aQ.at (i:=i) aa
 refine match Xp with|⟨_,ajo,⟨_,_,I9,aky,ade⟩⟩=> ?_
 subst I9
 refine WD.tk 10 rfl (aV (i:=i) pF jq aQ rfl rfl ⟨aa,aa⟩) ?_
 refine WD.any [7,11] (by kernel_rfl) rfl ⟨WD.ap ?_,WD.ap ?_,trivial⟩
 ·refine W.ok (dQ (vs:=[lV _ _ _,iV _]) jq aBa ah rfl rfl rfl (by simp)) (W.nn (WD.a1 11 rfl (W.ok (dQ (vs:=[lV _ _ _,iV _]) jq ajo ah rfl rfl rfl (by simp)) (W.nn ?_))))
  have Yt:=aQ.at (i:=i) aa
  refine match Yt with|⟨_,aQ1,⟨_,_,Ib,aNE,aIB⟩⟩=> ?_
  subst Ib
  refine WD.tk 12 rfl (aV (i:=i) pF jq aQ rfl rfl ⟨aa,aa⟩) (WD.a1 13 rfl (W.jD (i:=i) (o:=0) (vs:=[lV _ _ _,iV _]) (a':=l[j]) jq rfl rfl rfl rfl rfl (aQ) ah aa (by decide) (fun cs h=>by obtain⟨_,_,rfl,_⟩:=h;exact⟨_,_,rfl,akx,adb⟩) (fun atY adf=>(W.nn ?_))))
  have q70:=adf.at (i:=j) aa
  refine match q70 with|⟨_,aQ2,⟨_,_,aaL,aNF,aIC⟩⟩=> ?_
  subst aaL
  refine WD.tk 14 rfl (aV (i:=j) pF jq adf rfl rfl ⟨aa,aa⟩) (WD.a1 15 rfl (W.jD (i:=j) (o:=0) (vs:=[lV _ _ _,iV _]) (a':=l[i]) jq rfl rfl rfl rfl rfl (adf) ah aa (by decide) (fun cs h=>by obtain⟨_,_,rfl,_⟩:=h;exact⟨_,_,rfl,aky,ade⟩) (fun at0 at1=>(W.nn (WD.done (by kernel_rfl) ?_)))))
  refine⟨.inl rfl,[],trivial,_,bB,?_⟩
  have h:=at1
  refine⟨rfl,?_⟩
  rw [iX,eJ hi,eJ hj,cx];exact h
 refine W.ok (dQ (vs:=[lV _ _ _,iV _]) jq ajo ah rfl rfl rfl (by simp)) (W.nn (WD.a1 7 rfl (W.ok (dQ (vs:=[lV _ _ _,iV _]) jq aBa ah rfl rfl rfl (by simp)) (W.nn ?_))))
 have q76:=aQ.at (i:=i) aa
 refine match q76 with|⟨_,aQ3,⟨_,_,Rp,aNG,aID⟩⟩=> ?_
 subst Rp
 refine WD.tk 12 rfl (aV (i:=i) pF jq aQ rfl rfl ⟨aa,aa⟩) (WD.a1 13 rfl (W.jD (i:=i) (o:=0) (vs:=[lV _ _ _,iV _]) (a':=l[j]) jq rfl rfl rfl rfl rfl (aQ) ah aa (by decide) (fun cs h=>by obtain⟨_,_,rfl,_⟩:=h;exact⟨_,_,rfl,akx,adb⟩) (fun aqr at2=>(W.nn ?_))))
 have q82:=at2.at (i:=j) aa
 refine match q82 with|⟨_,aIE,⟨_,_,aaM,aNH,aIF⟩⟩=> ?_
 subst aaM
 refine WD.tk 14 rfl (aV (i:=j) pF jq at2 rfl rfl ⟨aa,aa⟩) (WD.a1 15 rfl (W.jD (i:=j) (o:=0) (vs:=[lV _ _ _,iV _]) (a':=l[i]) jq rfl rfl rfl rfl rfl (at2) ah aa (by decide) (fun cs h=>by obtain⟨_,_,rfl,_⟩:=h;exact⟨_,_,rfl,aky,ade⟩) (fun akz akA=>(W.nn (WD.done (by kernel_rfl) ?_)))))
 refine⟨.inl rfl,[],trivial,_,bB,?_⟩
 have h:=akA
 refine⟨rfl,?_⟩
 rw [iX,eJ hi,eJ hj,cx];exact h

variable {Tb:TypeId} {a:Hd} {nQ:Nat}
theorem ahx(aQ:aE sj 237 G dH l eu){aBb:Option Addr}{aBc:Nat}(MS:az dy G (lV aBb a.1.length aBc) a.1)(iM:i64 a.2)(hb:l.length<1000000):
    Fc Tryz.prog 227 [aC nQ,.iface 237 (.agg #[lV aBb a.1.length aBc,iV a.2])] G ((nQ,ar Tb [dH])::(eu)) (fun v G' M'=>v=.tuple #[]∧∃v' kQ,M'=(nQ,ar Tb [v'])::kQ∧aE sj 237 G' v' (l++[a]) kQ):=by
 obtain⟨dz,dA,rfl⟩:=aQ.form
 refine Fc.go [] Tryz.func227 Tryz.ntmps227 rfl (fun w0=>(WC.perm (M':=((nQ,ar Tb [lV dz l.length dA])::(eu++[]))) (by simp) (WC.dw (iD.cons _) (d9 [0,1,2,4] ?_))))
 refine WD.tk 5 rfl (Ic OS rfl) ?_
 refine WD.any [3,6] (by kernel_rfl) rfl ⟨WD.ap ?_,WD.ap ?_,trivial⟩
 ·refine g9 1 ?_
  refine W.nn (WD.a1 6 rfl (W.lit (e:=sj) (l:=[a]) (css:=[[lV _ _ _,iV _]]) pF jq vD rfl rfl rfl rfl rfl rfl ⟨⟨_,_,rfl,MS,iM⟩,trivial⟩ (fun aQ4 G85 B4 aIG=>(W.nn (WD.a1 7 rfl (W.app (e:=sj) pF jq vD rfl ap1 rfl rfl ((aQ.mono B4)) (aIG) (ag ah) (by show(_+1)*32≤_;omega) (fun v86 acr aBd=>(W.perm (ag ah).symm ?_))))))))
  have q92:=aBd.form
  refine match q92 with|⟨aQ5,aQ6,RV⟩=> ?_
  subst RV
  refine W.nn (d9 [8,9] ?_)
  refine WD.done (by kernel_rfl) ?_
  refine⟨.inl rfl,[],trivial,_,bB.k9,?_⟩
  exact⟨rfl,_,_,ax _ (cx _),aBd⟩
 refine W.lit (e:=sj) (l:=[a]) (css:=[[lV _ _ _,iV _]]) pF jq vD rfl rfl rfl rfl rfl rfl ⟨⟨_,_,rfl,MS,iM⟩,trivial⟩ (fun aIH G93 B8 at3=>(W.nn (WD.a1 3 rfl (g9 1 ?_))))
 refine W.nn (WD.a1 7 rfl (W.app (e:=sj) pF jq vD rfl ap1 rfl rfl ((aQ.mono B8)) (at3) (ag ah) (by show(_+1)*32≤_;omega) (fun v94 akB adg=>(W.perm (ag ah).symm ?_))))
 have at4:=adg.form
 refine match at4 with|⟨akC,akD,at5⟩=> ?_
 subst at5
 refine W.nn (d9 [8,9] ?_)
 refine WD.done (by kernel_rfl) ?_
 refine⟨.inl rfl,[],trivial,_,bB.k9,?_⟩
 exact⟨rfl,_,_,ax _ (cx _),adg⟩

theorem anD(aQ:aE sj 237 G dH l eu)(h0:0<l.length):
    Fc Tryz.prog 226 [aC nQ] G ((nQ,ar Tb [dH])::(eu)) (fun v G' M'=>(∃p c,v=.iface 237 (.agg (List.toArray [lV p (nth l (l.length-1)).1.length c,iV (nth l (l.length-1)).2]))∧az dy G' (lV p (nth l (l.length-1)).1.length c) (nth l (l.length-1)).1∧i64 (nth l (l.length-1)).2)∧∃v' kQ,M'=(nQ,ar Tb [v'])::kQ∧aE sj 237 G' v' (l.take (l.length-1)) kQ):=by
 obtain⟨dz,dA,rfl⟩:=aQ.form
 have hl:=aQ.bq
 have CQ:nth l (l.length-1)=l[l.length-1]:=eJ aa
 refine Fc.go [.tmp 2] Tryz.func226 Tryz.ntmps226 rfl (fun w0=>(WC.perm (M':=((nQ,ar Tb [lV dz l.length dA])::(eu++[]))) (by simp) (g9 11 ?_)))
 refine W.ok (Ok.int (n:=((l.length-1:Nat):Int)) (lm rfl rfl aa) aa) (g9 9 ?_)
 have acQ:=aQ.at (i:=l.length-1) aa
 refine match acQ with|⟨_,aDm,⟨_,_,aDn,at6,anE⟩⟩=> ?_
 subst aDn
 refine W.ok (aV (i:=l.length-1) pF jq aQ rfl rfl ⟨aa,aa⟩) (W.ok (dQ (vs:=[lV _ _ _,iV _]) jq aDm (ag ah) rfl rfl rfl (by simp)) (W.alloc vD (fun acR=>(g9 10 ?_))))
 refine W.ajp (l.length-1) pF jq aQ rfl ⟨_,_,rfl,aa⟩ aa (fun aII GP=> ?_)
 have adh:=GP.form
 refine match adh with|⟨aDo,aDp,Bp⟩=> ?_
 subst Bp
 refine g9 7 ?_
 refine W.ok (mM OS rfl) (g9 4 ?_)
 refine⟨.inr rfl,[_],⟨rfl,trivial⟩,_,bB.k9.cons _,?_⟩
 exact⟨by rw [CQ];exact⟨_,_,rfl,at6,anE⟩,_,_,ax _ (cx _),GP⟩


abbrev ayR (b:Nat) (Tb:TypeId) (c0 c1:Value) (G:GH) (l:List Int) (M:MH):Prop:=∃v Ms,M=(b,ar Tb [c0,c1,v])::Ms∧aE bE 3 G v l Ms
variable {b:Nat}
theorem oX{c0 c1:Value} :F1 Tryz.prog (fun a b:Int=>decide (a<b)) (.iface 108 (.pointer (some ⟨b,2,none⟩))) (ayR b Tb c0 c1) (fun _ u a=>u=.iface 3 (iV a)∧i64 a) where
  mono:=fun hl ⟨v,Ms,h1,h2⟩=>⟨v,Ms,h1,h2.mono hl⟩
  F2:=fun⟨v,Ms,h1,h2⟩=>h2.bq
  len:=fun {G l M} ⟨v,Ms,h1,h2⟩=>by
    subst h1
    exact Inv.val (e:=104) (by kernel_rfl) (by kernel_rfl) rfl (aqJ h2) (fun v' G' M' hl ⟨e1,e2⟩=>⟨e1,by rw [←e2]⟩)
  less:=fun {G l M i j} ⟨v,Ms,h1,h2⟩ hi hj=>by
    subst h1
    exact Inv.val (e:=104) (by kernel_rfl) (by kernel_rfl) rfl (amk h2 i j hi hj) (fun v' G' M' hl ⟨e1,e2⟩=>⟨e1,by rw [←e2]⟩)
  swap:=fun {G l M i j} ⟨v,Ms,h1,h2⟩ hi hj=>by
    subst h1
    exact Inv.val (e:=104) (by kernel_rfl) (by kernel_rfl) rfl (aml h2 i j hi hj) (fun v' G' M' hl ⟨e1,e2⟩=>⟨e1,v,M',rfl,e2⟩)
  push:=fun _ {G l M u a} ⟨v,Ms,h1,h2⟩ hb ⟨h3,h4⟩=>by
    subst h1 h3
    exact Inv.ptr (g:=224) (by kernel_rfl) (amm h2 a h4 hb) (fun v' G' M' hl ⟨e1,v2,M2,e2,e3⟩=>⟨e1,v2,M2,e2,e3⟩)
  pop:=fun {G l M} ⟨v,Ms,h1,h2⟩ h0=>by
    subst h1
    exact Inv.ptr (g:=223) (by kernel_rfl) (aqN h2 h0) (fun v' G' M' hl ⟨e1,e4,v2,M2,e2,e3⟩=>⟨⟨e1,e4⟩,v2,M2,e2,e3⟩)

abbrev Js (b:Nat) (Tb:TypeId) (G:GH) (l:List Hd) (M:MH):Prop:=(∀h∈l,0<h.1.length)∧∃v Ms,M=(b,ar Tb [v])::Ms∧aE sj 237 G v l Ms
abbrev ahy (G:GH) (u:Value) (a:Hd):Prop:=(∃p c,u=.iface 237 (.agg (List.toArray [lV p a.1.length c,iV a.2]))∧az dy G (lV p a.1.length c) a.1∧i64 a.2)∧0<a.1.length
theorem MT{G':GH}{v:Value}(hl:Le G G')(h:ahy G v a):ahy G' v a:=by
  obtain⟨⟨p,c,h1,h2,h3⟩,h4⟩:=h;exact⟨⟨p,c,h1,h2.mono hl,h3⟩,h4⟩
theorem vh:F1 Tryz.prog Hd.lt (.iface 233 (aC b)) (Js b Tb) ahy where
  mono:=fun hl ⟨h0,v,Ms,h1,h2⟩=>⟨h0,v,Ms,h1,h2.mono hl⟩
  F2:=fun⟨h0,v,Ms,h1,h2⟩=>h2.bq
  len:=fun {G l M} ⟨h0,v,Ms,h1,h2⟩=>by
    subst h1
    exact Inv.val (e:=235) (by kernel_rfl) (by kernel_rfl) rfl (ada h2) (fun v' G' M' hl ⟨e1,e2⟩=>⟨e1,by rw [←e2]⟩)
  less:=fun {G l M i j} ⟨h0,v,Ms,h1,h2⟩ hi hj=>by
    subst h1
    exact Inv.val (e:=235) (by kernel_rfl) (by kernel_rfl) rfl (anB h2 i j hi hj (h0 _ (bN hi)) (h0 _ (bN hj))) (fun v' G' M' hl ⟨e1,e2⟩=>⟨e1,by rw [←e2]⟩)
  swap:=fun {G l M i j} ⟨h0,v,Ms,h1,h2⟩ hi hj=>by
    subst h1
    exact Inv.val (e:=235) (by kernel_rfl) (by kernel_rfl) rfl (anC h2 i j hi hj) (fun v' G' M' hl ⟨e1,e2⟩=>⟨e1,fun x hx=>h0 x ((yz hi hj).mem_iff.1 hx),v,M',rfl,e2⟩)
  push:=fun _ {G l M u a} ⟨h0,v,Ms,h1,h2⟩ hb ⟨⟨p,c,h3,h4,h5⟩,h6⟩=>by
    subst h1 h3
    exact Inv.ptr (g:=227) (by kernel_rfl) (ahx h2 h4 h5 hb) (fun v' G' M' hl ⟨e1,v2,M2,e2,e3⟩=>⟨e1,fun x hx=>(cP.1 hx).elim (h0 x) (fun hx=>by rw [gh.1 hx];exact h6),v2,M2,e2,e3⟩)
  pop:=fun {G l M} ⟨h0,v,Ms,h1,h2⟩ Gn=>by
    subst h1
    exact Inv.ptr (g:=226) (by kernel_rfl) (anD h2 Gn) (fun v' G' M' hl ⟨e1,v2,M2,e2,e3⟩=>⟨⟨e1,by rw [eJ aa];exact h0 _ (bN _)⟩,fun x hx=>h0 x (gu hx),v2,M2,e2,e3⟩)
end Go.Proofs.YthhpfadbojfdnaaGreat

namespace Go.Fw
open Go Go.RowKit
def uu (s:Span) (p:af):Span:=s.bH ⟨af.nil,p,false⟩
def wL (s:Span) (p:af):Span:=s.bH ⟨p,af.nil,true⟩
theorem jN(s:Span)(p q:af):(uu s p).has q=(s.has q&&q.lt p):=by
 unfold uu
 rw [bL]
 unfold Span.has
 rw [af.nil_le];rfl
theorem iN(s:Span)(p q:af):(wL s p).has q=(s.has q&& !q.lt p):=by
 unfold wL
 rw [bL]
 unfold Span.has
 simp
theorem pn(s:Span)(p:af):(uu s p).norm=uu s p:=gm _ _
theorem lf(s:Span)(p:af):(wL s p).norm=wL s p:=gm _ _
theorem vi{a b:Span}(ha:a.norm=a)(hb:b.norm=b)(h:∀q,a.has q=b.has q):a=b:=by rw [←ha,←hb,rk h]
theorem ahz{s:Span}{q:af}(h:s.has q=true):s.empty=false:=by
 cases he:s.empty
 ·rfl
 ·rw [dv.1 he q]at h;cases h
theorem anF{s:Span}(h:s.empty=false):s.norm.lo=s.lo:=by
 unfold Span.norm
 rw [if_neg (by simp [h])]
 split<;>rfl
variable {p:af}
theorem akE{s:Span}{q:af}(h:(uu s p).has q=true):(uu s p).lo=s.lo:=by
 have he:=ahz h
 unfold uu Span.bH at he⊢
 rw [XW]at he
 rw [anF he]
 dsimp only
 rw [if_neg (by rw [af.nil_le];simp)]
theorem Y6{s:Span}(hs:s.norm=s)(h:s.has p=true):wL s p=⟨p,s.hi,s.bQ⟩:=C6 hs (lf s p) h (iN s p)
variable {a:af} {b:af}
theorem RL(h:a.lt b=true):a≠b:=fun e=>by rw [e,af.lt_irrefl]at h;cases h
theorem lo_le{s:Span}{q:af}(h:s.has q=true):q.lt s.lo=false:=(cO.1 h).1
theorem ahp(h:b.lt a=false)(k:a≠b):a.lt b=true:=by
 cases h2:a.lt b
 ·exact absurd (af.iw h2 h) k
 ·rfl
section
variable {α:Type} {P:Span→α→Prop}
def Ch (P:Span→α→Prop):Span→List af→List α→Prop
 |s,[],cs=>∃c,cs=[c]∧P s c
 |s,p::ps,cs=>∃c ds,cs=c::ds∧s.has p=true∧p≠s.lo∧P (uu s p) c∧Ch P (wL s p) ps ds
theorem Ch.len:∀ {ps:List af} {s:Span} {cs:List α},Ch P s ps cs→cs.length=ps.length+1
 |[],_,_,⟨c,rfl,_⟩=>rfl
 |p::ps,_,_,⟨c,ds,rfl,_,_,_,h⟩=>by rw [jo,h.len,jo]
theorem uH{s:Span}{c:α} :Ch P s [] [c]↔P s c:=⟨fun⟨d,h,h2⟩=>by cases h;exact h2,fun h=>⟨c,rfl,h⟩⟩
variable {cs:List α} {ps:List af}
theorem xR{s:Span}{p:af}{c:α} :Ch P s (p::ps) (c::cs)↔s.has p=true∧p≠s.lo∧P (uu s p) c∧Ch P (wL s p) ps cs:=
 ⟨fun⟨d,ds,h,h2⟩=>by cases h;exact h2,fun h=>⟨c,cs,rfl,h⟩⟩
theorem yL:∀ {A:List af} {s:Span} {p:af} {B:List af} {C D:List α},s.norm=s→C.length=A.length+1→(Ch P s (A++p::B) (C++D)↔s.has p=true∧p≠s.lo∧Ch P (uu s p) A C∧Ch P (wL s p) B D)
 |[],s,p,B,C,D,hs,hC=>by
  match C,hC with
  |[c],_=>rw [iU,wv,xR,uH]
 |q::A,s,p,B,C,D,hs,hC=>by
  match C,hC with
  |c::C,hC=>
   have hC:C.length=A.length+1:=by simpa using hC
   rw [pC,pC,xR,xR,yL (lf s q) hC]
   constructor
   ·rintro⟨h1,h2,h3,h4,h5,h6,h7⟩
    rw [iN,cm,kV]at h4
    rw [Y6 hs h1]at h5
    have h8:q.lt p=true:=ahp h4.2 (fun e=>h5 e.symm)
    have h9:p≠s.lo:=fun e=>by have:=lo_le h1;rw [←e,h8]at this;cases this
    have ir:(uu s p).has q=true:=by rw [jN,h1,h8];rfl
    have e1:uu (uu s p) q=uu s q:=vi (pn _ _) (pn _ _) fun x=>by
     rw [jN,jN,jN]
     cases h:x.lt q
     ·simp
     ·rw [show x.lt p=true from af.lt_of_lt_of_le h (af.lt_asymm h8)];simp
    have e2:wL (uu s p) q=uu (wL s q) p:=vi (lf _ _) (pn _ _) fun x=>by
     rw [iN,jN,jN,iN]
     cases s.has x<;>cases x.lt p<;>cases x.lt q<;>rfl
    have e3:wL (wL s q) p=wL s p:=vi (lf _ _) (lf _ _) fun x=>by
     rw [iN,iN,iN]
     cases h:x.lt p
     ·rw [show x.lt q=false from af.le_trans (af.lt_asymm h8) h];simp
     ·simp
    refine⟨h4.1,h9,⟨ir,by rw [akE ir];exact h2,by rw [e1];exact h3,by rw [e2];exact h6⟩,by rw [←e3];exact h7⟩
   ·rintro⟨h1,h2,⟨h3,h4,h5,h6⟩,h7⟩
    have h3':=h3
    rw [jN,cm]at h3
    have h8:q.lt p=true:=h3.2
    have e1:uu (uu s p) q=uu s q:=vi (pn _ _) (pn _ _) fun x=>by
     rw [jN,jN,jN]
     cases h:x.lt q
     ·simp
     ·rw [show x.lt p=true from af.lt_of_lt_of_le h (af.lt_asymm h8)];simp
    have e2:wL (uu s p) q=uu (wL s q) p:=vi (lf _ _) (pn _ _) fun x=>by
     rw [iN,jN,jN,iN]
     cases s.has x<;>cases x.lt p<;>cases x.lt q<;>rfl
    have e3:wL (wL s q) p=wL s p:=vi (lf _ _) (lf _ _) fun x=>by
     rw [iN,iN,iN]
     cases h:x.lt p
     ·rw [show x.lt q=false from af.le_trans (af.lt_asymm h8) h];simp
     ·simp
    rw [akE h3']at h4
    refine⟨h3.1,h4,by rw [←e1];exact h5,?_,?_,by rw [←e2];exact h6,by rw [e3];exact h7⟩
    ·rw [iN,h1,af.lt_asymm h8];rfl
    ·rw [Y6 hs h3.1];exact fun e=>RL h8 e.symm
theorem Ch.Yh:∀ {ps:List af} {s:Span} {cs:List α},s.norm=s→Ch P s ps cs→rising ps=true∧∀p∈ps,s.has p=true∧p≠s.lo
 |[],_,_,_,_=>⟨rfl,fun p h=>by cases h⟩
 |p::ps,s,_,hs,⟨c,ds,rfl,h1,h2,_,h⟩=>by
  obtain⟨h3,h4⟩:=Ch.Yh (lf s p) h
  have h5:∀q∈ps,s.has q=true∧p.lt q=true:=fun q hq=>by
   obtain⟨h6,h7⟩:=h4 q hq
   rw [iN,cm,kV]at h6
   rw [Y6 hs h1]at h7
   exact⟨h6.1,ahp h6.2 fun e=>h7 e.symm⟩
  refine⟨iq.2 fun i hi=> ?_,fun q hq=> ?_⟩
  ·cases i with
   |zero=>
    have hi:0<ps.length:=by simpa using hi
    exact(h5 _ (bN hi)).2
   |succ i=>
    have:=iq.1 h3 i (by simpa using hi)
    simpa using this
  ·rcases dK.1 hq with rfl|hq
   ·exact⟨h1,h2⟩
   ·refine⟨(h5 q hq).1,fun e=> ?_⟩
    have:=lo_le h1
    rw [←e,(h5 q hq).2]at this;cases this
variable {i:Nat}
theorem Ch.adi{s:Span}(hs:s.norm=s)(h:Ch P s ps cs)(hi:i≤ps.length):
  ∃u:Span,u.norm=u∧(∀q,u.has q=(s.has q&&(decide (i=0)|| !q.lt (ps.getD (i-1) af.nil))))∧Ch P u (ps.drop i) (cs.drop i)∧∀Q D,Ch P u Q D→Ch P s (ps.take i++Q) (cs.take i++D):=by
 cases i with
 |zero=>exact⟨s,hs,fun q=>by simp,h,fun Q D hQ=>hQ⟩
 |succ i=>
  have hl:=h.len
  have e:ps.take i++ps[i]::ps.drop (i+1)=ps:=by rw [←iW aa,fo]
  have e2:cs.take (i+1)++cs.drop (i+1)=cs:=fo _ _
  have e3:ps.take (i+1)=ps.take i++[ps[i]]:=iA aa
  have hc:(cs.take (i+1)).length=(ps.take i).length+1:=by rw [bV,bV];omega
  have h2:=h
  rw [←e,←e2,yL hs hc]at h2
  obtain⟨a1,a2,a3,a4⟩:=h2
  refine⟨wL s ps[i],lf _ _,fun q=> ?_,a4,fun Q D hQ=> ?_⟩
  ·rw [iN,show i+1-1=i from rfl,fc,eY aa];simp
  ·rw [e3,ci,wv,yL hs hc]
   exact⟨a1,a2,a3,hQ⟩
variable {m:Nat}
theorem Ch.ahA{s:Span}(hs:s.norm=s)(h:Ch P s ps cs)(hm:m≤ps.length):
  ∃u:Span,u.norm=u∧(∀q,u.has q=(s.has q&&(decide (m=ps.length)||q.lt (ps.getD m af.nil))))∧Ch P u (ps.take m) (cs.take (m+1))∧∀Q D,Ch P u Q D→Ch P s (Q++ps.drop m) (D++cs.drop (m+1)):=by
 have hl:=h.len
 by_cases e:m=ps.length
 ·refine⟨s,hs,fun q=>by simp [e],?_,fun Q D hQ=> ?_⟩
  ·rw [fI aa,fI aa];exact h
  ·rw [WX aa,WX aa,cx,cx];exact hQ
 ·have hd:ps.drop m=ps[m]'aa::ps.drop (m+1):=iW aa
  have e1:ps.take m++ps[m]'aa::ps.drop (m+1)=ps:=by rw [←hd,fo]
  have e2:cs.take (m+1)++cs.drop (m+1)=cs:=fo _ _
  have hc:(cs.take (m+1)).length=(ps.take m).length+1:=by rw [bV,bV];omega
  have h2:Ch P s (ps.take m++ps[m]'aa::ps.drop (m+1)) (cs.take (m+1)++cs.drop (m+1)):=by rw [e1,e2];exact h
  rw [yL hs hc]at h2
  obtain⟨a1,a2,a3,a4⟩:=h2
  refine⟨uu s (ps[m]'aa),pn _ _,fun q=> ?_,a3,fun Q D hQ=> ?_⟩
  ·rw [jN,fc,eY aa,gr e];rfl
  ·rw [hd,yL hs hQ.len]
   exact⟨a1,a2,hQ,a4⟩
theorem Ch.mid{s:Span}(hs:s.norm=s)(h:Ch P s ps cs)(hi:i+m≤ps.length):
  ∃u:Span,u.norm=u∧(∀q,u.has q=(s.has q&&(decide (i=0)|| !q.lt (ps.getD (i-1) af.nil))&&(decide (i+m=ps.length)||q.lt (ps.getD (i+m) af.nil))))∧Ch P u ((ps.drop i).take m) ((cs.drop i).take (m+1))∧
   ∀Q D,Ch P u Q D→Ch P s (ps.take i++(Q++ps.drop (i+m))) (cs.take i++(D++cs.drop (i+m+1))):=by
 obtain⟨u,h1,h2,h3,h4⟩:=h.adi hs (i:=i) aa
 obtain⟨v,k1,k2,k3,k4⟩:=h3.ahA h1 (m:=m) (by rw [cv];omega)
 refine⟨v,k1,fun q=> ?_,k3,fun Q D hQ=> ?_⟩
 ·rw [k2,h2,cv]
  have e1:(ps.drop i).getD m af.nil=ps.getD (i+m) af.nil:=by rw [fc,fc,oA]
  have e2:decide (m=ps.length-i)=decide (i+m=ps.length):=rL.2 aa
  rw [e1,e2]
 ·have:=h4 _ _ (k4 Q D hQ)
  rwa [Aw,Aw,show i+(m+1)=i+m+1 from rfl]at this
theorem Ch.at{s:Span}{ps:List af}{cs:List α}(hs:s.norm=s)(h:Ch P s ps cs){i:Nat}(hi:i≤ps.length):
  ∃u:Span,∃h':i<cs.length,u.norm=u∧(∀q,u.has q=(s.has q&&decide (i=ae ps q)))∧P u cs[i]∧∀Q D,Ch P u Q D→Ch P s (ps.take i++(Q++ps.drop i)) (cs.take i++(D++cs.drop (i+1))):=by
 have hl:=h.len
 have hr:=(h.Yh hs).1
 obtain⟨u,h1,h2,h3,h4⟩:=h.mid hs (i:=i) (m:=0) aa
 have jY:i<cs.length:=aa
 rw [Ay,iW jY,wx,Ay,uH]at h3
 refine⟨u,jY,h1,fun q=> ?_,h3,fun Q D hQ=> ?_⟩
 ·rw [h2,Bool.and_assoc]
  congr 1
  have hrg:=eR hr q hi
  rw [←hrg]
  unfold aA
  rw [if_neg aa,ld]
  unfold Span.has
  dsimp only
  rw [rK,qG]
  have e2:(((i:Int)-1).toNat)=i-1:=aa
  rw [e2]
  have e3:decide ((ps.length:Int)≤(i:Int))=decide (i=ps.length):=rL.2 aa
  rw [e3]
  by_cases e0:i=0
  ·rw [if_neg aa,af.nil_le,dB e0];simp
  ·rw [if_pos aa,gr e0];simp
 ·exact h4 Q D hQ
end
def BT:Nat→Type
 |0=>Int×List aG
 |k+1=>Int×List af×List (BT k)
def BT.slot:{k:Nat} →BT k→Int
 |0,y=>Prod.fst (α:=Int) (β:=List aG) y
 |k+1,y=>Prod.fst (α:=Int) (β:=List af×List (BT k)) y
def di (y:BT 0):List aG:=Prod.snd (α:=Int) (β:=List aG) y
def au {k:Nat} (y:BT (k+1)):List af:=(Prod.snd (α:=Int) (β:=List af×List (BT k)) y).1
def ay {k:Nat} (y:BT (k+1)):List (BT k):=(Prod.snd (α:=Int) (β:=List af×List (BT k)) y).2
def zY (s:Int) (r:List aG):BT 0:=(s,r)
def mg {k:Nat} (s:Int) (p:List af) (c:List (BT k)):BT (k+1):=(s,p,c)
instance : (k : Nat) → Inhabited (BT k)
 |0=>⟨zY 0 []⟩
 |k+1=>⟨mg 0 [] []⟩
def BT.rows:(k:Nat)→BT k→List aG
 |0,y=>di y
 |k+1,y=>(ay y).flatMap (BT.rows k)
def BT.ta:(k:Nat)→BT k→Nat
 |0,y=>(di y).length
 |k+1,y=>(ay y).length
def vQ (fan leaf:Int) (k:Nat):Int:=if k=0 then leaf / 2 else fan / 2
def oV (fan leaf:Int) (k:Nat):Int:=if k=0 then leaf else fan
def BT.ok (fan leaf:Int):(k:Nat)→Int→Int→Span→BT k→Prop
 |0,lo,hi,s,y=>(lo≤((di y).length:Int)∧((di y).length:Int)≤hi)∧bc (di y)∧∀p∈di y,s.has p.key=true
 |k+1,lo,hi,s,y=>(lo≤((ay y).length:Int)∧((ay y).length:Int)≤hi)∧Ch (BT.ok fan leaf k (vQ fan leaf k) (oV fan leaf k)) s (au y) (ay y)
section
variable {fan leaf:Int} {k:Nat} {lo hi:Int} {s:Span}
variable {A:List aG} {B:List aG}
theorem adj(hA:gW A)(hB:gW B)(h:∀a∈A,∀b∈B,a.key.lt b.key=true):gW (A++B):=wo.2 ⟨hA,hB,h⟩
theorem Ch.rows{α:Type}{P:Span→α→Prop}{f:α→List aG}(hf:∀(u:Span) (c:α),u.norm=u→P u c→bc (f c)∧∀p∈f c,u.has p.key=true):
  ∀ {ps:List af} {s:Span} {cs:List α},s.norm=s→Ch P s ps cs→bc (cs.flatMap f)∧∀p∈cs.flatMap f,s.has p.key=true
 |[],s,_,hs,⟨c,rfl,h⟩=>by
  have:=hf s c hs h
  rw [cI,iB,cx]
  exact this
 |p::ps,s,_,hs,⟨c,ds,rfl,h1,h2,h3,h⟩=>by
  obtain⟨a1,a2⟩:=hf _ c (pn s p) h3
  obtain⟨b1,b2⟩:=Ch.rows hf (lf s p) h
  rw [cI]
  have a3:∀q∈f c,s.has q.key=true∧q.key.lt p=true:=fun q hq=>by have:=a2 q hq;rw [jN,cm]at this;exact this
  have b3:∀q∈ds.flatMap f,s.has q.key=true∧q.key.lt p=false:=fun q hq=>by have:=b2 q hq;rw [iN,cm,kV]at this;exact this
  refine⟨dr.2 ⟨fun q hq=> ?_,adj a1.o8 b1.o8 fun a ha b hb=>af.lt_of_lt_of_le (a3 a ha).2 (b3 b hb).2⟩,fun q hq=> ?_⟩
  ·rcases cP.1 hq with hq|hq
   ·exact(dr.1 a1).1 q hq
   ·exact(dr.1 b1).1 q hq
  ·rcases cP.1 hq with hq|hq
   ·exact(a3 q hq).1
   ·exact(b3 q hq).1
theorem BT.ok.rows:∀ {k:Nat} {lo hi:Int} {s:Span} {y:BT k},s.norm=s→BT.ok fan leaf k lo hi s y→bc (BT.rows k y)∧∀p∈BT.rows k y,s.has p.key=true
 |0,_,_,_,_,_,h=>h.2
 |k+1,_,_,_,_,hs,h=>Ch.rows (fun u c hu hc=>BT.ok.rows hu hc) hs h.2
theorem BT.ok.ta:∀ {k:Nat} {lo hi:Int} {s:Span} {y:BT k},BT.ok fan leaf k lo hi s y→lo≤(BT.ta k y:Int)∧(BT.ta k y:Int)≤hi
 |0,_,_,_,_,h=>h.1
 |k+1,_,_,_,_,h=>h.1
theorem BT.ok.to:∀ {k:Nat} {lo hi lo' CV:Int} {s:Span} {y:BT k},BT.ok fan leaf k lo hi s y→lo'≤(BT.ta k y:Int)→(BT.ta k y:Int)≤CV→BT.ok fan leaf k lo' CV s y
 |0,_,_,_,_,_,_,h,h1,h2=>⟨⟨h1,h2⟩,h.2⟩
 |k+1,_,_,_,_,_,_,h,h1,h2=>⟨⟨h1,h2⟩,h.2⟩
variable {l:List aG}
theorem RW{k:af}(h:∀p∈l,p.key≠k):bz l k=none:=aaY fun j hj=>h _ (bN hj)
variable {C:List aG}
theorem Vw{k:af}(hA:∀p∈A,p.key.lt k=true)(hC:∀p∈C,k.lt p.key=true):bz (A++(B++C)) k=bz B k:=by
 rw [mV,mV,RW fun p hp=>RL (hA p hp),RW (l:=C) fun p hp e=>RL (hC p hp) e.symm]
 cases bz B k<;>rfl
theorem wZ{q:aG→Bool}(h:∀p∈l,q p=true):l.filter q=l:=rF.2 h
theorem Bn{q:aG→Bool}(h:∀p∈l,q p=false):l.filter q=[]:=rG.2 fun p hp=>by rw [h p hp];simp
theorem V0{k:af}{e:bG}(hA:∀p∈A,p.key.lt k=true)(hC:∀p∈C,k.lt p.key=true):bW (A++(B++C)) k e=A++(bW B k e++C):=by
 rw [j3,j3,Vw hA hC,gv,gv,gv,gv]
 rw [wZ hA,Bn (l:=C) fun p hp=>af.lt_asymm (hC p hp),Bn (l:=A) fun p hp=>af.lt_asymm (hA p hp),wZ (l:=C) hC]
 simp
variable {α:Type}
theorem Ch.ahead{P:Span→α→Prop}{f:α→List aG}(hf:∀(u:Span) (c:α),u.norm=u→P u c→bc (f c)∧∀p∈f c,u.has p.key=true)
  {ps:List af}{s:Span}{cs:List α}(hs:s.norm=s)(h:Ch P s ps cs){key:af}(hk:s.has key=true):
  (∀p∈(cs.take (ae ps key)).flatMap f,p.key.lt key=true)∧∀p∈(cs.drop (ae ps key+1)).flatMap f,key.lt p.key=true:=by
 have hl:=h.len
 have hr:=(h.Yh hs).1
 have hle:ae ps key≤ps.length:=fy _ _
 have aBe:∀j (hj:j<cs.length),∀p∈f cs[j],ae ps p.key=j:=fun j hj p hp=>by
  obtain⟨u,h',hu,hh,hP,_⟩:=h.at hs (i:=j) aa
  have:=(hf u _ hu hP).2 p hp
  rw [hh,cm,fJ]at this
  exact this.2.symm
 constructor
 ·intro p hp
  obtain⟨c,hc,hp⟩:=kl.1 hp
  obtain⟨j,hj,e⟩:=cj hc
  rw [bV]at hj
  rw [nL]at e
  have:=aBe j aa p (by rw [e];exact hp)
  cases h1:p.key.lt key
  ·have:=oO (P:=ps) h1;omega
  ·rfl
 ·intro p hp
  obtain⟨c,hc,hp⟩:=kl.1 hp
  obtain⟨j,hj,e⟩:=cj hc
  rw [cv]at hj
  rw [pB]at e
  have:=aBe (ae ps key+1+j) aa p (by rw [e];exact hp)
  cases h1:key.lt p.key
  ·have:=oO (P:=ps) h1;omega
  ·rfl
theorem RA(f:α→List aG){cs:List α}{i:Nat}(hi:i<cs.length):cs.flatMap f=(cs.take i).flatMap f++(f cs[i]++(cs.drop (i+1)).flatMap f):=by
 conv=>lhs;rw [←fo i cs,iW hi]
 rw [dT,cI]
end
def z5 (l:List aG):List aG:=l.take ((l.length+1) / 2)
def z6 (l:List aG):List aG:=l.drop ((l.length+1) / 2)
def GC (l:List aG):af:=(iY l).2.2.1
abbrev Fy (k:Nat):Type:=(BT k×Option (af×BT k))×List Bool
def u5 {k:Nat} (fan:Int) (s:Int) (P:List af) (K:List (BT k)) (u:List Bool):Fy (k+1):=
 if(K.length:Int)≤fan then((mg s P K,none),u)
 else((mg s (P.take ((K.length+1) / 2-1)) (K.take ((K.length+1) / 2)),some (P.getD ((K.length+1) / 2-1) af.nil,mg (aF u:Int) (P.drop ((K.length+1) / 2)) (K.drop ((K.length+1) / 2)))),u.set (aF u) true)
def zW {k:Nat} (fan:Int) (y:BT (k+1)) (i:Nat) (r:Fy k):Fy (k+1):=
 match r.1.2 with
 |none=>((mg y.slot (au y) ((ay y).set i r.1.1),none),r.2)
 |some w=>u5 fan y.slot ((au y).take i++([w.1]++(au y).drop i)) ((ay y).take i++([r.1.1,w.2]++(ay y).drop (i+1))) r.2
def gq (fan leaf:Int) (key:af) (e:bG):(k:Nat)→BT k→List Bool→Fy k
 | 0,y,u=>if((bW (di y) key e).length:Int)≤leaf then((zY y.slot (bW (di y) key e),none),u)
   else((zY y.slot (z5 (bW (di y) key e)),some (GC (bW (di y) key e),zY (aF u:Int) (z6 (bW (di y) key e)))),u.set (aF u) true)
 |k+1,y,u=>zW fan y (ae (au y) key) (gq fan leaf key e k ((ay y).getD (ae (au y) key) default) u)
section
variable {fan leaf:Int} {key:af} {e:bG}
variable {u:List Bool} {y:BT 0}
theorem xH(h:((bW (di y) key e).length:Int)≤leaf):gq fan leaf key e 0 y u=((zY y.slot (bW (di y) key e),none),u):=if_pos h
theorem xI(h:¬((bW (di y) key e).length:Int)≤leaf):gq fan leaf key e 0 y u=((zY y.slot (z5 (bW (di y) key e)),some (GC (bW (di y) key e),zY (aF u:Int) (z6 (bW (di y) key e)))),u.set (aF u) true):=if_neg h
def Gx (fan leaf:Int) (k:Nat) (lo:Int) (s:Span) (rows:List aG) (r:BT k×Option (af×BT k)):Prop:=
 match r.2 with
 |none=>BT.ok fan leaf k lo (oV fan leaf k) s r.1∧BT.rows k r.1=rows
 |some w=>s.has w.1=true∧w.1≠s.lo∧BT.ok fan leaf k (vQ fan leaf k) (oV fan leaf k) (uu s w.1) r.1∧BT.ok fan leaf k (vQ fan leaf k) (oV fan leaf k) (wL s w.1) w.2∧BT.rows k r.1++BT.rows k w.2=rows
variable {k:af} {l:List aG}
theorem EN{e:bG}{p:aG}(h:p∈bW l k e):p∈l∨p.key=k:=by
 rw [j3]at h
 rcases cP.1 h with h|h
 ·rcases cP.1 h with h|h
  ·exact .inl (eO.1 h).1
  ·right
   unfold vZ at h
   split at h
   ·simp at h;rw [h]
   ·cases h
 ·exact .inl (eO.1 h).1
def xJ (e:bG):Prop:=∀o:Option af,o.isSome=true→(e.apply o).isSome=true
theorem acg(h:gW l){e:bG}(he:xJ e):l.length≤(bW l k e).length:=by
 rw [j3,h.front,bP,bP]
 cases hs:(bz l k).isSome
 ·rw [h.xk hs]
  simp [bV,cv]
  have:=zy l k
  omega
 ·have hh:=h.has k
  rw [hs]at hh
  obtain⟨q1,q2⟩:=jW hh.symm
  rw [h.rh q1 q2,afL (he _ hs)]
  simp [bV,cv]
  omega
theorem adk(h:bc l)(hl:2≤l.length){s:Span}(hs:∀p∈l,s.has p.key=true):
  s.has (GC l)=true∧GC l≠s.lo∧bc (z5 l)∧bc (z6 l)∧(∀p∈z5 l,(uu s (GC l)).has p.key=true)∧(∀p∈z6 l,(wL s (GC l)).has p.key=true)∧z5 l++z6 l=l∧(GC l).b.size≤16:=by
 have hsr:=h.o8
 have hm1:(l.length+1) / 2-1<l.length:=aa
 have o7:(l.length+1) / 2<l.length:=aa
 have e:GC l=(js l[(l.length+1) / 2-1].key l[(l.length+1) / 2].key).1:=by unfold GC;rw [sg aa]
 have ko:=hsr.lt (i:=(l.length+1) / 2-1) (j:=(l.length+1) / 2) aa o7
 obtain⟨b1,b2,b3,b4⟩:=sh ko ((dr.1 h).1 _ (bN o7)).1
 rw [←e]at b2 b3 b4
 have hA:∀p∈z5 l,p.key.lt (GC l)=true:=fun p hp=>by
  obtain⟨j,hj,rfl⟩:=cj hp
  unfold z5 at hj⊢
  rw [bV]at hj
  rw [nL]
  by_cases h9:j=(l.length+1) / 2-1
  ·simp only [h9];exact b3
  ·have:=hsr.lt (i:=j) (j:=(l.length+1) / 2-1) aa hm1
   exact af.lt_of_lt_of_le this (af.lt_asymm b3)
 have hB:∀p∈z6 l,p.key.lt (GC l)=false:=fun p hp=>by
  obtain⟨j,hj,rfl⟩:=cj hp
  unfold z6 at hj⊢
  rw [cv]at hj
  rw [pB]
  by_cases h9:j=0
  ·simp only [h9,rK];exact b4
  ·have:=hsr.lt (i:=(l.length+1) / 2) (j:=(l.length+1) / 2+j) aa aa
   exact af.le_trans b4 (af.lt_asymm this)
 have gH:∀p∈z5 l,p∈l:=fun p hp=>gu hp
 have at7:∀p∈z6 l,p∈l:=fun p hp=>pE hp
 have x1:=hs _ (bN hm1)
 have x2:=hs _ (bN o7)
 refine⟨?_,?_,?_,?_,fun p hp=> ?_,fun p hp=> ?_,fo _ _,b2⟩
 ·refine cO.2 ⟨af.le_trans (lo_le x1) (af.lt_asymm b3),?_⟩
  rcases (cO.1 x2).2 with h9|h9
  ·exact .inl h9
  ·exact .inr (af.lt_of_le_of_lt b4 h9)
 ·intro h9
  have:=lo_le x1
  rw [←h9,b3]at this;cases this
 ·exact dr.2 ⟨fun p hp=>(dr.1 h).1 p (gH p hp),Hq (List.take_sublist _ _) hsr⟩
 ·exact dr.2 ⟨fun p hp=>(dr.1 h).1 p (at7 p hp),Hq (List.drop_sublist _ _) hsr⟩
 ·rw [jN,hs p (gH p hp),hA p hp];rfl
 ·rw [iN,hs p (at7 p hp),hB p hp];rfl
theorem fw{α:Type}{d:α}{l:List α}{i:Nat}(h:i<l.length):l.getD i d=l[i]:=by rw [fc,eY h];rfl
theorem ayS{k:Nat}(hf:4≤fan){lo:Int}{s:Span}(hs:s.norm=s){sl:Int}{P:List af}{K:List (BT k)}(hl:lo≤(K.length:Int))(hK:(K.length:Int)≤fan+1)(h:Ch (BT.ok fan leaf k (vQ fan leaf k) (oV fan leaf k)) s P K):
  Gx fan leaf (k+1) lo s (K.flatMap (BT.rows k)) (u5 fan sl P K u).1:=by
 have hlen:=h.len
 unfold u5
 by_cases h1:(K.length:Int)≤fan
 ·rw [if_pos h1]
  exact⟨⟨⟨hl,h1⟩,h⟩,rfl⟩
 ·rw [if_neg h1]
  have hm:(K.length+1) / 2-1<P.length:=aa
  have e1:P.take ((K.length+1) / 2-1)++P[(K.length+1) / 2-1]::P.drop ((K.length+1) / 2)=P:=by
   have:=iW hm
   rw [show(K.length+1) / 2-1+1=(K.length+1) / 2 by omega]at this
   rw [←this,fo]
  have e2:K.take ((K.length+1) / 2)++K.drop ((K.length+1) / 2)=K:=fo _ _
  have h2:Ch (BT.ok fan leaf k (vQ fan leaf k) (oV fan leaf k)) s (P.take ((K.length+1) / 2-1)++P[(K.length+1) / 2-1]::P.drop ((K.length+1) / 2)) (K.take ((K.length+1) / 2)++K.drop ((K.length+1) / 2)):=by rw [e1,e2];exact h
  rw [yL hs (by rw [bV,bV];omega)]at h2
  obtain⟨a1,a2,a3,a4⟩:=h2
  show s.has (P.getD ((K.length+1) / 2-1) af.nil)=true∧_
  rw [fw hm]
  refine⟨a1,a2,⟨⟨?_,?_⟩,a3⟩,⟨⟨?_,?_⟩,a4⟩,?_⟩
  ·show fan / 2≤((K.take ((K.length+1) / 2)).length:Int)
   rw [bV];omega
  ·show((K.take ((K.length+1) / 2)).length:Int)≤fan
   rw [bV];omega
  ·show fan / 2≤((K.drop ((K.length+1) / 2)).length:Int)
   rw [cv];omega
  ·show((K.drop ((K.length+1) / 2)).length:Int)≤fan
   rw [cv];omega
  ·show(K.take ((K.length+1) / 2)).flatMap _++(K.drop ((K.length+1) / 2)).flatMap _=_
   rw [←dT,e2]
theorem Yg(hf:4≤fan)(vK:2≤leaf)(he:xJ e)(ee:key.b.size≤16)(HY:e.val.b.size≤16):
  ∀(k:Nat) {lo:Int} {s:Span} {y:BT k} (u:List Bool),s.norm=s→s.has key=true→BT.ok fan leaf k lo (oV fan leaf k) s y→Gx fan leaf k lo s (bW (BT.rows k y) key e) (gq fan leaf key e k y u).1∧(gq fan leaf key e k y u).1.1.slot=y.slot
 |0,lo,s,y,u,hs,hk,h=>by
  obtain⟨⟨h1,h2⟩,h3,h4⟩:=h
  have RX:=acg h3.o8 (k:=key) he
  have hle:=h3.o8.wQ key e
  have hP:=h3.with (k:=key) (e:=e) ee HY
  have gH:∀p∈bW (di y) key e,s.has p.key=true:=fun p hp=>by
   rcases EN hp with h|h
   ·exact h4 p h
   ·rw [h];exact hk
  have h2:((di y).length:Int)≤leaf:=h2
  by_cases h5:((bW (di y) key e).length:Int)≤leaf
  ·rw [xH h5]
   exact⟨⟨⟨⟨by show lo≤((bW (di y) key e).length:Int);omega,h5⟩,hP,gH⟩,rfl⟩,rfl⟩
  ·rw [xI h5]
   obtain⟨r1,r2,r3,r4,r5,r6,r7,_⟩:=adk hP aa gH
   refine⟨⟨r1,r2,⟨⟨?_,?_⟩,r3,r5⟩,⟨⟨?_,?_⟩,r4,r6⟩,r7⟩,rfl⟩
   ·show leaf / 2≤((z5 (bW (di y) key e)).length:Int)
    unfold z5;rw [bV];omega
   ·show((z5 (bW (di y) key e)).length:Int)≤leaf
    unfold z5;rw [bV];omega
   ·show leaf / 2≤((z6 (bW (di y) key e)).length:Int)
    unfold z6;rw [cv];omega
   ·show((z6 (bW (di y) key e)).length:Int)≤leaf
    unfold z6;rw [cv];omega
 |k+1,lo,s,y,u,hs,hk,h=>by
  obtain⟨⟨h1,h2⟩,h3⟩:=h
  have hlen:=h3.len
  have hi:ae (au y) key≤(au y).length:=fy _ _
  obtain⟨v,jY,v1,v2,v3,v4⟩:=h3.at hs hi
  have hv:v.has key=true:=by rw [v2,hk,dB rfl];rfl
  obtain⟨g1,g2⟩:=Yg hf vK he ee HY k u v1 hv v3
  obtain⟨ha,hc⟩:=Ch.ahead (f:=BT.rows k) (fun u c hu hc=>BT.ok.rows hu hc) hs h3 hk
  have yX:bW (BT.rows (k+1) y) key e=((ay y).take (ae (au y) key)).flatMap (BT.rows k)++(bW (BT.rows k (ay y)[ae (au y) key]) key e++((ay y).drop (ae (au y) key+1)).flatMap (BT.rows k)):=by
   show bW ((ay y).flatMap (BT.rows k)) key e=_
   rw [RA (BT.rows k) jY,V0 ha hc]
  have h2:((ay y).length:Int)≤fan:=h2
  have hI:gq fan leaf key e (k+1) y u=zW fan y (ae (au y) key) (gq fan leaf key e k (ay y)[ae (au y) key] u):=by
   show zW _ _ _ (gq fan leaf key e k ((ay y).getD _ _) u)=_
   rw [fw jY]
  rw [hI,yX]
  generalize gq fan leaf key e k (ay y)[ae (au y) key] u=r at*
  generalize ae (au y) key=i at*
  unfold zW
  unfold Gx at g1
  cases hr:r.1.2 with
  |none=>
   rw [hr]at g1
   dsimp only at g1
   obtain⟨g3,g4⟩:=g1
   have ve:=v4 [] [r.1.1] (uH.2 g3)
   rw [iU,fo,wv]at ve
   have e1:(ay y).take i++r.1.1::(ay y).drop (i+1)=(ay y).set i r.1.1:=(NJ ..).trans (by rw [if_pos jY])|>.symm
   rw [e1]at ve
   refine⟨⟨⟨⟨?_,?_⟩,ve⟩,?_⟩,rfl⟩
   ·show lo≤(((ay y).set i r.1.1).length:Int)
    rw [cg];exact h1
   ·show(((ay y).set i r.1.1).length:Int)≤fan
    rw [cg];exact h2
   ·show((ay y).set i r.1.1).flatMap _=_
    rw [←e1,dT,cI,g4]
  |some w=>
   rw [hr]at g1
   dsimp only at g1
   obtain⟨g3,g4,g5,g6,g7⟩:=g1
   have ve:=v4 [w.1] [r.1.1,w.2] (xR.2 ⟨g3,g4,g5,uH.2 g6⟩)
   have lW:=ayS (leaf:=leaf) hf hs (lo:=lo) (sl:=y.slot) (u:=r.2) (by simp [bV,cv];omega) (by simp [bV,cv];omega) ve
   have e2:((ay y).take i++([r.1.1,w.2]++(ay y).drop (i+1))).flatMap (BT.rows k)=((ay y).take i).flatMap (BT.rows k)++(bW (BT.rows k (ay y)[i]) key e++((ay y).drop (i+1)).flatMap (BT.rows k)):=by
    rw [dT,dT,cI,cI,iB,cx,←g7]
   rw [e2]at lW
   refine⟨lW,?_⟩
   show(u5 fan y.slot _ _ _).1.1.slot=_
   unfold u5
   split<;>rfl
end
def I2 (fan leaf:Int) (k:Nat) (y:BT k):Bool:=decide ((BT.ta k y:Int)<vQ fan leaf k)
def y7 (leaf:Int) (sa sb:Int) (R:List aG):BT 0×Option (af×BT 0):=if(R.length:Int)≤leaf then(zY sa R,none)else(zY sa (z5 R),some (GC R,zY sb (z6 R)))
def vP {k:Nat} (fan:Int) (sa sb:Int) (P:List af) (K:List (BT k)):BT (k+1)×Option (af×BT (k+1)):=
 if(K.length:Int)≤fan then(mg sa P K,none)
 else(mg sa (P.take ((K.length+1) / 2-1)) (K.take ((K.length+1) / 2)),some (P.getD ((K.length+1) / 2-1) af.nil,mg sb (P.drop ((K.length+1) / 2)) (K.drop ((K.length+1) / 2))))
def ii (fan leaf:Int):(k:Nat)→BT k→af→BT k→BT k×Option (af×BT k)
 |0,a,p,b=>y7 leaf a.slot b.slot (di a++di b)
 |k+1,a,p,b=>vP fan a.slot b.slot (au a++p::au b) (ay a++ay b)
def vN {k:Nat} (fan leaf:Int) (s:Int) (P:List af) (K:List (BT k)) (i:Nat) (u:List Bool):BT (k+1)×List Bool:=
 match (ii fan leaf k (K.getD i default) (P.getD i af.nil) (K.getD (i+1) default)).2 with
 |none=>(mg s (P.take i++([]++P.drop (i+1))) (K.take i++([(ii fan leaf k (K.getD i default) (P.getD i af.nil) (K.getD (i+1) default)).1]++K.drop (i+1+1))),u.set (K.getD (i+1) default).slot.toNat false)
 |some w=>(mg s (P.take i++([w.1]++P.drop (i+1))) (K.take i++([(ii fan leaf k (K.getD i default) (P.getD i af.nil) (K.getD (i+1) default)).1,w.2]++K.drop (i+1+1))),u)
def pz:bG:=⟨3,af.nil⟩
def jU (fan leaf:Int) (key:af):(k:Nat)→BT k→List Bool→BT k×List Bool
 |0,y,u=>(zY y.slot (bW (di y) key pz),u)
 | k+1,y,u=>if I2 fan leaf k (jU fan leaf key k ((ay y).getD (ae (au y) key) default) u).1=true
   then vN fan leaf y.slot (au y) ((ay y).set (ae (au y) key) (jU fan leaf key k ((ay y).getD (ae (au y) key) default) u).1) (ae (au y) key-1) (jU fan leaf key k ((ay y).getD (ae (au y) key) default) u).2
   else(mg y.slot (au y) ((ay y).set (ae (au y) key) (jU fan leaf key k ((ay y).getD (ae (au y) key) default) u).1),(jU fan leaf key k ((ay y).getD (ae (au y) key) default) u).2)
section
variable {fan leaf:Int} {key:af}
theorem at8{l:List aG}(h:gW l)(k:af):(bW l k pz).length≤l.length∧l.length≤(bW l k pz).length+1:=by
 have tU:bG.apply pz (bz l k)=none:=by simp [bG.apply,pz]
 rw [j3,h.front,tU,bP,bP]
 have:=zy l k
 cases hs:(bz l k).isSome
 ·rw [h.xk hs]
  simp [vZ,bV,cv]
  omega
 ·have hh:=h.has k
  rw [hs]at hh
  obtain⟨q1,q2⟩:=jW hh.symm
  rw [h.rh q1 q2]
  simp [vZ,bV,cv]
  omega
theorem at9(hf:4≤fan)(vK:2≤leaf):∀(k:Nat) {u:Span} {a b:BT k} {p:af} {la ha lb hb:Int},u.norm=u→u.has p=true→p≠u.lo→BT.ok fan leaf k la ha (uu u p) a→BT.ok fan leaf k lb hb (wL u p) b→
  2*vQ fan leaf k-1≤(BT.ta k a:Int)+(BT.ta k b:Int)→(BT.ta k a:Int)+(BT.ta k b:Int)≤2*oV fan leaf k→Gx fan leaf k (vQ fan leaf k) u (BT.rows k a++BT.rows k b) (ii fan leaf k a p b)∧(ii fan leaf k a p b).1.slot=a.slot∧∀w,(ii fan leaf k a p b).2=some w→w.2.slot=b.slot
 |0,u,a,b,p,la,ha,lb,hb,hu,hp,Gg,hA,hB,h1,h2=>by
  have h1:2*(leaf / 2)-1≤((di a).length:Int)+((di b).length:Int):=h1
  have h2:((di a).length:Int)+((di b).length:Int)≤2*leaf:=h2
  have hAB:bc (di a++di b)∧∀q∈di a++di b,u.has q.key=true:=by
   have a3:∀q∈di a,u.has q.key=true∧q.key.lt p=true:=fun q hq=>by have:=hA.2.2 q hq;rw [jN,cm]at this;exact this
   have b3:∀q∈di b,u.has q.key=true∧q.key.lt p=false:=fun q hq=>by have:=hB.2.2 q hq;rw [iN,cm,kV]at this;exact this
   refine⟨dr.2 ⟨fun q hq=> ?_,adj hA.2.1.o8 hB.2.1.o8 fun x hx y hy=>af.lt_of_lt_of_le (a3 x hx).2 (b3 y hy).2⟩,fun q hq=> ?_⟩
   ·rcases cP.1 hq with hq|hq
    ·exact(dr.1 hA.2.1).1 q hq
    ·exact(dr.1 hB.2.1).1 q hq
   ·rcases cP.1 hq with hq|hq
    ·exact(a3 q hq).1
    ·exact(b3 q hq).1
  rw [show ii fan leaf 0 a p b=y7 leaf a.slot b.slot (di a++di b)from rfl]
  unfold y7
  by_cases h5:((di a++di b).length:Int)≤leaf
  ·rw [if_pos h5]
   refine⟨⟨⟨⟨?_,h5⟩,hAB⟩,rfl⟩,rfl,fun w hw=>by cases hw⟩
   show leaf / 2≤((di a++di b).length:Int)
   rw [bP];omega
  ·rw [if_neg h5]
   rw [bP]at h5
   have zR:2≤(di a++di b).length:=by rw [bP];omega
   obtain⟨r1,r2,r3,r4,r5,r6,r7,_⟩:=adk hAB.1 zR hAB.2
   refine⟨⟨r1,r2,⟨⟨?_,?_⟩,r3,r5⟩,⟨⟨?_,?_⟩,r4,r6⟩,r7⟩,rfl,fun w hw=>by cases hw;rfl⟩
   ·show leaf / 2≤((z5 (di a++di b)).length:Int)
    unfold z5;rw [bV,bP];omega
   ·show((z5 (di a++di b)).length:Int)≤leaf
    unfold z5;rw [bV,bP];omega
   ·show leaf / 2≤((z6 (di a++di b)).length:Int)
    unfold z6;rw [cv,bP];omega
   ·show((z6 (di a++di b)).length:Int)≤leaf
    unfold z6;rw [cv,bP];omega
 |k+1,u,a,b,p,la,ha,lb,hb,hu,hp,Gg,hA,hB,h1,h2=>by
  have h1:2*(fan / 2)-1≤((ay a).length:Int)+((ay b).length:Int):=h1
  have h2:((ay a).length:Int)+((ay b).length:Int)≤2*fan:=h2
  have ve:Ch (BT.ok fan leaf k (vQ fan leaf k) (oV fan leaf k)) u (au a++p::au b) (ay a++ay b):=(yL hu hA.2.len).2 ⟨hp,Gg,hA.2,hB.2⟩
  have hlen:=ve.len
  have hrw:BT.rows (k+1) a++BT.rows (k+1) b=(ay a++ay b).flatMap (BT.rows k):=by rw [dT];rfl
  rw [hrw]
  have hn:(ay a++ay b).length=(ay a).length+(ay b).length:=bP
  rw [show ii fan leaf (k+1) a p b=vP fan a.slot b.slot (au a++p::au b) (ay a++ay b)from rfl]
  unfold vP
  generalize au a++p::au b=P at*
  generalize ay a++ay b=K at*
  by_cases h5:(K.length:Int)≤fan
  ·rw [if_pos h5]
   refine⟨⟨⟨⟨?_,h5⟩,ve⟩,rfl⟩,rfl,fun w hw=>by cases hw⟩
   show fan / 2≤(K.length:Int)
   omega
  ·rw [if_neg h5]
   have hm:(K.length+1) / 2-1<P.length:=aa
   have e1:P.take ((K.length+1) / 2-1)++P[(K.length+1) / 2-1]::P.drop ((K.length+1) / 2)=P:=by
    have:=iW hm
    rw [show(K.length+1) / 2-1+1=(K.length+1) / 2 by omega]at this
    rw [←this,fo]
   have e2:K.take ((K.length+1) / 2)++K.drop ((K.length+1) / 2)=K:=fo _ _
   have h6:Ch (BT.ok fan leaf k (vQ fan leaf k) (oV fan leaf k)) u (P.take ((K.length+1) / 2-1)++P[(K.length+1) / 2-1]::P.drop ((K.length+1) / 2)) (K.take ((K.length+1) / 2)++K.drop ((K.length+1) / 2)):=by rw [e1,e2];exact ve
   rw [yL hu (by rw [bV,bV];omega)]at h6
   obtain⟨a1,a2,a3,a4⟩:=h6
   refine⟨?_,rfl,fun w hw=>by cases hw;rfl⟩
   show u.has (P.getD ((K.length+1) / 2-1) af.nil)=true∧_
   rw [fw hm]
   refine⟨a1,a2,⟨⟨?_,?_⟩,a3⟩,⟨⟨?_,?_⟩,a4⟩,?_⟩
   ·show fan / 2≤((K.take ((K.length+1) / 2)).length:Int)
    rw [bV];omega
   ·show((K.take ((K.length+1) / 2)).length:Int)≤fan
    rw [bV];omega
   ·show fan / 2≤((K.drop ((K.length+1) / 2)).length:Int)
    rw [cv];omega
   ·show((K.drop ((K.length+1) / 2)).length:Int)≤fan
    rw [cv];omega
   ·show(K.take ((K.length+1) / 2)).flatMap _++(K.drop ((K.length+1) / 2)).flatMap _=_
    rw [←dT,e2]
variable {i:Nat} {α:Type}
theorem anG{l:List α}(h:i+1<l.length):(l.drop i).take 2=[l[i]'aa,l[i+1]]:=by
 rw [iW aa,wx,iW h,wx,Ay]
theorem anH{l:List α}(h:i<l.length):(l.drop i).take 1=[l[i]]:=by
 rw [iW h,wx,Ay]
theorem adl{k:Nat}(hf:4≤fan)(vK:2≤leaf){s:Span}(hs:s.norm=s){sl:Int}{P:List af}{K:List (BT k)}{us:List Bool}{lo:Int}{a b:BT k}(h:Ch (BT.ok fan leaf k (vQ fan leaf k) (oV fan leaf k)) s P K)(hi:i+1<K.length)(hK:(K.length:Int)≤fan)(hl:lo≤(K.length:Int))
  {u:Span}(hu:u.norm=u){p:af}(hP:P.getD i af.nil=p)(hp:u.has p=true)(Gg:p≠u.lo){la ha lb hb:Int}(hA:BT.ok fan leaf k la ha (uu u p) a)(hB:BT.ok fan leaf k lb hb (wL u p) b)
  (h1:2*vQ fan leaf k-1≤(BT.ta k a:Int)+(BT.ta k b:Int))(h2:(BT.ta k a:Int)+(BT.ta k b:Int)≤2*oV fan leaf k)
  (hR:∀Q D,Ch (BT.ok fan leaf k (vQ fan leaf k) (oV fan leaf k)) u Q D→Ch (BT.ok fan leaf k (vQ fan leaf k) (oV fan leaf k)) s (P.take i++(Q++P.drop (i+1))) (K.take i++(D++K.drop (i+1+1))))
  {K1:List (BT k)}(e1:K1.take i=K.take i)(e2:K1.drop (i+1+1)=K.drop (i+1+1))(e3:K1.getD i default=a)(e4:K1.getD (i+1) default=b):
  BT.ok fan leaf (k+1) (lo-1) fan s (vN fan leaf sl P K1 i us).1∧BT.rows (k+1) (vN fan leaf sl P K1 i us).1=(K.take i).flatMap (BT.rows k)++((BT.rows k a++BT.rows k b)++(K.drop (i+1+1)).flatMap (BT.rows k))∧(vN fan leaf sl P K1 i us).1.slot=sl:=by
 have hj:=(at9 hf vK k hu hp Gg hA hB h1 h2).1
 unfold vN
 rw [e1,e2,e3,e4,hP]
 generalize ii fan leaf k a p b=r at*
 unfold Gx at hj
 cases hr:r.2 with
 |none=>
  rw [hr]at hj
  dsimp only at hj⊢
  obtain⟨g3,g4⟩:=hj
  have ve:=hR [] [r.1] (uH.2 g3)
  refine⟨⟨⟨?_,?_⟩,ve⟩,?_,rfl⟩
  ·show lo-1≤((K.take i++([r.1]++K.drop (i+1+1))).length:Int)
   simp [bV,cv];omega
  ·show((K.take i++([r.1]++K.drop (i+1+1))).length:Int)≤fan
   simp [bV,cv];omega
  ·show(K.take i++([r.1]++K.drop (i+1+1))).flatMap _=_
   rw [dT,dT,cI,iB,cx,g4]
 |some w=>
  rw [hr]at hj
  dsimp only at hj⊢
  obtain⟨g3,g4,g5,g6,g7⟩:=hj
  have ve:=hR [w.1] [r.1,w.2] (xR.2 ⟨g3,g4,g5,uH.2 g6⟩)
  refine⟨⟨⟨?_,?_⟩,ve⟩,?_,rfl⟩
  ·show lo-1≤((K.take i++([r.1,w.2]++K.drop (i+1+1))).length:Int)
   simp [bV,cv];omega
  ·show((K.take i++([r.1,w.2]++K.drop (i+1+1))).length:Int)≤fan
   simp [bV,cv];omega
  ·show(K.take i++([r.1,w.2]++K.drop (i+1+1))).flatMap _=_
   rw [dT,dT,cI,cI,iB,cx,g7]
end
section
variable {fan leaf:Int} {key:af}
variable {i:Nat}
theorem MU{ps:List af}(hr:rising ps=true)(q:af)(hi:i≤ps.length):decide (i=ae ps q)=((decide (i=0)|| !q.lt (ps.getD (i-1) af.nil))&&(decide (i=ps.length)||q.lt (ps.getD i af.nil))):=by
 have hrg:=eR hr q hi
 rw [←hrg]
 unfold aA
 rw [if_neg aa,ld]
 unfold Span.has
 dsimp only
 rw [qG]
 have e2:(((i:Int)-1).toNat)=i-1:=aa
 rw [e2]
 have e3:decide ((ps.length:Int)≤(i:Int))=decide (i=ps.length):=rL.2 aa
 rw [e3]
 by_cases e0:i=0
 ·rw [if_neg aa,af.nil_le,dB e0];simp
 ·rw [if_pos aa,gr e0];simp
variable {k:Nat} {u:List Bool}
theorem Yj{y:BT (k+1)}(hi:ae (au y) key<(ay y).length)(h:I2 fan leaf k (jU fan leaf key k (ay y)[ae (au y) key] u).1=true):
  jU fan leaf key (k+1) y u=vN fan leaf y.slot (au y) ((ay y).set (ae (au y) key) (jU fan leaf key k (ay y)[ae (au y) key] u).1) (ae (au y) key-1) (jU fan leaf key k (ay y)[ae (au y) key] u).2:=by
 rw [←fw (d:=default) hi]at h⊢
 exact if_pos h
theorem Yk{y:BT (k+1)}(hi:ae (au y) key<(ay y).length)(h:I2 fan leaf k (jU fan leaf key k (ay y)[ae (au y) key] u).1=false):
  jU fan leaf key (k+1) y u=(mg y.slot (au y) ((ay y).set (ae (au y) key) (jU fan leaf key k (ay y)[ae (au y) key] u).1),(jU fan leaf key k (ay y)[ae (au y) key] u).2):=by
 rw [←fw (d:=default) hi]at h⊢
 exact if_neg (by rw [h];simp)
theorem wX{α:Type}{l:List α}(h:i<l.length)(a:α):l.set i a=l.take i++a::l.drop (i+1):=(NJ ..).trans (by rw [if_pos h])
theorem Jd(hf:4≤fan)(vK:2≤leaf)(ee:key.b.size≤16):
  ∀(k:Nat) {lo:Int} {s:Span} {y:BT k} (u:List Bool),(k=0∨2≤lo)→s.norm=s→s.has key=true→BT.ok fan leaf k lo (oV fan leaf k) s y→
   BT.ok fan leaf k (lo-1) (oV fan leaf k) s (jU fan leaf key k y u).1∧BT.rows k (jU fan leaf key k y u).1=bW (BT.rows k y) key pz∧(jU fan leaf key k y u).1.slot=y.slot
 |0,lo,s,y,u,_,hs,hk,h=>by
  obtain⟨⟨h1,h2⟩,h3,h4⟩:=h
  obtain⟨d1,d2⟩:=at8 h3.o8 key
  have hP:=h3.with (k:=key) (e:=pz) ee (by show af.nil.b.size≤16;decide)
  have h2:((di y).length:Int)≤leaf:=h2
  have tU:∀o,bG.apply pz o=none:=fun o=>by simp [bG.apply,pz]
  refine⟨⟨⟨?_,?_⟩,hP,fun p hp=> ?_⟩,rfl,rfl⟩
  ·show lo-1≤((bW (di y) key pz).length:Int)
   omega
  ·show((bW (di y) key pz).length:Int)≤leaf
   omega
  ·rcases EN (show p∈bW (di y) key pz from hp)with h|h
   ·exact h4 p h
   ·rw [h];exact hk
 |k+1,lo,s,y,u,eG,hs,hk,h=>by
  obtain⟨⟨h1,h2⟩,h3⟩:=h
  have eG:2≤lo:=aa
  have h2:((ay y).length:Int)≤fan:=h2
  have hlen:=h3.len
  have hr:=(h3.Yh hs).1
  have hi:ae (au y) key≤(au y).length:=fy _ _
  obtain⟨v,jY,v1,v2,v3,v4⟩:=h3.at hs hi
  have hv:v.has key=true:=by rw [v2,hk,dB rfl];rfl
  have hmn:k=0∨2≤vQ fan leaf k:=by
   by_cases e:k=0
   ·exact .inl e
   ·right;unfold vQ;rw [if_neg e];omega
  obtain⟨g1,g2,g3⟩:=Jd hf vK ee k u hmn v1 hv v3
  obtain⟨ha,hc⟩:=Ch.ahead (f:=BT.rows k) (fun u c hu hc=>BT.ok.rows hu hc) hs h3 hk
  have yX:bW (BT.rows (k+1) y) key pz=((ay y).take (ae (au y) key)).flatMap (BT.rows k)++(bW (BT.rows k (ay y)[ae (au y) key]) key pz++((ay y).drop (ae (au y) key+1)).flatMap (BT.rows k)):=by
   show bW ((ay y).flatMap (BT.rows k)) key pz=_
   rw [RA (BT.rows k) jY,V0 ha hc]
  rw [yX]
  have hIt:=Yj (fan:=fan) (leaf:=leaf) (u:=u) jY
  have hIf:=Yk (fan:=fan) (leaf:=leaf) (u:=u) jY
  generalize jU fan leaf key k (ay y)[ae (au y) key] u=r at*
  obtain⟨c,u2⟩:=r
  dsimp only at*
  have hcc:=g1.ta
  have akF:∀j (hj:j<(ay y).length),vQ fan leaf k≤(BT.ta k (ay y)[j]:Int)∧(BT.ta k (ay y)[j]:Int)≤oV fan leaf k:=fun j hj=>by
   obtain⟨_,_,_,_,h9,_⟩:=h3.at hs (i:=j) aa
   exact h9.ta
  cases Yl:I2 fan leaf k c
  ·rw [hIf Yl]
   have RX:vQ fan leaf k≤(BT.ta k c:Int):=by unfold I2 at Yl;have:=Au Yl;omega
   have ve:=v4 [] [c] (uH.2 (g1.to RX hcc.2))
   rw [iU,fo,wv,←wX jY]at ve
   refine⟨⟨⟨?_,?_⟩,ve⟩,?_,rfl⟩
   ·show lo-1≤(((ay y).set _ c).length:Int)
    rw [cg];omega
   ·show(((ay y).set _ c).length:Int)≤fan
    rw [cg];exact h2
   ·show((ay y).set _ c).flatMap _=_
    rw [wX jY,dT,cI,g2]
  ·rw [hIt Yl]
   generalize hie:ae (au y) key=i at*
   obtain⟨w,w1,w2,w3,w4⟩:=h3.mid hs (i:=i-1) (m:=1) aa
   have tw:i-1<(au y).length:=aa
   have xY:i-1+1<(ay y).length:=aa
   rw [anH tw,anG xY,xR,uH]at w3
   obtain⟨x1,x2,x3,x4⟩:=w3
   have hPg:(au y).getD (i-1) af.nil=(au y)[i-1]:=fw tw
   cases i with
   |zero=>
    have ev:v=uu w (au y)[0-1]:=vi v1 (pn _ _) fun q=>by
     rw [v2,jN,w2,MU hr q aa]
     show(s.has q&&((decide (0=0)||_)&&(decide (0=(au y).length)||q.lt ((au y).getD 0 af.nil))))=(s.has q&&(decide (0=0)||_)&&(decide (0+1=(au y).length)||q.lt ((au y).getD 1 af.nil))&&q.lt (au y)[0])
     have e0:(au y).getD 0 af.nil=(au y)[0]:=fw tw
     rw [e0,gr (show ¬0=(au y).length by omega)]
     cases hq:q.lt (au y)[0]
     ·simp
     ·by_cases e1:0+1=(au y).length
      ·simp [e1]
      ·have e2:(au y).getD 1 af.nil=(au y)[1]'aa:=fw aa
       have e3:q.lt ((au y)[1]'aa)=true:=af.lt_of_lt_of_le hq (af.lt_asymm (jt hr 1 0 aa aa))
       rw [e2,e3];simp
    rw [ev]at g1
    obtain⟨m1,m2,m3⟩:=adl (sl:=y.slot) (us:=u2) (lo:=lo) (K1:=(ay y).set 0 c) hf vK hs h3 xY h2 h1 w1 hPg x1 x2 g1 x4
     (by have:=akF _ xY;omega) (by have:=akF _ xY;omega) w4 (by simp) (by rw [WR aa]) (by rw [fw (by simpa using jY)];simp) (by rw [fw (by simpa using xY),qH aa])
    refine⟨m1,m2.trans ?_,m3⟩
    rw [g2]
    show []++_=[]++_
    rw [iU,iU,ci]
    congr 1
    rw [show(ay y).drop (0+1)=(ay y)[0-1+1]::(ay y).drop (0-1+1+1)from iW xY,cI]
   |succ i=>
    have ev:v=wL w (au y)[i+1-1]:=vi v1 (lf _ _) fun q=>by
     rw [v2,iN,w2,MU hr q aa]
     show(s.has q&&((decide (i+1=0)|| !q.lt ((au y).getD i af.nil))&&(decide (i+1=(au y).length)||q.lt ((au y).getD (i+1) af.nil))))=(s.has q&&(decide (i=0)|| !q.lt ((au y).getD (i-1) af.nil))&&(decide (i+1=(au y).length)||q.lt ((au y).getD (i+1) af.nil))&& !q.lt (au y)[i])
     have e0:(au y).getD i af.nil=(au y)[i]:=fw tw
     rw [e0,gr (show ¬i+1=0 by omega)]
     cases hq:q.lt (au y)[i]
     ·by_cases e1:i=0
      ·simp [e1]
      ·have e2:(au y).getD (i-1) af.nil=(au y)[i-1]'aa:=fw aa
       have e3:q.lt ((au y)[i-1]'aa)=false:=by
        cases h9:q.lt ((au y)[i-1]'aa)
        ·rfl
        ·rw [af.lt_of_lt_of_le h9 (af.lt_asymm (jt hr i (i-1) aa aa))]at hq;cases hq
       rw [e2,e3];simp
     ·simp
    rw [ev]at g1
    have hii:i<(ay y).length:=aa
    obtain⟨m1,m2,m3⟩:=adl (sl:=y.slot) (us:=u2) (lo:=lo) (K1:=(ay y).set (i+1) c) hf vK hs h3 xY h2 h1 w1 hPg x1 x2 x3 g1
     (by have:=akF _ hii;show _≤(BT.ta k (ay y)[i]:Int)+_;omega) (by have:=akF _ hii;show(BT.ta k (ay y)[i]:Int)+_≤_;omega) w4
     (by rw [show i+1-1=i from rfl,List.take_set_of_le aa]) (by rw [WR aa]) ((fw (by rw [cg];omega)).trans (qH aa (by rw [cg];omega))) ((fw (i:=i+1) (by rw [cg];exact jY)).trans (by simp))
    refine⟨m1,m2.trans ?_,m3⟩
    rw [g2]
    show((ay y).take i).flatMap _++((BT.rows k (ay y)[i]++_)++_)=_
    rw [show(ay y).take (i+1)=(ay y).take i++[(ay y)[i]]from iA hii,dT,cI,iB,cx,ci,ci]
    rfl
end
theorem RY:∀ {M:MH} {G:GH} {b:Nat} {o:Obj},(∀p∈M,p.1≠b)→qE G M b=G b
 |[],_,_,_,_=>rfl
 |p::M,G,b,o,h=>by
  have h1:¬b=p.1:=fun e=>h p (by simp) e.symm
  show(if b=p.1 then some p.2 else qE G M b)=_
  rw [if_neg h1]
  exact RY (o:=o) fun q hq=>h q (by simp [hq])
theorem MV:∀ {M:MH} {G:GH},(M.map (·.1)).Nodup→∀p∈M,qE G M p.1=some p.2
 |q::M,G,hn,p,hp=>by
  rw [cA,nN]at hn
  show(if p.1=q.1 then some q.2 else qE G M p.1)=_
  rcases dK.1 hp with rfl|hp
  ·rw [if_pos rfl]
  ·rw [if_neg fun e:p.1=q.1=>hn.1 (e▸kn (f:=Prod.fst) hp)]
   exact MV hn.2 p hp
variable {G:GH} {M:MH}
theorem ahB(h:∀p∈M,G p.1=none):Le G (qE G M):=fun b o hb=>by
 rw [RY (o:=o) fun p hp e=>by rw [←e,h p hp]at hb;cases hb]
 exact hb
theorem GQ:∀ {M:MH} {G:GH} {b:Nat} {o:Obj},qE G M b=some o→G b=some o∨∃p∈M,p.1=b∧p.2=o
 |[],_,_,_,h=>.inl h
 |q::M,G,b,o,h=>by
  have h:(if b=q.1 then some q.2 else qE G M b)=some o:=h
  by_cases e:b=q.1
  ·rw [if_pos e]at h;cases h
   exact .inr ⟨q,by simp,e.symm,rfl⟩
  ·rw [if_neg e]at h
   rcases GQ h with h|⟨p,hp,h1,h2⟩
   ·exact .inl h
   ·exact .inr ⟨p,by simp [hp],h1,h2⟩
variable {b:Nat}
theorem Y7(h:G b=none)(hb:∀p∈M,p.1≠b):qE G M b=none:=by
 cases hg:qE G M b with
 |none=>rfl
 |some o=>
  rcases GQ hg with h2|⟨p,hp,h1,_⟩
  ·rw [h]at h2;cases h2
  ·exact absurd h1 (hb p hp)
theorem Fc.akj{P:Program}{g:FuncId}{vs:List Value}{Ml Mp:MH}{Q:Value→MH→Prop}
  (hn:jR P g)(hc:∀G1,Le G G1→(∀p∈Ml,G1 p.1=some p.2)→Fc P g vs G1 Mp (fun v _ M'=>Q v M')):
  Fc P g vs G (Ml++Mp) (fun v _ M'=>∃Mq,M'=Ml++Mq∧Q v Mq):=by
 refine⟨hn,fun w hw=> ?_⟩
 have iR:=hw.nd
 simp only [bU,kX]at iR
 obtain⟨n1,n2,n3⟩:=iR
 have hle:Le G (qE G Ml):=ahB fun p hp=>hw.wJ p (by simp [hp])
 have u4:=MV (G:=G) n1
 have Nt:Real w (fun b=>b∈Mp.map (·.1)) (qE G Ml) Mp w:=by
  refine⟨rfl,rfl,rfl,bZ _,fun _ _ _=>rfl,fun b o hb=> ?_,fun p hp=>hw.mu p (by simp [hp]),fun p hp=> ?_,n2,fun p hp=>.inr (kn hp)⟩
  ·rcases GQ hb with h|⟨p,hp,rfl,rfl⟩
   ·exact hw.ro b o h
   ·exact hw.mu p (by simp [hp])
  ·exact Y7 (hw.wJ p (by simp [hp])) fun q hq e=>n3 q.1 (kn hq) p.1 (kn hp) e
 refine((hc _ hle u4).2 w Nt).mono ?_
 rintro e w' ⟨v,G',M',rfl,h2,h3,h4,h5⟩
 have eG:∀p∈M',w.heap.size≤p.1∨p.1∈Mp.map (·.1):=h2.lo
 refine⟨v,G,Ml++M',rfl,⟨h2.os,h2.tape,h2.output,h2.size,?_,?_,?_,?_,?_,?_⟩,Le.rfl,fun b h1 h=>absurd h1 h,M',rfl,h5⟩
 ·intro b hb ho
  exact h2.s9 b hb fun hm=>ho (by rw [bU];exact ib _ hm)
 ·intro b o hb;exact h2.ro b o (h3 b o (hle b o hb))
 ·intro p hp
  rcases cP.1 hp with hp|hp
  ·exact h2.ro _ _ (h3 _ _ (u4 p hp))
  ·exact h2.mu p hp
 ·intro p hp
  rcases cP.1 hp with hp|hp
  ·exact hw.wJ p (by simp [hp])
  ·have:=h2.wJ p hp
   cases hg:G p.1 with
   |none=>rfl
   |some o=>rw [h3 _ _ (hle _ _ hg)]at this;cases this
 ·rw [bU,kX]
  refine⟨n1,h2.nd,fun a ha b hb e=> ?_⟩
  subst e
  obtain⟨p,hp,rfl⟩:=cB.1 ha
  obtain⟨q,hq,e⟩:=cB.1 hb
  have h6:=h2.wJ q hq
  rw [e,h3 _ _ (u4 p hp)]at h6;cases h6
 ·intro p hp
  rcases cP.1 hp with hp|hp
  ·exact .inr (kn (by simp [hp]))
  ·rcases eG p hp with h|h
   ·exact .inl h
   ·right;rw [bU];exact ib _ h
variable {T:TypeId}
theorem aE.fV{α:Type}{e:fB α}{G1:GH}{v:Value}{l:List α}{Ms:MH}(ho:aE e T G v l Ms)(hl:Le G G1)(hm:∀p∈Ms,G1 p.1=some p.2):az e G1 v l:=by
 obtain⟨css,h1,⟨h2,h3⟩,h4⟩:=ho
 rcases h3 with⟨rfl,hn,rfl⟩|⟨b,cap,cur,rfl,h5,h6,h7,h8,rfl⟩
 ·have:l=[]:=kj hn
  subst this
  exact az.nil
 ·refine az.LC (hm (b,.cells cur T (0,0)) (by simp)) (fun i hi=> ?_) (h1.mono hl) rfl h5 h6 h4
  rw [h2]at hi
  rw [←h8,mF,if_pos hi]
  simp
theorem uq{L:List Value}{fr:Nat×Nat}(h:G b=some (.cells L.toArray T fr)):jc G b 0 L:=⟨_,_,_,h,fun j hj=>by simp⟩
theorem jc.drop{cs:List Value}(h:jc G b 0 cs)(o:Nat):jc G b o (cs.drop o):=by
 obtain⟨c,T,fr,h1,h2⟩:=h
 refine⟨c,T,fr,h1,fun j hj=> ?_⟩
 rw [cv]at hj
 have:=h2 (o+j) aa
 rw [rQ]at this
 rw [this,oA]
theorem iI{i:Nat}{o:Obj}(h:∀p∈M,G p.1=some p.2)(hm:uI M i=some (b,o)):G b=some o:=h _ (cY hm)
theorem eU{A:MH}(hs:A.Sublist M)(h:∀p∈M,G p.1=some p.2):∀p∈A,G p.1=some p.2:=fun p hp=>h p (hs.subset hp)
section
variable {E:Env} {Q:Exit→Kt} {f:Fr} {G:GH} {M:MH} {ops rest:List Oper} {q:Bool} {K:Kt} {d:Nat} {ty:TypeId} {pos:String} {aft:Array Edge}
variable {args:List Operand} {tV:Array TypeId} {g:FuncId} {vs:List Value}
theorem W.jy{v:Value}(hc:∀G1,Le G G1→(∀p∈M,G1 p.1=some p.2)→Fc E.P g vs G1 [] (fun v' _ _=>v'=v))(hn:jR E.P g)(ha:args.map (ev f)=vs)
  (k:W E ops.toArray q rest (jP f d v) G M K)(hd:Nat.blt d E.n=true:=by rfl):
  W E ops.toArray q (⟨some d,.call { callee:=.value (.func g),args:=args.toArray,argTypes:=tV },ty,pos,aft,none⟩::rest) f G M K:=by
 have hL:Fc E.P g vs G (M++[]) (fun v' _ M'=>∃Mq,M'=M++Mq∧(v'=v∧Mq=[])):=Fc.akj (Q:=fun v' M'=>v'=v∧M'=[]) hn fun G1 h1 h2=>by
  obtain⟨c1,c2⟩:=hc G1 h1 h2
  refine⟨c1,fun w hw=>(c2 w hw).mono ?_⟩
  rintro e w' ⟨v',G',M',a1,a2,a3,a4,a5⟩
  exact⟨v',G',[],a1,a2.sub (NF _),a3,a4,a5,rfl⟩
 rw [cx]at hL
 have gU:∀w,(execOp (ev f) ⟨some d,.call { callee:=.value (.func g),args:=args.toArray,argTypes:=tV },ty,pos,aft,none⟩).run E.P w=.ok (.enter g vs.toArray) w:=fun w=>by
  simp [execOp,resolve,invoke,ev,Deferred.ofValue,ha,hn _ w]
 have RZ:∀w,E.real G M w→Calls E.P g vs.toArray w fun e w'=>e=.returned v∧E.real G M w':=fun w hr=>by
  have hw:Real w (fun b=>b∈M.map (·.1)) G M w:=⟨rfl,rfl,rfl,bZ _,fun _ _ _=>rfl,hr.r.ro,hr.r.mu,hr.r.wJ,hr.r.nd,fun p hp=>.inr (kn hp)⟩
  refine(hL.2 w hw).mono ?_
  rintro e w' ⟨v',G',M',rfl,h2,h3,h4,Mq,e5,rfl,rfl⟩
  rw [cx]at e5;subst e5
  have h5:=Real.call (Mp:=M') (Mr:=[]) (by rw [cx];exact hr.r) h2 h4
  rw [cx]at h5
  refine⟨rfl,Env.real.MW (G':=G') ⟨h5,hr.le.trans h3,?_⟩ h3 hr.le⟩
  intro b hb ow
  cases hg:G b with
  |none=>
   rcases h4 b hg ow with h7|h7
   ·exact .inl (gg hr.r.size h7)
   ·obtain⟨p,hp,e⟩:=cB.1 h7
    rcases hr.r.lo p hp with h8|h8
    ·exact .inl (e▸h8)
    ·exact .inr (e▸h8)
  |some o=>exact hr.nw b hb (by simp [hg])
 cases q
 ·intro a w Q hi hr hK
  refine wpList_plain rfl fun K' iG=> ?_
  unfold Oper.wp
  rw [hi.eval,gU w]
  refine(RZ w hr).mono ?_
  rintro e w' ⟨rfl,h⟩
  exact iG _ _ (k _ w' Q (hi.put hd v) h hK)
 ·intro a hi
  refine wpQuiet_step fun K' iG=> ?_
  rw [if_pos (by rfl)]
  refine⟨v,fun w hr=> ?_,iG _ (k _ (hi.put hd v))⟩
  unfold Oper.quietAt
  rw [hi.eval,gU w]
  exact⟨rfl,RZ w hr⟩
theorem W.aC6{R:Value→MH→Prop}(hc:∀G1,Le G G1→(∀p∈M,G1 p.1=some p.2)→Fc E.P g vs G1 [] (fun v' _ M'=>R v' M'))(hn:jR E.P g)(ha:args.map (ev f)=vs)
  (k:∀v' G' Mq,Le G G'→R v' Mq→W E ops.toArray false rest (jP f d v') G' (M++Mq) K)(hd:Nat.blt d E.n=true:=by rfl):
  W E ops.toArray false (⟨some d,.call { callee:=.value (.func g),args:=args.toArray,argTypes:=tV },ty,pos,aft,none⟩::rest) f G M K:=by
 refine W.call (Mp:=M++[]) (Mr:=[]) (Fc.akj (Q:=R) hn hc) ha (by simp) ?_ hd
 rintro v' G' M' hl ⟨Mq,rfl,h⟩
 have:=k v' G' Mq hl h
 simpa using this
end
theorem V1:∀ {M:MH} {p:Nat×Obj},p∈M→∃i,uI M i=some p
 |q::M,p,h=>by
  rcases dK.1 h with rfl|h
  ·exact⟨0,rfl⟩
  ·obtain⟨i,hi⟩:=V1 h
   exact⟨i+1,hi⟩
variable {G:GH} {T:TypeId}
theorem gw{E:Env}{f:Fr}{M:MH}{d:Nat}{ty t:TypeId}{pos:String}{aft:Array Edge}{x:Operand}{b o:Nat}{L vs:List Value}{bb:Bool}{j:Nat}(hm:(b,Obj.cells L.toArray T (0,0))∈M)(ht:gO E.P t=some (bb,j))(hx:ev f x=.pointer (some ⟨b,o,none⟩))
  (hv:(L.drop o).take j=vs)(hl:vs.length=j)(hb:bb=false→j=1):Ok E f G M ⟨some d,.load t x,ty,pos,aft,none⟩ (HO bb vs):=by
 obtain⟨i,hi⟩:=V1 hm
 exact zn (i:=i) ht hx hi hv hl hb
def fu:fB (Option Nat) where
 k:=1
 w:=8
 R:=fun _ cs o=>cs=[.pointer (o.map fun b=>⟨b,0,none⟩)]
 mono:=fun _ h=>h
 len:=fun h=>by rw [h];rfl
 one:=fun h u hu=>by rw [h]at hu;simp at hu;subst hu;rfl
instance : EqE fu (fun o => [.pointer (o.map fun b => ⟨b, 0, none⟩)]) := ⟨fun _ _ _ h => h⟩
def GR {α:Type} (e:fB α):Prop:=∀G G' cs a,e.R G cs a→e.R G' cs a
variable {G':GH} {α:Type}
theorem GR.all{e:fB α}(he:GR e):∀ {css:List (List Value)} {l:List α},fG e G css l→fG e G' css l
 |[],[],_=>trivial
 |_::_,_::_,h=>⟨he _ _ _ _ h.1,GR.all he h.2⟩
 |[],_::_,h=>h.elim
 |_::_,[],h=>h.elim
theorem GR.own{e:fB α}(he:GR e){v:Value}{l:List α}{Ms:MH}(h:aE e T G v l Ms):aE e T G' v l Ms:=by
 obtain⟨css,h1,h2⟩:=h
 exact⟨css,he.all h1,h2⟩
theorem acC:GR fu:=fun _ _ _ _ h=>h
theorem ahr:GR aU:=fun _ _ _ _ h=>h
structure c6 where
 slot:Int
 lvl:Int
 P:List af
 K:List Int
 R:List aG
def BoxM (Tn Ts:TypeId) (b:Nat) (n:c6) (G:GH) (Ms:MH):Prop:=∃vp vk vr Mp,Ms=(b,.cells (List.toArray [.int .i64 n.lvl,vp,vk,vr]) Tn (0,0))::Mp∧aE cy Ts G vp n.P Mp∧az bE G vk n.K∧az aU G vr n.R
def R0 (b:Nat) (n:c6) (G:GH):Prop:=∃vp vk vr,jc G b 0 [.int .i64 n.lvl,vp,vk,vr]∧az cy G vp n.P∧az bE G vk n.K∧az aU G vr n.R
def jm (cells:List (Option Nat)) (s:Int) (b:Nat):Prop:=0≤s∧cells[s.toNat]?=some (some b)
def NdM (Tn Ts:TypeId) (cells:List (Option Nat)) (n:c6) (G:GH) (Ms:MH):Prop:=∃b,jm cells n.slot b∧BoxM Tn Ts b n G Ms
def NdG (cells:List (Option Nat)) (n:c6) (G:GH):Prop:=∃b,jm cells n.slot b∧R0 b n G
def bD (Tn Ts:TypeId) (cells:List (Option Nat)):List c6→GH→MH→Prop
 |[],_,Ms=>Ms=[]
 |n::l,G,Ms=>∃A B,Ms=A++B∧NdM Tn Ts cells n G A∧bD Tn Ts cells l G B
def Nz (cells:List (Option Nat)) (l:List c6) (G:GH):Prop:=∀n∈l,NdG cells n G
section
variable {Tn Ts:TypeId} {cells gY:List (Option Nat)} {G G':GH}
theorem BoxM.mono{b:Nat}{n:c6}{Ms:MH}(hl:Le G G')(h:BoxM Tn Ts b n G Ms):BoxM Tn Ts b n G' Ms:=by
 obtain⟨vp,vk,vr,Mp,h1,h2,h3,h4⟩:=h
 exact⟨vp,vk,vr,Mp,h1,h2.mono hl,h3.mono hl,h4.mono hl⟩
theorem BoxM.fV{b:Nat}{n:c6}{Ms:MH}(h:BoxM Tn Ts b n G Ms)(hl:Le G G')(hm:∀p∈Ms,G' p.1=some p.2):R0 b n G':=by
 obtain⟨vp,vk,vr,Mp,rfl,h2,h3,h4⟩:=h
 exact⟨vp,vk,vr,uq (hm _ (tO ..)),h2.fV hl fun p hp=>hm p (dk _ hp),h3.mono hl,h4.mono hl⟩
theorem R0.mono{b:Nat}{n:c6}(hl:Le G G')(h:R0 b n G):R0 b n G':=by
 obtain⟨vp,vk,vr,h1,h2,h3,h4⟩:=h
 exact⟨vp,vk,vr,h1.mono hl,h2.mono hl,h3.mono hl,h4.mono hl⟩
theorem NdM.mono{n:c6}{Ms:MH}(hl:Le G G')(h:NdM Tn Ts cells n G Ms):NdM Tn Ts cells n G' Ms:=by
 obtain⟨b,h1,h2⟩:=h
 exact⟨b,h1,h2.mono hl⟩
theorem bD.mono(hl:Le G G'):∀ {l:List c6} {Ms:MH},bD Tn Ts cells l G Ms→bD Tn Ts cells l G' Ms
 |[],_,h=>h
 |_::_,_,⟨A,B,e,h1,h2⟩=>⟨A,B,e,h1.mono hl,bD.mono hl h2⟩
theorem Nz.mono(hl:Le G G'){l:List c6}(h:Nz cells l G):Nz cells l G':=fun n hn=>by
 obtain⟨b,h1,h2⟩:=h n hn
 exact⟨b,h1,h2.mono hl⟩
theorem bD.fV(hl:Le G G'):∀ {l:List c6} {Ms:MH},bD Tn Ts cells l G Ms→(∀p∈Ms,G' p.1=some p.2)→Nz cells l G'
 |[],_,_,_=>fun n hn=>by cases hn
 |n::l,_,⟨A,B,rfl,⟨b,h1,h2⟩,h3⟩,hm=>fun m u4=>by
  rcases dK.1 u4 with rfl|u4
  ·exact⟨b,h1,h2.fV hl fun p hp=>hm p (by simp [hp])⟩
  ·exact bD.fV hl h3 (fun p hp=>hm p (by simp [hp])) m u4
theorem bD.app:∀ {l1 l2:List c6} {Ms:MH},bD Tn Ts cells (l1++l2) G Ms↔∃A B,Ms=A++B∧bD Tn Ts cells l1 G A∧bD Tn Ts cells l2 G B
 | [],l2,Ms=>⟨fun h=>⟨[],Ms,rfl,rfl,h⟩,fun⟨A,B,e,h1,h2⟩=>by
   have h1:A=[]:=h1
   subst h1;subst e;exact h2⟩
 |n::l1,l2,Ms=>by
  constructor
  ·rintro⟨A,B,rfl,h1,h2⟩
   obtain⟨C,D,rfl,h3,h4⟩:=bD.app.1 h2
   exact⟨A++C,D,by simp,⟨A,C,rfl,h1,h3⟩,h4⟩
  ·rintro⟨A,B,rfl,⟨C,D,rfl,h1,h2⟩,h3⟩
   exact⟨C,D++B,by simp,h1,bD.app.2 ⟨D,B,rfl,h2,h3⟩⟩
variable {b:Nat}
theorem jm.um{s:Int}(h:jm cells s b)(ha:gY[s.toNat]?=cells[s.toNat]?):jm gY s b:=⟨h.1,ha.trans h.2⟩
theorem jm.one{s:Int}{c:Nat}(h:jm cells s b)(h2:jm cells s c):b=c:=by
 have:=h.2.symm.trans h2.2;simpa using this
theorem bD.um:∀ {l:List c6} {Ms:MH},bD Tn Ts cells l G Ms→(∀n∈l,gY[n.slot.toNat]?=cells[n.slot.toNat]?)→bD Tn Ts gY l G Ms
 |[],_,h,_=>h
 |n::l,_,⟨A,B,e,⟨b,h1,h2⟩,h3⟩,ha=>⟨A,B,e,⟨b,h1.um (ha n (by simp)),h2⟩,bD.um h3 fun m hm=>ha m (by simp [hm])⟩
theorem bD.Cr:∀ {l:List c6} {Ms:MH},bD Tn Ts cells l G Ms→∀n∈l,∃b,jm cells n.slot b
 |_::_,_,⟨A,B,e,⟨b,h1,h2⟩,h3⟩,m,hm=>by
  rcases dK.1 hm with rfl|hm
  ·exact⟨b,h1⟩
  ·exact bD.Cr h3 m hm
theorem bD.mem:∀ {l:List c6} {Ms:MH},bD Tn Ts cells l G Ms→∀n∈l,∃b vp vk vr Mp,jm cells n.slot b∧(b,Obj.cells (List.toArray [.int .i64 n.lvl,vp,vk,vr]) Tn (0,0))∈Ms∧Mp.Sublist Ms∧aE cy Ts G vp n.P Mp∧az bE G vk n.K∧az aU G vr n.R
 |n::l,_,⟨A,B,e,⟨b,h1,vp,vk,vr,Mp,e2,h2,h3,h4⟩,h5⟩,m,hm=>by
  subst e e2
  rcases dK.1 hm with rfl|hm
  ·exact⟨b,vp,vk,vr,Mp,h1,by simp,((aI Mp B).cons _),h2,h3,h4⟩
  ·obtain⟨b,vp,vk,vr,Mp,h1,h2,h3,h4⟩:=bD.mem h5 m hm
   exact⟨b,vp,vk,vr,Mp,h1,ib _ h2,h3.trans (cH _ _),h4⟩
theorem bD.two{l1 l2:List c6}{A B:MH}(h1:bD Tn Ts cells l1 G A)(h2:bD Tn Ts cells l2 G B):bD Tn Ts cells (l1++l2) G (A++B):=bD.app.2 ⟨A,B,rfl,h1,h2⟩
end
def yh (bt ba:Nat) (root fan leaf:Int) (cells:List (Option Nat)) (u:List Bool) (G:GH):Prop:=
 jc G bt 0 [.pointer (some ⟨ba,0,none⟩),.int .i64 root,.int .i64 fan,.int .i64 leaf]∧∃vc vu vf,jc G ba 0 [vc,vu,vf]∧az fu G vc cells∧az mX G vu u∧cells.length=u.length∧u.length≤4096∧∃f:List Int,az bE G vf f∧f.length=(de u).length
theorem yh.mono{bt ba:Nat}{root fan leaf:Int}{cells:List (Option Nat)}{u:List Bool}{G G':GH}(hl:Le G G')(h:yh bt ba root fan leaf cells u G):yh bt ba root fan leaf cells u G':=by
 obtain⟨h1,vc,vu,vf,h2,h3,h4,h5,h6,f,h7,h8⟩:=h
 exact⟨h1.mono hl,vc,vu,vf,h2.mono hl,h3.mono hl,h4.mono hl,h5,h6,f,h7.mono hl,h8⟩
theorem bY.fV{Te TB TI Tb:TypeId}{bt ba:Nat}{root fan leaf:Int}{st:List (Option Nat)×List Bool}{G G':GH}{Ms:MH}(h:bY fu Te TB TI Tb ba G st Ms)(hl:Le G G')(hm:∀p∈Ms,G' p.1=some p.2){Tt:TypeId}
  (ht:G' bt=some (.cells (List.toArray [.pointer (some ⟨ba,0,none⟩),.int .i64 root,.int .i64 fan,.int .i64 leaf]) Tt (0,0))):yh bt ba root fan leaf st.1 st.2 G':=by
 obtain⟨f,⟨vc,vu,vf,Mc,Mu,Mf,rfl,h2,h3,h4⟩,h5,h6,_,h8⟩:=h
 exact⟨uq ht,vc,vu,vf,uq (hm _ (tO ..)),h2.fV hl fun p hp=>hm p (by simp [hp]),h3.fV hl fun p hp=>hm p (by simp [hp]),h5,h6,f,h4.fV hl fun p hp=>hm p (by simp [hp]),h8.length_eq⟩
end Go.Fw
namespace Go.Proofs.YthhpfadbojfdnaaGreat
open Go Go.Fw Go.RowKit
attribute [local irreducible] Ok W WC
variable {G:GH} {gV:MH} {hJ:MH} {eE:MH} {bA:Nat} {f:List Int} {u:List Bool} {mJ:Value} {xZ:Value} {pJ:Value}
theorem V2{c:List Nd}(gd:aE dm 98 G mJ c gV)(gF:aE mX 4 G pJ u eE)(qg:aE bE 3 G xZ f hJ)(i:Int):
    Fc Tryz.prog 145 [aC bA,iV i] G ((bA,ar 149 [mJ,pJ,xZ])::(gV++(eE++(hJ)))) (fun v G' M'=>v=.bool (da u i)∧M'=(bA,ar 149 [mJ,pJ,xZ])::(gV++(eE++hJ))):=by
 obtain⟨gR,gS,rfl⟩:=gd.form
 obtain⟨hU,hZ,rfl⟩:=gF.form
 obtain⟨mm,mn,rfl⟩:=qg.form
 have hl:=gF.bq
 refine Fc.go [.tmp 4] Tryz.func145 Tryz.ntmps145 rfl (fun w0=>(WC.perm (M':=((bA,ar 149 [lV gR c.length gS,lV hU u.length hZ,lV mm f.length mn])::(gV++(eE++(hJ++[]))))) (by simp) (g9 8 ?_)))
 refine W.ok (EO aam rfl rfl) (g9 7 ?_)
 refine W.sd 11 (fun h9 p9=> ?_) (fun h9 p9=> ?_)
 ·refine g9 16 ?_
  refine W.sd 20 (fun Y1 Y2=> ?_) (fun Y1 Y2=> ?_)
  ·refine g9 11 ?_
   refine gF.a1 (i:=i.toNat) aa (fun he1=>(W.ok (aV (i:=i.toNat) vC zk gF rfl rfl ⟨aa,aa⟩) (g9 1 ?_)))
   refine W.ok (dQ (vs:=bc9) zk he1 (ag (bJ ah)) rfl rfl rfl (by simp)) (g9 5 ?_)
   refine⟨.inr rfl,[_],⟨rfl,trivial⟩,_,bB.k9,?_⟩
   exact⟨ax Value.bool (KC aa aa),by simp⟩
  refine g9 12 ?_
  refine⟨.inr rfl,[_],⟨rfl,trivial⟩,_,bB.k9,?_⟩
  exact⟨ax Value.bool (KE aa),by simp⟩
 refine g9 21 ?_
 refine⟨.inr rfl,[_],⟨rfl,trivial⟩,_,bB.k9,?_⟩
 exact⟨ax Value.bool (KD aa),by simp⟩

variable {Jt:List Value} {x:Nd}
theorem anI{c:List Nd}(gd:aE dm 98 G mJ c gV)(gF:aE mX 4 G pJ u eE)(qg:aE bE 3 G xZ f hJ)(i:Int)(TW:cc G Jt x)(qV:c.length=u.length)(hn:u.length≤4096)(hh:lu tz f)(hp:f.Perm (de u)):
    Fc Tryz.prog 111 [aC bA,iV i,.agg (List.toArray Jt)] G ((bA,ar 149 [mJ,pJ,xZ])::(gV++(eE++(hJ)))) (fun v G' M'=>v=iV (xn (c,u) i x).1∧bY dm 98 4 3 149 bA G' (xn (c,u) i x).2 M'):=by
 obtain⟨MX,MY,MZ,M0,M3,M4,M5,M6,rfl,R1,R2,R3,R4,GS⟩:=TW
 obtain⟨gR,gS,rfl⟩:=gd.form
 obtain⟨hU,hZ,rfl⟩:=gF.form
 obtain⟨mm,mn,rfl⟩:=qg.form
 have hl:=gF.bq
 have hlc:=gd.bq
 refine Fc.go [.tmp 6] Tryz.func111 Tryz.ntmps111 rfl (fun w0=>(WC.perm (M':=((bA,ar 149 [lV gR c.length gS,lV hU u.length hZ,lV mm f.length mn])::(gV++(eE++(hJ++[]))))) (by simp) (g9 2 ?_)))
 refine W.box (L:=[iV _,iV _,lV _ _ _,lV _ _ _,sV _,.bool _,iV _,iV _,lV _ _ _,lV _ _ _]) rfl rfl (fun b5=>(g9 7 ?_))
 refine W.ok (fx aam rfl rfl) (g9 10 ?_)
 refine W.call (Mp:=((bA,ar 149 [lV gR c.length gS,lV hU u.length hZ,lV mm f.length mn])::(gV++(eE++hJ)))) (Mr:=((b5,ar 98 (j7 x MX MY MZ M0 M3 M4 M5 M6))::[])) (V2 gd gF qg _) rfl (((ag ((gB ((gB ah).trans ah)).trans ah)).cons _).trans ((List.Perm.swap _ _ _).trans (ah.cons _))) ?_
 intro v9 G6 Ms8 vF q7
 refine match q7 with|⟨HX,aua⟩=> ?_
 subst HX
 subst aua
 refine W.perm (M':=((bA,ar 149 [lV gR c.length gS,lV hU u.length hZ,lV mm f.length mn])::((b5,ar 98 (j7 x MX MY MZ M0 M3 M4 M5 M6))::(gV++(eE++(hJ++[])))))) (((ag ((gB ((gB ah).trans ah)).trans ah)).cons _).trans ah).symm (g9 3 ?_)
 refine WC.cond rfl (fun jC=> ?_) (fun jC=> ?_)
 ·refine g9 7 ?_
  refine⟨.inr rfl,[_],⟨rfl,trivial⟩,_,(bB.cons _).k9,?_⟩
  exact⟨ax (Value.int .i64) (ax Prod.fst (XB (st:=(c,u)) (by simpa using jC))).symm,bY.cast (st:=(c,u)) ⟨_,⟨_,_,_,_,_,_,rfl,(gd.mono vF),(gF.mono vF),(qg.mono vF)⟩,qV,hn,hh,hp⟩ (ax Prod.snd (XB (st:=(c,u)) (by simpa using jC))).symm (by simp)⟩
 have ji:da u i=true:=by simpa using jC
 have hil:=j9 ji
 refine g9 3 ?_
 refine WC.dw (iD.k9.k9) (d9 [0,1,2,3,4,5] ?_)
 refine(gd.mono vF).aN (i:=i.toNat) aa (fun _ _ _ _ _ _ _ _ Ue akG akH akI akJ adm=>(WD.tk 6 rfl (aV (i:=i.toNat) mI jQ (gd.mono vF) rfl rfl ⟨aa,aa⟩) (WD.a1 7 rfl (W.jD (i:=i.toNat) (o:=0) (vs:=nd9) (a':=x) jQ rfl rfl rfl rfl rfl ((gd.mono vF)) (ag (ag ah)) aa (by decide) (fun cs h=>by obtain⟨_,_,_,_,_,_,_,_,rfl,_⟩:=h;exact(gE vF R1 R2 R3 R4 GS)) (fun O4 O5=>(W.perm (ag (ag ah)).symm (W.nn (g9 8 ?_))))))))
 refine⟨.inr rfl,[_],⟨rfl,trivial⟩,_,(bB.cons _).k9,?_⟩
 exact⟨ax (Value.int .i64) (ax Prod.fst (XA (st:=(c,u)) (by simpa using jC))).symm,bY.cast (st:=(c.set i.toNat x,u)) ⟨_,⟨_,_,_,_,_,_,rfl,O5,(gF.mono vF),(qg.mono vF)⟩,(by rw [cg];exact qV),hn,hh,hp⟩ (ax Prod.snd (XA (st:=(c,u)) (by simpa using jC))).symm (by simp)⟩

theorem adn{c:List Nd}(gd:aE dm 98 G mJ c gV)(gF:aE mX 4 G pJ u eE)(qg:aE bE 3 G xZ f hJ)(TW:cc G Jt x)(qV:c.length=u.length)(hn:u.length≤4096)(hh:lu tz f)(hp:f.Perm (de u)):
    Fc Tryz.prog 78 [aC bA,.agg (List.toArray Jt)] G ((bA,ar 149 [mJ,pJ,xZ])::(gV++(eE++(hJ)))) (fun v G' M'=>v=.tuple #[iV (ff (c,u) x).1.1,iV (ff (c,u) x).1.2]∧bY dm 98 4 3 149 bA G' (ff (c,u) x).2 M'):=by
 obtain⟨MX,MY,MZ,M0,M3,M4,M5,M6,rfl,R1,R2,R3,R4,GS⟩:=TW
 obtain⟨gR,gS,rfl⟩:=gd.form
 obtain⟨hU,hZ,rfl⟩:=gF.form
 obtain⟨mm,mn,rfl⟩:=qg.form
 have hl:=gF.bq
 have hlc:=gd.bq
 have vK:=qg.bq
 refine Fc.go [.tmp 4,.tmp 5] Tryz.func78 Tryz.ntmps78 rfl (fun w0=>(WC.perm (M':=((bA,ar 149 [lV gR c.length gS,lV hU u.length hZ,lV mm f.length mn])::(gV++(eE++(hJ++[]))))) (by simp) (g9 2 ?_)))
 refine W.box (L:=[iV _,iV _,lV _ _ _,lV _ _ _,sV _,.bool _,iV _,iV _,lV _ _ _,lV _ _ _]) rfl rfl (fun b18=>(g9 8 ?_))
 refine W.ok (fx aam rfl rfl) (g9 16 ?_)
 refine WC.cd (fun zu AG=> ?_) (fun zu AG=> ?_)
 ·refine g9 8 ?_
  refine⟨.inr rfl,[_,_],⟨rfl,rfl,trivial⟩,_,bB.k9.cons _,?_⟩
  have hE:=PW (st:=(c,u)) (x:=x) (PV (u:=u) (by have:=hp.length_eq;omega))
  exact⟨ax (fun r:Int×Int=>Value.tuple #[iV r.1,iV r.2]) (ax Prod.fst hE).symm,bY.cast (st:=(c,u)) ⟨_,⟨_,_,_,_,_,_,rfl,gd,gF,qg⟩,qV,hn,hh,hp⟩ (ax Prod.snd hE).symm (by simp)⟩
 refine g9 7 ?_
 refine W.ok (mM FR rfl) (W.call (Mp:=((bA,ar 149 [lV gR c.length gS,lV hU u.length hZ,lV mm f.length mn])::hJ)) (Mr:=((b18,ar 98 (j7 x MX MY MZ M0 M3 M4 M5 M6))::(gV++(eE++[])))) (Px (oX (b:=bA) (Tb:=149) (c0:=lV gR c.length gS) (c1:=lV hU u.length hZ)) ⟨_,_,rfl,qg⟩ aa) rfl (((ag (bJ (bJ ah))).cons _).trans ((List.Perm.swap _ _ _).trans (ah.cons _))) ?_)
 intro v22 G19 CN pZ DI
 refine match DI with|⟨⟨akK,aNI⟩,⟨aNJ,akL,xe,akM⟩⟩=> ?_
 subst xe
 have Pv:=akM.form
 refine match Pv with|⟨akN,akO,vg⟩=> ?_
 subst vg
 obtain⟨ko,hee,hh2,Cs⟩:=Md hh hp aa
 rw [hee]at akK
 subst akK
 refine W.perm (M':=((bA,ar 149 [lV gR c.length gS,lV hU u.length hZ,lV akN ((oE tz f)).length akO])::((b18,ar 98 (j7 x MX MY MZ M0 M3 M4 M5 M6))::(akL++(gV++(eE++[])))))) (((ag ah).cons _).trans ah).symm (W.ok (Ic pi3 rfl) (g9 4 ?_))
 refine WC.dw (iD.k9.k9) (d9 [0,1,2,3,4,5,6,7,8,9,10] ?_)
 refine(gd.mono pZ).aN (i:=(aF u)) aa (fun _ _ _ _ _ _ _ _ aQ7 aNK aNL aNM aNN aIJ=>(WD.tk 11 rfl (aV (i:=(aF u)) mI jQ (gd.mono pZ) rfl rfl ⟨aa,aa⟩) (WD.a1 12 rfl (W.jD (i:=(aF u)) (o:=0) (vs:=nd9) (a':=x) jQ rfl rfl rfl rfl rfl ((gd.mono pZ)) (ag (ag (bJ ah))) aa (by decide) (fun cs h=>by obtain⟨_,_,_,_,_,_,_,_,rfl,_⟩:=h;exact(gE pZ R1 R2 R3 R4 GS)) (fun oC Po=>(W.perm (ag (ag ah)).symm (W.nn ((gF.mono pZ).a1 (i:=(aF u)) aa (fun aIz=>(WD.tk 13 rfl (aV (i:=(aF u)) vC zk (gF.mono pZ) rfl rfl ⟨aa,aa⟩) (WD.a1 14 rfl (W.jD (i:=(aF u)) (o:=0) (vs:=bc9) (a':=true) zk rfl rfl rfl rfl rfl ((gF.mono pZ)) (ag (ag (bJ (bJ ah)))) aa (by decide) (fun cs h=>by rw [h];rfl) (fun aIK aqo=>(W.perm (ag (ag ah)).symm (W.nn (g9 9 ?_))))))))))))))))
 refine WC.perm (M':=((bA,ar 149 [lV gR c.length gS,lV hU u.length hZ,lV akN ((oE tz f)).length akO])::((b18,ar 98 (j7 x MX MY MZ M0 M3 M4 M5 M6))::(oC++(aIK++(akL++[])))))) ((((bO _ ((bO _ ((bO _ ah).trans ah)).trans ah)).trans (bJ ah)).cons _).cons _) (WC.ret ?_)
 refine⟨.inr rfl,[_,_],⟨rfl,rfl,trivial⟩,_,(bB.cons _).k9,?_⟩
 have hE:=iF (st:=(c,u)) (x:=x) ko
 exact⟨ax (fun r:Int×Int=>Value.tuple #[iV r.1,iV r.2]) (ax Prod.fst hE).symm,bY.cast (st:=(c.set (aF u) x,u.set (aF u) true)) ⟨_,⟨_,_,_,_,_,_,rfl,Po,aqo,akM⟩,(by rw [cg,cg];exact qV),(by rw [cg];exact hn),hh2,Cs⟩ (ax Prod.snd hE).symm (by simp)⟩

theorem anJ{c:List Nd}(gd:aE dm 98 G mJ c gV)(gF:aE mX 4 G pJ u eE)(qg:aE bE 3 G xZ f hJ)(i:Int)(qV:c.length=u.length):
    Fc Tryz.prog 121 [aC bA,iV i] G ((bA,ar 149 [mJ,pJ,xZ])::(gV++(eE++(hJ)))) (fun v G' M'=>∃cs,v=.tuple #[.agg (List.toArray cs),.bool (da u i)]∧cc G' cs (BW (c,u) i Nd.zero)∧M'=(bA,ar 149 [mJ,pJ,xZ])::(gV++(eE++hJ))):=by
 obtain⟨gR,gS,rfl⟩:=gd.form
 obtain⟨hU,hZ,rfl⟩:=gF.form
 obtain⟨mm,mn,rfl⟩:=qg.form
 have hl:=gF.bq
 have hlc:=gd.bq
 refine Fc.go [.cell 4 98,.tmp 5] Tryz.func121 Tryz.ntmps121 rfl (fun w0=>(WC.perm (M':=((bA,ar 149 [lV gR c.length gS,lV hU u.length hZ,lV mm f.length mn])::(gV++(eE++(hJ++[]))))) (by simp) (g9 2 ?_)))
 refine W.alloc cK (fun b39=>(g9 8 ?_))
 refine W.call (Mp:=((bA,ar 149 [lV gR c.length gS,lV hU u.length hZ,lV mm f.length mn])::(gV++(eE++hJ)))) (Mr:=((b39,ar 98 xf)::[])) (V2 gd gF qg _) rfl (((ag ((gB ((gB ah).trans ah)).trans ah)).cons _).trans ((List.Perm.swap _ _ _).trans (ah.cons _))) ?_
 intro v43 G40 DM Jm q41
 refine match q41 with|⟨Dw,Jp⟩=> ?_
 subst Dw
 subst Jp
 refine W.perm (M':=((bA,ar 149 [lV gR c.length gS,lV hU u.length hZ,lV mm f.length mn])::((b39,ar 98 xf)::(gV++(eE++(hJ++[])))))) (((ag ((gB ((gB ah).trans ah)).trans ah)).cons _).trans ah).symm (g9 3 ?_)
 refine WC.cond rfl (fun h9=> ?_) (fun h9=> ?_)
 ·have ji:da u i=false:=by simpa using h9
  refine g9 9 ?_
  refine⟨.inr rfl,[_,_],⟨⟨_,_,_,_,_,rfl,cY (i:=1) rfl,jQ,(by simp),rfl,rfl⟩,rfl,trivial⟩,_,(bB.cons _).k9,?_⟩
  refine⟨_,?_,cc.cast ⟨_,_,_,_,_,_,_,_,rfl,az.nil,az.nil,az.nil,az.nil,Nd.oF⟩ (ayf (st:=(c,u)) ji).symm,by simp⟩
  rw [ji];rfl
 have ji:da u i=true:=by simpa using h9
 have hil:=j9 ji
 refine g9 9 ?_
 refine(gd.mono Jm).aN (i:=i.toNat) aa (fun _ _ _ _ _ _ _ _ aBf ayT ayU ayV ayW aub=>(W.ok (aV (i:=i.toNat) mI jQ (gd.mono Jm) rfl rfl ⟨aa,aa⟩) (W.ok (dQ (vs:=nd9) jQ aBf (ag (ag ah)) rfl rfl rfl (by simp)) (g9 5 ?_))))
 refine⟨.inr rfl,[_,_],⟨⟨_,_,_,_,_,rfl,cY (i:=1) rfl,jQ,(by simp),rfl,rfl⟩,rfl,trivial⟩,_,(bB.cons _).k9,?_⟩
 refine⟨_,?_,cc.cast (gp ayT ayU ayV ayW aub) (aye (st:=(c,u)) ji (by show _<c.length;omega)).symm,by simp⟩
 rw [ji];rfl

theorem ahC{c:List Nd}(gd:aE dm 98 G mJ c gV)(gF:aE mX 4 G pJ u eE)(qg:aE bE 3 G xZ f hJ)(qV:c.length=u.length)(hn:u.length≤4096)(hh:lu tz f)(hp:f.Perm (de u)):
    Fc Tryz.prog 155 [aC bA] G ((bA,ar 149 [mJ,pJ,xZ])::(gV++(eE++(hJ)))) (fun v G' M'=>v=iV ((de u).length:Int)∧M'=(bA,ar 149 [mJ,pJ,xZ])::(gV++(eE++hJ))):=by
 obtain⟨gR,gS,rfl⟩:=gd.form
 obtain⟨hU,hZ,rfl⟩:=gF.form
 obtain⟨mm,mn,rfl⟩:=qg.form
 have hl:=gF.bq
 have vK:=qg.bq
 have hfu:=qO u
 have Gg:=hp.length_eq
 refine Fc.go [.tmp 2] Tryz.func155 Tryz.ntmps155 rfl (fun w0=>(WC.perm (M':=((bA,ar 149 [lV gR c.length gS,lV hU u.length hZ,lV mm f.length mn])::(gV++(eE++(hJ++[]))))) (by simp) (g9 9 ?_)))
 refine W.ok (fx aam rfl rfl) (g9 16 ?_)
 refine⟨.inr rfl,[_],⟨rfl,trivial⟩,_,bB.k9,?_⟩
 exact⟨ax (Value.int .i64) aa,by simp⟩

theorem ahD{c:List Nd}(gd:aE dm 98 G mJ c gV)(gF:aE mX 4 G pJ u eE)(qg:aE bE 3 G xZ f hJ)(qV:c.length=u.length)(hn:u.length≤4096)(hh:lu tz f)(hp:f.Perm (de u)):
    Fc Tryz.prog 144 [aC bA] G ((bA,ar 149 [mJ,pJ,xZ])::(gV++(eE++(hJ)))) (fun v G' M'=>az bE G' v (kp u)∧M'=(bA,ar 149 [mJ,pJ,xZ])::(gV++(eE++hJ))):=by
 obtain⟨gR,gS,rfl⟩:=gd.form
 obtain⟨hU,hZ,rfl⟩:=gF.form
 obtain⟨mm,mn,rfl⟩:=qg.form
 have hl:=gF.bq
 have vK:=qg.bq
 have hfu:=qO u
 have Gg:=hp.length_eq
 refine Fc.go [.tmp 2] Tryz.func144 Tryz.ntmps144 rfl (fun w0=>(WC.perm (M':=((bA,ar 149 [lV gR c.length gS,lV hU u.length hZ,lV mm f.length mn])::(gV++(eE++(hJ++[]))))) (by simp) (g9 14 ?_)))
 refine W.ok (EO aam rfl rfl) (g9 14 ?_)
 refine WC.loop (X:=(Nat)×Value×MH) (fun k=>[(13,aK k.1),(11,lV hU u.length hZ),(12,aK ((u).length)),(3,k.2.1)]) (fun k G Ml=>Ml=((bA,ar 149 [lV gR c.length gS,lV hU u.length hZ,lV mm f.length mn])::(k.2.2++(gV++(eE++(hJ++[])))))∧aE bE 3 G k.2.1 (xp u k.1) k.2.2∧k.1≤u.length) (fun k=>u.length-k.1) (0,lV none 0 0,([]:MH)) ct ?_ ?_
 ·exact⟨rfl,(by exact aE.nil),aa⟩
 rintro⟨k,v_3,Y8⟩ aIL G50 _ VO ⟨rfl,wg,hk⟩
 try dsimp only at wg hk
 have o9:=PX u k
 refine WC.fr (f:=gk aIL [(13,aK k),(11,lV hU u.length hZ),(12,aK ((u).length)),(3,v_3)]) rfl (g9 6 ?_)
 refine WC.cd (fun zu AG=> ?_) (fun zu AG=> ?_)
 ·refine g9 7 ?_
  refine(gF.mono VO).a1 (i:=k) aa (fun aIM=>(W.ok (aV (i:=k) vC zk (gF.mono VO) rfl rfl ⟨aa,aa⟩) (W.ok (dQ (vs:=bc9) zk aIM (ag (bJ (bJ ah))) rfl rfl rfl (by simp)) (g9 9 ?_))))
  refine WC.cond rfl (fun auc=> ?_) (fun auc=> ?_)
  ·refine g9 3 ?_
   refine W.lit (e:=bE) (l:=[_]) (css:=[[iV _]]) dG cV ng rfl rfl rfl rfl rfl rfl ⟨⟨rfl,aa,aa⟩,trivial⟩ (fun aIN G55 B7 aud=>(W.app (e:=bE) dG cV ng rfl HI rfl rfl ((wg.mono B7)) (aud) (ag ah) (by show(_+1)*8≤_;omega) (fun v56 yJ FD=>(W.perm (ag ah).symm ?_))))
   have q62:=FD.form
   refine match q62 with|⟨Vy,Vz,acI⟩=> ?_
   subst acI
   refine g9 9 ?_
   exact⟨B7,(k+1,lV Vy ((xp u k++_)).length Vz,yJ),ct,⟨rfl,(by have h:=FD;rw [aq8 aa auc];exact h),aa⟩,aa⟩
  refine g9 8 ?_
  exact⟨Le.rfl,(k+1,v_3,Y8),ct,⟨rfl,(by have h:=wg;rw [aq9 aa auc];exact h),aa⟩,aa⟩
 refine g9 11 ?_
 refine WC.du wg (ag ah) (fun G63 atZ aIO=>(WC.ret ?_))
 refine⟨.inr rfl,[_],⟨rfl,trivial⟩,_,bB.k9,?_⟩
 exact⟨az.cast aIO (by rw [aa2];congr 1;omega),by simp⟩

theorem anK{c:List (Option Nat)}(gd:aE fu 60 G mJ c gV)(gF:aE mX 4 G pJ u eE)(qg:aE bE 3 G xZ f hJ)(i:Int):
    Fc Tryz.prog 98 [aC bA,iV i] G ((bA,ar 106 [mJ,pJ,xZ])::(gV++(eE++(hJ)))) (fun v G' M'=>v=.bool (da u i)∧M'=(bA,ar 106 [mJ,pJ,xZ])::(gV++(eE++hJ))):=by
 obtain⟨gR,gS,rfl⟩:=gd.form
 obtain⟨hU,hZ,rfl⟩:=gF.form
 obtain⟨mm,mn,rfl⟩:=qg.form
 have hl:=gF.bq
 refine Fc.go [.tmp 4] Tryz.func98 Tryz.ntmps98 rfl (fun w0=>(WC.perm (M':=((bA,ar 106 [lV gR c.length gS,lV hU u.length hZ,lV mm f.length mn])::(gV++(eE++(hJ++[]))))) (by simp) (g9 8 ?_)))
 refine W.ok (EO aak rfl rfl) (g9 7 ?_)
 refine W.sd 11 (fun h9 p9=> ?_) (fun h9 p9=> ?_)
 ·refine g9 16 ?_
  refine W.sd 20 (fun Y1 Y2=> ?_) (fun Y1 Y2=> ?_)
  ·refine g9 11 ?_
   refine gF.a1 (i:=i.toNat) aa (fun aIP=>(W.ok (aV (i:=i.toNat) vC zk gF rfl rfl ⟨aa,aa⟩) (g9 1 ?_)))
   refine W.ok (dQ (vs:=bc9) zk aIP (ag (bJ ah)) rfl rfl rfl (by simp)) (g9 5 ?_)
   refine⟨.inr rfl,[_],⟨rfl,trivial⟩,_,bB.k9,?_⟩
   exact⟨ax Value.bool (KC aa aa),by simp⟩
  refine g9 12 ?_
  refine⟨.inr rfl,[_],⟨rfl,trivial⟩,_,bB.k9,?_⟩
  exact⟨ax Value.bool (KE aa),by simp⟩
 refine g9 21 ?_
 refine⟨.inr rfl,[_],⟨rfl,trivial⟩,_,bB.k9,?_⟩
 exact⟨ax Value.bool (KD aa),by simp⟩

theorem ado{c:List (Option Nat)}(gd:aE fu 60 G mJ c gV)(gF:aE mX 4 G pJ u eE)(qg:aE bE 3 G xZ f hJ)(x:Nat)(qV:c.length=u.length)(hn:u.length≤4096)(hh:lu tz f)(hp:f.Perm (de u)):
    Fc Tryz.prog 19 [aC bA,aC x] G ((bA,ar 106 [mJ,pJ,xZ])::(gV++(eE++(hJ)))) (fun v G' M'=>v=.tuple #[iV (ff (c,u) (some x)).1.1,iV (ff (c,u) (some x)).1.2]∧bY fu 60 4 3 106 bA G' (ff (c,u) (some x)).2 M'):=by
 obtain⟨gR,gS,rfl⟩:=gd.form
 obtain⟨hU,hZ,rfl⟩:=gF.form
 obtain⟨mm,mn,rfl⟩:=qg.form
 have hl:=gF.bq
 have hlc:=gd.bq
 have vK:=qg.bq
 refine Fc.go [.tmp 4,.tmp 5] Tryz.func19 Tryz.ntmps19 rfl (fun w0=>(WC.perm (M':=((bA,ar 106 [lV gR c.length gS,lV hU u.length hZ,lV mm f.length mn])::(gV++(eE++(hJ++[]))))) (by simp) (g9 10 ?_)))
 refine W.ok (fx aak rfl rfl) (g9 16 ?_)
 refine WC.cd (fun zu AG=> ?_) (fun zu AG=> ?_)
 ·refine g9 8 ?_
  refine⟨.inr rfl,[_,_],⟨rfl,rfl,trivial⟩,_,bB.k9,?_⟩
  have hE:=PW (st:=(c,u)) (x:=(some x)) (PV (u:=u) (by have:=hp.length_eq;omega))
  exact⟨ax (fun r:Int×Int=>Value.tuple #[iV r.1,iV r.2]) (ax Prod.fst hE).symm,bY.cast (st:=(c,u)) ⟨_,⟨_,_,_,_,_,_,rfl,gd,gF,qg⟩,qV,hn,hh,hp⟩ (ax Prod.snd hE).symm (by simp)⟩
 refine g9 7 ?_
 refine W.ok (mM FR rfl) (W.call (Mp:=((bA,ar 106 [lV gR c.length gS,lV hU u.length hZ,lV mm f.length mn])::hJ)) (Mr:=(gV++(eE++[]))) (Px (oX (b:=bA) (Tb:=106) (c0:=lV gR c.length gS) (c1:=lV hU u.length hZ)) ⟨_,_,rfl,qg⟩ aa) rfl (((bJ (bJ ah)).cons _).trans ah) ?_)
 intro v71 G68 akP M7 q69
 refine match q69 with|⟨⟨akQ,aNO⟩,⟨aNP,akR,adp,akS⟩⟩=> ?_
 subst adp
 have q75:=akS.form
 refine match q75 with|⟨akT,akU,PC⟩=> ?_
 subst PC
 obtain⟨ko,hee,hh2,Cs⟩:=Md hh hp aa
 rw [hee]at akQ
 subst akQ
 refine W.perm (M':=((bA,ar 106 [lV gR c.length gS,lV hU u.length hZ,lV akT ((oE tz f)).length akU])::(akR++(gV++(eE++[]))))) ((ah.cons _).trans ah).symm (W.ok (Ic pi3 rfl) (g9 4 ?_))
 refine WC.dw iD.k9 (d9 [0,1,2,3,4,5,6,7,8,9,10] ?_)
 refine(gd.mono M7).a1 (i:=(aF u)) aa (fun aQ8=>(WD.tk 11 rfl (aV (i:=(aF u)) zl tA (gd.mono M7) rfl rfl ⟨aa,aa⟩) (WD.a1 12 rfl (W.jD (i:=(aF u)) (o:=0) (vs:=[.pointer _]) (a':=(some x)) tA rfl rfl rfl rfl rfl ((gd.mono M7)) (ag (bJ ah)) aa (by decide) (fun cs h=>by rw [h];rfl) (fun aBg aIQ=>(W.perm (ag ah).symm (W.nn ((gF.mono M7).a1 (i:=(aF u)) aa (fun aQ9=>(WD.tk 13 rfl (aV (i:=(aF u)) vC zk (gF.mono M7) rfl rfl ⟨aa,aa⟩) (WD.a1 14 rfl (W.jD (i:=(aF u)) (o:=0) (vs:=bc9) (a':=true) zk rfl rfl rfl rfl rfl ((gF.mono M7)) (ag (bJ (bJ ah))) aa (by decide) (fun cs h=>by rw [h];rfl) (fun adq akV=>(W.perm (ag ah).symm (W.nn (g9 9 ?_))))))))))))))))
 refine WC.perm (M':=((bA,ar 106 [lV gR c.length gS,lV hU u.length hZ,lV akT ((oE tz f)).length akU])::(aBg++(adq++(akR++[]))))) (((bO _ ((bO _ ((bO _ ah).trans ah)).trans ah)).trans (bJ ah)).cons _) (WC.ret ?_)
 refine⟨.inr rfl,[_,_],⟨rfl,rfl,trivial⟩,_,bB.k9,?_⟩
 have hE:=iF (st:=(c,u)) (x:=(some x)) ko
 exact⟨ax (fun r:Int×Int=>Value.tuple #[iV r.1,iV r.2]) (ax Prod.fst hE).symm,bY.cast (st:=(c.set (aF u) (some x),u.set (aF u) true)) ⟨_,⟨_,_,_,_,_,_,rfl,aIQ,akV,akS⟩,(by rw [cg,cg];exact qV),(by rw [cg];exact hn),hh2,Cs⟩ (ax Prod.snd hE).symm (by simp)⟩

theorem ahE{c:List (Option Nat)}(gd:aE fu 60 G mJ c gV)(gF:aE mX 4 G pJ u eE)(qg:aE bE 3 G xZ f hJ)(i:Int)(qV:c.length=u.length)(hn:u.length≤4096)(hh:lu tz f)(hp:f.Perm (de u))(hi:i64 i):
    Fc Tryz.prog 65 [aC bA,iV i] G ((bA,ar 106 [mJ,pJ,xZ])::(gV++(eE++(hJ)))) (fun v G' M'=>v=iV (xm (c,u) i (none:Option Nat)).1∧bY fu 60 4 3 106 bA G' (xm (c,u) i (none:Option Nat)).2 M'):=by
 obtain⟨gR,gS,rfl⟩:=gd.form
 obtain⟨hU,hZ,rfl⟩:=gF.form
 obtain⟨mm,mn,rfl⟩:=qg.form
 have hl:=gF.bq
 have hlc:=gd.bq
 refine Fc.go [.tmp 4] Tryz.func65 Tryz.ntmps65 rfl (fun w0=>(WC.perm (M':=((bA,ar 106 [lV gR c.length gS,lV hU u.length hZ,lV mm f.length mn])::(gV++(eE++(hJ++[]))))) (by simp) (g9 9 ?_)))
 refine W.ok (fx aak rfl rfl) (g9 10 ?_)
 refine W.call (Mp:=((bA,ar 106 [lV gR c.length gS,lV hU u.length hZ,lV mm f.length mn])::(gV++(eE++hJ)))) (Mr:=[]) (anK gd gF qg _) rfl ((((gB ((gB ah).trans ah)).trans ah).cons _).trans ah) ?_
 intro v90 G87 aRa yM q88
 refine match q88 with|⟨RV,aIR⟩=> ?_
 subst RV
 subst aIR
 refine W.perm (M':=((bA,ar 106 [lV gR c.length gS,lV hU u.length hZ,lV mm f.length mn])::(gV++(eE++(hJ++[]))))) ((((gB ((gB ah).trans ah)).trans ah).cons _).trans ah).symm (g9 3 ?_)
 refine WC.cond rfl (fun ov=> ?_) (fun ov=> ?_)
 ·refine g9 7 ?_
  refine⟨.inr rfl,[_],⟨rfl,trivial⟩,_,bB.k9,?_⟩
  exact⟨ax (Value.int .i64) (ax Prod.fst (aa1 (st:=(c,u)) (x:=(none:Option Nat)) (by simpa using ov))).symm,bY.cast (st:=(c,u)) ⟨_,⟨_,_,_,_,_,_,rfl,(gd.mono yM),(gF.mono yM),(qg.mono yM)⟩,qV,hn,hh,hp⟩ (ax Prod.snd (aa1 (st:=(c,u)) (x:=(none:Option Nat)) (by simpa using ov))).symm (by simp)⟩
 have ji:da u i=true:=by simpa using ov
 have hil:=j9 ji
 refine g9 8 ?_
 refine WC.dw iD.k9 (d9 [0,1,2,3,4,5,6,7,8,9,10] ?_)
 refine(gd.mono yM).a1 (i:=i.toNat) aa (fun aRb=>(WD.tk 11 rfl (aV (i:=i.toNat) zl tA (gd.mono yM) rfl rfl ⟨aa,aa⟩) (WD.a1 12 rfl (W.jD (i:=i.toNat) (o:=0) (vs:=[.pointer _]) (a':=(none:Option Nat)) tA rfl rfl rfl rfl rfl ((gd.mono yM)) (ag ah) aa (by decide) (fun cs h=>by rw [h];rfl) (fun R5 akW=>(W.perm (ag ah).symm (W.nn ((gF.mono yM).a1 (i:=i.toNat) aa (fun aRc=>(WD.tk 13 rfl (aV (i:=i.toNat) vC zk (gF.mono yM) rfl rfl ⟨aa,aa⟩) (WD.a1 14 rfl (W.jD (i:=i.toNat) (o:=0) (vs:=bc9) (a':=false) zk rfl rfl rfl rfl rfl ((gF.mono yM)) (ag (bJ ah)) aa (by decide) (fun cs h=>by rw [h];rfl) (fun Yw aDq=>(W.perm (ag ah).symm (W.nn (g9 7 ?_))))))))))))))))
 refine W.ok (mM FR rfl) (W.mv (W.ok (mM pi3 rfl) (W.call (Mp:=((bA,ar 106 [lV gR c.length gS,lV hU u.length hZ,lV mm f.length mn])::hJ)) (Mr:=(Yw++(R5++[]))) (Ku (oX (b:=bA) (Tb:=106) (c0:=lV gR c.length gS) (c1:=lV hU u.length hZ)) ⟨_,_,rfl,(qg.mono yM)⟩ (a:=i) ⟨rfl,hi⟩ (by have:=hp.length_eq;have:=qO u;omega) (fun hl h=>h)) rfl (((bJ (bJ ah)).cons _).trans ah) ?_)))
 intro aRd aBh aue R6 aIS
 refine match aIS with|⟨Gy,⟨aIT,adr,Bp,ads⟩⟩=> ?_
 subst Gy
 subst Bp
 have aIU:=ads.form
 refine match aIU with|⟨adt,adu,aDr⟩=> ?_
 subst aDr
 refine W.perm (M':=((bA,ar 106 [lV gR c.length gS,lV hU u.length hZ,lV adt ((qM tz f i)).length adu])::(adr++(Yw++(R5++[]))))) ((ah.cons _).trans ah).symm (g9 7 ?_)
 refine WC.perm (M':=((bA,ar 106 [lV gR c.length gS,lV hU u.length hZ,lV adt ((qM tz f i)).length adu])::(R5++(Yw++(adr++[]))))) (((bO _ ((bO _ ((bO _ ah).trans ah)).trans (bJ ah))).trans (bJ (bJ ah))).cons _) (WC.ret ?_)
 refine⟨.inr rfl,[_],⟨rfl,trivial⟩,_,bB.k9,?_⟩
 exact⟨ax (Value.int .i64) (ax Prod.fst (CZ (st:=(c,u)) (x:=(none:Option Nat)) (by simpa using ov))).symm,bY.cast (st:=(c.set i.toNat (none:Option Nat),u.set i.toNat false)) ⟨_,⟨_,_,_,_,_,_,rfl,(akW.mono R6),(aDq.mono R6),ads⟩,(by rw [cg,cg];exact qV),(by rw [cg];exact hn),(Me hh hp ji).1,(Me hh hp ji).2⟩ (ax Prod.snd (CZ (st:=(c,u)) (x:=(none:Option Nat)) (by simpa using ov))).symm (by simp)⟩

theorem anL(n:Int):
    Fc Tryz.prog 38 [iV n] G [] (fun v G' M'=>(¬(1≤n∧n≤4096)∧v=.tuple #[.pointer none,iV 2]∧M'=[])∨((1≤n∧n≤4096)∧∃b,v=.tuple #[aC b,iV 0]∧bY dm 98 4 3 149 b G' (List.replicate n.toNat Nd.zero,List.replicate n.toNat false) M')):=by
 refine Fc.go [.tmp 2,.tmp 3] Tryz.func38 Tryz.ntmps38 rfl (fun w0=>(g9 12 ?_))
 refine W.sd 8 (fun h7 p7=> ?_) (fun h7 p7=> ?_)
 ·refine g9 14 ?_
  refine⟨.inr rfl,[_,_],⟨rfl,rfl,trivial⟩,_,bB,?_⟩
  exact .inl ⟨aa,rfl,rfl⟩
 refine g9 7 ?_
 refine WC.cd (fun ir ry=> ?_) (fun ir ry=> ?_)
 ·refine g9 8 ?_
  refine⟨.inr rfl,[_,_],⟨rfl,rfl,trivial⟩,_,bB,?_⟩
  exact .inl ⟨aa,rfl,rfl⟩
 obtain⟨m,rfl⟩:∃m:Nat,n=(m:Int):=⟨n.toNat,aa⟩
 refine g9 3 ?_
 refine WC.dw bB (d9 [0,2] ?_)
 refine WD.any [1,3] (by kernel_rfl) rfl ⟨WD.ap ?_,WD.ap ?_,trivial⟩
 ·refine W.Ju (e:=dm) (a0:=Nd.zero) (n:=(m)) mI jQ cK rfl HL (⟨_,_,_,_,_,_,_,_,rfl,az.nil,az.nil,az.nil,az.nil,Nd.oF⟩) rfl rfl (by first|(show _*152≤140737488355328;omega)|(show _*10≤16777216;omega)|(show _*1≤140737488355328;omega)|(show _*1≤16777216;omega)) (by first|(show _*152≤140737488355328;omega)|(show _*10≤16777216;omega)|(show _*1≤140737488355328;omega)|(show _*1≤16777216;omega)) (fun v1 H0 Nm=> ?_)
  have q7:=Nm.form
  refine match q7 with|⟨Za,Zb,CI⟩=> ?_
  subst CI
  refine W.nn (WD.a1 3 rfl (W.Ju (e:=mX) (a0:=false) (n:=(m)) vC zk zr4 rfl by4 (rfl) rfl rfl (by first|(show _*152≤140737488355328;omega)|(show _*10≤16777216;omega)|(show _*1≤140737488355328;omega)|(show _*1≤16777216;omega)) (by first|(show _*152≤140737488355328;omega)|(show _*10≤16777216;omega)|(show _*1≤140737488355328;omega)|(show _*1≤16777216;omega)) (fun v8 Ms9 Fh=> ?_)))
  have yg:=Fh.form
  refine match yg with|⟨akl,akm,z3⟩=> ?_
  subst z3
  refine W.nn (WD.tk 4 rfl (aY (L:=[lV _ _ _,lV _ _ _,lV _ _ _]) ap0 apZ rfl rfl rfl) (WD.a1 5 rfl (W.box (L:=[lV _ _ _,lV _ _ _,lV _ _ _]) rfl rfl (fun yT=>(W.nn (d9 [6] ?_))))))
  refine g9 4 ?_
  have aIV:E9 dm 98 4 3 149 yT G (List.replicate m Nd.zero,List.replicate m false,dN 0) ((yT,ar 149 [lV Za ((List.replicate ((m)) Nd.zero)).length Zb,lV akl ((List.replicate ((m)) false)).length akm,lV none 0 0])::(H0++(Ms9++[]))):=⟨_,_,_,_,_,_,rfl,Nm,Fh,aE.nil⟩
  refine WC.perm (M':=(((yT,ar 149 [lV Za ((List.replicate ((m)) Nd.zero)).length Zb,lV akl ((List.replicate ((m)) false)).length akm,lV none 0 0])::(H0++(Ms9++[])))++[])) (ah.symm.trans ((((gB ((gB ah).trans ah)).trans (bJ ah)).cons _).trans ah)) (g9 6 ?_)
  refine WC.loop (X:=(Nat)×MH) (fun k=>[(19,aK k.1),(18,aK m),(4,aC yT)]) (fun k G Ml=>Ml=(k.2++[])∧E9 dm 98 4 3 149 yT G ((List.replicate m Nd.zero,List.replicate m false,dN k.1)) k.2∧k.1≤m) (fun k=>m-k.1) (0,((yT,ar 149 [lV Za ((List.replicate ((m)) Nd.zero)).length Zb,lV akl ((List.replicate ((m)) false)).length akm,lV none 0 0])::(H0++(Ms9++[])))) ct ?_ ?_
  ·exact⟨rfl,(by exact aIV),aa⟩
  rintro⟨k,yi⟩ aIW TU _ B6 ⟨rfl,gD,hk⟩
  try dsimp only at gD hk
  refine WC.fr (f:=gk aIW [(19,aK k),(18,aK m),(4,aC yT)]) rfl (g9 6 ?_)
  refine WC.cd (fun j1 nh=> ?_) (fun j1 nh=> ?_)
  ·refine g9 10 ?_
   refine match gD with|⟨ayX,ayY,ayZ,Ot,Ou,ay0,uo,Zc,Zd,Ze⟩=> ?_
   subst uo
   refine WC.perm (M':=((yT,ar 149 [ayX,ayY,ayZ])::(Ot++(Ou++(ay0++[]))))) ((gB (gB ah)).cons _).symm ?_
   dsimp only at Zc Zd Ze
   refine match Zc.form with|⟨R7,R8,dO⟩=> ?_
   subst dO
   refine match Zd.form with|⟨Sa,Sb,dO⟩=> ?_
   subst dO
   refine match Ze.form with|⟨aIX,aIY,dO⟩=> ?_
   subst dO
   refine g9 7 ?_
   refine W.lit (e:=bE) (l:=[((k:Nat):Int)]) (css:=[[iV _]]) kF cV ng rfl rfl rfl rfl rfl rfl ⟨⟨rfl,aa,aa⟩,trivial⟩ (fun aIZ G19 pZ wh=>(W.app (e:=bE) kF cV ng rfl HI rfl rfl ((Ze.mono pZ)) (wh) (ag (bJ (bJ ah))) (by show(_+1)*8≤_;rw [lc];omega) (fun v20 CN Fm=>(W.perm (ag ah).symm ?_))))
   have Pv:=Fm.form
   refine match Pv with|⟨auf,aug,vg⟩=> ?_
   subst vg
   refine g9 6 ?_
   have V3:E9 dm 98 4 3 149 yT G19 (List.replicate m Nd.zero,List.replicate m false,dN (k+1)) ((yT,ar 149 [lV R7 (List.replicate m Nd.zero).length R8,lV Sa (List.replicate m false).length Sb,lV auf ((dN k++[((k:Nat):Int)])).length aug])::(Ot++(Ou++CN))):=⟨_,_,_,_,_,_,rfl,(Zc.mono pZ),(Zd.mono pZ),(by rw [AU];exact Fm)⟩
   refine WC.perm (M':=(((yT,ar 149 [lV R7 (List.replicate m Nd.zero).length R8,lV Sa (List.replicate m false).length Sb,lV auf ((dN k++[((k:Nat):Int)])).length aug])::(Ot++(Ou++CN)))++[])) (ah.symm.trans ((((gB ((gB ah).trans (bJ ah))).trans (bJ ah)).cons _).trans ah)) (g9 5 ?_)
   exact⟨pZ,(k+1,((yT,ar 149 [lV R7 (List.replicate m Nd.zero).length R8,lV Sa (List.replicate m false).length Sb,lV auf ((dN k++[((k:Nat):Int)])).length aug])::(Ot++(Ou++CN)))),ct,⟨rfl,(by exact V3),aa⟩,aa⟩
  refine g9 6 ?_
  obtain rfl:k=m:=by omega
  refine match gD with|⟨ay1,ay2,ay3,Ov,Ow,akX,uo,Zf,Zg,Zh⟩=> ?_
  subst uo
  refine WC.perm (M':=((yT,ar 149 [ay1,ay2,ay3])::(Ov++(Ow++(akX++[]))))) ((gB (gB ah)).cons _).symm ?_
  dsimp only at Zf Zg Zh
  refine match Zf.form with|⟨Jv,Jw,dO⟩=> ?_
  subst dO
  refine match Zg.form with|⟨Jx,Jy,dO⟩=> ?_
  subst dO
  refine match Zh.form with|⟨auh,aui,dO⟩=> ?_
  subst dO
  refine g9 4 ?_
  refine W.ok (mM FR rfl) (W.call (Mp:=((yT,ar 149 [lV Jv (List.replicate k Nd.zero).length Jw,lV Jx (List.replicate k false).length Jy,lV auh (dN k).length aui])::akX)) (Mr:=(Ov++(Ow++[]))) (Es (oX (b:=yT) (Tb:=149) (c0:=lV Jv (List.replicate k Nd.zero).length Jw) (c1:=lV Jx (List.replicate k false).length Jy)) ⟨_,_,rfl,Zh⟩ (oI k) (by rw [lc];omega)) rfl (((bJ (bJ ah)).cons _).trans ah) ?_)
  intro YW Jl oC tH LA
  refine match LA with|⟨tp,⟨aNQ,akY,zB,akZ⟩⟩=> ?_
  subst tp
  subst zB
  have Ks:=akZ.form
  refine match Ks with|⟨ak0,ak1,Jz⟩=> ?_
  subst Jz
  refine W.perm (M':=((yT,ar 149 [lV Jv (List.replicate k Nd.zero).length Jw,lV Jx (List.replicate k false).length Jy,lV ak0 (dN k).length ak1])::(akY++(Ov++(Ow++[]))))) ((ah.cons _).trans ah).symm (g9 9 ?_)
  refine WC.perm (M':=((yT,ar 149 [lV Jv (List.replicate k Nd.zero).length Jw,lV Jx (List.replicate k false).length Jy,lV ak0 (dN k).length ak1])::(Ov++(Ow++(akY++[]))))) (((bO _ ((bO _ ((bO _ ah).trans ah)).trans (bJ ah))).trans (bJ ah)).cons _) (WC.ret ?_)
  refine⟨.inr rfl,[_,_],⟨rfl,rfl,trivial⟩,_,bB.k9,?_⟩
  exact .inr ⟨aa,_,rfl,bY.cast (st:=(List.replicate k Nd.zero,List.replicate k false)) ⟨_,⟨_,_,_,_,_,_,rfl,(Zf.mono tH),(Zg.mono tH),akZ⟩,by simp,by simp;omega,oI k,nJ (AV k)⟩ (by simp) (by simp)⟩
 refine W.Ju (e:=mX) (a0:=false) (n:=(m)) vC zk zr4 rfl by4 (rfl) rfl rfl (by first|(show _*152≤140737488355328;omega)|(show _*10≤16777216;omega)|(show _*1≤140737488355328;omega)|(show _*1≤16777216;omega)) (by first|(show _*152≤140737488355328;omega)|(show _*10≤16777216;omega)|(show _*1≤140737488355328;omega)|(show _*1≤16777216;omega)) (fun v38 BS Fo=> ?_)
 have q44:=Fo.form
 refine match q44 with|⟨auj,auk,Ah⟩=> ?_
 subst Ah
 refine W.nn (WD.a1 1 rfl (W.Ju (e:=dm) (a0:=Nd.zero) (n:=(m)) mI jQ cK rfl HL (⟨_,_,_,_,_,_,_,_,rfl,az.nil,az.nil,az.nil,az.nil,Nd.oF⟩) rfl rfl (by first|(show _*152≤140737488355328;omega)|(show _*10≤16777216;omega)|(show _*1≤140737488355328;omega)|(show _*1≤16777216;omega)) (by first|(show _*152≤140737488355328;omega)|(show _*10≤16777216;omega)|(show _*1≤140737488355328;omega)|(show _*1≤16777216;omega)) (fun v45 adv ak2=> ?_)))
 have q51:=ak2.form
 refine match q51 with|⟨aul,aum,Sc⟩=> ?_
 subst Sc
 refine W.nn (WD.tk 4 rfl (aY (L:=[lV _ _ _,lV _ _ _,lV _ _ _]) ap0 apZ rfl rfl rfl) (WD.a1 5 rfl (W.box (L:=[lV _ _ _,lV _ _ _,lV _ _ _]) rfl rfl (fun DQ=>(W.nn (d9 [6] ?_))))))
 refine g9 4 ?_
 have aun:E9 dm 98 4 3 149 DQ G (List.replicate m Nd.zero,List.replicate m false,dN 0) ((DQ,ar 149 [lV aul ((List.replicate ((m)) Nd.zero)).length aum,lV auj ((List.replicate ((m)) false)).length auk,lV none 0 0])::(adv++(BS++[]))):=⟨_,_,_,_,_,_,rfl,ak2,Fo,aE.nil⟩
 refine WC.perm (M':=(((DQ,ar 149 [lV aul ((List.replicate ((m)) Nd.zero)).length aum,lV auj ((List.replicate ((m)) false)).length auk,lV none 0 0])::(adv++(BS++[])))++[])) (ah.symm.trans ((((gB ((gB ah).trans ah)).trans ah).cons _).trans ah)) (g9 6 ?_)
 refine WC.loop (X:=(Nat)×MH) (fun k=>[(19,aK k.1),(18,aK m),(4,aC DQ)]) (fun k G Ml=>Ml=(k.2++[])∧E9 dm 98 4 3 149 DQ G ((List.replicate m Nd.zero,List.replicate m false,dN k.1)) k.2∧k.1≤m) (fun k=>m-k.1) (0,((DQ,ar 149 [lV aul ((List.replicate ((m)) Nd.zero)).length aum,lV auj ((List.replicate ((m)) false)).length auk,lV none 0 0])::(adv++(BS++[])))) ct ?_ ?_
 ·exact⟨rfl,(by exact aun),aa⟩
 rintro⟨k,yi⟩ aI0 G54 _ z8 ⟨rfl,gD,hk⟩
 try dsimp only at gD hk
 refine WC.fr (f:=gk aI0 [(19,aK k),(18,aK m),(4,aC DQ)]) rfl (g9 6 ?_)
 refine WC.cd (fun j1 nh=> ?_) (fun j1 nh=> ?_)
 ·refine g9 10 ?_
  refine match gD with|⟨ay4,ay5,ay6,Ox,Oy,ay7,uo,Zi,Zj,Zk⟩=> ?_
  subst uo
  refine WC.perm (M':=((DQ,ar 149 [ay4,ay5,ay6])::(Ox++(Oy++(ay7++[]))))) ((gB (gB ah)).cons _).symm ?_
  dsimp only at Zi Zj Zk
  refine match Zi.form with|⟨Sd,Se,dO⟩=> ?_
  subst dO
  refine match Zj.form with|⟨Sf,Sg,dO⟩=> ?_
  subst dO
  refine match Zk.form with|⟨aI1,aI2,dO⟩=> ?_
  subst dO
  refine g9 7 ?_
  refine W.lit (e:=bE) (l:=[((k:Nat):Int)]) (css:=[[iV _]]) kF cV ng rfl rfl rfl rfl rfl rfl ⟨⟨rfl,aa,aa⟩,trivial⟩ (fun aI3 G56 Jr auo=>(W.app (e:=bE) kF cV ng rfl HI rfl rfl ((Zk.mono Jr)) (auo) (ag (bJ (bJ ah))) (by show(_+1)*8≤_;rw [lc];omega) (fun v57 adw ak3=>(W.perm (ag ah).symm ?_))))
  have q63:=ak3.form
  refine match q63 with|⟨aup,auq,RP⟩=> ?_
  subst RP
  refine g9 6 ?_
  have aI4:E9 dm 98 4 3 149 DQ G56 (List.replicate m Nd.zero,List.replicate m false,dN (k+1)) ((DQ,ar 149 [lV Sd (List.replicate m Nd.zero).length Se,lV Sf (List.replicate m false).length Sg,lV aup ((dN k++[((k:Nat):Int)])).length auq])::(Ox++(Oy++adw))):=⟨_,_,_,_,_,_,rfl,(Zi.mono Jr),(Zj.mono Jr),(by rw [AU];exact ak3)⟩
  refine WC.perm (M':=(((DQ,ar 149 [lV Sd (List.replicate m Nd.zero).length Se,lV Sf (List.replicate m false).length Sg,lV aup ((dN k++[((k:Nat):Int)])).length auq])::(Ox++(Oy++adw)))++[])) (ah.symm.trans ((((gB ((gB ah).trans (bJ ah))).trans (bJ ah)).cons _).trans ah)) (g9 5 ?_)
  exact⟨Jr,(k+1,((DQ,ar 149 [lV Sd (List.replicate m Nd.zero).length Se,lV Sf (List.replicate m false).length Sg,lV aup ((dN k++[((k:Nat):Int)])).length auq])::(Ox++(Oy++adw)))),ct,⟨rfl,(by exact aI4),aa⟩,aa⟩
 refine g9 6 ?_
 obtain rfl:k=m:=by omega
 refine match gD with|⟨ay8,ay9,aza,Oz,OA,ak4,uo,Zl,Zm,Zn⟩=> ?_
 subst uo
 refine WC.perm (M':=((DQ,ar 149 [ay8,ay9,aza])::(Oz++(OA++(ak4++[]))))) ((gB (gB ah)).cons _).symm ?_
 dsimp only at Zl Zm Zn
 refine match Zl.form with|⟨JA,JB,dO⟩=> ?_
 subst dO
 refine match Zm.form with|⟨JC,JD,dO⟩=> ?_
 subst dO
 refine match Zn.form with|⟨aur,aus,dO⟩=> ?_
 subst dO
 refine g9 4 ?_
 refine W.ok (mM FR rfl) (W.call (Mp:=((DQ,ar 149 [lV JA (List.replicate k Nd.zero).length JB,lV JC (List.replicate k false).length JD,lV aur (dN k).length aus])::ak4)) (Mr:=(Oz++(OA++[]))) (Es (oX (b:=DQ) (Tb:=149) (c0:=lV JA (List.replicate k Nd.zero).length JB) (c1:=lV JC (List.replicate k false).length JD)) ⟨_,_,rfl,Zn⟩ (oI k) (by rw [lc];omega)) rfl (((bJ (bJ ah)).cons _).trans ah) ?_)
 intro v69 G66 aRe V4 q67
 refine match q67 with|⟨Jb,⟨aNR,ak5,aI5,ak6⟩⟩=> ?_
 subst Jb
 subst aI5
 have q74:=ak6.form
 refine match q74 with|⟨ak7,ak8,adp⟩=> ?_
 subst adp
 refine W.perm (M':=((DQ,ar 149 [lV JA (List.replicate k Nd.zero).length JB,lV JC (List.replicate k false).length JD,lV ak7 (dN k).length ak8])::(ak5++(Oz++(OA++[]))))) ((ah.cons _).trans ah).symm (g9 9 ?_)
 refine WC.perm (M':=((DQ,ar 149 [lV JA (List.replicate k Nd.zero).length JB,lV JC (List.replicate k false).length JD,lV ak7 (dN k).length ak8])::(Oz++(OA++(ak5++[]))))) (((bO _ ((bO _ ((bO _ ah).trans ah)).trans (bJ ah))).trans (bJ ah)).cons _) (WC.ret ?_)
 refine⟨.inr rfl,[_,_],⟨rfl,rfl,trivial⟩,_,bB.k9,?_⟩
 exact .inr ⟨aa,_,rfl,bY.cast (st:=(List.replicate k Nd.zero,List.replicate k false)) ⟨_,⟨_,_,_,_,_,_,rfl,(Zl.mono V4),(Zm.mono V4),ak6⟩,by simp,by simp;omega,oI k,nJ (AV k)⟩ (by simp) (by simp)⟩

variable {M:MH} {b:Nat} {cs:List Value}
theorem aDs{st:List Nd×List Bool}(h:bY dm 98 4 3 149 b G st M)(i:Int)(hx:cc G cs x):Fc Tryz.prog 111 [aC b,iV i,.agg (List.toArray cs)] G M (fun v G' M'=>v=iV (xn st i x).1∧bY dm 98 4 3 149 b G' (xn st i x).2 M'):=by
  have h0:=h
  obtain⟨f,⟨vc,vu,vf,Mc,Mu,Mf,rfl,h1,h2,h3⟩,h4,h5,h6,h7⟩:=h
  exact anI h1 h2 h3 i hx h4 h5 h6 h7
theorem aut{st:List Nd×List Bool}(h:bY dm 98 4 3 149 b G st M)(hx:cc G cs x):Fc Tryz.prog 78 [aC b,.agg (List.toArray cs)] G M (fun v G' M'=>v=.tuple #[iV (ff st x).1.1,iV (ff st x).1.2]∧bY dm 98 4 3 149 b G' (ff st x).2 M'):=by
  have h0:=h
  obtain⟨f,⟨vc,vu,vf,Mc,Mu,Mf,rfl,h1,h2,h3⟩,h4,h5,h6,h7⟩:=h
  exact adn h1 h2 h3 hx h4 h5 h6 h7
theorem aDt{st:List Nd×List Bool}(h:bY dm 98 4 3 149 b G st M)(i:Int):Fc Tryz.prog 121 [aC b,iV i] G M (fun v G' M'=>(∃cs,v=.tuple #[.agg (List.toArray cs),.bool (da st.2 i)]∧cc G' cs (BW st i Nd.zero))∧M'=M):=by
  have h0:=h
  obtain⟨f,⟨vc,vu,vf,Mc,Mu,Mf,rfl,h1,h2,h3⟩,h4,h5,h6,h7⟩:=h
  exact(anJ h1 h2 h3 i h4).mono fun v G' M' hl ⟨cs,e1,e2,e3⟩=>⟨⟨cs,e1,e2⟩,e3⟩
theorem azb{st:List Nd×List Bool}(h:bY dm 98 4 3 149 b G st M)  :Fc Tryz.prog 155 [aC b] G M (fun v G' M'=>v=iV ((de st.2).length:Int)∧M'=M):=by
  have h0:=h
  obtain⟨f,⟨vc,vu,vf,Mc,Mu,Mf,rfl,h1,h2,h3⟩,h4,h5,h6,h7⟩:=h
  exact(ahC h1 h2 h3 h4 h5 h6 h7).mono fun v G' M' hl hq=>hq
theorem azc{st:List Nd×List Bool}(h:bY dm 98 4 3 149 b G st M)  :Fc Tryz.prog 144 [aC b] G M (fun v G' M'=>az bE G' v (kp st.2)∧M'=M):=by
  have h0:=h
  obtain⟨f,⟨vc,vu,vf,Mc,Mu,Mf,rfl,h1,h2,h3⟩,h4,h5,h6,h7⟩:=h
  exact(ahD h1 h2 h3 h4 h5 h6 h7).mono fun v G' M' hl hq=>hq
theorem anz(n:Int):
    Fc Tryz.prog 18 [iV n] G [] (fun v G' M'=>(¬(1≤n∧n≤4096)∧v=.tuple #[.pointer none,iV 2]∧M'=[])∨((1≤n∧n≤4096)∧∃b,v=.tuple #[aC b,iV 0]∧bY fu 60 4 3 106 b G' (List.replicate n.toNat (none:Option Nat),List.replicate n.toNat false) M')):=by
 refine Fc.go [.tmp 2,.tmp 3] Tryz.func18 Tryz.ntmps18 rfl (fun w0=>(g9 12 ?_))
 refine W.sd 8 (fun h7 p7=> ?_) (fun h7 p7=> ?_)
 ·refine g9 14 ?_
  refine⟨.inr rfl,[_,_],⟨rfl,rfl,trivial⟩,_,bB,?_⟩
  exact .inl ⟨aa,rfl,rfl⟩
 refine g9 7 ?_
 refine WC.cd (fun ir ry=> ?_) (fun ir ry=> ?_)
 ·refine g9 8 ?_
  refine⟨.inr rfl,[_,_],⟨rfl,rfl,trivial⟩,_,bB,?_⟩
  exact .inl ⟨aa,rfl,rfl⟩
 obtain⟨m,rfl⟩:∃m:Nat,n=(m:Int):=⟨n.toNat,aa⟩
 refine g9 3 ?_
 refine WC.dw bB (d9 [0,2] ?_)
 refine WD.any [1,3] (by kernel_rfl) rfl ⟨WD.ap ?_,WD.ap ?_,trivial⟩
 ·refine W.Ju (e:=fu) (a0:=(none:Option Nat)) (n:=(m)) zl tA aaj rfl apU (rfl) rfl rfl (by first|(show _*8≤140737488355328;omega)|(show _*1≤16777216;omega)|(show _*1≤140737488355328;omega)|(show _*1≤16777216;omega)) (by first|(show _*8≤140737488355328;omega)|(show _*1≤16777216;omega)|(show _*1≤140737488355328;omega)|(show _*1≤16777216;omega)) (fun v75 adx aBi=> ?_)
  have q81:=aBi.form
  refine match q81 with|⟨auu,auv,aI6⟩=> ?_
  subst aI6
  refine W.nn (WD.a1 3 rfl (W.Ju (e:=mX) (a0:=false) (n:=(m)) vC zk zr4 rfl by4 (rfl) rfl rfl (by first|(show _*8≤140737488355328;omega)|(show _*1≤16777216;omega)|(show _*1≤140737488355328;omega)|(show _*1≤16777216;omega)) (by first|(show _*8≤140737488355328;omega)|(show _*1≤16777216;omega)|(show _*1≤140737488355328;omega)|(show _*1≤16777216;omega)) (fun v82 akz akA=> ?_)))
  have q88:=akA.form
  refine match q88 with|⟨auw,auy,aI7⟩=> ?_
  subst aI7
  refine W.nn (WD.tk 4 rfl (aY (L:=[lV _ _ _,lV _ _ _,lV _ _ _]) apW apV rfl rfl rfl) (WD.a1 5 rfl (W.box (L:=[lV _ _ _,lV _ _ _,lV _ _ _]) rfl rfl (fun DR=>(W.nn (d9 [6] ?_))))))
  refine g9 4 ?_
  have auz:E9 fu 60 4 3 106 DR G (List.replicate m (none:Option Nat),List.replicate m false,dN 0) ((DR,ar 106 [lV auu ((List.replicate ((m)) (none:Option Nat))).length auv,lV auw ((List.replicate ((m)) false)).length auy,lV none 0 0])::(adx++(akz++[]))):=⟨_,_,_,_,_,_,rfl,aBi,akA,aE.nil⟩
  refine WC.perm (M':=(((DR,ar 106 [lV auu ((List.replicate ((m)) (none:Option Nat))).length auv,lV auw ((List.replicate ((m)) false)).length auy,lV none 0 0])::(adx++(akz++[])))++[])) (ah.symm.trans ((((gB ((gB ah).trans ah)).trans (bJ ah)).cons _).trans ah)) (g9 6 ?_)
  refine WC.loop (X:=(Nat)×MH) (fun k=>[(19,aK k.1),(18,aK m),(4,aC DR)]) (fun k G Ml=>Ml=(k.2++[])∧E9 fu 60 4 3 106 DR G ((List.replicate m (none:Option Nat),List.replicate m false,dN k.1)) k.2∧k.1≤m) (fun k=>m-k.1) (0,((DR,ar 106 [lV auu ((List.replicate ((m)) (none:Option Nat))).length auv,lV auw ((List.replicate ((m)) false)).length auy,lV none 0 0])::(adx++(akz++[])))) ct ?_ ?_
  ·exact⟨rfl,(by exact auz),aa⟩
  rintro⟨k,yi⟩ aI8 G91 _ aRf ⟨rfl,gD,hk⟩
  try dsimp only at gD hk
  refine WC.fr (f:=gk aI8 [(19,aK k),(18,aK m),(4,aC DR)]) rfl (g9 6 ?_)
  refine WC.cd (fun j1 nh=> ?_) (fun j1 nh=> ?_)
  ·refine g9 10 ?_
   refine match gD with|⟨azd,aze,azf,OB,OC,azg,uo,Zo,Zp,Zq⟩=> ?_
   subst uo
   refine WC.perm (M':=((DR,ar 106 [azd,aze,azf])::(OB++(OC++(azg++[]))))) ((gB (gB ah)).cons _).symm ?_
   dsimp only at Zo Zp Zq
   refine match Zo.form with|⟨Sh,Si,dO⟩=> ?_
   subst dO
   refine match Zp.form with|⟨Sj,Sk,dO⟩=> ?_
   subst dO
   refine match Zq.form with|⟨aI9,aJa,dO⟩=> ?_
   subst dO
   refine g9 7 ?_
   refine W.lit (e:=bE) (l:=[((k:Nat):Int)]) (css:=[[iV _]]) kF cV ng rfl rfl rfl rfl rfl rfl ⟨⟨rfl,aa,aa⟩,trivial⟩ (fun aIH G93 B8 at3=>(W.app (e:=bE) kF cV ng rfl HI rfl rfl ((Zq.mono B8)) (at3) (ag (bJ (bJ ah))) (by show(_+1)*8≤_;rw [lc];omega) (fun v94 akB adg=>(W.perm (ag ah).symm ?_))))
   have at4:=adg.form
   refine match at4 with|⟨akC,akD,at5⟩=> ?_
   subst at5
   refine g9 6 ?_
   have aDu:E9 fu 60 4 3 106 DR G93 (List.replicate m (none:Option Nat),List.replicate m false,dN (k+1)) ((DR,ar 106 [lV Sh (List.replicate m (none:Option Nat)).length Si,lV Sj (List.replicate m false).length Sk,lV akC ((dN k++[((k:Nat):Int)])).length akD])::(OB++(OC++akB))):=⟨_,_,_,_,_,_,rfl,(Zo.mono B8),(Zp.mono B8),(by rw [AU];exact adg)⟩
   refine WC.perm (M':=(((DR,ar 106 [lV Sh (List.replicate m (none:Option Nat)).length Si,lV Sj (List.replicate m false).length Sk,lV akC ((dN k++[((k:Nat):Int)])).length akD])::(OB++(OC++akB)))++[])) (ah.symm.trans ((((gB ((gB ah).trans (bJ ah))).trans (bJ ah)).cons _).trans ah)) (g9 5 ?_)
   exact⟨B8,(k+1,((DR,ar 106 [lV Sh (List.replicate m (none:Option Nat)).length Si,lV Sj (List.replicate m false).length Sk,lV akC ((dN k++[((k:Nat):Int)])).length akD])::(OB++(OC++akB)))),ct,⟨rfl,(by exact aDu),aa⟩,aa⟩
  refine g9 6 ?_
  obtain rfl:k=m:=by omega
  refine match gD with|⟨auA,auB,auC,JE,JF,ady,uo,Sl,Sm,Sn⟩=> ?_
  subst uo
  refine WC.perm (M':=((DR,ar 106 [auA,auB,auC])::(JE++(JF++(ady++[]))))) ((gB (gB ah)).cons _).symm ?_
  dsimp only at Sl Sm Sn
  refine match Sl.form with|⟨EP,EQ,dO⟩=> ?_
  subst dO
  refine match Sm.form with|⟨ER,ES,dO⟩=> ?_
  subst dO
  refine match Sn.form with|⟨anM,anN,dO⟩=> ?_
  subst dO
  refine g9 4 ?_
  refine W.ok (mM FR rfl) (W.call (Mp:=((DR,ar 106 [lV EP (List.replicate k (none:Option Nat)).length EQ,lV ER (List.replicate k false).length ES,lV anM (dN k).length anN])::ady)) (Mr:=(JE++(JF++[]))) (Es (oX (b:=DR) (Tb:=106) (c0:=lV EP (List.replicate k (none:Option Nat)).length EQ) (c1:=lV ER (List.replicate k false).length ES)) ⟨_,_,rfl,Sn⟩ (oI k) (by rw [lc];omega)) rfl (((bJ (bJ ah)).cons _).trans ah) ?_)
  intro aII aJb aOJ ahF acQ
  refine match acQ with|⟨aDv,⟨aJc,adz,Gy,adA⟩⟩=> ?_
  subst aDv
  subst Gy
  have adh:=adA.form
  refine match adh with|⟨adB,adC,Bp⟩=> ?_
  subst Bp
  refine W.perm (M':=((DR,ar 106 [lV EP (List.replicate k (none:Option Nat)).length EQ,lV ER (List.replicate k false).length ES,lV adB (dN k).length adC])::(adz++(JE++(JF++[]))))) ((ah.cons _).trans ah).symm (g9 9 ?_)
  refine WC.perm (M':=((DR,ar 106 [lV EP (List.replicate k (none:Option Nat)).length EQ,lV ER (List.replicate k false).length ES,lV adB (dN k).length adC])::(JE++(JF++(adz++[]))))) (((bO _ ((bO _ ((bO _ ah).trans ah)).trans (bJ ah))).trans (bJ ah)).cons _) (WC.ret ?_)
  refine⟨.inr rfl,[_,_],⟨rfl,rfl,trivial⟩,_,bB.k9,?_⟩
  exact .inr ⟨aa,_,rfl,bY.cast (st:=(List.replicate k (none:Option Nat),List.replicate k false)) ⟨_,⟨_,_,_,_,_,_,rfl,(Sl.mono ahF),(Sm.mono ahF),adA⟩,by simp,by simp;omega,oI k,nJ (AV k)⟩ (by simp) (by simp)⟩
 refine W.Ju (e:=mX) (a0:=false) (n:=(m)) vC zk zr4 rfl by4 (rfl) rfl rfl (by first|(show _*8≤140737488355328;omega)|(show _*1≤16777216;omega)|(show _*1≤140737488355328;omega)|(show _*1≤16777216;omega)) (by first|(show _*8≤140737488355328;omega)|(show _*1≤16777216;omega)|(show _*1≤140737488355328;omega)|(show _*1≤16777216;omega)) (fun aRg ahG auD=> ?_)
 have asD:=auD.form
 refine match asD with|⟨Gz,GA,agX⟩=> ?_
 subst agX
 refine W.nn (WD.a1 1 rfl (W.Ju (e:=fu) (a0:=(none:Option Nat)) (n:=(m)) zl tA aaj rfl apU (rfl) rfl rfl (by first|(show _*8≤140737488355328;omega)|(show _*1≤16777216;omega)|(show _*1≤140737488355328;omega)|(show _*1≤16777216;omega)) (by first|(show _*8≤140737488355328;omega)|(show _*1≤16777216;omega)|(show _*1≤140737488355328;omega)|(show _*1≤16777216;omega)) (fun aRh ahH auE=> ?_)))
 have aJd:=auE.form
 refine match aJd with|⟨ahI,ahJ,aDw⟩=> ?_
 subst aDw
 refine W.nn (WD.tk 4 rfl (aY (L:=[lV _ _ _,lV _ _ _,lV _ _ _]) apW apV rfl rfl rfl) (WD.a1 5 rfl (W.box (L:=[lV _ _ _,lV _ _ _,lV _ _ _]) rfl rfl (fun vj=>(W.nn (d9 [6] ?_))))))
 refine g9 4 ?_
 have aDx:E9 fu 60 4 3 106 vj G (List.replicate m (none:Option Nat),List.replicate m false,dN 0) ((vj,ar 106 [lV ahI ((List.replicate ((m)) (none:Option Nat))).length ahJ,lV Gz ((List.replicate ((m)) false)).length GA,lV none 0 0])::(ahH++(ahG++[]))):=⟨_,_,_,_,_,_,rfl,auE,auD,aE.nil⟩
 refine WC.perm (M':=(((vj,ar 106 [lV ahI ((List.replicate ((m)) (none:Option Nat))).length ahJ,lV Gz ((List.replicate ((m)) false)).length GA,lV none 0 0])::(ahH++(ahG++[])))++[])) (ah.symm.trans ((((gB ((gB ah).trans ah)).trans ah).cons _).trans ah)) (g9 6 ?_)
 refine WC.loop (X:=(Nat)×MH) (fun k=>[(19,aK k.1),(18,aK m),(4,aC vj)]) (fun k G Ml=>Ml=(k.2++[])∧E9 fu 60 4 3 106 vj G ((List.replicate m (none:Option Nat),List.replicate m false,dN k.1)) k.2∧k.1≤m) (fun k=>m-k.1) (0,((vj,ar 106 [lV ahI ((List.replicate ((m)) (none:Option Nat))).length ahJ,lV Gz ((List.replicate ((m)) false)).length GA,lV none 0 0])::(ahH++(ahG++[])))) ct ?_ ?_
 ·exact⟨rfl,(by exact aDx),aa⟩
 rintro⟨k,yi⟩ aDy aRi _ aOK ⟨rfl,gD,hk⟩
 try dsimp only at gD hk
 refine WC.fr (f:=gk aDy [(19,aK k),(18,aK m),(4,aC vj)]) rfl (g9 6 ?_)
 refine WC.cd (fun j1 nh=> ?_) (fun j1 nh=> ?_)
 ·refine g9 10 ?_
  refine match gD with|⟨auF,auG,auH,JG,JH,auI,uo,So,Sp,Sq⟩=> ?_
  subst uo
  refine WC.perm (M':=((vj,ar 106 [auF,auG,auH])::(JG++(JH++(auI++[]))))) ((gB (gB ah)).cons _).symm ?_
  dsimp only at So Sp Sq
  refine match So.form with|⟨LD,LF,dO⟩=> ?_
  subst dO
  refine match Sp.form with|⟨LG,LH,dO⟩=> ?_
  subst dO
  refine match Sq.form with|⟨aFM,aFN,dO⟩=> ?_
  subst dO
  refine g9 7 ?_
  refine W.lit (e:=bE) (l:=[((k:Nat):Int)]) (css:=[[iV _]]) kF cV ng rfl rfl rfl rfl rfl rfl ⟨⟨rfl,aa,aa⟩,trivial⟩ (fun ahc aAY DG GF=>(W.app (e:=bE) kF cV ng rfl HI rfl rfl ((Sq.mono DG)) (GF) (ag (bJ (bJ ah))) (by show(_+1)*8≤_;rw [lc];omega) (fun aRj ahK auJ=>(W.perm (ag ah).symm ?_))))
  have aJe:=auJ.form
  refine match aJe with|⟨ahL,ahM,ahN⟩=> ?_
  subst ahN
  refine g9 6 ?_
  have aDz:E9 fu 60 4 3 106 vj aAY (List.replicate m (none:Option Nat),List.replicate m false,dN (k+1)) ((vj,ar 106 [lV LD (List.replicate m (none:Option Nat)).length LF,lV LG (List.replicate m false).length LH,lV ahL ((dN k++[((k:Nat):Int)])).length ahM])::(JG++(JH++ahK))):=⟨_,_,_,_,_,_,rfl,(So.mono DG),(Sp.mono DG),(by rw [AU];exact auJ)⟩
  refine WC.perm (M':=(((vj,ar 106 [lV LD (List.replicate m (none:Option Nat)).length LF,lV LG (List.replicate m false).length LH,lV ahL ((dN k++[((k:Nat):Int)])).length ahM])::(JG++(JH++ahK)))++[])) (ah.symm.trans ((((gB ((gB ah).trans (bJ ah))).trans (bJ ah)).cons _).trans ah)) (g9 5 ?_)
  exact⟨DG,(k+1,((vj,ar 106 [lV LD (List.replicate m (none:Option Nat)).length LF,lV LG (List.replicate m false).length LH,lV ahL ((dN k++[((k:Nat):Int)])).length ahM])::(JG++(JH++ahK)))),ct,⟨rfl,(by exact aDz),aa⟩,aa⟩
 refine g9 6 ?_
 obtain rfl:k=m:=by omega
 refine match gD with|⟨auK,auL,auM,JI,JJ,adD,uo,Sr,Ss,St⟩=> ?_
 subst uo
 refine WC.perm (M':=((vj,ar 106 [auK,auL,auM])::(JI++(JJ++(adD++[]))))) ((gB (gB ah)).cons _).symm ?_
 dsimp only at Sr Ss St
 refine match Sr.form with|⟨ET,EU,dO⟩=> ?_
 subst dO
 refine match Ss.form with|⟨EW,EX,dO⟩=> ?_
 subst dO
 refine match St.form with|⟨anO,anP,dO⟩=> ?_
 subst dO
 refine g9 4 ?_
 refine W.ok (mM FR rfl) (W.call (Mp:=((vj,ar 106 [lV ET (List.replicate k (none:Option Nat)).length EU,lV EW (List.replicate k false).length EX,lV anO (dN k).length anP])::adD)) (Mr:=(JI++(JJ++[]))) (Es (oX (b:=vj) (Tb:=106) (c0:=lV ET (List.replicate k (none:Option Nat)).length EU) (c1:=lV EW (List.replicate k false).length EX)) ⟨_,_,rfl,St⟩ (oI k) (by rw [lc];omega)) rfl (((bJ (bJ ah)).cons _).trans ah) ?_)
 intro aRk aRl aOL auN aJf
 refine match aJf with|⟨aDA,⟨aJg,adE,aDB,adF⟩⟩=> ?_
 subst aDA
 subst aDB
 have auO:=adF.form
 refine match auO with|⟨adG,adH,aDC⟩=> ?_
 subst aDC
 refine W.perm (M':=((vj,ar 106 [lV ET (List.replicate k (none:Option Nat)).length EU,lV EW (List.replicate k false).length EX,lV adG (dN k).length adH])::(adE++(JI++(JJ++[]))))) ((ah.cons _).trans ah).symm (g9 9 ?_)
 refine WC.perm (M':=((vj,ar 106 [lV ET (List.replicate k (none:Option Nat)).length EU,lV EW (List.replicate k false).length EX,lV adG (dN k).length adH])::(JI++(JJ++(adE++[]))))) (((bO _ ((bO _ ((bO _ ah).trans ah)).trans (bJ ah))).trans (bJ ah)).cons _) (WC.ret ?_)
 refine⟨.inr rfl,[_,_],⟨rfl,rfl,trivial⟩,_,bB.k9,?_⟩
 exact .inr ⟨aa,_,rfl,bY.cast (st:=(List.replicate k (none:Option Nat),List.replicate k false)) ⟨_,⟨_,_,_,_,_,_,rfl,(Sr.mono auN),(Ss.mono auN),adF⟩,by simp,by simp;omega,oI k,nJ (AV k)⟩ (by simp) (by simp)⟩

theorem kg{st:List (Option Nat)×List Bool}(h:bY fu 60 4 3 106 b G st M)(x:Nat):Fc Tryz.prog 19 [aC b,aC x] G M (fun v G' M'=>v=.tuple #[iV (ff st (some x)).1.1,iV (ff st (some x)).1.2]∧bY fu 60 4 3 106 b G' (ff st (some x)).2 M'):=by
  have h0:=h
  obtain⟨f,⟨vc,vu,vf,Mc,Mu,Mf,rfl,h1,h2,h3⟩,h4,h5,h6,h7⟩:=h
  exact ado h1 h2 h3 x h4 h5 h6 h7
theorem akh{st:List (Option Nat)×List Bool}(h:bY fu 60 4 3 106 b G st M)(i:Int)(hi:i64 i):Fc Tryz.prog 65 [aC b,iV i] G M (fun v G' M'=>v=iV (xm st i (none:Option Nat)).1∧bY fu 60 4 3 106 b G' (xm st i (none:Option Nat)).2 M'):=by
  have h0:=h
  obtain⟨f,⟨vc,vu,vf,Mc,Mu,Mf,rfl,h1,h2,h3⟩,h4,h5,h6,h7⟩:=h
  exact ahE h1 h2 h3 i h4 h5 h6 h7 hi
end Go.Proofs.YthhpfadbojfdnaaGreat
