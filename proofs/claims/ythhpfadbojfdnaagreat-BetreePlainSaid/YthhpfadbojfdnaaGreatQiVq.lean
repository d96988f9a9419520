/- The walk of a step that has to do with a kid. -/
import Derived.Test.YthhpfadbojfdnaaGreatQiVl
set_option maxRecDepth 100000
set_option maxHeartbeats 1600000
set_option linter.unusedVariables false
set_option linter.unusedSimpArgs false
set_option linter.unnecessarySimpa false
namespace Go.Proofs.YthhpfadbojfdnaaGreat
open Go Go.Fw Go.RowKit
attribute [local irreducible] Ok W WC
variable {G:GH} {M:MH} {l:List Nd}
theorem awb{b:Nat}{c:aX}(h:cz 98 4 3 149 100 b c G l M)(a i:Int):Fc Tryz.prog 88 [aC b,iV ((ai l a).kids.getD i.toNat 0)] G M (fun v G' M'=>(∃cs,v=.tuple #[.agg (List.toArray cs),.bool (decide (0≤(ai l a).kids.getD i.toNat 0∧(ai l a).kids.getD i.toNat 0<(l.length:Int)))]∧cc G' cs (aZ l a i))∧M'=M):=pq h _
variable {bj:MH} {bA:Nat} {yN:List Value} {ss:List aw}
theorem awc{c c2:aX}(cC:cz 98 4 3 149 100 bA c G l bj)(t:Tree c2 l ss){a:Int}(lA:cc G yN (ai l a))(i:Int)(LL:c=c2)(ha:0≤a∧a<(l.length:Int))(h0:¬(ai l a).level=0)(hi:0≤i∧i<((ai l a).kids.length:Int))(jK:i64 i):
    Fc Tryz.prog 108 [aC bA,.agg (List.toArray yN),iV i] G bj (fun v G' M'=>v=.tuple #[iV (iH c l a i).1.1,iV (iH c l a i).1.2.1,iV (iH c l a i).1.2.2]∧cz 98 4 3 149 100 bA c G' (iH c l a i).2 M'):=by
 obtain⟨_,_,_,_,_,_,_,_,rfl,fk,eX,nr,fH,jO⟩:=lA
 subst LL
 obtain⟨P,s⟩:=nm t ha h0 hi
 have hPR:=(t.gz s.mem).1
 have hKm:=(t.at s.mem s.h0 (j:=i.toNat) (by have:=s.hi;omega)).1
 have hKR:=(t.gz hKm).1
 rw [s.n]at hPR
 rw [s.Iw]at hKR
 have nU:(ai l a).slot=a:=(cZ t.slot ha).1
 have hPS:=t.C2.2 _ (cZ t.slot ha).2
 have hKS:=t.C2.2 _ (cZ t.slot s.Nr).2
 have hPD:XK (ai l a):=Gr t.kd hPR
 have hKD:XK (aZ l a i):=Gr t.kd hKR
 have aKs:c.aT≤9223372036854775807:=by have:=t.kd.2.2.1.2;omega
 have hq:Re c.aT (ai l a) (aZ l a i):=ayz hPR hKR h0 hPD hKD aKs
 have MM:(ai l a).pe c.fan c.aT:=by have h4:=hPR.2.2.2;rwa [if_neg h0]at h4
 have Iy:=MM.2.2.1
 have o9:=(dp MM.2.1).2
 have aRW:=jK.1
 have aRX:=jK.2
 have aKt:((ai l a).kids.length:Int)≤4000:=by have:=hPD.1;omega
 have hkd:(ai l a).kids[i.toNat]'aa=((ai l a).kids.getD i.toNat 0):=by rw [fc,eY aa];rfl
 refine Fc.go [.tmp 6,.tmp 7,.tmp 8] Tryz.func108 Tryz.ntmps108 rfl (fun w0=>(WC.perm (M':=(bj++[])) (by simp) (g9 2 ?_)))
 refine W.box (L:=[iV _,iV _,lV _ _ _,lV _ _ _,sV _,.bool _,iV _,iV _,lV _ _ _,lV _ _ _]) rfl rfl (fun b1=>(g9 15 ?_))
 refine WC.cd (fun Cm xb=> ?_) (fun Cm xb=> ?_)
 ·try dsimp only at xb
  exfalso;omega
 try dsimp only at xb
 refine g9 8 ?_
 refine eX.a2 (i:=i.toNat) aa (fun he2 xY=>(W.ok (bd (i:=i.toNat) dG cV eX rfl rfl ⟨aa,aa⟩) (g9 1 ?_)))
 refine W.call (Mp:=bj) (awb cC a i) (ax (fun k:Int=>[_,Value.int .i64 k]) hkd) (ag ah) ?_
 intro v9 G6 Ms8 vF q7
 refine match q7 with|⟨⟨_,aua,⟨_,_,_,_,_,_,_,_,aaH,ny,nz,nC,nD,lg⟩⟩,awd⟩=> ?_
 subst aua
 subst aaH
 have awd:=awd.symm
 subst awd
 refine W.perm (ag ah).symm (g9 3 ?_)
 refine W.alloc cK (fun b13=>(g9 11 ?_))
 refine WC.cn (fun DV x9=> ?_) (fun DV x9=> ?_)
 ·try dsimp only at x9
  exact absurd s.Nr x9
 try dsimp only at x9
 refine g9 3 ?_
 refine WC.dw (iD.k9.k9) (d9 [0,2,3,4] ?_)
 refine WD.a1 1 rfl (W.call (Mp:=bj) (iT (cz.mono vF cC)) rfl (ag (ag ah)) ?_)
 intro v17 G14 O4 vY q15
 refine match q15 with|⟨Ao,Ha⟩=> ?_
 subst Ao
 have Ha:=Ha.symm
 subst Ha
 refine W.perm (ag (ag ah)).symm (W.nn (WD.a1 5 rfl (W.aH (ad1 c.fan c.leaf c.aT c.bp c.rest (p:=(ai l a)) (k:=(aZ l a i)) (gE aO fk eX nr fH jO) (gE vY ny nz nC nD lg) i hq jK s.XX Iy o9) rfl (W.nn (d9 [6] ?_)))))
 refine g9 15 ?_
 refine WC.cd (fun h44 TY=> ?_) (fun h44 TY=> ?_)
 ·try dsimp only at TY
  refine g9 6 ?_
  refine W.call (Mp:=bj) (ah2 (cz.mono aO cC) t a i jK) (ax (fun k:Int=>[_,Value.int .i64 k,_]) nU) (ag (ag ah)) ?_
  intro v23 G20 aAk zz Kr
  refine match Kr with|⟨vg,aBr⟩=> ?_
  subst vg
  refine W.perm (ag (ag ah)).symm (g9 9 ?_)
  refine WC.cn (fun RU zb=> ?_) (fun RU zb=> ?_)
  ·try dsimp only at zb
   refine g9 13 ?_
   refine⟨.inr rfl,[_,_,_],⟨rfl,rfl,rfl,trivial⟩,_,((aI _ _).cons _).cons _,?_⟩
   have hE:=sU TY zb
   exact⟨sX hE rfl nU rfl,cz.to aBr (ax Prod.snd hE).symm⟩
  try dsimp only at zb
  refine g9 14 ?_
  refine⟨.inr rfl,[_,_,_],⟨rfl,rfl,rfl,trivial⟩,_,((aI _ _).cons _).cons _,?_⟩
  have hE:=sS TY aa
  exact⟨sX hE TY nU rfl,cz.to aBr (ax Prod.snd hE).symm⟩
 try dsimp only at TY
 refine g9 6 ?_
 refine WC.cd (fun h56 rC=> ?_) (fun h56 rC=> ?_)
 ·try dsimp only at rC
  have aRY:cQ c (ai l a) (aZ l a i) i=4:=rC
  have hcp:0<c9 c.leaf c.aT (ai l a) (aZ l a i) i:=by rcases eT c (ai l a) (aZ l a i) i with h9|h9|⟨_,h9⟩|h9;omega;omega;exact h9;omega
  have aKu:=s.QF t hcp
  obtain⟨T9,hpo⟩:=aKu
  have NA:0≤(eC c.leaf c.aT (ai l a) (aZ l a i) i).1.slot∧(eC c.leaf c.aT (ai l a) (aZ l a i) i).1.slot<(l.length:Int):=by rw [hpo.al.1];exact hpo.sin hpo.mem
  have NB:0≤(eC c.leaf c.aT (ai l a) (aZ l a i) i).2.1.slot∧(eC c.leaf c.aT (ai l a) (aZ l a i) i).2.1.slot<(l.length:Int):=by rw [hpo.bl.1];exact hpo.sin hpo.km.1
  refine WC.seq (WC.dw (iD.k9.k9) (d9 [0,2,3,4] ?_))
  refine WD.any [1,10,11] (by kernel_rfl) rfl ⟨WD.ap ?_,WD.ap ?_,WD.ap ?_,trivial⟩
  ·refine W.call (Mp:=bj) (iT (cz.mono aO cC)) rfl (ag (ag ah)) ?_
   intro v29 G26 LS Pm DK
   refine match DK with|⟨Ab,Hb⟩=> ?_
   subst Ab
   have Hb:=Hb.symm
   subst Hb
   refine W.perm (ag (ag ah)).symm (W.nn ?_)
   refine WD.any [5,10,11] (by kernel_rfl) rfl ⟨WD.ap ?_,WD.ap ?_,WD.ap ?_,trivial⟩
   ·refine W.cM (oZ c.fan c.leaf c.aT c.bp c.rest (p:=(ai l a)) (k:=(aZ l a i)) (gE aO fk eX nr fH jO) (gE aO ny nz nC nD lg) i hq.hb hq.hr hq.uj hq.pM hq.ox hq.uk jK hq.kr) rfl (fun _ _ _ _ _ _ _ _ _ _ _ _ _ _ _ _ G32 aBs ael aem aen aeo Wm aep aeq aer aes Wn=>(W.nn (d9 [6,7,8,9] ?_)))
    refine WD.any [10,11] (by kernel_rfl) rfl ⟨WD.ap ?_,WD.ap ?_,trivial⟩
    ·refine W.alloc cK (fun b41=>(W.nn (WD.a1 11 rfl (W.alloc cK (fun b42=>(W.nn (d9 [12,13,14] ?_)))))))
     refine g9 6 ?_
     refine W.call (Mp:=bj) (eA (cz.mono aO cC) (by exact NA) (gp ael aem aen aeo Wm)) rfl (ag (ag (ag (ag ah)))) ?_
     intro v46 G43 ajc Wg q44
     refine match q44 with|⟨adX,aKv⟩=> ?_
     subst adX
     refine W.perm (ag (ag (ag (ag ah)))).symm (g9 5 ?_)
     refine W.call (Mp:=ajc) (eA aKv (by rw [cg];exact NB) (gE Wg aep aeq aer aes Wn)) rfl (ag (ag (ag (ag ah)))) ?_
     intro v52 G49 aAq aqL q50
     refine match q50 with|⟨Jq,aun⟩=> ?_
     subst Jq
     refine W.perm (ag (ag (ag (ag ah)))).symm (g9 14 ?_)
     refine⟨.inr rfl,[_,_,_],⟨rfl,rfl,rfl,trivial⟩,_,((((aI _ _).cons _).cons _).cons _).cons _,?_⟩
     have hE:=j4 rC
     exact⟨sX hE rC nU rfl,cz.to aun (ax Prod.snd hE).symm⟩
    refine W.alloc cK (fun b55=>(W.nn (WD.a1 10 rfl (W.alloc cK (fun b56=>(W.nn (d9 [12,13,14] ?_)))))))
    refine g9 6 ?_
    refine W.call (Mp:=bj) (eA (cz.mono aO cC) (by exact NA) (gp ael aem aen aeo Wm)) rfl (ag (ag (ag (ag ah)))) ?_
    intro v60 G57 ako MR q58
    refine match q58 with|⟨RP,acY⟩=> ?_
    subst RP
    refine W.perm (ag (ag (ag (ag ah)))).symm (g9 5 ?_)
    refine W.call (Mp:=ako) (eA acY (by rw [cg];exact NB) (gE MR aep aeq aer aes Wn)) rfl (ag (ag (ag (ag ah)))) ?_
    intro v66 G63 atY atZ Yt
    refine match Yt with|⟨ac8,akv⟩=> ?_
    subst ac8
    refine W.perm (ag (ag (ag (ag ah)))).symm (g9 14 ?_)
    refine⟨.inr rfl,[_,_,_],⟨rfl,rfl,rfl,trivial⟩,_,((((aI _ _).cons _).cons _).cons _).cons _,?_⟩
    have hE:=j4 rC
    exact⟨sX hE rC nU rfl,cz.to akv (ax Prod.snd hE).symm⟩
   ·refine W.alloc cK (fun b69=>(W.nn ?_))
    refine WD.any [5,11] (by kernel_rfl) rfl ⟨WD.ap ?_,WD.ap ?_,trivial⟩
    ·refine W.cM (oZ c.fan c.leaf c.aT c.bp c.rest (p:=(ai l a)) (k:=(aZ l a i)) (gE aO fk eX nr fH jO) (gE aO ny nz nC nD lg) i hq.hb hq.hr hq.uj hq.pM hq.ox hq.uk jK hq.kr) rfl (fun _ _ _ _ _ _ _ _ _ _ _ _ _ _ _ _ G70 ajk awe awf awg awh aon awi awj awk awl aoo=>(W.nn (d9 [6,7,8,9] ?_)))
     refine WD.a1 11 rfl (W.alloc cK (fun b79=>(W.nn (d9 [12,13,14] ?_))))
     refine g9 6 ?_
     refine W.call (Mp:=bj) (eA (cz.mono aO cC) (by exact NA) (gp awe awf awg awh aon)) rfl (ag (ag (ag (ag ah)))) ?_
     intro v83 G80 aaA aBt q81
     refine match q81 with|⟨awm,aKw⟩=> ?_
     subst awm
     refine W.perm (ag (ag (ag (ag ah)))).symm (g9 5 ?_)
     refine W.call (Mp:=aaA) (eA aKw (by rw [cg];exact NB) (gE aBt awi awj awk awl aoo)) rfl (ag (ag (ag (ag ah)))) ?_
     intro v89 G86 aRZ aR0 q87
     refine match q87 with|⟨RV,auz⟩=> ?_
     subst RV
     refine W.perm (ag (ag (ag (ag ah)))).symm (g9 14 ?_)
     refine⟨.inr rfl,[_,_,_],⟨rfl,rfl,rfl,trivial⟩,_,((((aI _ _).cons _).cons _).cons _).cons _,?_⟩
     have hE:=j4 rC
     exact⟨sX hE rC nU rfl,cz.to auz (ax Prod.snd hE).symm⟩
    refine W.alloc cK (fun b92=>(W.nn (WD.a1 5 rfl (W.cM (oZ c.fan c.leaf c.aT c.bp c.rest (p:=(ai l a)) (k:=(aZ l a i)) (gE aO fk eX nr fH jO) (gE aO ny nz nC nD lg) i hq.hb hq.hr hq.uj hq.pM hq.ox hq.uk jK hq.kr) rfl (fun _ _ _ _ _ _ _ _ _ _ _ _ _ _ _ _ G93 B8 SH SI SJ SK Wc awn awo awp awq aop=>(W.nn (d9 [6,7,8,9,12,13,14] ?_)))))))
    refine g9 6 ?_
    refine W.call (Mp:=bj) (eA (cz.mono aO cC) (by exact NA) (gp SH SI SJ SK Wc)) rfl (ag (ag (ag (ag ah)))) ?_
    intro aBu aKx aD4 ZQ acP
    refine match acP with|⟨aD5,aD6⟩=> ?_
    subst aD5
    refine W.perm (ag (ag (ag (ag ah)))).symm (g9 5 ?_)
    refine W.call (Mp:=aD4) (eA aD6 (by rw [cg];exact NB) (gE ZQ awn awo awp awq aop)) rfl (ag (ag (ag (ag ah)))) ?_
    intro aR1 aBv aOQ ZR aKy
    refine match aKy with|⟨agW,aD7⟩=> ?_
    subst agW
    refine W.perm (ag (ag (ag (ag ah)))).symm (g9 14 ?_)
    refine⟨.inr rfl,[_,_,_],⟨rfl,rfl,rfl,trivial⟩,_,((((aI _ _).cons _).cons _).cons _).cons _,?_⟩
    have hE:=j4 rC
    exact⟨sX hE rC nU rfl,cz.to aD7 (ax Prod.snd hE).symm⟩
   refine W.alloc cK (fun aR2=>(W.nn ?_))
   refine WD.any [5,10] (by kernel_rfl) rfl ⟨WD.ap ?_,WD.ap ?_,trivial⟩
   ·refine W.cM (oZ c.fan c.leaf c.aT c.bp c.rest (p:=(ai l a)) (k:=(aZ l a i)) (gE aO fk eX nr fH jO) (gE aO ny nz nC nD lg) i hq.hb hq.hr hq.uj hq.pM hq.ox hq.uk jK hq.kr) rfl (fun _ _ _ _ _ _ _ _ _ _ _ _ _ _ _ _ aKz aD8 aoq aor aos aot ah3 aou aov aow aox ah4=>(W.nn (d9 [6,7,8,9] ?_)))
    refine WD.a1 10 rfl (W.alloc cK (fun aR3=>(W.nn (d9 [12,13,14] ?_))))
    refine g9 6 ?_
    refine W.call (Mp:=bj) (eA (cz.mono aO cC) (by exact NA) (gp aoq aor aos aot ah3)) rfl (ag (ag (ag (ag ah)))) ?_
    intro aHv aHw Rt vT asF
    refine match asF with|⟨aD9,Ru⟩=> ?_
    subst aD9
    refine W.perm (ag (ag (ag (ag ah)))).symm (g9 5 ?_)
    refine W.call (Mp:=Rt) (eA Ru (by rw [cg];exact NB) (gE vT aou aov aow aox ah4)) rfl (ag (ag (ag (ag ah)))) ?_
    intro aR4 aR5 aOR aOS aKA
    refine match aKA with|⟨ahN,aEa⟩=> ?_
    subst ahN
    refine W.perm (ag (ag (ag (ag ah)))).symm (g9 14 ?_)
    refine⟨.inr rfl,[_,_,_],⟨rfl,rfl,rfl,trivial⟩,_,((((aI _ _).cons _).cons _).cons _).cons _,?_⟩
    have hE:=j4 rC
    exact⟨sX hE rC nU rfl,cz.to aEa (ax Prod.snd hE).symm⟩
   refine W.alloc cK (fun aR6=>(W.nn (WD.a1 5 rfl (W.cM (oZ c.fan c.leaf c.aT c.bp c.rest (p:=(ai l a)) (k:=(aZ l a i)) (gE aO fk eX nr fH jO) (gE aO ny nz nC nD lg) i hq.hb hq.hr hq.uj hq.pM hq.ox hq.uk jK hq.kr) rfl (fun _ _ _ _ _ _ _ _ _ _ _ _ _ _ _ _ aHL atb aoy aoz aoA aoB ah5 aoC aoD aoE aoF ah6=>(W.nn (d9 [6,7,8,9,12,13,14] ?_)))))))
   refine g9 6 ?_
   refine W.call (Mp:=bj) (eA (cz.mono aO cC) (by exact NA) (gp aoy aoz aoA aoB ah5)) rfl (ag (ag (ag (ag ah)))) ?_
   intro aR7 aR8 aEb aEc auO
   refine match auO with|⟨aEd,aEe⟩=> ?_
   subst aEd
   refine W.perm (ag (ag (ag (ag ah)))).symm (g9 5 ?_)
   refine W.call (Mp:=aEb) (eA aEe (by rw [cg];exact NB) (gE aEc aoC aoD aoE aoF ah6)) rfl (ag (ag (ag (ag ah)))) ?_
   intro aR9 aSa aOT aOU aKB
   refine match aKB with|⟨RI,aEf⟩=> ?_
   subst RI
   refine W.perm (ag (ag (ag (ag ah)))).symm (g9 14 ?_)
   refine⟨.inr rfl,[_,_,_],⟨rfl,rfl,rfl,trivial⟩,_,((((aI _ _).cons _).cons _).cons _).cons _,?_⟩
   have hE:=j4 rC
   exact⟨sX hE rC nU rfl,cz.to aEf (ax Prod.snd hE).symm⟩
  ·refine W.alloc cK (fun aSb=>(W.nn ?_))
   refine WD.any [1,11] (by kernel_rfl) rfl ⟨WD.ap ?_,WD.ap ?_,trivial⟩
   ·refine W.call (Mp:=bj) (iT (cz.mono aO cC)) rfl (ag (ag (ag ah))) ?_
    intro aSc aKC aEg awr aKD
    refine match aKD with|⟨aEh,ZS⟩=> ?_
    subst aEh
    have ZS:=ZS.symm
    subst ZS
    refine W.perm (ag (ag (ag ah))).symm (W.nn ?_)
    refine WD.any [5,11] (by kernel_rfl) rfl ⟨WD.ap ?_,WD.ap ?_,trivial⟩
    ·refine W.cM (oZ c.fan c.leaf c.aT c.bp c.rest (p:=(ai l a)) (k:=(aZ l a i)) (gE aO fk eX nr fH jO) (gE aO ny nz nC nD lg) i hq.hb hq.hr hq.uj hq.pM hq.ox hq.uk jK hq.kr) rfl (fun _ _ _ _ _ _ _ _ _ _ _ _ _ _ _ _ aSd aOV aoG aoH aoI aoJ ah7 aoK aoL aoM aoN ah8=>(W.nn (d9 [6,7,8,9] ?_)))
     refine WD.a1 11 rfl (W.alloc cK (fun aSe=>(W.nn (d9 [12,13,14] ?_))))
     refine g9 6 ?_
     refine W.call (Mp:=bj) (eA (cz.mono aO cC) (by exact NA) (gp aoG aoH aoI aoJ ah7)) rfl (ag (ag (ag (ag ah)))) ?_
     intro aSf aSg aEi aEj aKE
     refine match aKE with|⟨aEk,aEl⟩=> ?_
     subst aEk
     refine W.perm (ag (ag (ag (ag ah)))).symm (g9 5 ?_)
     refine W.call (Mp:=aEi) (eA aEl (by rw [cg];exact NB) (gE aEj aoK aoL aoM aoN ah8)) rfl (ag (ag (ag (ag ah)))) ?_
     intro aSh aSi aOW aOX aKF
     refine match aKF with|⟨aEm,aEn⟩=> ?_
     subst aEm
     refine W.perm (ag (ag (ag (ag ah)))).symm (g9 14 ?_)
     refine⟨.inr rfl,[_,_,_],⟨rfl,rfl,rfl,trivial⟩,_,((((aI _ _).cons _).cons _).cons _).cons _,?_⟩
     have hE:=j4 rC
     exact⟨sX hE rC nU rfl,cz.to aEn (ax Prod.snd hE).symm⟩
    refine W.alloc cK (fun aSj=>(W.nn (WD.a1 5 rfl (W.cM (oZ c.fan c.leaf c.aT c.bp c.rest (p:=(ai l a)) (k:=(aZ l a i)) (gE aO fk eX nr fH jO) (gE aO ny nz nC nD lg) i hq.hb hq.hr hq.uj hq.pM hq.ox hq.uk jK hq.kr) rfl (fun _ _ _ _ _ _ _ _ _ _ _ _ _ _ _ _ aHX ahj aoO aoP aoQ aoR ah9 aoS aoT aoU aoV aia=>(W.nn (d9 [6,7,8,9,12,13,14] ?_)))))))
    refine g9 6 ?_
    refine W.call (Mp:=bj) (eA (cz.mono aO cC) (by exact NA) (gp aoO aoP aoQ aoR ah9)) rfl (ag (ag (ag (ag ah)))) ?_
    intro aSk aSl aEo aEp aKG
    refine match aKG with|⟨aib,aEq⟩=> ?_
    subst aib
    refine W.perm (ag (ag (ag (ag ah)))).symm (g9 5 ?_)
    refine W.call (Mp:=aEo) (eA aEq (by rw [cg];exact NB) (gE aEp aoS aoT aoU aoV aia)) rfl (ag (ag (ag (ag ah)))) ?_
    intro aH1 aH2 ahl ahm aty
    refine match aty with|⟨aEr,RK⟩=> ?_
    subst aEr
    refine W.perm (ag (ag (ag (ag ah)))).symm (g9 14 ?_)
    refine⟨.inr rfl,[_,_,_],⟨rfl,rfl,rfl,trivial⟩,_,((((aI _ _).cons _).cons _).cons _).cons _,?_⟩
    have hE:=j4 rC
    exact⟨sX hE rC nU rfl,cz.to RK (ax Prod.snd hE).symm⟩
   refine W.alloc cK (fun aSm=>(W.nn (WD.a1 1 rfl (W.call (Mp:=bj) (iT (cz.mono aO cC)) rfl (ag (ag (ag (ag ah)))) ?_))))
   intro aSn aSo aOY aOZ aKH
   refine match aKH with|⟨aEs,ZT⟩=> ?_
   subst aEs
   have ZT:=ZT.symm
   subst ZT
   refine W.perm (ag (ag (ag (ag ah)))).symm (W.nn (WD.a1 5 rfl (W.cM (oZ c.fan c.leaf c.aT c.bp c.rest (p:=(ai l a)) (k:=(aZ l a i)) (gE aO fk eX nr fH jO) (gE aO ny nz nC nD lg) i hq.hb hq.hr hq.uj hq.pM hq.ox hq.uk jK hq.kr) rfl (fun _ _ _ _ _ _ _ _ _ _ _ _ _ _ _ _ aSp aO0 aoW aoX aoY aoZ aic ao0 ao1 ao2 ao3 aid=>(W.nn (d9 [6,7,8,9,12,13,14] ?_))))))
   refine g9 6 ?_
   refine W.call (Mp:=bj) (eA (cz.mono aO cC) (by exact NA) (gp aoW aoX aoY aoZ aic)) rfl (ag (ag (ag (ag ah)))) ?_
   intro aSq aSr aEt aEu aKI
   refine match aKI with|⟨aEv,aEw⟩=> ?_
   subst aEv
   refine W.perm (ag (ag (ag (ag ah)))).symm (g9 5 ?_)
   refine W.call (Mp:=aEt) (eA aEw (by rw [cg];exact NB) (gE aEu ao0 ao1 ao2 ao3 aid)) rfl (ag (ag (ag (ag ah)))) ?_
   intro aSs aSt aO1 aO2 aKJ
   refine match aKJ with|⟨aEx,aEy⟩=> ?_
   subst aEx
   refine W.perm (ag (ag (ag (ag ah)))).symm (g9 14 ?_)
   refine⟨.inr rfl,[_,_,_],⟨rfl,rfl,rfl,trivial⟩,_,((((aI _ _).cons _).cons _).cons _).cons _,?_⟩
   have hE:=j4 rC
   exact⟨sX hE rC nU rfl,cz.to aEy (ax Prod.snd hE).symm⟩
  refine W.alloc cK (fun aSu=>(W.nn ?_))
  refine WD.any [1,10] (by kernel_rfl) rfl ⟨WD.ap ?_,WD.ap ?_,trivial⟩
  ·refine W.call (Mp:=bj) (iT (cz.mono aO cC)) rfl (ag (ag (ag ah))) ?_
   intro aSv aSw aO3 aO4 aKK
   refine match aKK with|⟨aEz,ZU⟩=> ?_
   subst aEz
   have ZU:=ZU.symm
   subst ZU
   refine W.perm (ag (ag (ag ah))).symm (W.nn ?_)
   refine WD.any [5,10] (by kernel_rfl) rfl ⟨WD.ap ?_,WD.ap ?_,trivial⟩
   ·refine W.cM (oZ c.fan c.leaf c.aT c.bp c.rest (p:=(ai l a)) (k:=(aZ l a i)) (gE aO fk eX nr fH jO) (gE aO ny nz nC nD lg) i hq.hb hq.hr hq.uj hq.pM hq.ox hq.uk jK hq.kr) rfl (fun _ _ _ _ _ _ _ _ _ _ _ _ _ _ _ _ aSx aO5 ao4 ao5 ao6 ao7 aie ao8 ao9 apa apb aif=>(W.nn (d9 [6,7,8,9] ?_)))
    refine WD.a1 10 rfl (W.alloc cK (fun aSy=>(W.nn (d9 [12,13,14] ?_))))
    refine g9 6 ?_
    refine W.call (Mp:=bj) (eA (cz.mono aO cC) (by exact NA) (gp ao4 ao5 ao6 ao7 aie)) rfl (ag (ag (ag (ag ah)))) ?_
    intro aSz aSA aEA aEB aKL
    refine match aKL with|⟨aEC,aED⟩=> ?_
    subst aEC
    refine W.perm (ag (ag (ag (ag ah)))).symm (g9 5 ?_)
    refine W.call (Mp:=aEA) (eA aED (by rw [cg];exact NB) (gE aEB ao8 ao9 apa apb aif)) rfl (ag (ag (ag (ag ah)))) ?_
    intro aSB aSC aO6 aO7 aKM
    refine match aKM with|⟨aEE,aEF⟩=> ?_
    subst aEE
    refine W.perm (ag (ag (ag (ag ah)))).symm (g9 14 ?_)
    refine⟨.inr rfl,[_,_,_],⟨rfl,rfl,rfl,trivial⟩,_,((((aI _ _).cons _).cons _).cons _).cons _,?_⟩
    have hE:=j4 rC
    exact⟨sX hE rC nU rfl,cz.to aEF (ax Prod.snd hE).symm⟩
   refine W.alloc cK (fun aSD=>(W.nn (WD.a1 5 rfl (W.cM (oZ c.fan c.leaf c.aT c.bp c.rest (p:=(ai l a)) (k:=(aZ l a i)) (gE aO fk eX nr fH jO) (gE aO ny nz nC nD lg) i hq.hb hq.hr hq.uj hq.pM hq.ox hq.uk jK hq.kr) rfl (fun _ _ _ _ _ _ _ _ _ _ _ _ _ _ _ _ aSE aO8 apc apd ape apf aih apg aph api apj aii=>(W.nn (d9 [6,7,8,9,12,13,14] ?_)))))))
   refine g9 6 ?_
   refine W.call (Mp:=bj) (eA (cz.mono aO cC) (by exact NA) (gp apc apd ape apf aih)) rfl (ag (ag (ag (ag ah)))) ?_
   intro aSF aSG aEG aEH aKN
   refine match aKN with|⟨aEI,aEJ⟩=> ?_
   subst aEI
   refine W.perm (ag (ag (ag (ag ah)))).symm (g9 5 ?_)
   refine W.call (Mp:=aEG) (eA aEJ (by rw [cg];exact NB) (gE aEH apg aph api apj aii)) rfl (ag (ag (ag (ag ah)))) ?_
   intro aSH aSI aO9 aPa aKO
   refine match aKO with|⟨aEK,aEL⟩=> ?_
   subst aEK
   refine W.perm (ag (ag (ag (ag ah)))).symm (g9 14 ?_)
   refine⟨.inr rfl,[_,_,_],⟨rfl,rfl,rfl,trivial⟩,_,((((aI _ _).cons _).cons _).cons _).cons _,?_⟩
   have hE:=j4 rC
   exact⟨sX hE rC nU rfl,cz.to aEL (ax Prod.snd hE).symm⟩
  refine W.alloc cK (fun aSJ=>(W.nn (WD.a1 1 rfl (W.call (Mp:=bj) (iT (cz.mono aO cC)) rfl (ag (ag (ag (ag ah)))) ?_))))
  intro aSK aSL aPb aPc aKP
  refine match aKP with|⟨aEM,ZV⟩=> ?_
  subst aEM
  have ZV:=ZV.symm
  subst ZV
  refine W.perm (ag (ag (ag (ag ah)))).symm (W.nn (WD.a1 5 rfl (W.cM (oZ c.fan c.leaf c.aT c.bp c.rest (p:=(ai l a)) (k:=(aZ l a i)) (gE aO fk eX nr fH jO) (gE aO ny nz nC nD lg) i hq.hb hq.hr hq.uj hq.pM hq.ox hq.uk jK hq.kr) rfl (fun _ _ _ _ _ _ _ _ _ _ _ _ _ _ _ _ aSM aPd apk apl apm apn aij apo apq apr aps aik=>(W.nn (d9 [6,7,8,9,12,13,14] ?_))))))
  refine g9 6 ?_
  refine W.call (Mp:=bj) (eA (cz.mono aO cC) (by exact NA) (gp apk apl apm apn aij)) rfl (ag (ag (ag (ag ah)))) ?_
  intro aSN aSO aEN aEO aKQ
  refine match aKQ with|⟨aEP,aEQ⟩=> ?_
  subst aEP
  refine W.perm (ag (ag (ag (ag ah)))).symm (g9 5 ?_)
  refine W.call (Mp:=aEN) (eA aEQ (by rw [cg];exact NB) (gE aEO apo apq apr aps aik)) rfl (ag (ag (ag (ag ah)))) ?_
  intro aSP aSQ aPe aPf aKR
  refine match aKR with|⟨aER,aES⟩=> ?_
  subst aER
  refine W.perm (ag (ag (ag (ag ah)))).symm (g9 14 ?_)
  refine⟨.inr rfl,[_,_,_],⟨rfl,rfl,rfl,trivial⟩,_,((((aI _ _).cons _).cons _).cons _).cons _,?_⟩
  have hE:=j4 rC
  exact⟨sX hE rC nU rfl,cz.to aES (ax Prod.snd hE).symm⟩
 try dsimp only at rC
 refine g9 6 ?_
 refine WC.cd (fun h74 ZW=> ?_) (fun h74 ZW=> ?_)
 ·try dsimp only at ZW
  refine g9 13 ?_
  refine⟨.inr rfl,[_,_,_],⟨rfl,rfl,rfl,trivial⟩,_,((aI _ _).cons _).cons _,?_⟩
  have hE:=sW ZW
  exact⟨sX hE ZW rfl rfl,cz.to (cz.mono aO cC) (ax Prod.snd hE).symm⟩
 try dsimp only at ZW
 refine g9 14 ?_
 refine⟨.inr rfl,[_,_,_],⟨rfl,rfl,rfl,trivial⟩,_,((aI _ _).cons _).cons _,?_⟩
 have hE:=uh (arK TY rC ZW)
 exact⟨sX hE (arK TY rC ZW) nU rfl,cz.to (cz.mono aO cC) (ax Prod.snd hE).symm⟩

theorem apt{c c2:aX}(cC:cz 98 4 3 149 100 bA c G l bj)(t:Tree c2 l ss)(a:Int)(k:af)(LL:c=c2)(ha:0≤a∧a<(l.length:Int)):
    Fc Tryz.prog 73 [aC bA,iV a,sV k.b] G bj (fun v G' M'=>v=.tuple #[iV (cU c l a k).1.1,iV (cU c l a k).1.2.1,iV (cU c l a k).1.2.2]∧cz 98 4 3 149 100 bA c G' (cU c l a k).2 M'):=by
 subst LL
 have LL:c=c:=rfl
 obtain⟨P9,hP9,eP9⟩:=t.qb ha
 have hPR:=(t.gz hP9).1
 rw [eP9]at hPR
 have hPD:XK (ai l a):=Gr t.kd hPR
 have hcp:Gj (ai l a):=abI hPR hPD
 have aKt:((ai l a).kids.length:Int)≤4000:=by have:=hPD.1;omega
 refine Fc.go [.tmp 6,.tmp 7,.tmp 8] Tryz.func73 Tryz.ntmps73 rfl (fun w0=>(WC.perm (M':=(bj++[])) (by simp) (g9 11 ?_)))
 refine W.ok (fx HM rfl rfl) (g9 9 ?_)
 refine W.call (Mp:=bj) (pq cC a) rfl ah ?_
 intro v12 G9 aSR Nu q10
 refine match q10 with|⟨⟨_,Rj,⟨_,_,_,_,_,_,_,_,z4,aet,aeu,aev,aew,Wo⟩⟩,ail⟩=> ?_
 subst Rj
 subst z4
 have ail:=ail.symm
 subst ail
 refine g9 3 ?_
 refine W.alloc cK (fun b16=>(g9 11 ?_))
 refine WC.cn (fun AI pH=> ?_) (fun AI pH=> ?_)
 ·try dsimp only at pH
  exact absurd ha pH
 try dsimp only at pH
 refine g9 3 ?_
 refine WC.dw iD.k9 (d9 [0,2,3] ?_)
 refine WD.a1 1 rfl (W.call (Mp:=bj) (iT (cz.mono Nu cC)) rfl (ag ah) ?_)
 intro v20 TU BO B6 Ny
 refine match Ny with|⟨Aa,aim⟩=> ?_
 subst Aa
 have aim:=aim.symm
 subst aim
 refine W.perm (ag ah).symm (W.nn (WD.a1 4 rfl (W.aH (ad0 c.fan c.leaf c.aT c.bp c.rest (n:=(ai l a)) (gE B6 aet aeu aev aew Wo) k hcp) rfl (W.nn (d9 [5,6,7,8,9] ?_)))))
 refine g9 15 ?_
 refine WC.cd (fun h35 JV=> ?_) (fun h35 JV=> ?_)
 ·try dsimp only at JV
  refine g9 3 ?_
  refine W.call (Mp:=bj) (Wj (cz.mono aO cC) t) rfl (ag ah) ?_
  intro v26 G23 aBw aex q24
  refine match q24 with|⟨acz,V3⟩=> ?_
  subst acz
  refine W.perm (ag ah).symm (g9 9 ?_)
  refine WC.cn (fun pY GO=> ?_) (fun pY GO=> ?_)
  ·try dsimp only at GO
   refine g9 12 ?_
   refine⟨.inr rfl,[_,_,_],⟨rfl,rfl,rfl,trivial⟩,_,(aI _ _).cons _,?_⟩
   have hE:=pi JV GO
   exact⟨sX hE rfl rfl rfl,cz.to V3 (ax Prod.snd hE).symm⟩
  try dsimp only at GO
  refine g9 13 ?_
  refine⟨.inr rfl,[_,_,_],⟨rfl,rfl,rfl,trivial⟩,_,(aI _ _).cons _,?_⟩
  have hE:=ph JV aa
  exact⟨sX hE JV rfl rfl,cz.to V3 (ax Prod.snd hE).symm⟩
 try dsimp only at JV
 refine g9 6 ?_
 refine WC.cd (fun h43 SX=> ?_) (fun h43 SX=> ?_)
 ·try dsimp only at SX
  have ve:=kK (k:=k) t ha SX
  refine g9 5 ?_
  refine W.call (Mp:=bj) (awc (cz.mono aO cC) t (a:=a) (gE B6 aet aeu aev aew Wo) (bI c (ai l a) k).2 LL ha ve.1 ve.2 ⟨by have:=ve.2;omega,by have:=ve.2;omega⟩) rfl (ag ah) ?_
  intro YW Jl oC tH LA
  refine match LA with|⟨tp,Wp⟩=> ?_
  subst tp
  refine W.perm (ag ah).symm (g9 11 ?_)
  refine⟨.inr rfl,[_,_,_],⟨rfl,rfl,rfl,trivial⟩,_,(aI _ _).cons _,?_⟩
  have hE:=n6 SX
  exact⟨ax (fun q:(Int×Int×Int)×List Nd=>Value.tuple #[iV q.1.1,iV q.1.2.1,iV q.1.2.2]) hE.symm,cz.to Wp (ax Prod.snd hE).symm⟩
 try dsimp only at SX
 refine g9 13 ?_
 refine⟨.inr rfl,[_,_,_],⟨rfl,rfl,rfl,trivial⟩,_,(aI _ _).cons _,?_⟩
 have hE:=nZ (arL JV SX)
 exact⟨sX hE (arL JV SX) rfl rfl,cz.to (cz.mono aO cC) (ax Prod.snd hE).symm⟩

theorem S4{c c2:aX}(cC:cz 98 4 3 149 100 bA c G l bj)(t:Tree c2 l ss)(k:af)(LL:c=c2)(N:Nat)(r:Int×Int×List Nd)(hr:n7 c k N l 0 0=some r)(hN:N≤1000000):
    Fc Tryz.prog 32 [aC bA,sV k.b] G bj (fun v G' M'=>v=.tuple #[iV r.1,iV r.2.1]∧cz 98 4 3 149 100 bA c G' r.2.2 M'):=by
 subst LL
 have htp:=t.pos
 refine Fc.go [.tmp 4,.tmp 5] Tryz.func32 Tryz.ntmps32 rfl (fun w0=>(WC.perm (M':=(bj++[])) (by simp) (g9 17 ?_)))
 refine WC.loop (X:=(Nat×List Nd×Int×Int)×MH) (fun x=>[(6,iV x.1.2.2.2),(7,iV x.1.2.2.1),(1,sV k.b),(0,aC bA)]) (fun x G Ml=>Ml=(x.2++[])∧cz 98 4 3 149 100 bA c G (x.1.2.1) x.2∧n7 c k x.1.1 x.1.2.1 x.1.2.2.1 x.1.2.2.2=some r∧(∃T,Tree c x.1.2.1 T)∧(0≤x.1.2.2.1∧x.1.2.2.1<(x.1.2.1.length:Int))∧0≤x.1.2.2.2∧x.1.2.2.2+(x.1.1:Int)≤1000000) (fun x=>x.1.1) (((N,l,0,0):Nat×List Nd×Int×Int),bj) ct ?_ ?_
 ·exact⟨rfl,(by exact cC),hr,⟨ss,t⟩,⟨by dsimp only;omega,by dsimp only;omega⟩,by dsimp only;omega,by dsimp only;omega⟩
 rintro⟨⟨m,L,a,n⟩,Km⟩ Xe G1 _ pX ⟨rfl,g0,hcy,hTr,haL,AO,hnm⟩
 try dsimp only at g0 hcy hTr haL AO hnm
 obtain⟨T8,t9⟩:=hTr
 have hm1:0<m:=by
   rcases Nat.eq_zero_or_pos m with h|h
   ·rw [h]at hcy;cases hcy
   exact h
 rw [show m=m-1+1 by omega]at hcy
 have mA:=m6 t9 haL k
 obtain⟨T9,hT9,aSS⟩:=lL t9 haL k
 refine WC.fr (f:=gk Xe [(6,iV n),(7,iV a),(1,sV k.b),(0,aC bA)]) rfl (g9 6 ?_)
 refine W.call (Mp:=Km) (apt g0 t9 a k rfl haL) rfl ah ?_
 intro v5 G2 H6 lJ q3
 refine match q3 with|⟨DB,hR6⟩=> ?_
 subst DB
 refine g9 22 ?_
 refine WC.cd (fun AI pH=> ?_) (fun AI pH=> ?_)
 ·try dsimp only at pH
  refine g9 14 ?_
  refine⟨.inr rfl,[_,_],⟨rfl,rfl,trivial⟩,_,aI _ _,?_⟩
  have hE:=Hx ((jk pH).symm.trans hcy)
  exact⟨ax (fun q:Int×Int×List Nd=>Value.tuple #[iV q.1,iV q.2.1]) hE,cz.to hR6 (ax (fun q:Int×Int×List Nd=>q.2.2) hE)⟩
 try dsimp only at pH
 refine g9 6 ?_
 refine WC.cd (fun Cx w8=> ?_) (fun Cx w8=> ?_)
 ·try dsimp only at w8
  refine g9 9 ?_
  exact⟨lJ,(((m-1,(cU c L a k).2,(cU c L a k).1.2.1,n):Nat×List Nd×Int×Int),H6),ct,⟨rfl,(by exact hR6),(mc w8).symm.trans hcy,⟨_,hT9⟩,mA,by dsimp only;omega,by dsimp only;omega⟩,by dsimp only;omega⟩
 try dsimp only at w8
 refine g9 13 ?_
 exact⟨lJ,(((m-1,(cU c L a k).2,(cU c L a k).1.2.1,n+1):Nat×List Nd×Int×Int),H6),ct,⟨rfl,(by exact hR6),(ke pH w8).symm.trans hcy,⟨_,hT9⟩,mA,by dsimp only;omega,by dsimp only;omega⟩,by dsimp only;omega⟩

variable {ms:List aD} {dH:Value} {yw:Value}
theorem ain{l:List aG}(aQ:az aU G dH l)(k:af)(rZ:az dy G yw ms)(hP:bc l)(hm:∀m∈ms,m.key.b.size<140737488355328∧m.val.b.size≤16):
    Fc Tryz.prog 82 [dH,sV k.b,yw] G [] (fun v _ _=>v=.tuple #[sV (af.b ((bG.apply (ln ms k) (bz l k)).getD af.nil)),.bool ((bG.apply (ln ms k) (bz l k)).isSome)]):=by
 obtain⟨dz,dA,rfl⟩:=aQ.form
 obtain⟨xc,xd,rfl⟩:=rZ.form
 have hr:=hP.o8
 have hgv:=hP.val k
 have hov:=Kj ms k (fun m h=>(hm m h).2)
 have hos:=Uq (bz l k)
 refine Fc.go [.tmp 6,.tmp 7] Tryz.func82 Tryz.ntmps82 rfl (fun w0=>(g9 10 ?_))
 refine W.aH (aay aQ _ (by assumption)) rfl (g9 11 ?_)
 refine W.aH (ama rZ _ (by assumption)) rfl (g9 2 ?_)
 refine W.aH (AH (ln ms k).kind (ln ms k).val (bz l k).isSome ((bz l k).getD af.nil) aa aa) rfl (g9 14 ?_)
 refine WC.cond rfl (fun ya=> ?_) (fun ya=> ?_)
 ·refine g9 9 ?_
  show Value.tuple #[Value.string _,Value.bool _]=_
  have hx:bG.apply (⟨(ln ms k).kind,(ln ms k).val⟩:bG) (kG (bz l k).isSome ((bz l k).getD af.nil))=bG.apply (ln ms k) (bz l k):=by rw [hos]
  rw [hx]at ya
  have e:bG.apply (ln ms k) (bz l k)=none:=by simpa using ya
  rw [e];rfl
 refine g9 11 ?_
 show Value.tuple #[Value.string _,Value.bool _]=_
 have hx:bG.apply (⟨(ln ms k).kind,(ln ms k).val⟩:bG) (kG (bz l k).isSome ((bz l k).getD af.nil))=bG.apply (ln ms k) (bz l k):=by rw [hos]
 rw [hx]at ya
 have e:(bG.apply (ln ms k) (bz l k)).isSome=true:=by simpa using ya
 rw [hx,e]

theorem aio{l:List aG}(aQ:az aU G dH l)(k:af)(rZ:az dy G yw ms)(hP:bc l)(hm:∀m∈ms,m.key.b.size<140737488355328∧m.val.b.size≤16):
    Fc Tryz.prog 49 [dH,sV k.b,yw] G [] (fun v _ _=>v=.tuple #[sV (af.b ((bG.apply (ln ms k) (bz l k)).getD af.nil)),.bool ((bG.apply (ln ms k) (bz l k)).isSome)]):=by
 obtain⟨dz,dA,rfl⟩:=aQ.form
 obtain⟨xc,xd,rfl⟩:=rZ.form
 have hr:=hP.o8
 have hgv:=hP.val k
 have hov:=Kj ms k (fun m h=>(hm m h).2)
 have hos:=Uq (bz l k)
 refine Fc.go [.tmp 6,.tmp 7] Tryz.func49 Tryz.ntmps49 rfl (fun w0=>(g9 11 ?_))
 refine W.aH (ain aQ _ rZ (by assumption) (by assumption)) rfl (g9 8 ?_)
 rfl

theorem aip(pk:Int)(aL:af)(bK:af)(po:Bool)(pv:af)(pl:Int):
    Fc Tryz.prog 45 [.agg #[iV pk,sV aL.b,sV bK.b,.bool po,sV pv.b,iV pl]] G [] (fun v _ _=>v=.bool (decide (pk=1∨pk=2))):=by
 refine Fc.go [.tmp 2] Tryz.func45 Tryz.ntmps45 rfl (fun w0=>(g9 2 ?_))
 refine W.box (L:=[iV _,sV _,sV _,.bool _,sV _,iV _]) rfl rfl (fun b1=>(g9 9 ?_))
 refine W.sd 6 (fun h5 p5=> ?_) (fun h5 p5=> ?_)
 ·refine g9 9 ?_
  refine ax Value.bool ?_
  simp_all
 refine g9 12 ?_
 refine ax Value.bool ?_
 simp_all

theorem S5(pk:Int)(aL:af)(bK:af)(po:Bool)(pv:af)(pl:Int):
    Fc Tryz.prog 46 [.agg #[iV pk,sV aL.b,sV bK.b,.bool po,sV pv.b,iV pl]] G [] (fun v _ _=>v=.bool (decide (pk=4∨pk=6))):=by
 refine Fc.go [.tmp 2] Tryz.func46 Tryz.ntmps46 rfl (fun w0=>(g9 2 ?_))
 refine W.box (L:=[iV _,sV _,sV _,.bool _,sV _,iV _]) rfl rfl (fun b2=>(g9 9 ?_))
 refine W.sd 6 (fun h5 p5=> ?_) (fun h5 p5=> ?_)
 ·refine g9 9 ?_
  refine ax Value.bool ?_
  simp_all
 refine g9 12 ?_
 refine ax Value.bool ?_
 simp_all

theorem aiq(pk:Int)(aL:af)(bK:af)(po:Bool)(pv:af)(pl:Int):
    Fc Tryz.prog 66 [.agg #[iV pk,sV aL.b,sV bK.b,.bool po,sV pv.b,iV pl]] G [] (fun v _ _=>v=.bool (decide (1≤pk∧pk≤4))):=by
 refine Fc.go [.tmp 2] Tryz.func66 Tryz.ntmps66 rfl (fun w0=>(g9 2 ?_))
 refine W.box (L:=[iV _,sV _,sV _,.bool _,sV _,iV _]) rfl rfl (fun b3=>(g9 9 ?_))
 refine W.sd 6 (fun h5 p5=> ?_) (fun h5 p5=> ?_)
 ·refine g9 12 ?_
  refine ax Value.bool ?_
  first|(simp_all;done)|(simp_all;omega)
 refine g9 9 ?_
 refine ax Value.bool ?_
 first|(simp_all;done)|(simp_all;omega)

theorem Bo(pk:Int)(aL:af)(bK:af)(po:Bool)(pv:af)(pl:Int)(hk:aL.b.size<140737488355328):
    Fc Tryz.prog 23 [.agg #[iV pk,sV aL.b,sV bK.b,.bool po,sV pv.b,iV pl]] G [] (fun v _ _=>v=.agg (List.toArray ((bx.span (⟨pk,aL,bK,po,pv,pl⟩:bx)).cells))):=by
 refine Fc.go [.cell 2 73] Tryz.func23 Tryz.ntmps23 rfl (fun w0=>(g9 2 ?_))
 refine W.box (L:=[iV _,sV _,sV _,.bool _,sV _,iV _]) rfl rfl (fun b4=>(W.alloc fR (fun b5=>(g9 6 ?_))))
 refine W.aH (S5 _ _ _ _ _ _) rfl (g9 2 ?_)
 refine WC.cond rfl (fun h4=> ?_) (fun h4=> ?_)
 ·refine g9 8 ?_
  refine W.ok (aY (L:=[sV _,sV _,.bool _]) zm fR rfl rfl rfl) (g9 6 ?_)
  refine ax (fun l=>Value.agg (List.toArray l)) ?_
  rw [bx.span,if_pos (Cu h4)];rfl
 refine g9 6 ?_
 refine W.aH (Ua _ (by first|assumption|omega|(dsimp only;omega))) rfl (g9 5 ?_)
 refine ax (fun l=>Value.agg (List.toArray l)) ?_
 rw [bx.span,if_neg (OU h4)];try rfl

theorem DJ(pk:Int)(aL:af)(bK:af)(po:Bool)(pv:af)(pl:Int):
    Fc Tryz.prog 20 [.agg #[iV pk,sV aL.b,sV bK.b,.bool po,sV pv.b,iV pl]] G [] (fun v _ _=>v=iV (if bx.R (⟨pk,aL,bK,po,pv,pl⟩:bx)then 0 else 3)):=by
 have h1:=aL.le
 have h2:=bK.le
 have h3:=pv.le
 have hn:∀s:af,s.b=⟨#[]⟩↔s=af.nil:=fun s=>⟨fun h=>af.ext' h,fun h=>by rw [h];rfl⟩
 refine Fc.go [.tmp 2] Tryz.func20 Tryz.ntmps20 rfl (fun w0=>(g9 2 ?_))
 refine W.box (L:=[iV _,sV _,sV _,.bool _,sV _,iV _]) rfl rfl (fun b1=>(g9 3 ?_))
 refine WC.join (X:=Bool) (fun ok=>[(3,.bool ok),(1,aC b1)]) (fun ok _ Ml=>Ml=[(b1,ar 35 [iV pk,sV aL.b,sV bK.b,.bool po,sV pv.b,iV pl])]∧ok=decide (1≤pk∧pk≤6∧aL.b.size≤16∧bK.b.size≤16∧pv.b.size≤16)) ?_ ?_
 ·refine g9 5 ?_
  refine W.sd 7 (fun h6 p6=> ?_) (fun h6 p6=> ?_)
  ·refine g9 8 ?_
   refine W.sd 12 (fun ir ry=> ?_) (fun ir ry=> ?_)
   ·refine g9 5 ?_
    refine W.aH (O1 _) rfl (g9 2 ?_)
    refine W.sp 17 rfl (fun tQ=> ?_) (fun tQ=> ?_)
    ·have k15:=Cu tQ
     refine g9 5 ?_
     refine W.aH (O1 _) rfl (g9 2 ?_)
     refine W.sp 22 rfl (fun j1=> ?_) (fun j1=> ?_)
     ·have k20:=Cu j1
      refine g9 5 ?_
      refine W.aH (afr _) rfl (g9 4 ?_)
      exact⟨Le.rfl,_,ct,⟨rfl,(by rw [eZ,ia];first|(simp_all;done)|(simp_all;omega)|grind)⟩⟩
     refine g9 7 ?_
     exact⟨Le.rfl,_,ct,⟨rfl,(by rw [eZ,ia];first|(simp_all;done)|(simp_all;omega)|grind)⟩⟩
    refine g9 12 ?_
    exact⟨Le.rfl,_,ct,⟨rfl,(by rw [eZ,ia];first|(simp_all;done)|(simp_all;omega)|grind)⟩⟩
   refine g9 17 ?_
   exact⟨Le.rfl,_,ct,⟨rfl,(by rw [eZ,ia];first|(simp_all;done)|(simp_all;omega)|grind)⟩⟩
  refine g9 22 ?_
  exact⟨Le.rfl,_,ct,⟨rfl,(by rw [eZ,ia];first|(simp_all;done)|(simp_all;omega)|grind)⟩⟩
 rintro ok gG2 G2 _ lJ ⟨rfl,dI⟩
 refine WC.join (X:=Bool) (fun ok=>[(3,.bool ok),(1,aC b1)]) (fun ok _ Ml=>Ml=[(b1,ar 35 [iV pk,sV aL.b,sV bK.b,.bool po,sV pv.b,iV pl])]∧ok=decide (1≤pk∧pk≤6∧aL.b.size≤16∧bK.b.size≤16∧pv.b.size≤16∧(2<pk→pv=af.nil)∧(po=false∨bK=af.nil))) ?_ ?_
 ·refine g9 3 ?_
  refine W.sp 28 rfl (fun yb=> ?_) (fun yb=> ?_)
  ·have hP:=Cu (dI.symm.trans yb)
   have ni:aL.b.size<140737488355328:=by omega
   refine g9 3 ?_
   refine W.aH (aip _ _ _ _ _ _) rfl (g9 2 ?_)
   refine W.sp 31 rfl (fun vU=> ?_) (fun vU=> ?_)
   ·refine g9 15 ?_
    refine W.sp 41 rfl (fun YJ=> ?_) (fun YJ=> ?_)
    ·refine g9 9 ?_
     exact⟨Le.rfl,_,ct,⟨rfl,(by rw [eZ,ia];first|(simp_all;done)|(simp_all;omega)|grind)⟩⟩
    refine g9 12 ?_
    exact⟨Le.rfl,_,ct,⟨rfl,(by rw [eZ,ia];first|(simp_all;done)|(simp_all;omega)|grind)⟩⟩
   refine g9 10 ?_
   refine W.sd 37 (fun Xb Kf=> ?_) (fun Xb Kf=> ?_)
   ·refine g9 8 ?_
    refine W.sp 41 rfl (fun YJ=> ?_) (fun YJ=> ?_)
    ·refine g9 9 ?_
     exact⟨Le.rfl,_,ct,⟨rfl,(by rw [eZ,ia];first|(simp_all;done)|(simp_all;omega)|grind)⟩⟩
    refine g9 12 ?_
    exact⟨Le.rfl,_,ct,⟨rfl,(by rw [eZ,ia];first|(simp_all;done)|(simp_all;omega)|grind)⟩⟩
   refine g9 12 ?_
   exact⟨Le.rfl,_,ct,⟨rfl,(by rw [eZ,ia];first|(simp_all;done)|(simp_all;omega)|grind)⟩⟩
  refine g9 21 ?_
  exact⟨Le.rfl,_,ct,⟨rfl,(by rw [eZ,ia];first|(simp_all;done)|(simp_all;omega)|grind)⟩⟩
 rintro ok gG3 G3 _ TV ⟨rfl,dI⟩
 refine WC.join (X:=Bool) (fun ok=>[(3,.bool ok),(1,aC b1)]) (fun ok _ Ml=>Ml=[(b1,ar 35 [iV pk,sV aL.b,sV bK.b,.bool po,sV pv.b,iV pl])]∧ok=decide (1≤pk∧pk≤6∧aL.b.size≤16∧bK.b.size≤16∧pv.b.size≤16∧(2<pk→pv=af.nil)∧(po=false∨bK=af.nil)∧if pk=4∨pk=6 then(bx.span (⟨pk,aL,bK,po,pv,pl⟩:bx)).empty=false else bK=af.nil∧po=false)) ?_ ?_
 ·refine g9 3 ?_
  refine W.aH (S5 _ _ _ _ _ _) rfl (g9 2 ?_)
  refine WC.cond rfl (fun h48=> ?_) (fun h48=> ?_)
  ·refine g9 3 ?_
   refine W.sp 50 rfl (fun yb=> ?_) (fun yb=> ?_)
   ·have hP:=Cu (dI.symm.trans yb)
    have ni:aL.b.size<140737488355328:=by omega
    refine g9 3 ?_
    refine W.aH (Bo _ _ _ _ _ _ (by first|assumption|omega|(dsimp only;omega))) rfl (g9 1 ?_)
    refine W.aH (pW _ _ _) rfl (g9 6 ?_)
    exact⟨Le.rfl,_,ct,⟨rfl,(by rw [eZ,ia];show(!(bx.span (⟨pk,aL,bK,po,pv,pl⟩:bx)).empty)=true↔_;rw [if_pos (Cu h48)];first|(simp_all;done)|(simp_all;omega)|grind)⟩⟩
   refine g9 8 ?_
   exact⟨Le.rfl,_,ct,⟨rfl,(by refine(gr fun h=>OU (dI.symm.trans yb) ?_).symm;obtain⟨a,b,c,d,e,f,g,_⟩:=h;exact⟨a,b,c,d,e,f,g⟩)⟩⟩
  refine g9 3 ?_
  refine W.sp 57 rfl (fun yb=> ?_) (fun yb=> ?_)
  ·have hP:=Cu (dI.symm.trans yb)
   have ni:aL.b.size<140737488355328:=by omega
   refine g9 8 ?_
   refine W.sd 62 (fun h60 p60=> ?_) (fun h60 p60=> ?_)
   ·refine g9 10 ?_
    exact⟨Le.rfl,_,ct,⟨rfl,(by rw [eZ,ia];rw [if_neg (OU h48)];first|(simp_all;done)|(simp_all;omega)|grind)⟩⟩
   refine g9 7 ?_
   exact⟨Le.rfl,_,ct,⟨rfl,(by rw [eZ,ia];rw [if_neg (OU h48)];first|(simp_all;done)|(simp_all;omega)|grind)⟩⟩
  refine g9 12 ?_
  exact⟨Le.rfl,_,ct,⟨rfl,(by rw [eZ,ia];rw [if_neg (OU h48)];first|(simp_all;done)|(simp_all;omega)|grind)⟩⟩
 rintro ok gG4 G4 _ Jh ⟨rfl,dI⟩
 refine WC.join (X:=Bool) (fun ok=>[(3,.bool ok)]) (fun ok _ Ml=>Ml=[(b1,ar 35 [iV pk,sV aL.b,sV bK.b,.bool po,sV pv.b,iV pl])]∧ok=decide (bx.R (⟨pk,aL,bK,po,pv,pl⟩:bx))) ?_ ?_
 ·refine g9 7 ?_
  refine WC.cd (fun h69 p69=> ?_) (fun h69 p69=> ?_)
  ·refine g9 3 ?_
   refine W.sp 71 rfl (fun yb=> ?_) (fun yb=> ?_)
   ·have hP:=Cu (dI.symm.trans yb)
    have ni:aL.b.size<140737488355328:=by omega
    refine g9 8 ?_
    refine W.sd 76 (fun h74 ZW=> ?_) (fun h74 ZW=> ?_)
    ·refine g9 10 ?_
     exact⟨Le.rfl,_,ct,⟨rfl,(by rw [eZ,ia];simp only [bx.R];first|(simp_all;done)|(simp_all;omega)|grind)⟩⟩
    refine g9 7 ?_
    exact⟨Le.rfl,_,ct,⟨rfl,(by rw [eZ,ia];simp only [bx.R];first|(simp_all;done)|(simp_all;omega)|grind)⟩⟩
   refine g9 12 ?_
   exact⟨Le.rfl,_,ct,⟨rfl,(by rw [eZ,ia];simp only [bx.R];first|(simp_all;done)|(simp_all;omega)|grind)⟩⟩
  refine g9 3 ?_
  refine W.sp 82 rfl (fun yb=> ?_) (fun yb=> ?_)
  ·have hP:=Cu (dI.symm.trans yb)
   have ni:aL.b.size<140737488355328:=by omega
   refine g9 10 ?_
   exact⟨Le.rfl,_,ct,⟨rfl,(by rw [eZ,ia];simp only [bx.R];first|(simp_all;done)|(simp_all;omega)|grind)⟩⟩
  refine g9 7 ?_
  exact⟨Le.rfl,_,ct,⟨rfl,(by rw [eZ,ia];simp only [bx.R];first|(simp_all;done)|(simp_all;omega)|grind)⟩⟩
 rintro ok gG5 G5 _ hG5 ⟨rfl,dI⟩
 refine g9 7 ?_
 refine WC.cond rfl (fun h88=> ?_) (fun h88=> ?_)
 ·refine g9 8 ?_
  refine ax (Value.int .i64) ?_
  subst dI
  rw [if_neg (by simpa using h88)]
 refine g9 9 ?_
 refine ax (Value.int .i64) ?_
 subst dI
 rw [if_pos (by simpa using h88)]

theorem air(pk:Int)(aL:af)(bK:af)(po:Bool)(pv:af)(pl:Int)(n:Int):
    Fc Tryz.prog 15 [.agg #[iV pk,sV aL.b,sV bK.b,.bool po,sV pv.b,iV pl],iV n] G [] (fun v _ _=>v=.bool (decide ((aL.b.size:Int)≤n∧(bK.b.size:Int)≤n∧(pv.b.size:Int)≤n))):=by
 have h1:=aL.le
 have h2:=bK.le
 have h3:=pv.le
 refine Fc.go [.tmp 4] Tryz.func15 Tryz.ntmps15 rfl (fun w0=>(g9 2 ?_))
 refine W.box (L:=[iV _,sV _,sV _,.bool _,sV _,iV _]) rfl rfl (fun b6=>(g9 11 ?_))
 refine W.sd 10 (fun h9 p9=> ?_) (fun h9 p9=> ?_)
 ·refine g9 12 ?_
  refine W.sd 17 (fun tQ zo=> ?_) (fun tQ zo=> ?_)
  ·refine g9 16 ?_
   refine ax Value.bool ?_
   first|(simp_all;done)|(simp_all;omega)|(simp_all;intros;omega)
  refine g9 11 ?_
  refine ax Value.bool ?_
  first|(simp_all;done)|(simp_all;omega)|(simp_all;intros;omega)
 refine g9 18 ?_
 refine ax Value.bool ?_
 first|(simp_all;done)|(simp_all;omega)|(simp_all;intros;omega)

theorem VP(pk:Int)(aL:af)(bK:af)(po:Bool)(pv:af)(pl:Int)(s:Int)(hR:bx.R (⟨pk,aL,bK,po,pv,pl⟩:bx))(IN:pk≤4)(hs:1≤s):
    Fc Tryz.prog 29 [.agg #[iV pk,sV aL.b,sV bK.b,.bool po,sV pv.b,iV pl],iV s] G [] (fun v _ _=>v=.tuple #[.agg (List.toArray ((bx.msg (⟨pk,aL,bK,po,pv,pl⟩:bx) s).cells)),.bool (true)]):=by
 have wD:=hR.1.1
 dsimp only at wD
 refine Fc.go [.cell 4 81,.tmp 5] Tryz.func29 Tryz.ntmps29 rfl (fun w0=>(g9 2 ?_))
 refine W.box (L:=[iV _,sV _,sV _,.bool _,sV _,iV _]) rfl rfl (fun b1=>(W.alloc gL (fun b2=>(g9 7 ?_))))
 refine W.aH (DJ _ _ _ _ _ _) rfl (g9 2 ?_)
 refine W.sm 9 (fun h8 p8=> ?_) (fun h8 p8=> ?_)
 ·simp [hR]at h8
 refine g9 3 ?_
 refine W.aH (aiq _ _ _ _ _ _) rfl (g9 4 ?_)
 refine W.sp 14 rfl (fun jC=> ?_) (fun jC=> ?_)
 ·simp only [kV,lR]at jC
  exfalso;omega
 refine g9 7 ?_
 refine WC.cd (fun iQ mz=> ?_) (fun iQ mz=> ?_)
 ·exfalso;omega
 refine g9 15 ?_
 refine W.ok (aY (L:=[iV _,iV _,sV _,sV _,.bool _,sV _]) apY gL rfl rfl rfl) (g9 6 ?_)
 rfl

theorem aey{c c2:aX}(cC:cz 98 4 3 149 100 bA c G l bj)(t:Tree c2 l ss)(pk:Int)(aL:af)(bK:af)(po:Bool)(pv:af)(pl:Int)(LL:c=c2)(hR:bx.R (⟨pk,aL,bK,po,pv,pl⟩:bx))(IN:pk≤4)(hsn:0≤(ai l 0).seen∧(ai l 0).seen≤1000000000000):
    Fc Tryz.prog 87 [aC bA,.agg #[iV pk,sV aL.b,sV bK.b,.bool po,sV pv.b,iV pl]] G bj (fun v G' M'=>(∃cs,v=.tuple #[.agg (List.toArray cs),iV (dD c l (⟨pk,aL,bK,po,pv,pl⟩:bx)).2.1]∧cc G' cs (wb c l (⟨pk,aL,bK,po,pv,pl⟩:bx)))∧M'=bj):=by
 subst LL
 have hp9:=t.pos
 have FZ:1≤(ai l 0).seen+1:=by omega
 have si:i64 ((ai l 0).seen+1):=⟨aa,aa⟩
 have uW:aD.R ((⟨pk,aL,bK,po,pv,pl⟩:bx).msg ((ai l 0).seen+1)):=agr hR IN FZ
 have hrs:(ai l 0).R c.fan c.leaf c.aT:=by have h9:=(t.gz t.root).1;rwa [t.pK]at h9
 obtain⟨aST,aws⟩:=t.kd.2.1
 have hli:i64 c.leaf:=⟨aa,aa⟩
 have hbu:=t.kd.2.2.1
 have hbn:0≤c.aT∧c.aT≤9223372036854775807:=by omega
 have hPr:bc (ai l 0).rows:=by have h9:=t.rows t.root;rwa [t.pK]at h9
 have hNd:=Gr t.kd hrs
 have Qs:=hNd.2.2.2.1
 have AK:(ai l 0).aj.length≤1000000:=by have:=hNd.2.2.1;omega
 have aBx:i64 ((ai l 0).seen+1):=si
 have aBy:i64 pk:=⟨by have:=hR.1.1;dsimp only at this;omega,aa⟩
 have aBz:∀m∈(ai l 0).aj,m.key.b.size≤16∧m.val.b.size≤16:=fun m hm=>fg ((t.aj t.root).2.1 m (by rw [t.pK];exact hm))
 refine Fc.go [.cell 4 98,.tmp 5] Tryz.func87 Tryz.ntmps87 rfl (fun w0=>(WC.perm (M':=(bj++[])) (by simp) (g9 2 ?_)))
 refine W.box (L:=[iV _,sV _,sV _,.bool _,sV _,iV _]) rfl rfl (fun b1=>(W.alloc cK (fun b2=>(g9 6 ?_))))
 refine W.call (Mp:=bj) (pq cC 0) rfl (ag (ag ah)) ?_
 intro v6 G3 Ms5 TV q4
 refine match q4 with|⟨⟨_,GN,⟨_,_,_,_,_,_,_,_,FV,yQ,yR,E1,E2,ki⟩⟩,awt⟩=> ?_
 subst GN
 subst FV
 have awt:=awt.symm
 subst awt
 refine W.perm (ag (ag ah)).symm (g9 3 ?_)
 refine W.alloc cK (fun b10=>(g9 11 ?_))
 refine WC.cn (fun tQ zo=> ?_) (fun tQ zo=> ?_)
 ·try dsimp only at zo
  exact absurd tQ (by simp;omega)
 try dsimp only at zo
 refine g9 8 ?_
 refine W.aH (VP pk aL bK po pv pl ((ai l 0).seen+1) hR IN FZ) rfl (g9 3 ?_)
 refine W.alloc gL (fun vG=>(g9 22 ?_))
 refine WC.cd (fun vU yc=> ?_) (fun vU yc=> ?_)
 ·try dsimp only at yc
  refine WC.dw (((iD.k9.k9).cons _).k9) (d9 [0,2,3] ?_)
  refine WD.any [1,4] (by kernel_rfl) rfl ⟨WD.ap ?_,WD.ap ?_,trivial⟩
  ·refine g9 1 ?_
   refine W.nn (WD.a1 4 rfl (W.call (Mp:=bj) (iT (cz.mono TV cC)) rfl (ag (ag (ag (ag ah)))) ?_))
   intro v15 G12 aSU JM q13
   refine match q13 with|⟨acy,ais⟩=> ?_
   subst acy
   have ais:=ais.symm
   subst ais
   refine W.perm (ag (ag (ag (ag ah)))).symm (W.nn (WD.tk 5 rfl (E3 (L:=[iV _,iV _,iV _,iV _,iV _]) (vs:=kB) ai5 rfl rfl rfl) (WD.a1 6 rfl (W.call (Mp:=[]) (Bs (E2.mono JM) (((⟨pk,aL,bK,po,pv,pl⟩:bx).msg ((ai l 0).seen+1))).aW (((⟨pk,aL,bK,po,pv,pl⟩:bx).msg ((ai l 0).seen+1))).kind (((⟨pk,aL,bK,po,pv,pl⟩:bx).msg ((ai l 0).seen+1))).key (((⟨pk,aL,bK,po,pv,pl⟩:bx).msg ((ai l 0).seen+1))).hi (((⟨pk,aL,bK,po,pv,pl⟩:bx).msg ((ai l 0).seen+1))).bQ (((⟨pk,aL,bK,po,pv,pl⟩:bx).msg ((ai l 0).seen+1))).val c.leaf hPr aa (hR.fit _)) rfl ah ?_))))
   intro _ G18 _ FE DI
   refine match DI with|⟨uN,_,Aa,_,Af,wh⟩=> ?_
   subst uN
   subst Aa
   subst Af
   have q25:=wh.form
   refine match q25 with|⟨aez,aeA,xe⟩=> ?_
   subst xe
   refine W.nn (d9 [7,8,9,10,11,12] ?_)
   refine g9 9 ?_
   refine WC.cond rfl (fun Bm=> ?_) (fun Bm=> ?_)
   ·refine g9 9 ?_
    refine⟨.inr rfl,[_,_],⟨⟨_,_,_,_,_,rfl,cY (i:=2) rfl,jQ,(by simp),rfl,rfl⟩,rfl,trivial⟩,_,((((aI _ _).cons _).cons _).cons _).cons _,?_⟩
    have jn:eD (ai l 0).rows ((⟨pk,aL,bK,po,pv,pl⟩:bx).msg ((ai l 0).seen+1)) c.leaf=false:=by rw [←X1];simpa using Bm
    have hE:=xB (c:=c) (o:=(⟨pk,aL,bK,po,pv,pl⟩:bx)) yc jn
    have eM:(dD c l (⟨pk,aL,bK,po,pv,pl⟩:bx)).2.1=4:=by rw [hE]
    rw [ajF yc aa,eM]
    exact⟨⟨_,rfl,_,_,_,_,_,_,_,_,rfl,(yQ.mono aO),(yR.mono aO),(E1.mono aO),wh,ki⟩,rfl⟩
   refine g9 18 ?_
   refine⟨.inr rfl,[_,_],⟨⟨_,_,_,_,_,rfl,cY (i:=2) rfl,jQ,(by simp),rfl,rfl⟩,rfl,trivial⟩,_,((((aI _ _).cons _).cons _).cons _).cons _,?_⟩
   have jn:eD (ai l 0).rows ((⟨pk,aL,bK,po,pv,pl⟩:bx).msg ((ai l 0).seen+1)) c.leaf=true:=by rw [←X1];simpa using Bm
   have hE:=zT (c:=c) (o:=(⟨pk,aL,bK,po,pv,pl⟩:bx)) yc jn
   have eM:(dD c l (⟨pk,aL,bK,po,pv,pl⟩:bx)).2.1=0:=by rw [hE]
   rw [X4 yc (by exact eM),eM]
   exact⟨⟨_,rfl,_,_,_,_,_,_,_,_,rfl,(yQ.mono aO),(yR.mono aO),(E1.mono aO),wh,⟨ki.1,ki.2.1,ki.2.2.1,si⟩⟩,rfl⟩
  refine W.call (Mp:=bj) (iT (cz.mono TV cC)) rfl (ag (ag (ag (ag ah)))) ?_
  intro v29 G26 LS Pm DK
  refine match DK with|⟨Ab,Hb⟩=> ?_
  subst Ab
  have Hb:=Hb.symm
  subst Hb
  refine W.perm (ag (ag (ag (ag ah)))).symm (W.nn (WD.tk 5 rfl (E3 (L:=[iV _,iV _,iV _,iV _,iV _]) (vs:=kB) ai5 rfl rfl rfl) (WD.a1 1 rfl (g9 1 ?_))))
  refine W.nn (WD.a1 6 rfl (W.call (Mp:=[]) (Bs (E2.mono Pm) (((⟨pk,aL,bK,po,pv,pl⟩:bx).msg ((ai l 0).seen+1))).aW (((⟨pk,aL,bK,po,pv,pl⟩:bx).msg ((ai l 0).seen+1))).kind (((⟨pk,aL,bK,po,pv,pl⟩:bx).msg ((ai l 0).seen+1))).key (((⟨pk,aL,bK,po,pv,pl⟩:bx).msg ((ai l 0).seen+1))).hi (((⟨pk,aL,bK,po,pv,pl⟩:bx).msg ((ai l 0).seen+1))).bQ (((⟨pk,aL,bK,po,pv,pl⟩:bx).msg ((ai l 0).seen+1))).val c.leaf hPr aa (hR.fit _)) rfl ah ?_))
  intro _ G32 _ aBs q34
  refine match q34 with|⟨zB,_,Jz,_,Dt,acF⟩=> ?_
  subst zB
  subst Jz
  subst Dt
  have q39:=acF.form
  refine match q39 with|⟨aKS,aKT,awu⟩=> ?_
  subst awu
  refine W.nn (d9 [7,8,9,10,11,12] ?_)
  refine g9 9 ?_
  refine WC.cond rfl (fun Bm=> ?_) (fun Bm=> ?_)
  ·refine g9 9 ?_
   refine⟨.inr rfl,[_,_],⟨⟨_,_,_,_,_,rfl,cY (i:=2) rfl,jQ,(by simp),rfl,rfl⟩,rfl,trivial⟩,_,((((aI _ _).cons _).cons _).cons _).cons _,?_⟩
   have jn:eD (ai l 0).rows ((⟨pk,aL,bK,po,pv,pl⟩:bx).msg ((ai l 0).seen+1)) c.leaf=false:=by rw [←X1];simpa using Bm
   have hE:=xB (c:=c) (o:=(⟨pk,aL,bK,po,pv,pl⟩:bx)) yc jn
   have eM:(dD c l (⟨pk,aL,bK,po,pv,pl⟩:bx)).2.1=4:=by rw [hE]
   rw [ajF yc aa,eM]
   exact⟨⟨_,rfl,_,_,_,_,_,_,_,_,rfl,(yQ.mono aO),(yR.mono aO),(E1.mono aO),acF,ki⟩,rfl⟩
  refine g9 18 ?_
  refine⟨.inr rfl,[_,_],⟨⟨_,_,_,_,_,rfl,cY (i:=2) rfl,jQ,(by simp),rfl,rfl⟩,rfl,trivial⟩,_,((((aI _ _).cons _).cons _).cons _).cons _,?_⟩
  have jn:eD (ai l 0).rows ((⟨pk,aL,bK,po,pv,pl⟩:bx).msg ((ai l 0).seen+1)) c.leaf=true:=by rw [←X1];simpa using Bm
  have hE:=zT (c:=c) (o:=(⟨pk,aL,bK,po,pv,pl⟩:bx)) yc jn
  have eM:(dD c l (⟨pk,aL,bK,po,pv,pl⟩:bx)).2.1=0:=by rw [hE]
  rw [X4 yc (by exact eM),eM]
  exact⟨⟨_,rfl,_,_,_,_,_,_,_,_,rfl,(yQ.mono aO),(yR.mono aO),(E1.mono aO),acF,⟨ki.1,ki.2.1,ki.2.2.1,si⟩⟩,rfl⟩
 try dsimp only at yc
 refine WC.dw (((iD.k9.k9).cons _).k9) (d9 [0,2,3] ?_)
 refine WD.any [1,4] (by kernel_rfl) rfl ⟨WD.ap ?_,WD.ap ?_,trivial⟩
 ·refine g9 1 ?_
  refine W.nn (WD.a1 4 rfl (W.call (Mp:=bj) (iT (cz.mono TV cC)) rfl (ag (ag (ag (ag ah)))) ?_))
  intro v43 G40 DM Jm q41
  refine match q41 with|⟨Jp,ait⟩=> ?_
  subst Jp
  have ait:=ait.symm
  subst ait
  refine W.perm (ag (ag (ag (ag ah)))).symm (W.nn (WD.tk 5 rfl (E3 (L:=[iV _,iV _,iV _,iV _,iV _]) (vs:=kB) ai6 rfl rfl rfl) (WD.a1 6 rfl (W.call (Mp:=[]) (S6 (E1.mono Jm) (((⟨pk,aL,bK,po,pv,pl⟩:bx).msg ((ai l 0).seen+1))).aW (((⟨pk,aL,bK,po,pv,pl⟩:bx).msg ((ai l 0).seen+1))).kind (((⟨pk,aL,bK,po,pv,pl⟩:bx).msg ((ai l 0).seen+1))).key (((⟨pk,aL,bK,po,pv,pl⟩:bx).msg ((ai l 0).seen+1))).hi (((⟨pk,aL,bK,po,pv,pl⟩:bx).msg ((ai l 0).seen+1))).bQ (((⟨pk,aL,bK,po,pv,pl⟩:bx).msg ((ai l 0).seen+1))).val c.aT aBz hbn ⟨aBx,aBy⟩ AK) rfl ah ?_))))
  intro _ G46 _ avK PE
  refine match PE with|⟨awv,_,Sc,_,ack,S7⟩=> ?_
  subst awv
  subst Sc
  subst ack
  have q53:=S7.form
  refine match q53 with|⟨S8,S9,aeB⟩=> ?_
  subst aeB
  refine W.nn (d9 [7,8,9,10,11,12] ?_)
  refine g9 9 ?_
  refine WC.cond rfl (fun Bm=> ?_) (fun Bm=> ?_)
  ·refine g9 9 ?_
   refine⟨.inr rfl,[_,_],⟨⟨_,_,_,_,_,rfl,cY (i:=2) rfl,jQ,(by simp),rfl,rfl⟩,rfl,trivial⟩,_,((((aI _ _).cons _).cons _).cons _).cons _,?_⟩
   have jn:fX c.aT (ai l 0).aj ((⟨pk,aL,bK,po,pv,pl⟩:bx).msg ((ai l 0).seen+1))=false:=by rw [←ajE];simpa using Bm
   have hE:=xC (c:=c) (o:=(⟨pk,aL,bK,po,pv,pl⟩:bx)) yc jn
   have eM:(dD c l (⟨pk,aL,bK,po,pv,pl⟩:bx)).2.1=4:=by rw [hE]
   rw [ajG yc aa,eM]
   exact⟨⟨_,rfl,_,_,_,_,_,_,_,_,rfl,(yQ.mono aO),(yR.mono aO),S7,(E2.mono aO),ki⟩,rfl⟩
  refine g9 18 ?_
  refine⟨.inr rfl,[_,_],⟨⟨_,_,_,_,_,rfl,cY (i:=2) rfl,jQ,(by simp),rfl,rfl⟩,rfl,trivial⟩,_,((((aI _ _).cons _).cons _).cons _).cons _,?_⟩
  have jn:fX c.aT (ai l 0).aj ((⟨pk,aL,bK,po,pv,pl⟩:bx).msg ((ai l 0).seen+1))=true:=by rw [←ajE];simpa using Bm
  have hE:=zU (c:=c) (o:=(⟨pk,aL,bK,po,pv,pl⟩:bx)) yc jn
  have eM:(dD c l (⟨pk,aL,bK,po,pv,pl⟩:bx)).2.1=0:=by rw [hE]
  rw [X5 yc (by exact eM),eM]
  exact⟨⟨_,rfl,_,_,_,_,_,_,_,_,rfl,(yQ.mono aO),(yR.mono aO),S7,(E2.mono aO),⟨ki.1,ki.2.1,ki.2.2.1,si⟩⟩,rfl⟩
 refine W.call (Mp:=bj) (iT (cz.mono TV cC)) rfl (ag (ag (ag (ag ah)))) ?_
 intro v57 G54 aAK z8 Ys
 refine match Ys with|⟨I9,Hc⟩=> ?_
 subst I9
 have Hc:=Hc.symm
 subst Hc
 refine W.perm (ag (ag (ag (ag ah)))).symm (W.nn (WD.tk 5 rfl (E3 (L:=[iV _,iV _,iV _,iV _,iV _]) (vs:=kB) ai6 rfl rfl rfl) (WD.a1 1 rfl (g9 1 ?_))))
 refine W.nn (WD.a1 6 rfl (W.call (Mp:=[]) (S6 (E1.mono z8) (((⟨pk,aL,bK,po,pv,pl⟩:bx).msg ((ai l 0).seen+1))).aW (((⟨pk,aL,bK,po,pv,pl⟩:bx).msg ((ai l 0).seen+1))).kind (((⟨pk,aL,bK,po,pv,pl⟩:bx).msg ((ai l 0).seen+1))).key (((⟨pk,aL,bK,po,pv,pl⟩:bx).msg ((ai l 0).seen+1))).hi (((⟨pk,aL,bK,po,pv,pl⟩:bx).msg ((ai l 0).seen+1))).bQ (((⟨pk,aL,bK,po,pv,pl⟩:bx).msg ((ai l 0).seen+1))).val c.aT aBz hbn ⟨aBx,aBy⟩ AK) rfl ah ?_))
 intro _ G60 _ alm q62
 refine match q62 with|⟨Ib,_,aww,_,Ih,Sx⟩=> ?_
 subst Ib
 subst aww
 subst Ih
 have q67:=Sx.form
 refine match q67 with|⟨aKU,aKV,aeC⟩=> ?_
 subst aeC
 refine W.nn (d9 [7,8,9,10,11,12] ?_)
 refine g9 9 ?_
 refine WC.cond rfl (fun Bm=> ?_) (fun Bm=> ?_)
 ·refine g9 9 ?_
  refine⟨.inr rfl,[_,_],⟨⟨_,_,_,_,_,rfl,cY (i:=2) rfl,jQ,(by simp),rfl,rfl⟩,rfl,trivial⟩,_,((((aI _ _).cons _).cons _).cons _).cons _,?_⟩
  have jn:fX c.aT (ai l 0).aj ((⟨pk,aL,bK,po,pv,pl⟩:bx).msg ((ai l 0).seen+1))=false:=by rw [←ajE];simpa using Bm
  have hE:=xC (c:=c) (o:=(⟨pk,aL,bK,po,pv,pl⟩:bx)) yc jn
  have eM:(dD c l (⟨pk,aL,bK,po,pv,pl⟩:bx)).2.1=4:=by rw [hE]
  rw [ajG yc aa,eM]
  exact⟨⟨_,rfl,_,_,_,_,_,_,_,_,rfl,(yQ.mono aO),(yR.mono aO),Sx,(E2.mono aO),ki⟩,rfl⟩
 refine g9 18 ?_
 refine⟨.inr rfl,[_,_],⟨⟨_,_,_,_,_,rfl,cY (i:=2) rfl,jQ,(by simp),rfl,rfl⟩,rfl,trivial⟩,_,((((aI _ _).cons _).cons _).cons _).cons _,?_⟩
 have jn:fX c.aT (ai l 0).aj ((⟨pk,aL,bK,po,pv,pl⟩:bx).msg ((ai l 0).seen+1))=true:=by rw [←ajE];simpa using Bm
 have hE:=zU (c:=c) (o:=(⟨pk,aL,bK,po,pv,pl⟩:bx)) yc jn
 have eM:(dD c l (⟨pk,aL,bK,po,pv,pl⟩:bx)).2.1=0:=by rw [hE]
 rw [X5 yc (by exact eM),eM]
 exact⟨⟨_,rfl,_,_,_,_,_,_,_,_,rfl,(yQ.mono aO),(yR.mono aO),Sx,(E2.mono aO),⟨ki.1,ki.2.1,ki.2.2.1,si⟩⟩,rfl⟩

theorem aiu{c c2:aX}(cC:cz 98 4 3 149 100 bA c G l bj)(t:Tree c2 l ss)(pk:Int)(aL:af)(bK:af)(po:Bool)(pv:af)(pl:Int)(LL:c=c2)(hR:bx.R (⟨pk,aL,bK,po,pv,pl⟩:bx))(IN:pk≤4)(hsn:0≤(ai l 0).seen∧(ai l 0).seen≤1000000000000):
    Fc Tryz.prog 56 [aC bA,.agg #[iV pk,sV aL.b,sV bK.b,.bool po,sV pv.b,iV pl]] G bj (fun v G' M'=>v=.tuple #[iV (dD c l (⟨pk,aL,bK,po,pv,pl⟩:bx)).1,iV (dD c l (⟨pk,aL,bK,po,pv,pl⟩:bx)).2.1]∧cz 98 4 3 149 100 bA c G' (dD c l (⟨pk,aL,bK,po,pv,pl⟩:bx)).2.2 M'):=by
 subst LL
 have LL:c=c:=rfl
 have hp9:=t.pos
 have aKW:=(cZ t.slot (i:=0) ⟨eI _,aa⟩).1
 refine Fc.go [.tmp 4,.tmp 5] Tryz.func56 Tryz.ntmps56 rfl (fun w0=>(WC.perm (M':=(bj++[])) (by simp) (g9 2 ?_)))
 refine W.box (L:=[iV _,sV _,sV _,.bool _,sV _,iV _]) rfl rfl (fun b68=>(g9 8 ?_))
 refine W.call (Mp:=bj) (aey cC t pk aL bK po pv pl LL hR IN hsn) rfl (ag ah) ?_
 intro v72 G69 at0 awx q70
 refine match q70 with|⟨⟨_,PC,⟨_,_,_,_,_,_,_,_,Rp,awy,awz,awA,awB,apu⟩⟩,aiv⟩=> ?_
 subst PC
 subst Rp
 have aiv:=aiv.symm
 subst aiv
 refine W.perm (ag ah).symm (g9 3 ?_)
 refine W.alloc cK (fun b76=>(g9 11 ?_))
 refine WC.cn (fun tQ zo=> ?_) (fun tQ zo=> ?_)
 ·try dsimp only at zo
  refine g9 9 ?_
  refine⟨.inr rfl,[_,_],⟨rfl,rfl,trivial⟩,_,((aI _ _).cons _).cons _,?_⟩
  have hE:=QW (c:=c) (l:=l) (o:=(⟨pk,aL,bK,po,pv,pl⟩:bx)) zo
  exact⟨ax (fun q:Int=>Value.tuple #[iV q,iV (dD c l (⟨pk,aL,bK,po,pv,pl⟩:bx)).2.1]) (show(0:Int)=(dD c l (⟨pk,aL,bK,po,pv,pl⟩:bx)).1 by rw [hE]),cz.to (cz.mono awx cC) (by rw [hE])⟩
 try dsimp only at zo
 refine g9 3 ?_
 refine WC.dw (iD.k9.k9) (d9 [0,1,2,3] ?_)
 refine WD.a1 4 rfl (W.call (Mp:=bj) (eA (cz.mono awx cC) (by rw [U7,aKW];omega) (gp awy awz awA awB apu)) rfl (ag (ag ah)) ?_)
 intro v80 G77 aBg aSV q78
 refine match q78 with|⟨avA,aKX⟩=> ?_
 subst avA
 refine W.perm (ag (ag ah)).symm (W.nn (d9 [5,6] ?_))
 refine g9 3 ?_
 refine⟨.inr rfl,[_,_],⟨rfl,rfl,trivial⟩,_,((aI _ _).cons _).cons _,?_⟩
 have hE:(dD c l (⟨pk,aL,bK,po,pv,pl⟩:bx)).2.1=0:=by omega
 exact⟨(ax (fun q:Int=>Value.tuple #[iV q,iV 0]) (am6 hE)).trans (ax (fun q:Int=>Value.tuple #[iV (dD c l (⟨pk,aL,bK,po,pv,pl⟩:bx)).1,iV q]) hE.symm),cz.to aKX (am7 t hE)⟩

theorem apv(df:af)(dh:af)(so:Bool){adQ:Value}{ls:List (List aD)}(M9:az (JK dy) G adQ ls)(ht:px ls≤100000000)(hln:ls.length≤100000)(ni:∀i (h:i<ls.length),∀m∈ls[i],m.key.b.size<140737488355328):
    Fc Tryz.prog 83 [.agg #[sV df.b,sV dh.b,.bool so],adQ] G [] (fun v G' M'=>M'=[]∧∃u0,v=u0∧az dy G' u0 (dg (ls.map (aB ⟨df,dh,so⟩)))):=by
 obtain⟨Su,Sv,rfl⟩:=M9.form
 have hl:=M9.bq
 have htm:=abb (f:=(aB ⟨df,dh,so⟩)) (fun l=>zH) ls
 refine Fc.go [.tmp 4] Tryz.func83 Tryz.ntmps83 rfl (fun w0=>(g9 2 ?_))
 refine W.box (L:=[sV _,sV _,.bool _]) rfl rfl (fun b1=>(g9 17 ?_))
 refine WC.loop (X:=(Nat)×Value×MH) (fun k=>[(10,aK k.1),(2,aC b1),(8,lV Su ls.length Sv),(9,aK ((ls).length)),(5,k.2.1)]) (fun k G Ml=>Ml=((b1,ar 73 [sV df.b,sV dh.b,.bool so])::(k.2.2++[]))∧aE (JK dy) 96 G k.2.1 ((ls.take k.1).map (aB ⟨df,dh,so⟩)) k.2.2∧k.1≤ls.length) (fun k=>ls.length-k.1) (0,lV none 0 0,([]:MH)) ct ?_ ?_
 ·exact⟨rfl,(by simpa using aE.nil),aa⟩
 rintro⟨k,Co,wB⟩ gG2 G2 _ lJ ⟨rfl,gj,hk⟩
 try dsimp only at gj hk
 refine WC.fr (f:=gk gG2 [(10,aK k),(2,aC b1),(8,lV Su ls.length Sv),(9,aK ((ls).length)),(5,Co)]) rfl (g9 6 ?_)
 refine WC.cd (fun ov p11=> ?_) (fun ov p11=> ?_)
 ·refine g9 6 ?_
  have q6:=(M9.mono lJ).at (i:=k) aa
  refine match q6 with|⟨_,he3,⟨_,e_5,hs4⟩⟩=> ?_
  subst e_5
  obtain⟨aN2,aN3,rfl⟩:=hs4.form
  refine g9 9 ?_
  refine W.cS (Br hs4 df dh so (ni k aa)) rfl (fun JY JZ G7 TG I7=>(W.lit (e:=(JK dy)) (l:=[aB ⟨df,dh,so⟩ (ls[k])]) (css:=[[lV _ _ _]]) J6 T7 ai4 rfl rfl rfl rfl rfl rfl ⟨⟨_,rfl,I7⟩,trivial⟩ (fun aSW G14 vY HT=>(W.app (e:=(JK dy)) J6 T7 ai4 rfl az4 rfl rfl ((gj.mono aO)) (HT) (ag ah) (by show(List.length _+1)*24≤_;rw [dt,bV];omega) (fun v15 O4 O5=>(W.perm (ag ah).symm (g9 9 ?_)))))))
  exact⟨aO,(k+1,v15,O4),ct,⟨rfl,(by have h:=O5;rw [iA aa,bU];exact h),aa⟩,aa⟩
 refine g9 8 ?_
 refine W.du gj (ag ah) (fun G18 FE DX=> ?_)
 have aBA:=az.cast DX (l':=ls.map (aB ⟨df,dh,so⟩)) (by rw [fI aa])
 have Kr:=aBA.form
 refine match Kr with|⟨_,_,z9⟩=> ?_
 subst z9
 refine W.cS (ahS aBA aa (by rw [dt];omega)) rfl (fun au0 au1 G22 I6 au2=>(g9 5 ?_))
 refine⟨rfl,_,rfl,?_⟩
 ·exact au2

theorem Ta{c c2:aX}(cC:cz 98 4 3 149 100 bA c G l bj)(t:Tree c2 l ss)(k:af):
    Fc Tryz.prog 48 [aC bA,sV k.b] G bj (fun v G' M'=>M'=bj∧∃u0,v=.tuple #[.agg (List.toArray u0),.agg (List.toArray ((cG l k).s.cells)),.bool (true)]∧cc G' u0 ((cG l k).n)):=by
 have hwp:=t.abj k
 have hwl:=t.IA k
 have hwn:((eF l k).map fun y:aw=>y.n).length=(eF l k).length:=dt ..
 have hws:((eF l k).map fun y:aw=>y.s).length=(eF l k).length:=dt ..
 refine Fc.go [.cell 4 98,.cell 5 73,.tmp 6] Tryz.func48 Tryz.ntmps48 rfl (fun w0=>(WC.perm (M':=(bj++[])) (by simp) (g9 2 ?_)))
 refine W.alloc cK (fun b24=>(W.alloc fR (fun b25=>(g9 7 ?_))))
 refine W.call (Mp:=bj) (ali cC t _) rfl (ag (ag ah)) ?_
 intro v31 G28 adK atL q29
 refine match q29 with|⟨aiw,_,_,aKY,aeD,awC⟩=> ?_
 subst aKY
 have aiw:=aiw.symm
 subst aiw
 refine W.perm (ag (ag ah)).symm ?_
 have q35:=aeD.form
 refine match q35 with|⟨awD,awE,tp⟩=> ?_
 subst tp
 have Ks:=awC.form
 refine match Ks with|⟨aKZ,aK0,Jz⟩=> ?_
 subst Jz
 refine g9 15 ?_
 refine WC.cd (fun rX lI=> ?_) (fun rX lI=> ?_)
 ·exfalso;omega
 refine g9 3 ?_
 refine WC.dw ((bB.cons _).cons _) (d9 [0,1,2,3] ?_)
 refine aeD.aN (i:=((eF l k).length-1)) aa (fun _ _ _ _ _ _ _ _ aIA azt azu azv azw awF=>(WD.tk 4 rfl (bd (i:=((eF l k).length-1)) mI jQ aeD rfl rfl ⟨aa,aa⟩) (d9 [5,6,7,8,9] ?_)))
 refine awC.a1 (i:=((eF l k).length-1)) aa (fun aSX=>(WD.tk 10 rfl (bd (i:=((eF l k).length-1)) qL jG awC rfl rfl ⟨aa,aa⟩) (d9 [11,12,13,14] ?_)))
 refine g9 3 ?_
 refine⟨.inr rfl,[_,_,_],⟨⟨_,_,_,_,_,rfl,cY (i:=1) rfl,jQ,(by simp),rfl,rfl⟩,⟨_,_,_,_,_,rfl,cY (i:=0) rfl,jG,(by simp),rfl,rfl⟩,rfl,trivial⟩,_,((aI _ _).cons _).cons _,?_⟩
 exact⟨rfl,_,ax (fun s:Span=>Value.tuple #[.agg (List.toArray _),.agg (List.toArray s.cells),.bool true]) (t.ajv k aa aa),cc.of (gp azt azu azv azw awF) (t.ayl k aa aa)⟩

theorem aeE{c c2:aX}(cC:cz 98 4 3 149 100 bA c G l bj)(t:Tree c2 l ss)(k:af):
    Fc Tryz.prog 50 [aC bA,sV k.b] G bj (fun v G' M'=>M'=bj∧∃u0,v=u0∧az dy G' u0 ((cG l k).ms)):=by
 have hwp:=t.abj k
 have hwl:=t.IA k
 have hwn:((eF l k).map fun y:aw=>y.n).length=(eF l k).length:=dt ..
 have hws:((eF l k).map fun y:aw=>y.s).length=(eF l k).length:=dt ..
 have Pd:=t.amB k
 refine Fc.go [.tmp 4] Tryz.func50 Tryz.ntmps50 rfl (fun w0=>(WC.perm (M':=(bj++[])) (by simp) (g9 9 ?_)))
 refine W.call (Mp:=bj) (ali cC t _) rfl ah ?_
 intro v51 G48 LV CM Xo
 refine match Xo with|⟨He,_,_,DN,Nc,S7⟩=> ?_
 subst DN
 have He:=He.symm
 subst He
 have Ys:=Nc.form
 refine match Ys with|⟨DZ,D0,Jq⟩=> ?_
 subst Jq
 have q57:=S7.form
 refine match q57 with|⟨S8,S9,Sy⟩=> ?_
 subst Sy
 refine g9 21 ?_
 refine WC.loop (X:=(Nat)×Value×MH) (fun i=>[(18,aK i.1),(5,lV DZ (((eF (l) (k)).map fun y:aw=>y.n)).length D0),(6,lV S8 (((eF (l) (k)).map fun y:aw=>y.s)).length S9),(16,lV DZ (((eF (l) (k)).map fun y:aw=>y.n)).length D0),(17,aK ((((eF (l) (k)).map fun y:aw=>y.n)).length)),(7,i.2.1)]) (fun i G Ml=>Ml=(i.2.2++(bj++[]))∧aE (JK dy) 96 G i.2.1 ((((eF l k).map fun y:aw=>y.n).map fun n:Nd=>n.aj).take i.1) i.2.2∧i.1≤(eF l k).length) (fun i=>(eF l k).length-i.1) (0,lV none 0 0,([]:MH)) ct ?_ ?_
 ·exact⟨rfl,(by simpa using aE.nil),aa⟩
 rintro⟨i,v_7,Jo⟩ aK1 G58 _ Wq ⟨rfl,pA,hi⟩
 try dsimp only at pA hi
 refine WC.fr (f:=gk aK1 [(18,aK i),(5,lV DZ (((eF (l) (k)).map fun y:aw=>y.n)).length D0),(6,lV S8 (((eF (l) (k)).map fun y:aw=>y.s)).length S9),(16,lV DZ (((eF (l) (k)).map fun y:aw=>y.n)).length D0),(17,aK ((((eF (l) (k)).map fun y:aw=>y.n)).length)),(7,v_7)]) rfl (g9 6 ?_)
 refine WC.cd (fun Cm xb=> ?_) (fun Cm xb=> ?_)
 ·refine g9 6 ?_
  refine(Nc.mono Wq).aN (i:=i) aa (fun _ _ _ _ _ _ _ _ aSY aN4 aN5 azx aN6 aK2=>(g9 2 ?_))
  refine W.alloc cK (fun b63=>(g9 7 ?_))
  refine W.lit (e:=(JK dy)) (l:=[((((eF (l) (k)).map fun y:aw=>y.n))[i]).aj]) (css:=[[lV _ _ _]]) J6 T7 ai4 rfl rfl rfl rfl rfl rfl ⟨⟨_,rfl,azx⟩,trivial⟩ (fun asV G64 LX asW=>(W.app (e:=(JK dy)) J6 T7 ai4 rfl az4 rfl rfl ((pA.mono LX)) (asW) (ag ah) (by show(List.length _+1)*24≤_;rw [bV,dt,dt];omega) (fun v65 aji awG=>(W.perm (ag ah).symm (g9 7 ?_)))))
  refine W.sub (bB.cons _) (g9 2 ?_)
  exact⟨LX,(i+1,v65,aji),ct,⟨rfl,(by have h:=awG;rw [iA (by simp;omega),jX];exact h),aa⟩,aa⟩
 refine g9 13 ?_
 refine WC.cd (fun vU yc=> ?_) (fun vU yc=> ?_)
 ·exfalso;omega
 refine g9 8 ?_
 refine(S7.mono Wq).a1 (i:=((eF l k).length-1)) aa (fun aK3=>(W.ok (bd (i:=((eF l k).length-1)) qL jG (S7.mono Wq) rfl rfl ⟨aa,aa⟩) (g9 2 ?_)))
 refine W.du pA ah (fun G72 Ad acL=> ?_)
 have aBB:=az.cast acL (l':=(((eF l k).map fun y:aw=>y.n).map fun n:Nd=>n.aj)) (by rw [fI (by simp;omega)])
 have q75:=aBB.form
 refine match q75 with|⟨_,_,PC⟩=> ?_
 subst PC
 refine W.cS (apv _ _ _ aBB aa (by rw [dt,dt];omega) (t.amA k)) rfl (fun aK4 aK5 G76 LY aK6=>(g9 4 ?_))
 refine⟨.inr rfl,[_],⟨rfl,trivial⟩,_,aI _ _,?_⟩
 refine⟨rfl,_,rfl,?_⟩
 ·exact az.cast aK6 (t.af1 k (t.ajv k aa aa))

theorem apw{l:List aG}(aQ:az aU G dH l)(df:af)(dh:af)(so:Bool)(rZ:az dy G yw ms)(hP:bc l)(hn:l.length+ms.length≤1000000)(hm:∀m∈ms,m.key.b.size≤16∧m.val.b.size≤16)(hs:df.b.size≤300):
    Fc Tryz.prog 84 [dH,.agg #[sV df.b,sV dh.b,.bool so],yw] G [] (fun v G' M'=>M'=[]∧∃u0,v=u0∧az aU G' u0 (cq (l.filter fun p=>Span.has ⟨df,dh,so⟩ p.key) (aB ⟨df,dh,so⟩ ms))):=by
 obtain⟨dz,dA,rfl⟩:=aQ.form
 obtain⟨xc,xd,rfl⟩:=rZ.form
 have hPf:bc (l.filter fun p=>Span.has ⟨df,dh,so⟩ p.key):=hP.filter _
 have hcm:=P7 (s:=⟨df,dh,so⟩) hs hm
 have qc:(aB ⟨df,dh,so⟩ ms).length≤ms.length:=zH
 have j8:=fy (fun p:aG=>Span.has ⟨df,dh,so⟩ p.key) l
 have ni:∀m∈ms,m.key.b.size<140737488355328:=fun m h=>by have:=(hm m h).1;omega
 refine Fc.go [.tmp 6] Tryz.func84 Tryz.ntmps84 rfl (fun w0=>(g9 2 ?_))
 refine W.box (L:=[sV _,sV _,.bool _]) rfl rfl (fun b1=>(g9 4 ?_))
 refine WC.dw bB.k9 (d9 [0,1,3,4] ?_)
 refine WD.a1 2 rfl (W.cS (O7 aQ _ _ _ (by first|assumption|omega|(simp;omega)|(exact bc.fold (by assumption) (by assumption)))) rfl (fun Of Og G2 lJ Yn=>(W.nn (WD.a1 5 rfl (W.cS (Br (rZ.mono lJ) df dh so ni) rfl (fun xK xL G9 Nu Ds=>(W.nn (WD.a1 6 rfl (W.cS (amh (Yn.mono Nu) Ds hPf aa hcm) rfl (fun aK7 aK8 G16 aA3 avP=>(W.nn (d9 [7] ?_))))))))))))
 refine g9 4 ?_
 refine⟨rfl,_,rfl,?_⟩
 ·exact avP

theorem Wr{c c2:aX}(cC:cz 98 4 3 149 100 bA c G l bj)(t:Tree c2 l ss)(k:af):
    Fc Tryz.prog 33 [aC bA,sV k.b] G bj (fun v G' M'=>M'=bj∧v=sV (af.b ((if(cG l k).s.bQ=true then af.nil else(cG l k).s.hi)))):=by
 refine Fc.go [.tmp 4] Tryz.func33 Tryz.ntmps33 rfl (fun w0=>(WC.perm (M':=(bj++[])) (by simp) (g9 9 ?_)))
 refine W.call (Mp:=bj) (Ta cC t _) rfl ah ?_
 intro v13 TX HS tI Ji
 refine match Ji with|⟨Hf,_,z4,qd⟩=> ?_
 subst z4
 have Hf:=Hf.symm
 subst Hf
 refine match qd with|⟨_,_,_,_,_,_,_,_,I3,azy,azz,azA,aln,awH⟩=> ?_
 subst I3
 refine g9 4 ?_
 refine W.alloc cK (fun b17=>(W.alloc fR (fun b18=>(g9 12 ?_))))
 refine WC.cond rfl (fun Tc=> ?_) (fun Tc=> ?_)
 ·refine g9 7 ?_
  refine⟨.inr rfl,[_],⟨rfl,trivial⟩,_,((aI _ _).cons _).cons _,?_⟩
  exact⟨rfl,ax (fun s:af=>Value.string s.b) (if_pos Tc:(if(cG l k).s.bQ=true then af.nil else(cG l k).s.hi)=af.nil).symm⟩
 refine g9 10 ?_
 refine⟨.inr rfl,[_],⟨rfl,trivial⟩,_,((aI _ _).cons _).cons _,?_⟩
 exact⟨rfl,ax (fun s:af=>Value.string s.b) (if_neg (by rw [Tc];simp):(if(cG l k).s.bQ=true then af.nil else(cG l k).s.hi)=(cG l k).s.hi).symm⟩

variable {aP:Nat} {cur:af}
theorem aeF{c:aX}(cC:cz 98 4 3 149 100 bA c G l bj)(t:Tree c l ss):
    Fc Tryz.prog 75 [aC aP] G ((aP,ar 56 [aC bA,sV cur.b])::(bj)) (fun v G' M'=>az dm G' v l∧M'=(aP,ar 56 [aC bA,sV cur.b])::bj):=by
 refine Fc.go [.tmp 2] Tryz.func75 Tryz.ntmps75 rfl (fun w0=>(WC.perm (M':=((aP,ar 56 [aC bA,sV cur.b])::(bj++[]))) (by simp) (g9 9 ?_)))
 refine W.ok (fx aai rfl rfl) (g9 11 ?_)
 refine W.call (Mp:=bj) (ahP cC) rfl (ag ah) ?_
 intro v4 G1 Ms3 pX q2
 refine match q2 with|⟨hR5,DY⟩=> ?_
 have DY:=DY.symm
 subst DY
 refine W.perm (ag ah).symm (g9 4 ?_)
 refine⟨.inr rfl,[_],⟨rfl,trivial⟩,_,bB.k9,?_⟩
 exact⟨hR5,ax _ (cx _)⟩

variable {eN:MH}
theorem aix{c:aX}(ij:oR 98 4 3 149 100 56 aP bA c G (l,cur) eN)(t:Tree c l ss)(k:af):
    Fc Tryz.prog 57 [aC aP,sV k.b] G eN (fun v G' M'=>∃e l',agz c l k e l'∧v=iV e∧oR 98 4 3 149 100 56 aP bA c G' (l',cur) M'):=by
 have hp9:=t.pos
 obtain⟨N9,r9,hN9,z7⟩:=abQ t k
 refine Fc.go [.tmp 4] Tryz.func57 Tryz.ntmps57 rfl (fun w0=>(WC.perm (M':=(eN++[])) (by simp) (g9 7 ?_)))
 obtain⟨Td,aET,aEU⟩:=ij
 subst aET
 have aiy:cz 98 4 3 149 100 bA c G l Td:=aEU
 refine WC.perm (M':=((aP,ar 56 [aC bA,sV cur.b])::(Td++[]))) ah.symm (g9 5 ?_)
 refine W.call (Mp:=Td) (pq aiy 0) rfl (ag ah) ?_
 intro v5 G2 H6 lJ q3
 refine match q3 with|⟨⟨_,DB,⟨OJ,OK,OL,OM,ON,OO,OP,OQ,GN,OG,JW,OH,OI,JX⟩⟩,sf⟩=> ?_
 subst DB
 subst GN
 have sf:=sf.symm
 subst sf
 refine W.perm (ag ah).symm (g9 3 ?_)
 refine W.alloc cK (fun b9=>(g9 11 ?_))
 refine WC.cd (fun Cm xb=> ?_) (fun Cm xb=> ?_)
 ·try dsimp only at xb
  refine g9 6 ?_
  refine W.call (Mp:=Td) (Wj (cz.mono lJ aiy) t) rfl (ag (ag ah)) ?_
  intro v13 TX HS tI Ji
  refine match Ji with|⟨z4,aK9⟩=> ?_
  subst z4
  refine W.perm (ag (ag ah)).symm (g9 3 ?_)
  have aLa:oR 98 4 3 149 100 56 aP bA c TX ((dJ c l).2,cur) ((aP,ar 56 [aC bA,sV cur.b])::HS):=⟨_,rfl,aK9⟩
  refine WC.perm (M':=((b9,ar 98 (j7 (ai l 0) OJ OK OL OM ON OO OP OQ))::(((aP,ar 56 [aC bA,sV cur.b])::HS)++[]))) ((ag ah).symm.trans (((ag ah).cons _).trans ((List.Perm.swap _ _ _).trans (ah.cons _)))) (g9 2 ?_)
  refine⟨.inr rfl,[_],⟨rfl,trivial⟩,_,(aI _ _).cons _,?_⟩
  exact⟨_,_,.inl ⟨xb,rfl,rfl⟩,rfl,aLa⟩
 try dsimp only at xb
 refine g9 10 ?_
 refine W.call (Mp:=Td) (S4 (cz.mono lJ aiy) t k rfl N9 r9 z7 aa) rfl (ag (ag ah)) ?_
 intro v20 TU BO B6 Ny
 refine match Ny with|⟨Aa,awI⟩=> ?_
 subst Aa
 refine W.perm (ag (ag ah)).symm (g9 15 ?_)
 refine WC.cd (fun h36 Aq=> ?_) (fun h36 Aq=> ?_)
 ·try dsimp only at Aq
  refine g9 5 ?_
  have aLb:oR 98 4 3 149 100 56 aP bA c TU (r9.2.2,cur) ((aP,ar 56 [aC bA,sV cur.b])::BO):=⟨_,rfl,awI⟩
  refine WC.perm (M':=((b9,ar 98 (j7 (ai l 0) OJ OK OL OM ON OO OP OQ))::(((aP,ar 56 [aC bA,sV cur.b])::BO)++[]))) ((ag ah).symm.trans (((ag ah).cons _).trans ((List.Perm.swap _ _ _).trans (ah.cons _)))) (g9 3 ?_)
  refine⟨.inr rfl,[_],⟨rfl,trivial⟩,_,(aI _ _).cons _,?_⟩
  exact⟨_,_,.inr ⟨xb,N9,r9,z7,rfl,(if_pos Aq).symm⟩,rfl,aLb⟩
 try dsimp only at Aq
 refine g9 7 ?_
 refine WC.cn (fun pY GO=> ?_) (fun pY GO=> ?_)
 ·try dsimp only at GO
  refine g9 6 ?_
  have aLc:oR 98 4 3 149 100 56 aP bA c TU (r9.2.2,cur) ((aP,ar 56 [aC bA,sV cur.b])::BO):=⟨_,rfl,awI⟩
  refine WC.perm (M':=((b9,ar 98 (j7 (ai l 0) OJ OK OL OM ON OO OP OQ))::(((aP,ar 56 [aC bA,sV cur.b])::BO)++[]))) ((ag ah).symm.trans (((ag ah).cons _).trans ((List.Perm.swap _ _ _).trans (ah.cons _)))) (g9 3 ?_)
  refine⟨.inr rfl,[_],⟨rfl,trivial⟩,_,(aI _ _).cons _,?_⟩
  exact⟨_,_,.inr ⟨xb,N9,r9,z7,rfl,by rw [if_neg Aq,if_neg GO]⟩,rfl,aLc⟩
 try dsimp only at GO
 refine g9 8 ?_
 have aLd:oR 98 4 3 149 100 56 aP bA c TU (r9.2.2,cur) ((aP,ar 56 [aC bA,sV cur.b])::BO):=⟨_,rfl,awI⟩
 refine WC.perm (M':=((b9,ar 98 (j7 (ai l 0) OJ OK OL OM ON OO OP OQ))::(((aP,ar 56 [aC bA,sV cur.b])::BO)++[]))) ((ag ah).symm.trans (((ag ah).cons _).trans ((List.Perm.swap _ _ _).trans (ah.cons _)))) (WC.ret ?_)
 refine⟨.inr rfl,[_],⟨rfl,trivial⟩,_,(aI _ _).cons _,?_⟩
 exact⟨_,_,.inr ⟨xb,N9,r9,z7,rfl,by rw [if_neg Aq,if_pos aa]⟩,rfl,aLd⟩

theorem aeG{c:aX}(ij:oR 98 4 3 149 100 56 aP bA c G (l,cur) eN)(t:Tree c l ss)(pk:Int)(aL:af)(bK:af)(po:Bool)(pv:af)(pl:Int)(k:Int)(hR:bx.R (⟨pk,aL,bK,po,pv,pl⟩:bx))(IN:pk≤4)(hgr:Grown c k l)(YV:k≤1000000000):
    Fc Tryz.prog 24 [aC aP,.agg #[iV pk,sV aL.b,sV bK.b,.bool po,sV pv.b,iV pl]] G eN (fun v G' M'=>∃e l',WrP c k (⟨pk,aL,bK,po,pv,pl⟩:bx) l e l'∧v=iV e∧oR 98 4 3 149 100 56 aP bA c G' (l',cur) M'):=by
 refine Fc.go [.tmp 4] Tryz.func24 Tryz.ntmps24 rfl (fun w0=>(WC.perm (M':=(eN++[])) (by simp) (g9 2 ?_)))
 refine W.box (L:=[iV _,sV _,sV _,.bool _,sV _,iV _]) rfl rfl (fun b26=>(g9 4 ?_))
 refine WC.loop (X:=(List Nd)×MH) (fun x=>[(3,aC b26),(0,aC aP)]) (fun x G Ml=>Ml=((b26,ar 35 [iV pk,sV aL.b,sV bK.b,.bool po,sV pv.b,iV pl])::(x.2++[]))∧oR 98 4 3 149 100 56 aP bA c G ((x.1,cur)) x.2∧(∃T,Tree c x.1 T)∧bM x.1=bM l∧Grown c k x.1∧(x.1=l∨¬(dD c l (⟨pk,aL,bK,po,pv,pl⟩:bx)).2.1=0)) (fun x=>K3 c x.1) (l,eN) ct ?_ ?_
 ·exact⟨rfl,(by exact ij),⟨ss,t⟩,rfl,hgr,.inl rfl⟩
 rintro⟨L,Km⟩ awJ G27 _ Uk ⟨rfl,g0,hTr,hmp,hg,hx9⟩
 try dsimp only at g0 hTr hmp hg hx9
 obtain⟨T8,t9⟩:=hTr
 have aLe:0≤(ai L 0).seen∧(ai L 0).seen≤1000000000000:=⟨hg.pos,by have:=hg.le;omega⟩
 refine WC.fr (f:=gk awJ [(3,aC b26),(0,aC aP)]) rfl (g9 2 ?_)
 obtain⟨ZX,azB,azC⟩:=g0
 subst azB
 have azD:cz 98 4 3 149 100 bA c G27 L ZX:=azC
 refine WC.perm (M':=((aP,ar 56 [aC bA,sV cur.b])::((b26,ar 35 [iV pk,sV aL.b,sV bK.b,.bool po,sV pv.b,iV pl])::(ZX++[])))) (nV ah).symm (WC.dw (iD.k9.k9) (d9 [0,1,2,3,4] ?_))
 refine WD.a1 5 rfl (W.call (Mp:=ZX) (aiu azD t9 pk aL bK po pv pl rfl hR IN aLe) rfl (ag (ag ah)) ?_)
 intro YW Jl oC tH LA
 refine match LA with|⟨tp,Wp⟩=> ?_
 subst tp
 refine W.perm (ag (ag ah)).symm (W.nn (d9 [6,7,8,9,10] ?_))
 refine g9 9 ?_
 refine WC.cn (fun rX lI=> ?_) (fun rX lI=> ?_)
 ·try dsimp only at lI
  refine g9 6 ?_
  have aLf:oR 98 4 3 149 100 56 aP bA c Jl ((dD c L (⟨pk,aL,bK,po,pv,pl⟩:bx)).2.2,cur) ((aP,ar 56 [aC bA,sV cur.b])::oC):=⟨_,rfl,Wp⟩
  refine WC.perm (M':=((b26,ar 35 [iV pk,sV aL.b,sV bK.b,.bool po,sV pv.b,iV pl])::(((aP,ar 56 [aC bA,sV cur.b])::oC)++[]))) ((ag ah).symm.trans (((ag ah).cons _).trans ah)) (g9 5 ?_)
  refine⟨.inr rfl,[_],⟨rfl,trivial⟩,_,(aI _ _).cons _,?_⟩
  have hE:(dD c L (⟨pk,aL,bK,po,pv,pl⟩:bx)).2.1=0:=by
    by_cases h:(dD c L (⟨pk,aL,bK,po,pv,pl⟩:bx)).2.1=0
    ·exact h
    exact absurd (by rw [QW h]) lI
  exact⟨(dD c L (⟨pk,aL,bK,po,pv,pl⟩:bx)).2.1,(dD c L (⟨pk,aL,bK,po,pv,pl⟩:bx)).2.2,by rw [hE];exact WrP.ok t9 hR IN hg aa hmp hx9 hE,rfl,aLf⟩
 try dsimp only at lI
 refine g9 3 ?_
 have xX:¬(dD c L (⟨pk,aL,bK,po,pv,pl⟩:bx)).2.1=0:=by rw [lI];decide
 have aLg:=cz.to Wp (show(dD c L (⟨pk,aL,bK,po,pv,pl⟩:bx)).2.2=L by rw [QW xX])
 have aLh:oR 98 4 3 149 100 56 aP bA c Jl (L,cur) ((aP,ar 56 [aC bA,sV cur.b])::oC):=⟨_,rfl,aLg⟩
 refine WC.perm (M':=((b26,ar 35 [iV pk,sV aL.b,sV bK.b,.bool po,sV pv.b,iV pl])::(((aP,ar 56 [aC bA,sV cur.b])::oC)++[]))) ((ag ah).symm.trans (((ag ah).cons _).trans ah)) (g9 4 ?_)
 refine W.call (Mp:=((aP,ar 56 [aC bA,sV cur.b])::oC)) (aix aLh t9 aL) rfl (ag ah) ?_
 intro v44 G41 Ie BR q42
 refine match q42 with|⟨e38,l39,awK,ac6,aBC⟩=> ?_
 subst ac6
 refine W.perm (ag ah).symm ?_
 have alp:=U8 t9 hR IN hg xX awK
 refine g9 9 ?_
 refine WC.cn (fun h24 p24=> ?_) (fun h24 p24=> ?_)
 ·try dsimp only at p24
  refine g9 10 ?_
  refine⟨.inr rfl,[_],⟨rfl,trivial⟩,_,(aI _ _).cons _,?_⟩
  exact⟨e38,l39,WrP.no t9 hR IN hg hmp hx9 xX awK p24,rfl,aBC⟩
 try dsimp only at p24
 refine g9 3 ?_
 exact⟨aO,(l39,Ie),ct,⟨rfl,(by exact aBC),alp.1,alp.2.1.trans hmp,alp.2.2.1,.inr (hx9.elim (fun e=>e▸xX) id)⟩,alp.2.2.2.1 p24⟩

theorem aeH{c c2:aX}(cC:cz 98 4 3 149 100 bA c G l bj)(t:Tree c2 l ss)(k:af):
    Fc Tryz.prog 21 [aC bA,sV k.b] G bj (fun v G' M'=>M'=bj∧v=.tuple #[sV (af.b (((bz (bM l) k)).getD af.nil)),.bool (((bz (bM l) k)).isSome)]):=by
 have eG:=t.qC k
 have hft:=t.fits _ eG.mem
 have hfm:∀m∈(cG l k).ms,m.key.b.size<140737488355328∧m.val.b.size≤16:=fun m hm=>⟨by have:=(fg (hft.2 m hm)).1;omega,(fg (hft.2 m hm)).2⟩
 refine Fc.go [.tmp 4,.tmp 5] Tryz.func21 Tryz.ntmps21 rfl (fun w0=>(WC.perm (M':=(bj++[])) (by simp) (g9 10 ?_)))
 refine W.call (Mp:=bj) (Ta cC t _) rfl ah ?_
 intro v13 TX HS tI Ji
 refine match Ji with|⟨Hf,_,z4,qd⟩=> ?_
 subst z4
 have Hf:=Hf.symm
 subst Hf
 refine match qd with|⟨_,_,_,_,_,_,_,_,I3,azy,azz,azA,aln,awH⟩=> ?_
 subst I3
 refine g9 4 ?_
 refine W.alloc cK (fun b17=>(W.alloc fR (fun b18=>(g9 16 ?_))))
 refine WC.dw (iD.k9.k9) (d9 [0,1,2,3,4] ?_)
 refine WD.a1 5 rfl (W.call (Mp:=bj) (aeE (cz.mono tI cC) t _) rfl (ag (ag ah)) ?_)
 intro v23 G20 aAk zz Kr
 refine match Kr with|⟨F3,_,vg,wh⟩=> ?_
 subst vg
 have F3:=F3.symm
 subst F3
 refine W.perm (ag (ag ah)).symm ?_
 have DK:=wh.form
 refine match DK with|⟨aez,aeA,xW⟩=> ?_
 subst xW
 refine W.nn (WD.a1 6 rfl (W.aH (aio (aln.mono zz) k wh (t.rows eG.mem) hfm) rfl (W.nn (d9 [7,8,9,10] ?_))))
 refine g9 3 ?_
 refine⟨.inr rfl,[_,_],⟨rfl,rfl,trivial⟩,_,((aI _ _).cons _).cons _,?_⟩
 exact⟨rfl,ax (fun o:Option af=>Value.tuple #[sV (o.getD af.nil).b,.bool o.isSome]) (t.lookup k)⟩

theorem apx{l:List aG}(aQ:az aU G dH l)(df:af)(dh:af)(so:Bool)(rZ:az dy G yw ms)(c:af)(n:Int)(hP:bc l)(hn:l.length+ms.length≤1000000)(hm:∀m∈ms,m.key.b.size≤16∧m.val.b.size≤16)(hs:df.b.size≤300):
    Fc Tryz.prog 52 [dH,.agg #[sV df.b,sV dh.b,.bool so],yw,sV c.b,iV n] G [] (fun v G' M'=>M'=[]∧∃r:List aG×af×Bool,r=Gb l ⟨df,dh,so⟩ ms c n∧∃u0,v=.tuple #[u0,sV (af.b (r.2.1)),.bool (r.2.2)]∧az aU G' u0 (r.1)):=by
 obtain⟨dz,dA,rfl⟩:=aQ.form
 obtain⟨xc,xd,rfl⟩:=rZ.form
 have qc:=ars (cq (l.filter fun p=>Span.has ⟨df,dh,so⟩ p.key) (aB ⟨df,dh,so⟩ ms)) n
 refine Fc.go [.tmp 10,.tmp 11,.tmp 12] Tryz.func52 Tryz.ntmps52 rfl (fun w0=>(g9 2 ?_))
 refine W.box (L:=[sV _,sV _,.bool _]) rfl rfl (fun b1=>(g9 9 ?_))
 refine W.aH (pW _ _ _) rfl (g9 2 ?_)
 refine WC.cond rfl (fun iQ=> ?_) (fun iQ=> ?_)
 ·refine g9 11 ?_
  refine⟨rfl,_,(art iQ).symm,_,rfl,?_⟩
  ·exact az.nil
 refine g9 7 ?_
 refine W.cS (apw aQ df dh so rZ hP hn hm hs) rfl (fun Of Og G2 lJ Yn=>(g9 8 ?_))
 refine W.sp 24 rfl (fun w7=> ?_) (fun w7=> ?_)
 ·refine g9 22 ?_
  refine WC.dw bB.k9 (d9 [0,1,2,3] ?_)
  refine WD.tk 4 rfl (Tf rfl rfl) (WD.tk 5 rfl (Ok.int (n:=((sG (cq (l.filter fun p=>Span.has ⟨df,dh,so⟩ p.key) (aB ⟨df,dh,so⟩ ms)) n:Nat):Int)) (Cz rfl rfl) aa) ?_)
  have ct:=az.slice Yn (lo:=0) (hi:=(sG (cq (l.filter fun p=>Span.has ⟨df,dh,so⟩ p.key) (aB ⟨df,dh,so⟩ ms)) n)) aa aa
  refine WD.tk 6 rfl (ok_slice (0) ((sG (cq (l.filter fun p=>Span.has ⟨df,dh,so⟩ p.key) (aB ⟨df,dh,so⟩ ms)) n)) dR ei Yn rfl rfl ⟨_,_,rfl,aa⟩ ⟨aa,aa⟩) (d9 [8,9,10] ?_)
  refine WD.a1 7 rfl (W.cS (ie ct) rfl (fun I4 I5 TX tI BQ=>(W.nn (d9 [11,12,13] ?_))))
  refine g9 4 ?_
  refine⟨rfl,_,(Ql iQ (x:=af.nil) (b:=true) (by simp [w7]) (by simp [w7])).symm,_,rfl,?_⟩
  ·exact BQ
 refine g9 23 ?_
 refine WC.dw bB.k9 (d9 [0,1,2,3] ?_)
 refine WD.tk 4 rfl (Tf rfl rfl) (WD.tk 5 rfl (Ok.int (n:=((sG (cq (l.filter fun p=>Span.has ⟨df,dh,so⟩ p.key) (aB ⟨df,dh,so⟩ ms)) n:Nat):Int)) (Cz rfl rfl) aa) ?_)
 have aLi:=az.slice Yn (lo:=0) (hi:=(sG (cq (l.filter fun p=>Span.has ⟨df,dh,so⟩ p.key) (aB ⟨df,dh,so⟩ ms)) n)) aa aa
 refine WD.tk 6 rfl (ok_slice (0) ((sG (cq (l.filter fun p=>Span.has ⟨df,dh,so⟩ p.key) (aB ⟨df,dh,so⟩ ms)) n)) dR ei Yn rfl rfl ⟨_,_,rfl,aa⟩ ⟨aa,aa⟩) (d9 [8,9,10] ?_)
 refine WD.a1 7 rfl (W.cS (ie aLi) rfl (fun aez aeA G18 FE wh=>(W.nn (d9 [11,12,13] ?_))))
 refine g9 4 ?_
 refine⟨rfl,_,(Ql iQ (x:=dh) (b:=decide (n≤((cq (l.filter fun p=>Span.has ⟨df,dh,so⟩ p.key) (aB ⟨df,dh,so⟩ ms)).length:Int))) (by simp [w7]) (by simp [w7])).symm,_,rfl,?_⟩
 ·exact wh

theorem apy(df:af)(dh:af)(so:Bool)(k:af):
    Fc Tryz.prog 54 [.agg #[sV df.b,sV dh.b,.bool so],sV k.b] G [] (fun v _ _=>v=.agg (List.toArray ((Span.bH ⟨df,dh,so⟩ ⟨k,af.nil,true⟩).cells))):=by
 refine Fc.go [.cell 4 73] Tryz.func54 Tryz.ntmps54 rfl (fun w0=>(g9 2 ?_))
 refine W.box (L:=[sV _,sV _,.bool _]) rfl rfl (fun b1=>(W.alloc fR (fun b2=>(g9 6 ?_))))
 refine W.ok (aY (L:=[sV _,sV _,.bool _]) zm fR rfl rfl rfl) (W.aH (nH _ _ _ _ af.nil _) rfl (g9 5 ?_))
 rfl

theorem aeI{c c2:aX}(cC:cz 98 4 3 149 100 bA c G l bj)(t:Tree c2 l ss)(xlo:af)(xhi:af)(xo:Bool)(n:Int)(hxs:xlo.b.size≤300∧xhi.b.size≤300)(gH:i64 n):
    Fc Tryz.prog 22 [aC bA,.agg #[sV xlo.b,sV xhi.b,.bool xo],iV n] G bj (fun v G' M'=>M'=bj∧∃u0,v=u0∧az aU G' u0 (fe (bM l) ⟨xlo,xhi,xo⟩ n)):=by
 obtain⟨aSZ,at7⟩:=gH
 refine Fc.go [.tmp 6] Tryz.func22 Tryz.ntmps22 rfl (fun w0=>(WC.perm (M':=(bj++[])) (by simp) (g9 2 ?_)))
 refine W.box (L:=[sV _,sV _,.bool _]) rfl rfl (fun b21=>(g9 11 ?_))
 refine W.aH (lj _ _ _) rfl (W.alloc fR (fun b22=>(g9 4 ?_)))
 refine WC.loop (X:=(Span×List aG)×Value×MH×Nat) (fun y=>[(0,aC bA),(2,iV n),(7,y.2.1),(8,.pointer (some ⟨y.2.2.2,0,none⟩))]) (fun y G Ml=>Ml=((y.2.2.2,ar 73 [sV (y.1.1).lo.b,sV (y.1.1).hi.b,.bool (y.1.1).bQ])::((b21,ar 73 [sV xlo.b,sV xhi.b,.bool xo])::(y.2.2.1++(bj++[]))))∧aE aU 50 G y.2.1 (y.1.2) y.2.2.1∧rl l ⟨xlo,xhi,xo⟩ n y.1.1 y.1.2∧(y.1.1.lo.b.size≤300∧y.1.1.hi.b.size≤300)) (fun y=>Oc ss y.1.1) (((Span.norm ⟨xlo,xhi,xo⟩,[]):Span×List aG),lV none 0 0,([]:MH),b22) ct ?_ ?_
 ·exact⟨rfl,(by exact aE.nil),rl.init l _ n,yx hxs.1 hxs.2⟩
 rintro⟨⟨r,out⟩,v_7,Jo,B_8⟩ aLj G23 _ aex ⟨rfl,pA,hw,hrs⟩
 try dsimp only at pA hw hrs
 have hol:=hw.aG6 t
 have AK:=t.Qq
 refine WC.fr (f:=gk aLj [(0,aC bA),(2,iV n),(7,v_7),(8,aC B_8)]) rfl (WC.perm (M':=((B_8,ar 73 [sV (r).lo.b,sV (r).hi.b,.bool (r).bQ])::((b21,ar 73 [sV xlo.b,sV xhi.b,.bool xo])::(Jo++(bj++[]))))) ah (g9 7 ?_))
 refine W.call (Mp:=bj) (Ta (cz.mono aex cC) t _) rfl (ag (ag (bJ ah))) ?_
 intro v28 G25 CK H4 Pv
 refine match Pv with|⟨aiz,_,Pw,aLk⟩=> ?_
 subst Pw
 have aiz:=aiz.symm
 subst aiz
 refine W.perm (ag (ag ah)).symm ?_
 refine match aLk with|⟨_,_,_,_,_,_,_,_,Ab,aeJ,aeK,aeL,Tg,Ws⟩=> ?_
 subst Ab
 refine g9 4 ?_
 refine W.alloc cK (fun b32=>(W.alloc fR (fun b33=>(g9 14 ?_))))
 refine W.aH (pW _ _ _) rfl (g9 2 ?_)
 refine W.sp 31 rfl (fun ye=> ?_) (fun ye=> ?_)
 ·refine g9 14 ?_
  refine WC.du (pA.mono H4) (ag (ag (ag (ag (bJ ah))))) (fun G34 aAj awL=>(g9 6 ?_))
  refine⟨.inr rfl,[_],⟨rfl,trivial⟩,_,((((aI _ _).cons _).cons _).cons _).cons _,?_⟩
  exact⟨rfl,_,rfl,az.cast awL (hw.empty ye)⟩
 have g:=t.leg (rest:=r) ye
 have eG:=af3 t r.lo
 have hft:=t.fits _ eG.1
 have hz9:=yC (n:=300) hrs (b:=(cG l r.lo).s) ⟨by have:=hft.1.1;omega,by have:=hft.1.2;omega⟩
 have aEV:=hz9.1
 have aEW:=hz9.2
 have Qs:=t.UF eG.1
 have aJo:=(t.aym _ eG.1).1
 refine g9 11 ?_
 refine WC.cd (fun h35 JV=> ?_) (fun h35 JV=> ?_)
 ·refine g9 6 ?_
  refine WC.du (pA.mono H4) (ag (ag (ag (ag (bJ ah))))) (fun G35 avf awM=>(g9 6 ?_))
  refine⟨.inr rfl,[_],⟨rfl,trivial⟩,_,((((aI _ _).cons _).cons _).cons _).cons _,?_⟩
  exact⟨rfl,_,rfl,az.cast awM (hw.full aa)⟩
 have ZY:=A1.part t eG.1 eG.2 g r.lo (n-(out.length:Int))
 have hvl:=fy (fun p:aG=>Span.has (r.bH (cG l r.lo).s) p.key) (bM l)
 have qc:(((bM l).filter fun p=>Span.has (r.bH (cG l r.lo).s) p.key).take (sG ((bM l).filter fun p=>Span.has (r.bH (cG l r.lo).s) p.key) (n-(out.length:Int)))).length≤((bM l).filter fun p=>Span.has (r.bH (cG l r.lo).s) p.key).length:=by rw [bV];omega
 refine g9 3 ?_
 refine WC.dw (((iD.k9.k9).k9).k9) (d9 [0,1,2,3,5,6,7,9,10,11,12,13,14] ?_)
 refine WD.a1 4 rfl (W.aH (nH _ _ _ _ _ _) rfl (W.nn (WD.a1 8 rfl (W.call (Mp:=bj) (aeE (cz.mono aO cC) t _) rfl (ag (ag (ag (ag ah)))) ?_))))
 intro v40 G37 BS aaF q38
 refine match q38 with|⟨aiA,_,aek,alj⟩=> ?_
 subst aek
 have aiA:=aiA.symm
 subst aiA
 refine W.perm (ag (ag (ag (ag ah)))).symm ?_
 have q44:=alj.form
 refine match q44 with|⟨aLl,aLm,Ah⟩=> ?_
 subst Ah
 refine W.nn (WD.a1 15 rfl (W.call (Mp:=[]) (apx (Tg.mono aaF) (r.bH (cG l r.lo).s).lo (r.bH (cG l r.lo).s).hi (r.bH (cG l r.lo).s).bQ alj r.lo (n-(out.length:Int)) (t.rows eG.1) aa (fun m hm=>fg (hft.2 m hm)) aEV) rfl ah ?_))
 intro _ G45 _ RO q47
 refine match q47 with|⟨adX,_,awv,_,Sc,Nc⟩=> ?_
 subst adX
 subst awv
 subst Sc
 have aBD:=az.cast Nc (l':=(((bM l).filter fun p=>Span.has (r.bH (cG l r.lo).s) p.key).take (sG ((bM l).filter fun p=>Span.has (r.bH (cG l r.lo).s) p.key) (n-(out.length:Int))))) (by rw [ZY])
 have q53:=aBD.form
 refine match q53 with|⟨aLn,aLo,aeB⟩=> ?_
 subst aeB
 refine W.nn (d9 [16,17,18,19,20,21,22] ?_)
 refine g9 6 ?_
 refine W.app (e:=aU) dR ei nX rfl HF rfl rfl ((pA.mono aO)) (aBD) (ag (ag (ag (ag (bJ ah))))) (by show(List.length _+List.length _)*32≤_;omega) (fun v54 aqI aBE=>(W.perm (ag (ag (ag (ag ah)))).symm (g9 8 ?_)))
 refine W.sp 62 rfl (fun Th=> ?_) (fun Th=> ?_)
 ·refine g9 14 ?_
  refine WC.du aBE (ag (ag (ag (ag ah)))) (fun G57 MR awN=>(g9 6 ?_))
  refine⟨.inr rfl,[_],⟨rfl,trivial⟩,_,((((aI _ _).cons _).cons _).cons _).cons _,?_⟩
  exact⟨rfl,_,rfl,az.cast awN (hw.aq6 t aa g (by rw [ZY]at Th;exact Th))⟩
 have No:=hw.go t aa g (by rw [ZY]at Th;exact Th)
 have qz:(Gb (cG l r.lo).n.rows (r.bH (cG l r.lo).s) (cG l r.lo).ms r.lo (n-(out.length:Int))).2.1=(r.bH (cG l r.lo).s).hi:=by rw [ZY];show(if _ then _ else _)=_;rw [if_neg (by rw [No.1];simp)]
 refine g9 7 ?_
 refine W.ok (awO rfl rfl) (g9 3 ?_)
 refine WC.cond rfl (fun h66=> ?_) (fun h66=> ?_)
 ·exfalso
  rw [qz]at h66
  have h0:=g.fin No.1
  unfold af.lt at h0
  rw [h0]at h66
  simp at h66
 refine g9 5 ?_
 refine W.aH (apy _ _ _ _) rfl (g9 9 ?_)
 refine WC.sub (((bB.cons _).k9).k9) (WC.sub ((bB.cons _).k9) (WC.sub (bB.cons _) (g9 1 ?_)))
 refine W.alloc fR (fun b58=>(g9 3 ?_))
 exact⟨aO,(((r.bH ⟨(Gb (cG l r.lo).n.rows (r.bH (cG l r.lo).s) (cG l r.lo).ms r.lo (n-(out.length:Int))).2.1,af.nil,true⟩,out++((bM l).filter fun p=>Span.has (r.bH (cG l r.lo).s) p.key)):Span×List aG),v54,aqI,b58),ct,⟨rfl,(by have h:=aBE;rw [No.2.2]at h;exact h),by rw [qz];exact No.2.1,yC hrs ⟨by rw [qz];exact aEW,by show af.nil.b.size≤300;decide⟩⟩,by rw [qz];exact A1.ahead eG.1 eG.2 ye g No.1⟩

theorem apz{c c2:aX}(cC:cz 98 4 3 149 100 bA c G l bj)(t:Tree c2 l ss):
    Fc Tryz.prog 34 [aC bA] G bj (fun v G' M'=>M'=bj∧∃u0,v=u0∧az aU G' u0 (bM l)):=by
 have AK:=t.Qq
 refine Fc.go [.tmp 2] Tryz.func34 Tryz.ntmps34 rfl (fun w0=>(WC.perm (M':=(bj++[])) (by simp) (g9 8 ?_)))
 refine W.aH (yu) rfl (W.call (Mp:=bj) (aeI cC t Span.all.lo Span.all.hi Span.all.bQ _ ⟨by decide,by decide⟩ ⟨by decide,by decide⟩) rfl ah ?_)
 intro v63 G60 alq alm q61
 refine match q61 with|⟨aiB,_,Ih,Wh⟩=> ?_
 subst Ih
 have aiB:=aiB.symm
 subst aiB
 have q67:=Wh.form
 refine match q67 with|⟨aLp,aLq,aeC⟩=> ?_
 subst aeC
 refine g9 4 ?_
 refine⟨.inr rfl,[_],⟨rfl,trivial⟩,_,aI _ _,?_⟩
 refine⟨rfl,_,rfl,?_⟩
 ·exact az.cast Wh (KO aa)

theorem apA{c:aX}(cC:cz 98 4 3 149 100 bA c G l bj)(t:Tree c l ss):
    Fc Tryz.prog 13 [aC aP] G ((aP,ar 56 [aC bA,sV cur.b])::(bj)) (fun v G' M'=>az aU G' v (bM l)∧M'=(aP,ar 56 [aC bA,sV cur.b])::bj):=by
 refine Fc.go [.tmp 2] Tryz.func13 Tryz.ntmps13 rfl (fun w0=>(WC.perm (M':=((aP,ar 56 [aC bA,sV cur.b])::(bj++[]))) (by simp) (g9 9 ?_)))
 refine W.ok (fx aai rfl rfl) (g9 11 ?_)
 refine W.call (Mp:=bj) (apz cC t) rfl (ag ah) ?_
 intro v5 G2 H6 lJ q3
 refine match q3 with|⟨sf,_,DB,Pf⟩=> ?_
 subst DB
 have sf:=sf.symm
 subst sf
 refine W.perm (ag ah).symm ?_
 have q9:=Pf.form
 refine match q9 with|⟨aN7,aN8,GN⟩=> ?_
 subst GN
 refine g9 4 ?_
 refine⟨.inr rfl,[_],⟨rfl,trivial⟩,_,bB.k9,?_⟩
 exact⟨Pf,ax _ (cx _)⟩

theorem awP{n:Nd}(lA:cc G yN n):
    Fc Tryz.prog 76 [.agg (List.toArray yN)] G [] (fun v _ _=>v=.bool (X6 n)):=by
 obtain⟨_,_,_,_,_,_,_,_,rfl,fk,eX,nr,fH,jO⟩:=lA
 refine Fc.go [.tmp 2] Tryz.func76 Tryz.ntmps76 rfl (fun w0=>(g9 2 ?_))
 refine W.box (L:=[iV _,iV _,lV _ _ _,lV _ _ _,sV _,.bool _,iV _,iV _,lV _ _ _,lV _ _ _]) rfl rfl (fun b10=>(g9 14 ?_))
 rfl

theorem awQ(aQ:az dm G dH l):
    Fc Tryz.prog 109 [dH,.func (.func 76) #[] #[]] G [] (fun v _ _=>v=iV (kz X6 l)):=by
 obtain⟨dz,dA,rfl⟩:=aQ.form
 have hl:=aQ.bq
 refine Fc.go [.tmp 4] Tryz.func109 Tryz.ntmps109 rfl (fun w0=>(g9 14 ?_))
 refine WC.loop (X:=Nat) (fun k=>[(8,aK k),(0,lV dz l.length dA),(1,.func (.func 76) #[] #[]),(7,aK ((l).length))]) (fun k _ Ml=>Ml=[]∧k≤l.length∧∀j (h:j<l.length),j<k→X6 l[j]=false) (fun k=>l.length-k) 0 ct ?_ ?_
 ·exact⟨rfl,aa,fun j _ h=>by omega⟩
 rintro k az8 G11 _ Fi ⟨rfl,hk,hj⟩
 refine g9 6 ?_
 refine WC.cd (fun h9 p9=> ?_) (fun h9 p9=> ?_)
 ·refine g9 15 ?_
  refine(aQ.mono Fi).aN (i:=k) aa (fun _ _ _ _ _ _ _ _ Ue akG akH akI akJ adm=>(g9 2 ?_))
  refine W.yv (fst:=[]) (caps:=[]) rfl (awP (gp akG akH akI akJ adm)) rfl (g9 2 ?_)
  refine WC.cond rfl (fun iQ=> ?_) (fun iQ=> ?_)
  ·refine g9 13 ?_
   refine ax (Value.int .i64) ?_
   exact(O8 (q:=X6) aa iQ hj).symm
  refine g9 8 ?_
  exact⟨Le.rfl,k+1,ct,⟨rfl,aa,fun j h wC=>by
      by_cases e2:j=k
      ·subst e2;exact iQ
      ·exact hj j h aa⟩,aa⟩
 refine g9 12 ?_
 refine ax (Value.int .i64) ?_
 exact(O9 (q:=X6) (fun j h=>hj j aa aa)).symm

theorem awR(aQ:az dm G dH l):
    Fc Tryz.prog 74 [dH,.func (.func 76) #[] #[]] G [] (fun v _ _=>v=.bool (decide ((0:Int)≤kz X6 l))):=by
 obtain⟨dz,dA,rfl⟩:=aQ.form
 refine Fc.go [.tmp 4] Tryz.func74 Tryz.ntmps74 rfl (fun w0=>(g9 9 ?_))
 refine W.aH (awQ aQ) rfl (g9 6 ?_)
 rfl

theorem Ag{c:aX}(ij:oR 98 4 3 149 100 56 aP bA c G (l,cur) eN)(t:Tree c l ss)(pk:Int)(aL:af)(bK:af)(po:Bool)(pv:af)(pl:Int)(k:Int)(hgr:Grown c k l)(YV:k≤1000000000):
    Fc Tryz.prog 8 [aC aP,.agg #[iV pk,sV aL.b,sV bK.b,.bool po,sV pv.b,iV pl]] G eN (fun v G' M'=>∃a l',Dg c k (⟨pk,aL,bK,po,pv,pl⟩:bx) l a l'∧(∃cs,v=.agg (List.toArray cs)∧xF G' cs a)∧oR 98 4 3 149 100 56 aP bA c G' (l',cur) M'):=by
 have h1:=aL.le
 have h2:=bK.le
 have h3:=pv.le
 refine Fc.go [.cell 4 40] Tryz.func8 Tryz.ntmps8 rfl (fun w0=>(WC.perm (M':=(eN++[])) (by simp) (g9 2 ?_)))
 refine W.box (L:=[iV _,sV _,sV _,.bool _,sV _,iV _]) rfl rfl (fun b1=>(W.alloc T0 (fun b2=>(g9 6 ?_))))
 refine W.ok (fx aai rfl rfl) (g9 9 ?_)
 refine W.aH (DJ _ _ _ _ _ _) rfl (g9 9 ?_)
 refine WC.cn (fun jC uK=> ?_) (fun jC uK=> ?_)
 ·try dsimp only at uK
  have hR:¬bx.R (⟨pk,aL,bK,po,pv,pl⟩:bx):=fun hq=>by rw [if_pos hq]at uK;exact uK rfl
  have pY:(if bx.R (⟨pk,aL,bK,po,pv,pl⟩:bx)then(0:Int)else 3)=3:=if_neg hR
  refine g9 3 ?_
  refine W.ok (aY (L:=[iV _,.bool _,sV _,lV _ _ _]) az0 T0 rfl rfl rfl) (g9 5 ?_)
  refine⟨.inr rfl,[_],⟨⟨_,_,_,_,_,rfl,cY (i:=0) rfl,Ct,(by simp),rfl,rfl⟩,trivial⟩,_,((aI _ _).cons _).cons _,?_⟩
  exact⟨⟨(if bx.R (⟨pk,aL,bK,po,pv,pl⟩:bx)then(0:Int)else 3),false,af.nil,[]⟩,l,by rw [pY];exact Dg.bad t hgr hR,⟨_,rfl,_,_,rfl,az.nil,by rw [pY];exact⟨by decide,by decide⟩⟩,ij⟩
 try dsimp only at uK
 have hR:bx.R (⟨pk,aL,bK,po,pv,pl⟩:bx):=by
   by_cases hq:bx.R (⟨pk,aL,bK,po,pv,pl⟩:bx)
   ·exact hq
   rw [if_neg hq]at uK;omega
 have ni:=hR.1.2.2.1
 have hk6:=hR.1.2.1
 have hk7:=hR.1.1
 dsimp only at ni hk6 hk7
 refine g9 16 ?_
 refine WC.cd (fun AJ wA=> ?_) (fun AJ wA=> ?_)
 ·try dsimp only at wA
  obtain⟨Ti,aEX,aEY⟩:=ij
  subst aEX
  have awS:cz 98 4 3 149 100 bA c G l Ti:=aEY
  refine WC.perm (M':=((aP,ar 56 [aC bA,sV cur.b])::((b2,ar 40 [iV 0,.bool false,sV ⟨#[]⟩,lV none 0 0])::((b1,ar 35 [iV pk,sV aL.b,sV bK.b,.bool po,sV pv.b,iV pl])::(Ti++[]))))) (nV (nV ah)).symm (WC.dw ((iD.k9.cons _).k9) (d9 [0,1,2,3,4,5] ?_))
  refine WD.a1 6 rfl (W.call (Mp:=Ti) (aeH awS t aL) rfl (ag (ag (ag ah))) ?_)
  intro v7 G4 Ms6 Jh q5
  refine match q5 with|⟨awT,FV⟩=> ?_
  subst FV
  have awT:=awT.symm
  subst awT
  refine W.perm (ag (ag (ag ah))).symm (W.nn (d9 [7,8,9,10,11,12,13] ?_))
  refine WD.done (by kernel_rfl) (pI (jH (g9 6 ?_)))
  have aLr:oR 98 4 3 149 100 56 aP bA c G4 (l,cur) ((aP,ar 56 [aC bA,sV cur.b])::Ti):=⟨_,rfl,(cz.mono Jh awS)⟩
  refine WC.perm (M':=((b2,ar 40 [iV 0,.bool ((bz (bM l) aL).isSome),sV ((bz (bM l) aL).getD af.nil).b,lV none 0 0])::((b1,ar 35 [iV pk,sV aL.b,sV bK.b,.bool po,sV pv.b,iV pl])::(((aP,ar 56 [aC bA,sV cur.b])::Ti)++[])))) ((ag (ag ah)).symm.trans (((ag (ag ah)).cons _).trans ah)) (WC.ret ?_)
  refine⟨.inr rfl,[_],⟨⟨_,_,_,_,_,rfl,cY (i:=0) rfl,Ct,(by simp),rfl,rfl⟩,trivial⟩,_,((aI _ _).cons _).cons _,?_⟩
  exact⟨_,l,Dg.get t hgr hR wA,⟨_,rfl,_,_,rfl,az.nil,(show i64 0 from⟨by decide,by decide⟩)⟩,aLr⟩
 try dsimp only at wA
 refine g9 6 ?_
 refine WC.cd (fun h36 Aq=> ?_) (fun h36 Aq=> ?_)
 ·try dsimp only at Aq
  have aLs:(bx.span (⟨pk,aL,bK,po,pv,pl⟩:bx)).lo.b.size≤300∧(bx.span (⟨pk,aL,bK,po,pv,pl⟩:bx)).hi.b.size≤300:=by
    rw [bx.span,if_pos (.inr Aq)]
    have h8:=hR.1
    dsimp only at h8⊢
    omega
  have MM:i64 pl:=by
    have h8:=hR.2.2.2.1 Aq
    dsimp only at h8
    exact⟨aa,aa⟩
  obtain⟨J0,azE,azF⟩:=ij
  subst azE
  have alr:cz 98 4 3 149 100 bA c G l J0:=azF
  refine WC.perm (M':=((aP,ar 56 [aC bA,sV cur.b])::((b2,ar 40 [iV 0,.bool false,sV ⟨#[]⟩,lV none 0 0])::((b1,ar 35 [iV pk,sV aL.b,sV bK.b,.bool po,sV pv.b,iV pl])::(J0++[]))))) (nV (nV ah)).symm (WC.dw ((iD.k9.cons _).k9) (d9 [0,1,2,3,4,6,7] ?_))
  refine WD.a1 5 rfl (W.aH (Bo _ _ _ _ _ _ (by first|assumption|omega|(dsimp only;omega))) rfl (W.nn (WD.a1 8 rfl (W.call (Mp:=J0) (aeI alr t (bx.span (⟨pk,aL,bK,po,pv,pl⟩:bx)).lo (bx.span (⟨pk,aL,bK,po,pv,pl⟩:bx)).hi (bx.span (⟨pk,aL,bK,po,pv,pl⟩:bx)).bQ pl aLs MM) rfl (ag (ag (ag ah))) ?_))))
  intro v16 Xa Fk lT yg
  refine match yg with|⟨GZ,_,CJ,aBF⟩=> ?_
  subst CJ
  have GZ:=GZ.symm
  subst GZ
  refine W.perm (ag (ag (ag ah))).symm ?_
  have DI:=aBF.form
  refine match DI with|⟨awU,awV,Ao⟩=> ?_
  subst Ao
  refine W.nn (d9 [9,10] ?_)
  refine WD.done (by kernel_rfl) (pI (jH (g9 6 ?_)))
  have aLt:oR 98 4 3 149 100 56 aP bA c Xa (l,cur) ((aP,ar 56 [aC bA,sV cur.b])::J0):=⟨_,rfl,(cz.mono lT alr)⟩
  refine WC.perm (M':=((b2,ar 40 [iV 0,.bool false,sV ⟨#[]⟩,lV awU (fe (bM l) (bx.span (⟨pk,aL,bK,po,pv,pl⟩:bx)) pl).length awV])::((b1,ar 35 [iV pk,sV aL.b,sV bK.b,.bool po,sV pv.b,iV pl])::(((aP,ar 56 [aC bA,sV cur.b])::J0)++[])))) ((ag (ag ah)).symm.trans (((ag (ag ah)).cons _).trans ah)) (WC.ret ?_)
  refine⟨.inr rfl,[_],⟨⟨_,_,_,_,_,rfl,cY (i:=0) rfl,Ct,(by simp),rfl,rfl⟩,trivial⟩,_,((aI _ _).cons _).cons _,?_⟩
  exact⟨_,l,Dg.scan t hgr hR Aq,⟨_,rfl,_,_,rfl,aBF,(show i64 0 from⟨by decide,by decide⟩)⟩,aLt⟩
 try dsimp only at Aq
 refine g9 3 ?_
 refine W.call (Mp:=eN) (aeG ij t pk aL bK po pv pl k hR aa hgr YV) rfl (ag (ag ah)) ?_
 intro v28 G25 CK H4 Pv
 refine match Pv with|⟨e22,l23,aBG,Pw,aqF⟩=> ?_
 subst Pw
 refine W.perm (ag (ag ah)).symm (g9 12 ?_)
 refine⟨.inr rfl,[_],⟨⟨_,_,_,_,_,rfl,cY (i:=0) rfl,Ct,(by simp),rfl,rfl⟩,trivial⟩,_,((aI _ _).cons _).cons _,?_⟩
 exact⟨⟨e22,false,af.nil,[]⟩,l23,Dg.wr hR wA Aq aBG,⟨_,rfl,_,_,rfl,az.nil,by rcases aBG.r with⟨h,_⟩|⟨h,_⟩<;>rw [h]<;>exact⟨by decide,by decide⟩⟩,aqF⟩

theorem ac7{c:aX}(ij:oR 98 4 3 149 100 56 aP bA c G (l,cur) eN)(t:Tree c l ss):
    Fc Tryz.prog 11 [aC aP] G eN (fun v G' M'=>∃N r,n7 c cur N l 0 0=some r∧v=.tuple #[iV r.1,iV r.2.1]∧oR 98 4 3 149 100 56 aP bA c G' (r.2.2,(if(cG r.2.2 cur).s.bQ=true then af.nil else(cG r.2.2 cur).s.hi)) M'):=by
 have hp9:=t.pos
 obtain⟨N9,r9,hN9,z7⟩:=abQ t cur
 obtain⟨sT,tT,hmT⟩:=zQ N9 t ⟨eI _,aa⟩ z7
 refine Fc.go [.tmp 2,.tmp 3] Tryz.func11 Tryz.ntmps11 rfl (fun w0=>(WC.perm (M':=(eN++[])) (by simp) (g9 10 ?_)))
 refine W.ok (fx aai rfl rfl) (g9 6 ?_)
 obtain⟨ZZ,azG,azH⟩:=ij
 subst azG
 have azI:cz 98 4 3 149 100 bA c G l ZZ:=azH
 refine WC.perm (M':=((aP,ar 56 [aC bA,sV cur.b])::(ZZ++[]))) ah.symm (WC.dw iD.k9 (d9 [0,1,2,3,4,5,6,7] ?_))
 refine WD.a1 8 rfl (W.call (Mp:=ZZ) (S4 azI t cur rfl N9 r9 z7 aa) rfl (ag ah) ?_)
 intro v35 G32 JQ aBs q33
 refine match q33 with|⟨Dt,als⟩=> ?_
 subst Dt
 refine W.perm (ag ah).symm (W.nn (d9 [9,10,11,12,13] ?_))
 refine g9 3 ?_
 refine WC.dw (iD.cons _) (d9 [0,1,2,3,5,6,7] ?_)
 refine WD.any [4,8] (by kernel_rfl) rfl ⟨WD.ap ?_,WD.ap ?_,trivial⟩
 ·refine g9 1 ?_
  refine W.nn (WD.a1 8 rfl (g9 1 ?_))
  refine W.nn (WD.a1 9 rfl (W.call (Mp:=JQ) (Wr als tT cur) rfl (ag ah) ?_))
  intro v41 G38 Uh oD q39
  refine match q39 with|⟨aiC,Ah⟩=> ?_
  subst Ah
  have aiC:=aiC.symm
  subst aiC
  refine W.perm (ag ah).symm (W.nn (d9 [10,11,12] ?_))
  refine g9 10 ?_
  have aLu:oR 98 4 3 149 100 56 aP bA c G38 (r9.2.2,(if(cG r9.2.2 cur).s.bQ=true then af.nil else(cG r9.2.2 cur).s.hi)) ((aP,ar 56 [aC bA,sV (if(cG r9.2.2 cur).s.bQ=true then af.nil else(cG r9.2.2 cur).s.hi).b])::JQ):=⟨_,rfl,(cz.mono oD als)⟩
  refine WC.perm (M':=(((aP,ar 56 [aC bA,sV (if(cG r9.2.2 cur).s.bQ=true then af.nil else(cG r9.2.2 cur).s.hi).b])::JQ)++[])) (ah.symm.trans ((ah.cons _).trans ah)) (WC.ret ?_)
  refine⟨.inr rfl,[_,_],⟨rfl,rfl,trivial⟩,_,aI _ _,?_⟩
  exact⟨N9,r9,z7,rfl,aLu⟩
 refine g9 1 ?_
 refine W.nn (WD.a1 4 rfl (g9 1 ?_))
 refine W.nn (WD.a1 9 rfl (W.call (Mp:=JQ) (Wr als tT cur) rfl (ag ah) ?_))
 intro v48 G45 akn RO q46
 refine match q46 with|⟨aiD,Sc⟩=> ?_
 subst Sc
 have aiD:=aiD.symm
 subst aiD
 refine W.perm (ag ah).symm (W.nn (d9 [10,11,12] ?_))
 refine g9 10 ?_
 have aLv:oR 98 4 3 149 100 56 aP bA c G45 (r9.2.2,(if(cG r9.2.2 cur).s.bQ=true then af.nil else(cG r9.2.2 cur).s.hi)) ((aP,ar 56 [aC bA,sV (if(cG r9.2.2 cur).s.bQ=true then af.nil else(cG r9.2.2 cur).s.hi).b])::JQ):=⟨_,rfl,(cz.mono RO als)⟩
 refine WC.perm (M':=(((aP,ar 56 [aC bA,sV (if(cG r9.2.2 cur).s.bQ=true then af.nil else(cG r9.2.2 cur).s.hi).b])::JQ)++[])) (ah.symm.trans ((ah.cons _).trans ah)) (WC.ret ?_)
 refine⟨.inr rfl,[_,_],⟨rfl,rfl,trivial⟩,_,aI _ _,?_⟩
 exact⟨N9,r9,z7,rfl,aLv⟩

theorem VY(fh:Int)(dF:Int)(iS:Int)(cX:Int)(fF:Int):
    Fc Tryz.prog 6 [.agg #[iV fh,iV dF,iV iS,iV cX,iV fF]] G [] (fun v G' M'=>(¬lY (⟨fh,dF,iS,cX,fF⟩:aX)∧v=.tuple #[.pointer none,iV 2]∧M'=[])∨(lY (⟨fh,dF,iS,cX,fF⟩:aX)∧∃bt bs,v=.tuple #[aC bt,iV 0]∧oR 98 4 3 149 100 56 bt bs (⟨fh,dF,iS,cX,fF⟩:aX) G' ([lZ 0],af.nil) M')):=by
 refine Fc.go [.tmp 2,.tmp 3] Tryz.func6 Tryz.ntmps6 rfl (fun w0=>(g9 2 ?_))
 refine W.box (L:=[iV _,iV _,iV _,iV _,iV _]) rfl rfl (fun b1=>(g9 7 ?_))
 refine W.call (Mp:=[]) (anS (fh) (dF) (iS) (cX) (fF)) rfl ah ?_
 intro v5 G2 H6 lJ q3
 refine Or.elim q3 (fun q6=> ?_) (fun q7=> ?_)
 ·refine match q6 with|⟨hnc,GN,FV⟩=> ?_
  subst GN
  subst FV
  refine g9 25 ?_
  exact .inl ⟨hnc,rfl,rfl⟩
 refine match q7 with|⟨hC,bSt,HX,xM⟩=> ?_
 subst HX
 refine W.perm (ag ah).symm (g9 20 ?_)
 refine W.ok (aY (L:=[.pointer _,sV _]) aGw aGv rfl rfl rfl) (W.box (L:=[.pointer _,sV _]) rfl rfl (fun vG=>(g9 5 ?_)))
 refine⟨.inr rfl,[_,_],⟨rfl,rfl,trivial⟩,_,((aI _ _).cons _).k9,?_⟩
 exact .inr ⟨hC,_,_,rfl,_,rfl,xM⟩

theorem anA{l:List A7}(aQ:az X8 G dH l):
    Fc Tryz.prog 4 [dH] G [] (fun v G' M'=>(∃r,v=.bool r∧(r=true→aAw l))∧M'=[]):=by
 obtain⟨dz,dA,rfl⟩:=aQ.form
 have hl:=aQ.bq
 refine Fc.go [.tmp 2] Tryz.func4 Tryz.ntmps4 rfl (fun w0=>(g9 17 ?_))
 refine WC.loop (X:=Nat) (fun k=>[(3,iV (IV (l.take k))),(4,aK k),(0,lV dz l.length dA)]) (fun k _ Ml=>Ml=[]∧k≤l.length∧k≤101∧(∀j (h:j<l.length),j<k→((l[j]).o.key.b.size:Int)≤300∧((l[j]).o.hi.b.size:Int)≤300∧((l[j]).o.val.b.size:Int)≤300∧(l[j]).fl≤20)∧IV (l.take k)≤20*k) (fun k=>l.length-k) 0 ct ?_ ?_
 ·exact⟨rfl,aa,aa,fun j _ h=>by omega,by simp [IV]⟩
 rintro k aJS G12 _ JM ⟨rfl,hk,wD,hj,hfs⟩
 have hfp:=arY (l.take k)
 refine g9 8 ?_
 refine W.sd 9 (fun h8 p8=> ?_) (fun h8 p8=> ?_)
 ·refine g9 7 ?_
  refine WC.cd (fun ov p11=> ?_) (fun ov p11=> ?_)
  ·refine g9 9 ?_
   have q17:=(aQ.mono JM).at (i:=k) aa
   refine match q17 with|⟨_,aqK,⟨I3,aLw,aLx⟩⟩=> ?_
   subst I3
   refine g9 3 ?_
   refine W.aH (air _ _ _ _ _ _ _) rfl (g9 2 ?_)
   refine W.sp 22 rfl (fun Cw=> ?_) (fun Cw=> ?_)
   ·refine g9 23 ?_
    exact⟨⟨false,rfl,fun h=>by cases h⟩,rfl⟩
   refine g9 5 ?_
   have Kp:=(aQ.mono JM).at (i:=k) aa
   refine match Kp with|⟨_,aGJ,⟨uN,aLy,aLz⟩⟩=> ?_
   subst uN
   refine g9 10 ?_
   refine WC.cd (fun ya Tj=> ?_) (fun ya Tj=> ?_)
   ·refine g9 13 ?_
    exact⟨⟨false,rfl,fun h=>by cases h⟩,rfl⟩
   have hz:=am9 (l:=l) (k:=k) aa
   refine g9 6 ?_
   have DK:=(aQ.mono JM).at (i:=k) aa
   refine match DK with|⟨_,aGT,⟨xW,aLA,aLB⟩⟩=> ?_
   subst xW
   refine g9 3 ?_
   refine W.ok (Cz rfl rfl) (g9 11 ?_)
   exact⟨Le.rfl,k+1,ct,⟨rfl,aa,aa,fun j h wC=>by
      by_cases e2:j=k
      ·subst e2;have h9:=Cw;simp at h9;exact⟨h9.1,h9.2.1,h9.2.2,aa⟩
      ·exact hj j h aa,aa⟩,aa⟩
  refine g9 11 ?_
  refine W.sd 41 (fun YJ p40=> ?_) (fun YJ p40=> ?_)
  ·refine g9 10 ?_
   exfalso;have p11:=OU ov;omega
  refine g9 8 ?_
  exact⟨⟨false,rfl,fun h=>by cases h⟩,rfl⟩
 refine g9 17 ?_
 refine W.sd 41 (fun YJ p40=> ?_) (fun YJ p40=> ?_)
 ·refine g9 10 ?_
  have o9:k=l.length:=by omega
  subst o9
  refine⟨⟨_,rfl,fun h=>⟨aa,fun a ha=> ?_,?_⟩⟩,rfl⟩
  · obtain⟨j,hj9,rfl⟩:=cj ha
    exact hj j hj9 hj9
  have h9:=Cu h;rwa [rT]at h9
 refine g9 8 ?_
 exact⟨⟨false,rfl,fun h=>by cases h⟩,rfl⟩

theorem aeM{c:aX}(h:oR 98 4 3 149 100 56 aP bA c G (l,cur) M)(t:Tree c l ss):Fc Tryz.prog 75 [aC aP] G M (fun v G' M'=>az dm G' v l∧M'=M):=by
  obtain⟨Ms,rfl,hS⟩:=h
  exact aeF hS t
theorem VZ{c:aX}(h:oR 98 4 3 149 100 56 aP bA c G (l,cur) M)(t:Tree c l ss):Fc Tryz.prog 13 [aC aP] G M (fun v G' M'=>az aU G' v (bM l)∧M'=M):=by
  obtain⟨Ms,rfl,hS⟩:=h
  exact apA hS t
theorem aeN{c:aX}(ij:oR 98 4 3 149 100 56 aP bA c G (l,cur) eN)(t:Tree c l ss):
    Fc Tryz.prog 36 [aC aP] G eN (fun v G' M'=>v=.bool (yF l)∧M'=eN):=by
 refine Fc.go [.tmp 2] Tryz.func36 Tryz.ntmps36 rfl (fun w0=>(WC.perm (M':=(eN++[])) (by simp) (g9 8 ?_)))
 refine W.call (Mp:=eN) (aeM ij t) rfl ah ?_
 intro v4 G1 Ms3 pX q2
 refine match q2 with|⟨hR5,DY⟩=> ?_
 have DY:=DY.symm
 subst DY
 have q7:=hR5.form
 refine match q7 with|⟨aN9,aOa,CI⟩=> ?_
 subst CI
 refine W.aH (awR hR5) rfl (g9 5 ?_)
 refine⟨.inr rfl,[_],⟨rfl,trivial⟩,_,aI _ _,?_⟩
 exact⟨ax Value.bool (agy l),rfl⟩

end Go.Proofs.YthhpfadbojfdnaaGreat

namespace Go.Fw
open Go Go.RowKit
def Ar:af:=⟨⟨#[97]⟩,by decide⟩
def aeO:af:=⟨⟨#[98]⟩,by decide⟩
def aeP:af:=⟨⟨#[49]⟩,by decide⟩
def aBH:af:=⟨⟨#[50]⟩,by decide⟩
def aeQ:af:=⟨⟨#[51]⟩,by decide⟩
def Wt:af:=⟨⟨#[49,50]⟩,by decide⟩
def TZ:aX:=⟨4,2,36,9,0⟩
theorem aBI:lY TZ:=by decide
def alu:bx:=⟨1,Ar,af.nil,false,aeP,0⟩
def alv:bx:=⟨2,Ar,af.nil,false,aBH,0⟩
def aLC:bx:=⟨5,Ar,af.nil,false,af.nil,0⟩
def alw:bx:=⟨4,af.nil,af.nil,true,af.nil,0⟩
def alx:bx:=⟨1,aeO,af.nil,false,aeQ,0⟩
theorem aLD:alu.R:=by decide+kernel
theorem aLE:alv.R:=by decide+kernel
theorem aLF:alw.R:=by decide+kernel
theorem aLG:alx.R:=by decide+kernel
def aly:List Nd:=(dD TZ [lZ 0] alu).2.2
def aeR:List Nd:=(dD TZ aly alv).2.2
def alz:List Nd:=(dD TZ aeR alw).2.2
def awW:List Nd:=(dD TZ alz alx).2.2
theorem aLH:(dD TZ [lZ 0] alu).2.1=0:=by decide+kernel
theorem aLI:(dD TZ aly alv).2.1=0:=by decide+kernel
theorem aLJ:(dD TZ aeR alw).2.1=0:=by decide+kernel
theorem aLK:(dD TZ alz alx).2.1=0:=by decide+kernel
theorem q32:yF awW=true:=by decide+kernel
theorem aLL:(qU [] alu).1=[⟨Ar,aeP⟩]:=by decide+kernel
theorem aLM:(qU [⟨Ar,aeP⟩] alv).1=[⟨Ar,Wt⟩]:=by decide+kernel
theorem aLN:(qU [⟨Ar,Wt⟩] aLC).2=⟨0,true,Wt,[]⟩:=by decide+kernel
theorem aLO:(qU [⟨Ar,Wt⟩] alw).1=[]:=by decide+kernel
theorem aLP:(qU [] alx).1=[⟨aeO,aeQ⟩]:=by decide+kernel
end Go.Fw
namespace Go.Proofs.YthhpfadbojfdnaaGreat
open Go Go.Fw Go.RowKit
attribute [local irreducible] Ok W WC
variable {G:GH}
theorem Y5{FF:List Value}{a:X7}(cJ:xF G FF a){aBJ:List Value}{b:X7}(O2:xF G aBJ b):
    Fc Tryz.prog 9 [.agg (List.toArray FF),.agg (List.toArray aBJ)] G [] (fun v _ _=>v=.bool (decide (a=b))):=by
 obtain⟨_,_,rfl,MS,iM⟩:=cJ
 obtain⟨_,_,rfl,aeS,Z0⟩:=O2
 refine Fc.go [.tmp 4] Tryz.func9 Tryz.ntmps9 rfl (fun w0=>(g9 2 ?_))
 refine W.box (L:=[iV _,.bool _,sV _,lV _ _ _]) rfl rfl (fun b1=>(W.box (L:=[iV _,.bool _,sV _,lV _ _ _]) rfl rfl (fun b2=>(g9 11 ?_))))
 refine W.sd 10 (fun h9 p9=> ?_) (fun h9 p9=> ?_)
 ·refine g9 9 ?_
  refine W.ok (awX bo4 rfl rfl) (g9 2 ?_)
  refine W.sp 17 rfl (fun tQ=> ?_) (fun tQ=> ?_)
  ·refine g9 12 ?_
   refine W.sd 24 (fun AJ wA=> ?_) (fun AJ wA=> ?_)
   ·refine g9 9 ?_
    refine W.aH (Ki MS aeS) rfl (g9 6 ?_)
    refine ax Value.bool ?_
    rw [eZ,ia]
    clear MS iM aeS Z0
    cases a;cases b
    simp_all [af.AF]
   refine g9 11 ?_
   refine ax Value.bool ?_
   rw [eZ,ia]
   clear MS iM aeS Z0
   cases a;cases b
   simp_all [af.AF]
  refine g9 18 ?_
  refine ax Value.bool ?_
  rw [eZ,ia]
  clear MS iM aeS Z0
  cases a;cases b
  simp_all [af.AF]
 refine g9 25 ?_
 refine ax Value.bool ?_
 rw [eZ,ia]
 clear MS iM aeS Z0
 cases a;cases b
 simp_all [af.AF]

theorem Z3{aP bA:Nat}{c:aX}{l:List Nd}{ss:List aw}{cur:af}{eN:MH}(ij:oR 98 4 3 149 100 56 aP bA c G (l,cur) eN)(t:Tree c l ss)(hq:yF l=true):
    Fc Tryz.prog 16 [aC aP] G eN (fun v G' M'=>v=iV 0∧oR 98 4 3 149 100 56 aP bA c G' (l,cur) M'):=by
 refine Fc.go [.tmp 2] Tryz.func16 Tryz.ntmps16 rfl (fun w0=>(WC.perm (M':=(eN++[])) (by simp) (g9 9 ?_)))
 refine W.ok (fx aai rfl rfl) (g9 12 ?_)
 refine WC.loop (X:=(Nat)×MH) (fun k=>[(3,iV 1),(0,aC aP)]) (fun k G Ml=>Ml=(k.2++[])∧oR 98 4 3 149 100 56 aP bA c G ((l,cur)) k.2∧True) (fun k=>0) (0,eN) ct ?_ ?_
 ·exact⟨rfl,(by exact ij),trivial⟩
 rintro⟨k,Km⟩ Xe G1 _ pX ⟨rfl,g0,_⟩
 try dsimp only at g0 _
 refine WC.fr (f:=gk Xe [(3,iV 1),(0,aC aP)]) rfl (g9 4 ?_)
 refine W.call (Mp:=Km) (aeN g0 t) rfl ah ?_
 intro v5 G2 H6 lJ q3
 refine match q3 with|⟨DB,sf⟩=> ?_
 subst DB
 have sf:=sf.symm
 subst sf
 refine g9 3 ?_
 refine WC.cond rfl (fun ir=> ?_) (fun ir=> ?_)
 ·rw [hq]at ir;cases ir
 refine g9 11 ?_
 refine⟨.inr rfl,[_],⟨rfl,trivial⟩,_,aI _ _,?_⟩
 exact⟨rfl,(oR.mono lJ g0)⟩

theorem yK  :
    Fc Tryz.prog 5 [] G [] (fun v _ _=>v=.bool (true)):=by
 refine Fc.go [.tmp 0] Tryz.func5 Tryz.ntmps5 rfl (fun w0=>(g9 7 ?_))
 refine W.ok (aY (L:=[iV _,iV _,iV _,iV _,iV _]) apT aiZ rfl rfl rfl) (W.call (Mp:=[]) (VY 4 2 36 9 0) rfl ah ?_)
 intro v11 G8 Pq H9 q9
 have hN9:=Or.resolve_left q9 (fun h=>h.1 aBI)
 refine match hN9 with|⟨hC,aP,bA,aaH,YY⟩=> ?_
 subst aaH
 have t0:=U9 aBI
 have hg0:=Q1 (c:=TZ)
 refine g9 10 ?_
 refine W.ok (aY (L:=[iV _,sV _,sV _,.bool _,sV _,iV _]) aah aag rfl rfl rfl) (W.call (Mp:=Pq) (Ag YY t0 1 Ar af.nil false aeP 0 (0:Int) hg0 (by decide)) rfl ah ?_)
 intro v16 Xa Fk lT yg
 refine match yg with|⟨a1,l1,hD1,⟨aPg,CJ,_,_,Ao,aPh,aOb⟩,Pt⟩=> ?_
 subst CJ
 subst Ao
 have aBK:=hD1.x aLD (by decide) aLH
 have eL1:l1=aly:=aBK.1
 have eA1:=aBK.2
 subst eA1
 subst eL1
 have hg1:=hD1.g
 have DI:=hD1.t
 refine match DI with|⟨T1,t1⟩=> ?_
 have hm1:bM aly=[⟨Ar,aeP⟩]:=(hD1.MF (by decide)).2.trans (by rw [abU];exact aLL)
 refine g9 5 ?_
 refine W.ok (aY (L:=[iV _,sV _,sV _,.bool _,sV _,iV _]) aah aag rfl rfl rfl) (W.call (Mp:=Fk) (Ag Pt t1 2 Ar af.nil false aBH 0 (1:Int) hg1 (by decide)) rfl ah ?_)
 intro v24 G21 aaE uM Kp
 refine match Kp with|⟨a2,l2,hD2,⟨aPi,xW,_,_,aej,aPj,aOc⟩,aLQ⟩=> ?_
 subst xW
 subst aej
 have aBL:=hD2.x aLE (by decide) aLI
 have eL2:l2=aeR:=aBL.1
 have eA2:=aBL.2
 subst eA2
 subst eL2
 have hg2:=hD2.g
 have q28:=hD2.t
 refine match q28 with|⟨T2,t2⟩=> ?_
 have o7:bM aeR=[⟨Ar,Wt⟩]:=(hD2.MF (by decide)).2.trans (by rw [hm1];exact aLM)
 refine g9 5 ?_
 refine W.ok (aY (L:=[iV _,sV _,sV _,.bool _,sV _,iV _]) aah aag rfl rfl rfl) (W.call (Mp:=aaE) (Ag aLQ t2 5 Ar af.nil false af.nil 0 (2:Int) hg2 (by decide)) rfl ah ?_)
 intro YW Jl oC tH LA
 refine match LA with|⟨a3,l3,hD3,⟨aPk,tp,_,_,zB,aPl,aOd⟩,Wp⟩=> ?_
 subst tp
 subst zB
 have hf3:¬a3.err=4:=fun e=>absurd (hD3.full e).2.2.1 (by decide)
 have eL3:l3=aeR:=hD3.z (by decide)
 have eA3:a3=⟨0,true,Wt,[]⟩:=(hD3.MF hf3).1.trans (by rw [o7];exact aLN)
 subst eA3
 subst eL3
 have hg3:=hD3.g
 have q36:=hD3.t
 refine match q36 with|⟨T3,t3⟩=> ?_
 have hm3:=o7
 refine W.alloc T0 (fun b37=>(g9 6 ?_))
 refine W.ok (aY (L:=[iV _,sV _,sV _,.bool _,sV _,iV _]) aah aag rfl rfl rfl) (W.call (Mp:=oC) (Ag Wp t3 4 af.nil af.nil true af.nil 0 (3:Int) hg3 (by decide)) rfl (ag ah) ?_)
 intro v41 G38 Uh oD q39
 refine match q39 with|⟨a4,l4,hD4,⟨aPm,Ah,_,_,Dw,aPn,aOe⟩,aLR⟩=> ?_
 subst Ah
 subst Dw
 refine W.perm (ag ah).symm ?_
 have aBM:=hD4.x aLF (by decide) aLJ
 have eL4:l4=alz:=aBM.1
 have eA4:=aBM.2
 subst eA4
 subst eL4
 have hg4:=hD4.g
 have q45:=hD4.t
 refine match q45 with|⟨T4,t4⟩=> ?_
 have hm4:bM alz=[]:=(hD4.MF (by decide)).2.trans (by rw [hm3];exact aLO)
 refine g9 5 ?_
 refine W.ok (aY (L:=[iV _,sV _,sV _,.bool _,sV _,iV _]) aah aag rfl rfl rfl) (W.call (Mp:=Uh) (Ag aLR t4 1 aeO af.nil false aeQ 0 (4:Int) hg4 (by decide)) rfl (ag ah) ?_)
 intro v49 G46 aBN avK q47
 refine match q47 with|⟨a5,l5,hD5,⟨aPo,ack,_,_,aeB,aPp,aOf⟩,aBO⟩=> ?_
 subst ack
 subst aeB
 refine W.perm (ag ah).symm ?_
 have aBP:=hD5.x aLG (by decide) aLK
 have eL5:l5=awW:=aBP.1
 have eA5:=aBP.2
 subst eA5
 subst eL5
 have hg5:=hD5.g
 have q53:=hD5.t
 refine match q53 with|⟨T5,t5⟩=> ?_
 have hm5:bM awW=[⟨aeO,aeQ⟩]:=(hD5.MF (by decide)).2.trans (by rw [hm4];exact aLP)
 refine g9 21 ?_
 refine W.sd 35 (fun DV x9=> ?_) (fun DV x9=> ?_)
 ·try dsimp only at x9
  refine g9 3 ?_
  refine W.call (Mp:=aBN) (VZ aBO t5) rfl (ag ah) ?_
  intro v57 G54 aAK z8 Ys
  refine match Ys with|⟨aBQ,Hc⟩=> ?_
  have Hc:=Hc.symm
  subst Hc
  refine W.perm (ag ah).symm ?_
  have Xp:=aBQ.form
  refine match Xp with|⟨aLS,aLT,I9⟩=> ?_
  subst I9
  refine g9 1 ?_
  refine W.ok (aY (L:=[sV _,sV _]) azZ nX rfl rfl rfl) (g9 1 ?_)
  refine W.lit (e:=aU) (l:=[⟨aeO,aeQ⟩]) (css:=[[sV _,sV _]]) dR ei nX rfl rfl rfl rfl rfl rfl ⟨rfl,trivial⟩ (fun aS0 G61 adT Sx=>(g9 1 ?_))
  refine W.aH ((Ki (aBQ.mono adT) Sx).mono (fun v _ _ _ hv=>hv.trans (ax Value.bool (dB hm5)))) rfl (g9 5 ?_)
  refine W.call (Mp:=aBN) (Z3 (oR.mono aO aBO) t5 q32) rfl (ag ah) ?_
  intro v65 G62 aed aBo q63
  refine match q63 with|⟨Ja,aBp⟩=> ?_
  subst Ja
  refine W.perm (ag ah).symm (g9 8 ?_)
  rfl
 try dsimp only at x9
 exact absurd rfl x9

end Go.Proofs.YthhpfadbojfdnaaGreat

namespace Go.Fw
open Go Go.RowKit
def fY:(k:Nat)→BT k→c6
 |0,y=>⟨y.slot,0,[],[],di y⟩
 |k+1,y=>⟨y.slot,((k+1:Nat):Int),au y,(ay y).map BT.slot,[]⟩
def TO:(k:Nat)→BT k→List c6
 |0,_=>[]
 |k+1,y=>(ay y).flatMap fun c=>fY k c::TO k c
def bf (k:Nat) (y:BT k):List c6:=fY k y::TO k y
theorem bg:∀ {k:Nat} {y:BT k},(fY k y).slot=y.slot
 |0,_=>rfl
 |_+1,_=>rfl
theorem kh:∀ {k:Nat} {y:BT k},(fY k y).lvl=(k:Int)
 |0,_=>rfl
 |_+1,_=>rfl
variable {k:Nat}
theorem kD{y:BT (k+1)} :bf (k+1) y=fY (k+1) y::(ay y).flatMap (bf k):=rfl
theorem oT{y:BT (k+1)}{c:BT k}(hc:c∈ay y){n:c6}(hn:n∈bf k c):n∈bf (k+1) y:=by
 rw [kD]
 exact dk _ (kl.2 ⟨c,hc,hn⟩)
theorem cD{y:BT k} :fY k y∈bf k y:=tO ..
def td (fan leaf:Int) (n:c6):Bool:=if n.lvl=0 then decide (leaf≤(n.R.length:Int))else decide (fan≤(n.K.length:Int))
def acf (fan leaf:Int) (n:c6):Bool:=if n.lvl=0 then decide ((n.R.length:Int)<leaf / 2)else decide ((n.K.length:Int)<fan / 2)
def iL (key:af):(k:Nat)→BT k→List c6
 |0,y=>[fY 0 y]
 |k+1,y=>fY (k+1) y::iL key k ((ay y).getD (ae (au y) key) default)
theorem Nf{key:af} :∀ {k:Nat} {y:BT k},∃l,iL key k y=fY k y::l
 |0,y=>⟨[],rfl⟩
 |k+1,y=>⟨_,rfl⟩
theorem oW{key:af} :∀ {k:Nat} {y:BT k},(iL key k y).length=k+1
 |0,y=>rfl
 |k+1,y=>by show(iL key k _).length+1=_;rw [oW]
def Jg (cells:List (Option Nat)) (n:c6):Option Nat:=cells.getD n.slot.toNat none
theorem jm.pt{cells:List (Option Nat)}{n:c6}{b:Nat}(h:jm cells n.slot b):Jg cells n=some b:=by
 unfold Jg
 rw [fc,h.2];rfl
variable {fan:Int}
theorem lz{leaf:Int}{lo hi:Int}{s:Span}{y:BT (k+1)}(hs:s.norm=s)(h:BT.ok fan leaf (k+1) lo hi s y)(key:af):ae (au y) key<(ay y).length:=by
 have:=h.2.len
 have h2:ae (au y) key≤(au y).length:=fy _ _
 omega
theorem Lp{fan leaf:Int}{key:af} :∀ {k:Nat} {y:BT k} {lo hi:Int} {s:Span},s.norm=s→BT.ok fan leaf k lo hi s y→∀n∈iL key k y,n∈bf k y
 |0,y,_,_,_,_,_,n,hn=>hn
 |k+1,y,lo,hi,s,hs,h,n,hn=>by
  rcases dK.1 hn with rfl|hn
  ·exact cD
  ·have hl:=lz hs h key
   rw [fw hl]at hn
   obtain⟨u,h',hu,_,hP,_⟩:=h.2.at hs (i:=ae (au y) key) (fy _ _)
   exact oT (bN hl) (Lp hu hP n hn)
def za (fs:List Bool):Nat:=if(fs.reverse.takeWhile id).length=fs.length then fs.length+1 else(fs.reverse.takeWhile id).length
variable {fs:List Bool} {j:Nat}
theorem aiE(hj:j<fs.length)(h:∀i (hi:i<fs.length),fs.length-j≤i→fs[i]=true)(h2:fs[fs.length-1-j]'aa=false):za fs=j:=by
 have e:(fs.reverse.takeWhile id).length=j:=by
  have h3:fs.reverse.takeWhile id=fs.reverse.take j:=by
   conv=>lhs;rw [←fo j fs.reverse]
   rw [W0 fun b hb=> ?_]
   ·rw [iW (by simpa using hj),List.takeWhile_cons]
    rw [W1,h2];simp
   ·obtain⟨i,hi,rfl⟩:=cj hb
    rw [bV,yp]at hi
    rw [nL,W1]
    exact h _ aa aa
  rw [h3,bV,yp];omega
 unfold za
 rw [e,if_neg aa]
theorem apB(h:∀i (hi:i<fs.length),fs[i]=true):za fs=fs.length+1:=by
 unfold za
 rw [if_pos]
 have:fs.reverse.takeWhile id=fs.reverse:=by
  conv=>lhs;rw [←cx fs.reverse]
  rw [W0 fun b hb=> ?_]
  ·simp
  ·obtain⟨i,hi,rfl⟩:=cj hb
   rw [yp]at hi
   rw [W1]
   exact h _ aa
 rw [this,yp]
theorem atU(fs:List Bool):za fs≤fs.length+1:=by
 unfold za
 split
 ·omega
 ·have:=(WZ (p:=id) (l:=fs.reverse)).length_le
  rw [yp]at this;omega
def kE (u:List Bool) (l:List c6):Prop:=∀n∈l,da u n.slot=true
def tt (s:Span) (lim:Int) (out A:List aG):List aG:=out++(A.filter fun p=>s.has p.key).take (lim-out.length).toNat
variable {A:List aG} {lim:Int} {out:List aG}
theorem awY{s:Span} :(tt s lim out A).length=out.length+min (lim-out.length).toNat (A.filter fun p=>s.has p.key).length:=by
 unfold tt;rw [bP,bV]
theorem J1{s:Span}{B:List aG} :tt s lim (tt s lim out A) B=tt s lim out (A++B):=by
 have hl:=awY (s:=s) (lim:=lim) (out:=out) (A:=A)
 show tt s lim out A++_=_
 rw [hl]
 unfold tt
 rw [gv,List.take_append,ci]
 congr 2
 congr 1
 omega
theorem Wu{s:Span}(h:¬(out.length:Int)<lim):tt s lim out A=out:=by
 unfold tt
 rw [show(lim-out.length).toNat=0 by omega,Ay,cx]
theorem Wv{s:Span}(h:∀p∈A,s.has p.key=false):tt s lim out A=out:=by
 unfold tt
 rw [Bn h,List.take_nil,cx]
theorem aeT{s:Span} :tt s lim out []=out:=Wv fun p hp=>by cases hp
theorem awZ{s:Span}{p:aG}(hp:s.has p.key=true)(h:(out.length:Int)<lim):tt s lim out [p]=out++[p]:=by
 unfold tt
 rw [oz (p:=fun p:aG=>s.has p.key) hp,NN]
 congr 1
 rw [fI (by simp;omega)]
theorem Ww{s:Span}(hj:j<(A.filter fun p=>s.has p.key).length):
  tt s lim out ((A.filter fun p=>s.has p.key).take (j+1))=if((tt s lim out ((A.filter fun p=>s.has p.key).take j)).length:Int)<lim then tt s lim out ((A.filter fun p=>s.has p.key).take j)++[(A.filter fun p=>s.has p.key)[j]]else tt s lim out ((A.filter fun p=>s.has p.key).take j):=by
 rw [iA hj,←J1]
 split
 ·exact awZ (by have:=bN hj;simpa using (eO.1 this).2) (by assumption)
 ·exact Wu (by assumption)
theorem aw0{s:Span} :tt s lim out (A.filter fun p=>s.has p.key)=tt s lim out A:=by
 unfold tt
 rw [tM]
 simp
theorem apC{leaf:Int}{lo hi:Int}{sp s:Span}{y:BT (k+1)}(hs:sp.norm=sp)(h:BT.ok fan leaf (k+1) lo hi sp y)(hj:j<(ay y).length)(ht:((aA (au y) (j:Int)).bH s).empty=true):∀p∈BT.rows k (ay y)[j],s.has p.key=false:=fun p hp=>by
 have hlen:=h.2.len
 have hr:=(h.2.Yh hs).1
 obtain⟨v,hj2,v1,v2,v3,_⟩:=h.2.at hs (i:=j) aa
 have h2:=(BT.ok.rows v1 v3).2 p hp
 rw [v2,cm,fJ]at h2
 have h3:=eR hr p.key (j:=j) aa
 rw [dB h2.2]at h3
 have h4:=dv.1 ht p.key
 rw [bL,h3]at h4
 simpa using h4
theorem Hg{l:List (BT k)}(hj:j<l.length):(l.take (j+1)).flatMap (BT.rows k)=(l.take j).flatMap (BT.rows k)++BT.rows k l[j]:=by
 rw [iA hj,dT,cI,iB,cx]
theorem atH{s:Span} :tt s lim [] A=fe A s lim:=by
 unfold tt fe
 rw [iU];simp
end Go.Fw
namespace Go.Proofs.YthhpfadbojfdnaaGreat
open Go Go.Fw Go.RowKit
attribute [local irreducible] Ok W WC
variable {G:GH} {ba:Nat} {u:List Bool} {vc:Value} {vf:Value} {vu:Value}
theorem apD{cells:List (Option Nat)}(hA:jc G ba 0 [vc,vu,vf])(hc:az fu G vc cells)(hu:az mX G vu u)(i:Int):
    Fc Tryz.prog 98 [aC ba,iV i] G [] (fun v _ _=>v=.bool (da u i)):=by
 obtain⟨D1,D2,rfl⟩:=hc.form
 obtain⟨Bt,Bu,rfl⟩:=hu.form
 have hl:=hu.bq
 refine Fc.go [.tmp 4] Tryz.func98 Tryz.ntmps98 rfl (fun w0=>(g9 8 ?_))
 refine W.ok (EO aak rfl rfl) (g9 7 ?_)
 refine W.sd 11 (fun h9 p9=> ?_) (fun h9 p9=> ?_)
 ·refine g9 9 ?_
  refine W.ok (eH (vs:=AD) afj (hA.drop 1) rfl rfl rfl (by simp)) (g9 6 ?_)
  refine W.sd 20 (fun Y1 Y2=> ?_) (fun Y1 Y2=> ?_)
  ·refine g9 7 ?_
   refine W.ok (eH (vs:=AD) afj (hA.drop 1) rfl rfl rfl (by simp)) (g9 3 ?_)
   refine hu.a1 (i:=i.toNat) aa (fun he1=>(W.ok (bd (i:=i.toNat) vC zk hu rfl rfl ⟨aa,aa⟩) (g9 8 ?_)))
   exact ax Value.bool (KC aa aa)
  refine g9 13 ?_
  exact ax Value.bool (KE aa)
 refine g9 22 ?_
 exact ax Value.bool (KD aa)

theorem apE{cells:List (Option Nat)}(hA:jc G ba 0 [vc,vu,vf])(hc:az fu G vc cells)(hu:az mX G vu u)(i:Int)(b:Nat)(hb:jm cells i b)(hh:da u i=true)(qV:cells.length=u.length):
    Fc Tryz.prog 90 [aC ba,iV i] G [] (fun v _ _=>v=.tuple #[aC b,.bool true]):=by
 obtain⟨D1,D2,rfl⟩:=hc.form
 obtain⟨Bt,Bu,rfl⟩:=hu.form
 have hl:=hu.bq
 obtain⟨hi0,tw,jY⟩:=j9 hh
 have hci:cells[i.toNat]'aa=some b:=by have h9:=hb.2;rw [eY aa]at h9;simpa using h9
 refine Fc.go [.tmp 4,.tmp 5] Tryz.func90 Tryz.ntmps90 rfl (fun w0=>(g9 11 ?_))
 refine W.aH (apD hA hc hu _) rfl (g9 3 ?_)
 refine WC.cond rfl (fun h9=> ?_) (fun h9=> ?_)
 ·exact absurd h9 (by rw [hh];simp)
 refine g9 7 ?_
 refine W.ok (eH (vs:=AD) az2 hA rfl rfl rfl (by simp)) (W.mv (hc.a1 (i:=i.toNat) aa (fun he5=>(W.ok (bd (i:=i.toNat) zl tA hc rfl rfl ⟨aa,aa⟩) (g9 7 ?_)))))
 exact by rw [hci];rfl

theorem aiF{f:List Int}(hA:jc G ba 0 [vc,vu,vf])(hu:az mX G vu u)(hf:az bE G vf f):
    Fc Tryz.prog 68 [aC ba] G [] (fun v _ _=>v=iV ((f.length:Int))):=by
 obtain⟨Bt,Bu,rfl⟩:=hu.form
 obtain⟨aPq,aPr,rfl⟩:=hf.form
 have hl:=hf.bq
 refine Fc.go [.tmp 2] Tryz.func68 Tryz.ntmps68 rfl (fun w0=>(g9 9 ?_))
 refine W.ok (fx aak rfl rfl) (g9 10 ?_)
 refine W.ok (eH (vs:=AD) apX (hA.drop 2) rfl rfl rfl (by simp)) (g9 6 ?_)
 rfl

variable {bt:Nat} {fan:Int}
theorem ag5{root leaf:Int}{cells:List (Option Nat)}(ij:yh bt ba root fan leaf cells u G):Fc Tryz.prog 68 [aC ba] G [] (fun v _ _=>v=iV ((de u).length:Int)):=by
  obtain⟨hT,vc,vu,vf,hA,hc,hu,qV,hn,f,hf,j8⟩:=ij
  rw [←j8];exact aiF hA hu hf
theorem iz{root leaf:Int}{cells:List (Option Nat)}(ij:yh bt ba root fan leaf cells u G)(i:Int)(b:Nat)(hb:jm cells i b)(hh:da u i=true):
    Fc Tryz.prog 58 [aC bt,iV i] G [] (fun v _ _=>v=aC b):=by
 obtain⟨hT,vc,vu,vf,hA,hc,hu,qV,hn,xX⟩:=ij
 have ij:yh bt ba root fan leaf cells u G:=⟨hT,vc,vu,vf,hA,hc,hu,qV,hn,xX⟩
 obtain⟨D1,D2,rfl⟩:=hc.form
 obtain⟨Bt,Bu,rfl⟩:=hu.form
 refine Fc.go [.tmp 4] Tryz.func58 Tryz.ntmps58 rfl (fun w0=>(g9 10 ?_))
 refine W.ok (eH (vs:=[.pointer _]) az3 hT rfl rfl rfl (by simp)) (W.mv (W.aH (apE hA hc hu i b hb hh qV) rfl (g9 15 ?_)))
 rfl

variable {dM:Nat}
theorem apF{root leaf:Int}{cells:List (Option Nat)}(ij:yh bt ba root fan leaf cells u G){n:c6}(lA:R0 dM n G):
    Fc Tryz.prog 102 [aC bt,aC dM] G [] (fun v _ _=>v=.bool (td fan leaf n)):=by
 obtain⟨hT,vc,vu,vf,hA,hc,hu,qV,hn,xX⟩:=ij
 have ij:yh bt ba root fan leaf cells u G:=⟨hT,vc,vu,vf,hA,hc,hu,qV,hn,xX⟩
 obtain⟨D1,D2,rfl⟩:=hc.form
 obtain⟨Bt,Bu,rfl⟩:=hu.form
 refine match lA with|⟨Dp,Dq,Dr,Tk,fk,eX,fH⟩=> ?_
 refine match fk.form with|⟨_,_,dO⟩=> ?_
 subst dO
 refine match eX.form with|⟨_,_,dO⟩=> ?_
 subst dO
 refine match fH.form with|⟨_,_,dO⟩=> ?_
 subst dO
 have fC:=eX.bq
 have zR:=fH.bq
 refine Fc.go [.tmp 4] Tryz.func102 Tryz.ntmps102 rfl (fun w0=>(g9 11 ?_))
 refine W.ok (eH (vs:=kB) cV Tk rfl rfl rfl (by simp)) (g9 3 ?_)
 refine WC.cd (fun h9 p9=> ?_) (fun h9 p9=> ?_)
 ·refine g9 5 ?_
  refine W.ok (eH (vs:=AD) OR (Tk.drop 3) rfl rfl rfl (by simp)) (g9 4 ?_)
  refine W.ok (eH (vs:=kB) cV (hT.drop 3) rfl rfl rfl (by simp)) (g9 7 ?_)
  refine ax Value.bool ?_
  unfold td
  rw [if_pos p9]
 refine g9 7 ?_
 refine W.ok (eH (vs:=AD) HJ (Tk.drop 2) rfl rfl rfl (by simp)) (g9 4 ?_)
 refine W.ok (eH (vs:=kB) cV (hT.drop 2) rfl rfl rfl (by simp)) (g9 6 ?_)
 refine ax Value.bool ?_
 unfold td
 rw [if_neg p9]

theorem Rx{root leaf:Int}{cells:List (Option Nat)}(ij:yh bt ba root fan leaf cells u G){n:c6}(lA:R0 dM n G)(j8:0≤fan∧fan≤4096∧0≤leaf∧leaf≤4096):
    Fc Tryz.prog 96 [aC bt,aC dM] G [] (fun v _ _=>v=.bool (acf fan leaf n)):=by
 obtain⟨hT,vc,vu,vf,hA,hc,hu,qV,hn,xX⟩:=ij
 have ij:yh bt ba root fan leaf cells u G:=⟨hT,vc,vu,vf,hA,hc,hu,qV,hn,xX⟩
 obtain⟨D1,D2,rfl⟩:=hc.form
 obtain⟨Bt,Bu,rfl⟩:=hu.form
 refine match lA with|⟨Dp,Dq,Dr,Tk,fk,eX,fH⟩=> ?_
 refine match fk.form with|⟨_,_,dO⟩=> ?_
 subst dO
 refine match eX.form with|⟨_,_,dO⟩=> ?_
 subst dO
 refine match fH.form with|⟨_,_,dO⟩=> ?_
 subst dO
 have fC:=eX.bq
 have zR:=fH.bq
 refine Fc.go [.tmp 4] Tryz.func96 Tryz.ntmps96 rfl (fun w0=>(g9 11 ?_))
 refine W.ok (eH (vs:=kB) cV Tk rfl rfl rfl (by simp)) (g9 3 ?_)
 refine WC.cd (fun h9 p9=> ?_) (fun h9 p9=> ?_)
 ·refine g9 5 ?_
  refine W.ok (eH (vs:=AD) OR (Tk.drop 3) rfl rfl rfl (by simp)) (g9 4 ?_)
  refine W.ok (eH (vs:=kB) cV (hT.drop 3) rfl rfl rfl (by simp)) (W.ok (zE rfl rfl aa aa aa) (g9 7 ?_))
  refine ax Value.bool ?_
  unfold acf
  rw [if_pos p9]
 refine g9 7 ?_
 refine W.ok (eH (vs:=AD) HJ (Tk.drop 2) rfl rfl rfl (by simp)) (g9 4 ?_)
 refine W.ok (eH (vs:=kB) cV (hT.drop 2) rfl rfl rfl (by simp)) (W.ok (zE rfl rfl aa aa aa) (g9 6 ?_))
 refine ax Value.bool ?_
 unfold acf
 rw [if_neg p9]

variable {Cv:Value}
theorem ag6{root leaf:Int}{cells:List (Option Nat)}(ij:yh bt ba root fan leaf cells u G){p:List (Option Nat)}(jr:az fu G Cv p)(L:List c6)(hpL:p=(L.map (Jg cells)))(hL:Nz cells L G):
    Fc Tryz.prog 69 [aC bt,Cv] G [] (fun v _ _=>v=aK (za (L.map (td fan leaf)))):=by
 obtain⟨hT,vc,vu,vf,hA,hc,hu,qV,hn,xX⟩:=ij
 have ij:yh bt ba root fan leaf cells u G:=⟨hT,vc,vu,vf,hA,hc,hu,qV,hn,xX⟩
 obtain⟨D1,D2,rfl⟩:=hc.form
 obtain⟨Bt,Bu,rfl⟩:=hu.form
 obtain⟨LQ,LR,rfl⟩:=jr.form
 have Gn:=jr.bq
 have hlm:p.length=L.length:=by rw [hpL];exact dt ..
 refine Fc.go [.tmp 4] Tryz.func69 Tryz.ntmps69 rfl (fun w0=>(g9 20 ?_))
 refine WC.loop (X:=Nat) (fun j=>[(5,aK j),(6,iV ((L.length:Int)-1-(j:Int))),(0,aC bt),(1,lV LQ p.length LR)]) (fun j _ Ml=>Ml=[]∧j≤L.length∧∀i (h:i<(L.map (td fan leaf)).length),L.length-j≤i→(L.map (td fan leaf))[i]=true) (fun j=>L.length-j) 0 ct ?_ ?_
 ·exact⟨rfl,aa,fun i h hi=>by rw [dt]at h;omega⟩
 rintro j Xe G1 _ pX ⟨rfl,hj,hfj⟩
 refine g9 7 ?_
 refine WC.cd (fun ov p11=> ?_) (fun ov p11=> ?_)
 ·refine g9 10 ?_
  refine(jr.mono pX).a1 (i:=L.length-1-j) aa (fun he2=>(W.ok (bd (i:=L.length-1-j) zl tA (jr.mono pX) rfl rfl ⟨aa,aa⟩) (g9 1 ?_)))
  have q5:=hL _ (bN (by omega:L.length-1-j<L.length))
  refine match q5 with|⟨b9,jn,YY⟩=> ?_
  have aLU:p[L.length-1-j]'aa=some b9:=by subst hpL;rw [jX];exact jn.pt
  refine W.aH (show Fc _ _ [_,.pointer ((p[L.length-1-j]'aa).map fun b=>⟨b,0,none⟩)] _ _ _ from(by rw [aLU];exact apF (ij.mono pX) (YY.mono pX))) rfl (g9 3 ?_)
  refine WC.cond rfl (fun j1=> ?_) (fun j1=> ?_)
  ·refine g9 14 ?_
   refine ax (Value.int .i64) ?_
   rw [aiE (j:=j) (by rw [dt];omega) (fun i h hi=>hfj i h (by rw [dt]at hi;omega)) (by rw [jX];simp only [dt];simpa using j1)]
  refine g9 15 ?_
  exact⟨Le.rfl,j+1,ct,⟨rfl,aa,fun i h hi=>by
      by_cases e:i=L.length-1-j
      ·subst e;rw [jX];simpa using j1
      ·exact hfj i h aa⟩,aa⟩
 refine g9 14 ?_
 refine ax (Value.int .i64) ?_
 rw [apB fun i h=>hfj i h aa,dt];omega

theorem Vx{root leaf:Int}{cells:List (Option Nat)}(ij:yh bt ba root fan leaf cells u G)(k:af)(kk:Nat)(y:BT kk)(lo:Int)(hi:Int)(sp:Span)(hs:sp.norm=sp)(dI:BT.ok fan leaf kk lo hi sp y)(NC:Nz cells (bf kk y) G)(eV:kE u (bf kk y))(m7:root=y.slot)(hkk:kk≤4096):
    Fc Tryz.prog 25 [aC bt,sV k.b] G [] (fun v G' M'=>aE fu 60 G' v (((iL k kk y).map (Jg cells))) M'):=by
 obtain⟨hT,vc,vu,vf,hA,hc,hu,qV,hn,xX⟩:=ij
 have ij:yh bt ba root fan leaf cells u G:=⟨hT,vc,vu,vf,hA,hc,hu,qV,hn,xX⟩
 obtain⟨D1,D2,rfl⟩:=hc.form
 obtain⟨Bt,Bu,rfl⟩:=hu.form
 refine Fc.go [.tmp 4] Tryz.func25 Tryz.ntmps25 rfl (fun w0=>(g9 11 ?_))
 refine W.ok (eH (vs:=kB) cV (hT.drop 1) rfl rfl rfl (by simp)) ?_
 have vd:=eV _ cD
 rw [bg]at vd
 have q6:=NC _ cD
 refine match q6 with|⟨b0,LM,hB0⟩=> ?_
 rw [bg]at LM
 rw [←m7]at LM vd
 refine W.aH (iz ij root b0 LM vd) rfl (W.re (e:=fu) (l:=[(some b0)]) (css:=[[.pointer _]]) zl tA aaj rfl rfl rfl rfl rfl rfl ⟨rfl,trivial⟩ (fun v7 Ms8 ho9=>(g9 7 ?_)))
 refine ho9.a1 (i:=0) (by simp) (fun ap8=>(W.ok (aV (i:=0) zl tA ho9 rfl rfl ⟨aa,by simp⟩) (W.ok (dQ (vs:=[.pointer _]) tA ap8 ah rfl rfl rfl (by simp)) (g9 4 ?_))))
 refine WC.loop (X:=(List (Option Nat)×Nat×Nat)×Value×MH) (fun x=>[(6,.pointer (some ⟨x.1.2.1,0,none⟩)),(0,aC bt),(1,sV k.b),(5,x.2.1)]) (fun x G Ml=>Ml=(x.2.2++[])∧aE fu 60 G x.2.1 (x.1.1) x.2.2∧∃c:BT x.1.2.2,jm cells c.slot x.1.2.1∧x.1.1++((iL k x.1.2.2 c).drop 1).map (Jg cells)=((iL k kk y).map (Jg cells))∧Nz cells (bf x.1.2.2 c) G∧kE u (bf x.1.2.2 c)∧(∃lo hi sp,Span.norm sp=sp∧BT.ok fan leaf x.1.2.2 lo hi sp c)∧x.1.1.length+x.1.2.2=kk+1) (fun x=>x.1.2.2) ((([some b0],b0,kk):List (Option Nat)×Nat×Nat),v7,Ms8) ct ?_ ?_
 ·exact⟨rfl,(by exact ho9),y,m7▸LM,by dsimp only;obtain⟨l9,kZ⟩:=Nf (key:=k) (k:=kk) (y:=y);rw [kZ,cA,(show Jg cells (fY kk y)=some b0 from jm.pt (by rw [bg,←m7];exact LM))];rfl,NC,eV,⟨lo,hi,sp,hs,dI⟩,by simp;omega⟩
 rintro⟨⟨out,b,j⟩,Co,wB⟩ az7 Xa _ lT ⟨rfl,gj,⟨c,hbc,Iu,alA,aw1,⟨lo2,jY,sp2,si,D3⟩,aw2⟩⟩
 try dsimp only at gj c hbc Iu alA aw1 lo2 jY sp2 si D3 aw2
 have q9:=alA _ cD
 refine match q9 with|⟨b8,Nv,hBc⟩=> ?_
 rw [bg]at Nv
 have e8:=hbc.one Nv
 subst e8
 refine match hBc with|⟨aBR,aBS,aBT,FO,Tl,Ng,Wx⟩=> ?_
 refine match Tl.form with|⟨_,_,dO⟩=> ?_
 subst dO
 refine match Ng.form with|⟨_,_,dO⟩=> ?_
 subst dO
 refine match Wx.form with|⟨_,_,dO⟩=> ?_
 subst dO
 refine WC.fr (f:=gk az7 [(6,aC b),(0,aC bt),(1,sV k.b),(5,Co)]) rfl (g9 6 ?_)
 refine W.ok (eH (vs:=kB) cV FO rfl rfl rfl (by simp)) (g9 3 ?_)
 refine WC.cd (fun Cw p21=> ?_) (fun Cw p21=> ?_)
 ·try dsimp only at p21
  rw [kh]at p21
  obtain⟨j2,ej2⟩:∃j2,j=j2+1:=⟨j-1,aa⟩
  subst ej2
  refine g9 9 ?_
  refine W.ok (eH (vs:=AD) HJ (FO.drop 2) rfl rfl rfl (by simp)) (g9 3 ?_)
  refine W.ok (eH (vs:=AD) aal (FO.drop 1) rfl rfl rfl (by simp)) (W.mv (W.aH (mL Tl _ (D3.2.Yh si).1) rfl (Ng.a2 (i:=ae (au c) k) (by show _<(List.map _ _).length;rw [dt];exact lz si D3 k) (fun aGG aS1=>(W.ok (bd (i:=ae (au c) k) dG cV Ng rfl rfl ⟨rfl,by show _<(List.map _ _).length;rw [dt];exact lz si D3 k⟩) (g9 1 ?_))))))
  have aBU:fY j2 ((ay c)[ae (au c) k]'(lz si D3 k))∈bf (j2+1) c:=oT (bN _) cD
  have Ny:=alA _ aBU
  refine match Ny with|⟨b9,jn,YY⟩=> ?_
  have vd:=aw1 _ aBU
  have I8:(fY (j2+1) c).K[ae (au c) k]'(by show _<(List.map _ _).length;rw [dt];exact lz si D3 k)=(fY j2 ((ay c)[ae (au c) k]'(lz si D3 k))).slot:=by rw [bg];exact jX ..
  refine W.aH (iz (ij.mono lT) _ b9 (by rw [←I8]at jn;exact jn) (by rw [←I8]at vd;exact vd)) rfl (g9 7 ?_)
  refine W.lit (e:=fu) (l:=[(some b9)]) (css:=[[.pointer _]]) zl tA aaj rfl rfl rfl rfl rfl rfl ⟨rfl,trivial⟩ (fun aIZ G19 pZ wh=>(W.app (e:=fu) zl tA aaj rfl apU rfl rfl ((gj.mono pZ)) (wh) ah (by show(_+1)*8≤_;omega) (fun v20 CN Fm=>(g9 3 ?_))))
  exact⟨pZ,(((out++[some b9],b9,j2):List (Option Nat)×Nat×Nat),v20,CN),ct,⟨rfl,(by exact Fm),⟨(ay c)[ae (au c) k]'(lz si D3 k),by rw [bg]at jn;exact jn,by dsimp only at Iu⊢;rw [←Iu];show _=out++List.map _ (iL k j2 ((ay c).getD (ae (au c) k) default));rw [fw (lz si D3 k)];obtain⟨l9,kZ⟩:=Nf (key:=k) (k:=j2) (y:=(ay c)[ae (au c) k]'(lz si D3 k));rw [kZ,cA,jm.pt jn];simp,fun n hn=>(alA.mono pZ) n (oT (bN _) hn),fun n hn=>aw1 n (oT (bN _) hn),(by obtain⟨u9,h9,v1,_,v3,_⟩:=D3.2.at si (i:=ae (au c) k) (fy _ _);exact⟨_,_,u9,v1,v3⟩),by dsimp only at aw2⊢;simp;omega⟩⟩,by dsimp only;omega⟩
 try dsimp only at p21
 rw [kh]at p21
 obtain ej2:j=0:=by omega
 subst ej2
 have aEZ:out=((iL k kk y).map (Jg cells)):=by simpa [iL]using Iu
 refine g9 12 ?_
 refine⟨.inr rfl,[_],⟨rfl,trivial⟩,_,aI _ _,?_⟩
 rw [←aEZ]
 exact gj

def aw3 (kk:Nat):Prop:=∀ {G:GH} {bt ba:Nat} {root fan leaf:Int} {cells:List (Option Nat)} {u:List Bool} (ij:yh bt ba root fan leaf cells u G) (i:Int) (df dh:af) (so:Bool) (lim:Int) {Bv:Value} {out:List aG} {tu:MH} (zc:aE aU 50 G Bv out tu)
    (y:BT kk) (lo hi:Int) (sp:Span) (hs:sp.norm=sp) (dI:BT.ok fan leaf kk lo hi sp y) (NC:Nz cells (bf kk y) G) (eV:kE u (bf kk y)) (jK:i=y.slot) (jn:fan≤4096∧leaf≤4096∧hi≤4096) (Jj:lim≤1000000),
    Fc Tryz.prog 27 [aC bt,iV i,.agg (List.toArray [sV df.b,sV dh.b,.bool so]),iV lim,Bv] G tu (fun v G' M'=>aE aU 50 G' v (tt ⟨df,dh,so⟩ lim out (BT.rows kk y)) M')
variable {tu:MH} {out:List aG} {Bv:Value}
theorem aiG{root leaf:Int}{cells:List (Option Nat)}(ij:yh bt ba root fan leaf cells u G)(i:Int)(df:af)(dh:af)(so:Bool)(lim:Int)(zc:aE aU 50 G Bv out tu)(y:BT 0)(lo:Int)(hi:Int)(sp:Span)(hs:sp.norm=sp)(dI:BT.ok fan leaf 0 lo hi sp y)(NC:Nz cells (bf 0 y) G)(eV:kE u (bf 0 y))(jK:i=y.slot)(jn:fan≤4096∧leaf≤4096∧hi≤4096)(Jj:lim≤1000000):
    Fc Tryz.prog 27 [aC bt,iV i,.agg #[sV df.b,sV dh.b,.bool so],iV lim,Bv] G tu (fun v G' M'=>aE aU 50 G' v (tt ⟨df,dh,so⟩ lim out (BT.rows 0 y)) M'):=by
 obtain⟨hT,vc,vu,vf,hA,hc,hu,qV,hn,xX⟩:=ij
 have ij:yh bt ba root fan leaf cells u G:=⟨hT,vc,vu,vf,hA,hc,hu,qV,hn,xX⟩
 obtain⟨D1,D2,rfl⟩:=hc.form
 obtain⟨Bt,Bu,rfl⟩:=hu.form
 have aLV:=zc.bq
 have asi:(fY 0 y).R.length≤4096:=by have h9:=dI.1.2;show(di y).length≤4096;omega
 have hF9:((fY 0 y).R.filter (fun p:aG=>Span.has (⟨df,dh,so⟩:Span) p.key)).length≤4096:=gg (fy _ _) asi
 refine Fc.go [.tmp 10] Tryz.func27 Tryz.ntmps27 rfl (fun w0=>(WC.perm (M':=(tu++[])) (by simp) (WC.sr (W.box (L:=[sV _,sV _,.bool _]) rfl rfl (fun b1=>(W.as (W.ns (W.mv (W.mv ?_)))))))))
 have vd:=eV _ cD
 rw [bg]at vd
 have q2:=NC _ cD
 refine match q2 with|⟨b0,LM,hB0⟩=> ?_
 rw [bg]at LM
 rw [←jK]at LM vd
 refine W.aH (iz ij i b0 LM vd) rfl ?_
 refine match hB0 with|⟨aBR,aBS,aBT,FO,Tl,Ng,Wx⟩=> ?_
 refine match Tl.form with|⟨_,_,dO⟩=> ?_
 subst dO
 refine match Ng.form with|⟨_,_,dO⟩=> ?_
 subst dO
 refine match Wx.form with|⟨_,_,dO⟩=> ?_
 subst dO
 refine W.an (WC.seq (WC.sr (W.mv (W.ok (zG rfl) (W.fb W5 rfl (W.ok (eH (vs:=kB) cV FO rfl rfl rfl (by simp)) (W.ok (Xq rfl rfl) (W.nt (WC.Xc rfl rfl (WC.seq (WC.seq (WC.dw iD.k9 (WD.tk 0 rfl (aw4) ?_)))))))))))))
 refine WD.tk 1 rfl (zG rfl) (WD.tk 2 rfl (FT ai0 rfl) (WD.tk 3 rfl (eH (vs:=AD) OR (FO.drop 3) rfl rfl rfl (by simp)) (WD.tk 4 rfl (AE 0 vE jG rfl) (WD.tk 7 rfl (aw4) (WD.a1 5 rfl (W.cS (O7 Wx df dh so aa) rfl (fun alB alC G3 TV hv4=>(W.nn (WD.tk 6 rfl (rW dR hv4 rfl) (WD.dn (WC.block ?_)))))))))))
 refine WC.loop (X:=(Nat×List aG)×Value×MH) (fun x=>[(31,aK x.1.1),(3,iV lim),(29,lV alB ((fY 0 y).R.filter (fun p:aG=>Span.has (⟨df,dh,so⟩:Span) p.key)).length alC),(30,aK (((fY 0 y).R.filter (fun p:aG=>Span.has (⟨df,dh,so⟩:Span) p.key)).length)),(4,x.2.1)]) (fun x G Ml=>Ml=((b1,ar 73 [sV df.b,sV dh.b,.bool so])::(x.2.2++[]))∧aE aU 50 G x.2.1 (x.1.2) x.2.2∧x.1.1≤((fY 0 y).R.filter (fun p:aG=>Span.has (⟨df,dh,so⟩:Span) p.key)).length∧x.1.2=tt ⟨df,dh,so⟩ lim out (((fY 0 y).R.filter (fun p:aG=>Span.has (⟨df,dh,so⟩:Span) p.key)).take x.1.1)) (fun x=>((fY 0 y).R.filter (fun p:aG=>Span.has (⟨df,dh,so⟩:Span) p.key)).length-x.1.1) (((0,out):Nat×List aG),Bv,tu) ct ?_ ?_
 ·exact⟨rfl,(by exact(zc.mono TV)),kW _,aeT.symm⟩
 rintro⟨⟨k,o⟩,LJ,yi⟩ adR TX _ tI ⟨rfl,gD,hk,ND⟩
 try dsimp only at gD hk ND
 refine WC.fr (f:=gk adR [(31,aK k),(3,iV lim),(29,lV alB ((fY 0 y).R.filter (fun p:aG=>Span.has (⟨df,dh,so⟩:Span) p.key)).length alC),(30,aK (((fY 0 y).R.filter (fun p:aG=>Span.has (⟨df,dh,so⟩:Span) p.key)).length)),(4,LJ)]) rfl (WC.sr (W.ok (Eo rfl rfl) (W.nt (WC.seq ?_))))
 refine WC.cd (fun yf TP=> ?_) (fun yf TP=> ?_)
 ·try dsimp only at TP
  refine WC.sk (WC.seq (WC.block (WC.sr ((hv4.mono tI).a1 (i:=k) aa (fun akw=>(W.ok (bd (i:=k) dR ei (hv4.mono tI) rfl rfl ⟨aa,aa⟩) (W.ok (rb (vs:=OT) ei akw rfl rfl rfl (by simp)) (W.alloc nX (fun b14=>(W.st 0 OT OT ei rfl (W.ns (W.mv (W.ok (aaO dR gD rfl) (W.mv (W.ok (Eo rfl rfl) ?_)))))))))))))))
  refine W.nt ?_
  refine WC.cd (fun h38 Xg=> ?_) (fun h38 Xg=> ?_)
  ·try dsimp only at Xg
   refine WC.region (W.mv (W.ok (AE 0 OT ei rfl) (W.lit (e:=aU) (l:=[⟨(((fY 0 y).R.filter (fun p:aG=>Span.has (⟨df,dh,so⟩:Span) p.key))[k]).key,(((fY 0 y).R.filter (fun p:aG=>Span.has (⟨df,dh,so⟩:Span) p.key))[k]).val⟩]) (css:=[[sV _,sV _]]) dR ei nX rfl rfl rfl rfl rfl rfl ⟨rfl,trivial⟩ (fun aS2 G15 B9 aLW=>(W.app (e:=aU) dR ei nX rfl HF rfl rfl ((gD.mono B9)) (aLW) (ag (ag ah)) (by show(_+1)*32≤_;omega) (fun v16 adO aLX=>(W.perm (ag (ag ah)).symm (W.as (W.nil (pI (jH (WC.region (W.ok (dZ rfl rfl aa) (W.mv (W.sub (bB.cons _) (W.nt ?_))))))))))))))))
   exact⟨B9,(((k+1,o++[((fY 0 y).R.filter (fun p:aG=>Span.has (⟨df,dh,so⟩:Span) p.key))[k]'aa]):Nat×List aG),v16,adO),ct,⟨rfl,(by exact aLX),by dsimp only;omega,by dsimp only;rw [Ww aa,←ND,if_pos Xg]⟩,by dsimp only;omega⟩
  try dsimp only at Xg
  refine WC.skip (pI (jH (WC.region (W.ok (dZ rfl rfl aa) (W.mv (W.sub (bB.cons _) (W.nt ?_)))))))
  exact⟨Le.rfl,(((k+1,o):Nat×List aG),LJ,yi),ct,⟨rfl,(by exact gD),by dsimp only;omega,by dsimp only;rw [Ww aa,←ND,if_neg Xg]⟩,by dsimp only;omega⟩
 try dsimp only at TP
 refine WC.exit (afB (afB (aqR (jH (WC.sr (W.mv (W.an (WC.rt ?_))))))))
 refine⟨.inr rfl,[_],⟨rfl,trivial⟩,_,(aI _ _).cons _,?_⟩
 have YV:k=((fY 0 y).R.filter (fun p:aG=>Span.has (⟨df,dh,so⟩:Span) p.key)).length:=by omega
 rw [YV,rT,aw0]at ND
 rw [show BT.rows 0 y=(fY 0 y).R from rfl,←ND]
 exact gD

theorem aiH{root leaf:Int}{cells:List (Option Nat)}(ij:yh bt ba root fan leaf cells u G)(i:Int)(df:af)(dh:af)(so:Bool)(lim:Int)(zc:aE aU 50 G Bv out tu)(kk:Nat)(ih:aw3 kk)(y:BT (kk+1))(lo:Int)(hi:Int)(sp:Span)(hs:sp.norm=sp)(dI:BT.ok fan leaf (kk+1) lo hi sp y)(NC:Nz cells (bf (kk+1) y) G)(eV:kE u (bf (kk+1) y))(jK:i=y.slot)(jn:fan≤4096∧leaf≤4096∧hi≤4096)(Jj:lim≤1000000):
    Fc Tryz.prog 27 [aC bt,iV i,.agg #[sV df.b,sV dh.b,.bool so],iV lim,Bv] G tu (fun v G' M'=>aE aU 50 G' v (tt ⟨df,dh,so⟩ lim out (BT.rows (kk+1) y)) M'):=by
 obtain⟨hT,vc,vu,vf,hA,hc,hu,qV,hn,xX⟩:=ij
 have ij:yh bt ba root fan leaf cells u G:=⟨hT,vc,vu,vf,hA,hc,hu,qV,hn,xX⟩
 obtain⟨D1,D2,rfl⟩:=hc.form
 obtain⟨Bt,Bu,rfl⟩:=hu.form
 have aLV:=zc.bq
 have hK9:(fY (kk+1) y).K.length=(ay y).length:=dt ..
 have hK8:(ay y).length≤4096:=by have h9:=dI.1.2;omega
 refine Fc.go [.tmp 10] Tryz.func27 Tryz.ntmps27 rfl (fun w0=>(WC.perm (M':=(tu++[])) (by simp) (g9 2 ?_)))
 refine W.box (L:=[sV _,sV _,.bool _]) rfl rfl (fun b19=>(g9 7 ?_))
 have vd:=eV _ cD
 rw [bg]at vd
 have DI:=NC _ cD
 refine match DI with|⟨b0,LM,hB0⟩=> ?_
 rw [bg]at LM
 rw [←jK]at LM vd
 refine W.aH (iz ij i b0 LM vd) rfl ?_
 refine match hB0 with|⟨aBR,aBS,aBT,FO,Tl,Ng,Wx⟩=> ?_
 refine match Tl.form with|⟨_,_,dO⟩=> ?_
 subst dO
 refine match Ng.form with|⟨aBV,aBW,dO⟩=> ?_
 subst dO
 refine match Wx.form with|⟨_,_,dO⟩=> ?_
 subst dO
 refine g9 9 ?_
 refine W.ok (eH (vs:=kB) cV FO rfl rfl rfl (by simp)) (g9 3 ?_)
 refine WC.cd (fun AI pH=> ?_) (fun AI pH=> ?_)
 ·try dsimp only at pH
  exact absurd pH (by rw [kh];omega)
 try dsimp only at pH
 refine g9 8 ?_
 refine W.ok (eH (vs:=AD) HJ (FO.drop 2) rfl rfl rfl (by simp)) (g9 5 ?_)
 refine WC.loop (X:=(Nat×List aG)×Value×MH) (fun x=>[(50,aK x.1.1),(7,aC b19),(0,aC bt),(3,iV lim),(11,aC b0),(48,lV aBV ((fY (kk+1) y).K).length aBW),(49,aK (((fY (kk+1) y).K).length)),(4,x.2.1)]) (fun x G Ml=>Ml=((b19,ar 73 [sV df.b,sV dh.b,.bool so])::(x.2.2++[]))∧aE aU 50 G x.2.1 (x.1.2) x.2.2∧x.1.1≤(ay y).length∧x.1.2=tt ⟨df,dh,so⟩ lim out (((ay y).take x.1.1).flatMap (BT.rows kk))) (fun x=>(ay y).length-x.1.1) (((0,out):Nat×List aG),Bv,tu) ct ?_ ?_
 ·exact⟨rfl,(by exact zc),kW _,aeT.symm⟩
 rintro⟨⟨j,o⟩,LJ,yi⟩ ai8 G21 _ uM ⟨rfl,gD,hk,ND⟩
 try dsimp only at gD hk ND
 refine WC.fr (f:=gk ai8 [(50,aK j),(7,aC b19),(0,aC bt),(3,iV lim),(11,aC b0),(48,lV aBV ((fY (kk+1) y).K).length aBW),(49,aK (((fY (kk+1) y).K).length)),(4,LJ)]) rfl (g9 6 ?_)
 refine WC.cd (fun RU zb=> ?_) (fun RU zb=> ?_)
 ·try dsimp only at zb
  refine g9 7 ?_
  refine(Ng.mono uM).a2 (i:=j) aa (fun ai9 aJi=>(g9 13 ?_))
  refine W.sd 59 (fun h58 p58=> ?_) (fun h58 p58=> ?_)
  ·try dsimp only at p58
   refine g9 7 ?_
   refine W.ok (eH (vs:=AD) aal ((FO.mono uM).drop 1) rfl rfl rfl (by simp)) (g9 3 ?_)
   refine W.aH (lH (Tl.mono uM) _ ⟨aa,by have h9:=dI.1.2;omega⟩) rfl (g9 3 ?_)
   refine W.aH (Ub _ _ _ _ _ _) rfl (g9 3 ?_)
   refine WC.cond rfl (fun h67=> ?_) (fun h67=> ?_)
   ·refine g9 6 ?_
    have hj9:j<(ay y).length:=by simpa [fY]using zb
    have Pv:=dI.2.at hs (i:=j) (by have:=dI.2.len;omega)
    refine match Pv with|⟨u9,hj8,v1,v2,v3,v4⟩=> ?_
    refine W.call (Mp:=yi) (ih (ij.mono uM) _ df dh so lim gD ((ay y)[j]'hj9) _ _ u9 v1 v3 (fun n hn=>(NC.mono uM) n (oT (bN _) hn)) (fun n hn=>eV n (oT (bN _) hn)) (jX ..) ⟨jn.1,jn.2.1,by unfold oV;split<;>omega⟩ Jj) rfl (ag ah) ?_
    rintro v28 G27 aLY Uk aLZ
    refine W.perm (ag ah).symm (g9 9 ?_)
    exact⟨Uk,(((j+1,tt ⟨df,dh,so⟩ lim o (BT.rows kk ((ay y)[j]'hj9))):Nat×List aG),v28,aLY),ct,⟨rfl,(by exact aLZ),by dsimp only;omega,by dsimp only;rw [Hg hj9,←J1,←ND]⟩,by dsimp only;omega⟩
   refine g9 8 ?_
   exact⟨Le.rfl,(((j+1,o):Nat×List aG),LJ,yi),ct,⟨rfl,(by exact gD),by dsimp only;omega,by dsimp only;rw [Hg aa,←J1,←ND];exact(Wv (apC hs dI aa (by have h9:(!(Span.bH (aA (au y) (j:Int)) ⟨df,dh,so⟩).empty)=false:=h67;simpa using h9))).symm⟩,by dsimp only;omega⟩
  try dsimp only at p58
  refine g9 20 ?_
  exact⟨Le.rfl,(((j+1,o):Nat×List aG),LJ,yi),ct,⟨rfl,(by exact gD),by dsimp only;omega,by dsimp only;rw [Hg aa,←J1,←ND];exact(Wu p58).symm⟩,by dsimp only;omega⟩
 try dsimp only at zb
 refine g9 12 ?_
 refine⟨.inr rfl,[_],⟨rfl,trivial⟩,_,(aI _ _).cons _,?_⟩
 have YV:j=(ay y).length:=by omega
 rw [YV,rT]at ND
 rw [show BT.rows (kk+1) y=(ay y).flatMap (BT.rows kk)from rfl,←ND]
 exact gD

theorem RN:∀kk,aw3 kk
  |0=>fun ij i df dh so lim _ _ _ zc y lo hi sp hs dI NC eV jK jn Jj=>aiG ij i df dh so lim zc y lo hi sp hs dI NC eV jK jn Jj
  |kk+1=>fun ij i df dh so lim _ _ _ zc y lo hi sp hs dI NC eV jK jn Jj=>aiH ij i df dh so lim zc kk (RN kk) y lo hi sp hs dI NC eV jK jn Jj
theorem apG(n:Nat)(hb:n*16≤140737488355328):
    Fc Tryz.prog 185 [lV none 0 0,aK n] G [] (fun v G' M'=>aE cy 9 G' v ([]) M'):=by
 refine Fc.go [.tmp 4] Tryz.func185 Tryz.ntmps185 rfl (fun w0=>(g9 12 ?_))
 refine WC.cd (fun h6 p6=> ?_) (fun h6 p6=> ?_)
 ·exact absurd p6 aa
 refine g9 7 ?_
 refine W.ok (uv dL rfl) (W.mv (W.ok (rW (e:=cy) dL az.nil rfl) (W.ok (lm rfl rfl (by simp)) (W.ok (lm rfl rfl (by simp;omega)) (g9 9 ?_)))))
 refine WC.cd (fun iQ mz=> ?_) (fun iQ mz=> ?_)
 ·refine g9 3 ?_
  refine W.ok (uv dL rfl) (W.ok (Bw dL gi rfl rfl) (W.mv (W.Tm (e:=cy) (n:=n) dL gi wy rfl by9 Tryz.underlying3 rfl (iv (by simp)) (by simp at mz;omega) hb rfl (fun b_1 c_1 aBX aeU=>(W.mv (W.ok (rW (e:=cy) dL az.nil rfl) (W.ok (Hh dL gi rfl rfl) (g9 10 ?_))))))))
  refine⟨.inr rfl,[_],⟨rfl,trivial⟩,_,aI _ _,?_⟩
  exact aeU
 refine g9 10 ?_
 exact aE.nil

theorem apH(n:Nat)(hb:n*8≤140737488355328):
    Fc Tryz.prog 186 [lV none 0 0,aK n] G [] (fun v G' M'=>aE bE 3 G' v ([]) M'):=by
 refine Fc.go [.tmp 4] Tryz.func186 Tryz.ntmps186 rfl (fun w0=>(g9 12 ?_))
 refine WC.cd (fun h6 p6=> ?_) (fun h6 p6=> ?_)
 ·exact absurd p6 aa
 refine g9 7 ?_
 refine W.ok (uv dG rfl) (W.mv (W.ok (rW (e:=bE) dG az.nil rfl) (W.ok (lm rfl rfl (by simp)) (W.ok (lm rfl rfl (by simp;omega)) (g9 9 ?_)))))
 refine WC.cd (fun iQ mz=> ?_) (fun iQ mz=> ?_)
 ·refine g9 3 ?_
  refine W.ok (uv dG rfl) (W.ok (Bw dG cV rfl rfl) (W.mv (W.Tm (e:=bE) (n:=n) dG cV ng rfl HI Tryz.underlying3 rfl (iv (by simp)) (by simp at mz;omega) hb rfl (fun b_1 c_1 aBX aeU=>(W.mv (W.ok (rW (e:=bE) dG az.nil rfl) (W.ok (Hh dG cV rfl rfl) (g9 10 ?_))))))))
  refine⟨.inr rfl,[_],⟨rfl,trivial⟩,_,aI _ _,?_⟩
  exact aeU
 refine g9 10 ?_
 exact aE.nil

variable {dH:Value}
theorem Z4{l:List (List af)}(aQ:az (JK cy) G dH l)(hb:l.flatten.length*16≤140737488355328):
    Fc Tryz.prog 161 [dH] G [] (fun v G' M'=>aE cy 9 G' v (l.flatten) M'):=by
 obtain⟨dz,dA,rfl⟩:=aQ.form
 have hl:=aQ.bq
 refine Fc.go [.tmp 2] Tryz.func161 Tryz.ntmps161 rfl (fun w0=>(g9 19 ?_))
 refine WC.loop (X:=Nat) (fun j=>[(3,aK ((l.take j).flatten.length)),(9,lV dz l.length dA),(10,aK l.length),(11,aK j),(0,lV dz l.length dA)]) (fun j _ Ml=>Ml=[]∧j≤l.length) (fun j=>l.length-j) 0 ⟨rfl,eqv,eqv,eqv,eqv,trivial⟩ ?_ ?_
 ·exact⟨rfl,aa⟩
 rintro j Xe G1 _ pX ⟨rfl,hj⟩
 have hlj:=nE l j
 have aBY:=nE l (j+1)
 refine g9 6 ?_
 refine WC.cd (fun jC uK=> ?_) (fun jC uK=> ?_)
 ·have Ko:=dY (l:=l) (j:=j) aa
  refine g9 6 ?_
  have q5:=(aQ.mono pX).at (i:=j) aa
  refine match q5 with|⟨_,he2,⟨_,e_4,hs3⟩⟩=> ?_
  subst e_4
  obtain⟨aOg,aOh,rfl⟩:=hs3.form
  refine g9 20 ?_
  refine WC.cd (fun j1 nh=> ?_) (fun j1 nh=> ?_)
  ·exact absurd nh aa
  refine g9 8 ?_
  exact⟨Le.rfl,j+1,⟨(iv (by rw [dY aa];omega)),eqv,eqv,eqv,eqv,trivial⟩,⟨rfl,aa⟩,aa⟩
 refine g9 8 ?_
 refine W.call (Mp:=[]) (apG _ (by rw [w6 aa];omega)) rfl ah ?_
 rintro v7 G6 Ms8 vF ho9
 refine g9 12 ?_
 refine WC.loop (X:=(Nat)×Value×MH) (fun i=>[(25,lV dz l.length dA),(26,aK l.length),(27,aK i.1),(6,i.2.1)]) (fun i G Ml=>Ml=(i.2.2++[])∧aE cy 9 G i.2.1 ((l.take i.1).flatten) i.2.2∧i.1≤l.length) (fun i=>l.length-i.1) (0,v7,Ms8) ct ?_ ?_
 ·exact⟨rfl,(by simpa using ho9),aa⟩
 rintro⟨i,LI,M_6⟩ adR TX _ tI ⟨rfl,lE,hi⟩
 try dsimp only at lE hi
 have hli:=nE l i
 have aws:=nE l (i+1)
 refine WC.fr (f:=gk adR [(25,lV dz l.length dA),(26,aK l.length),(27,aK i),(6,LI)]) rfl (g9 6 ?_)
 refine WC.cd (fun ya Tj=> ?_) (fun ya Tj=> ?_)
 ·have hil:=dY (l:=l) (j:=i) aa
  refine g9 6 ?_
  have yg:=(aQ.mono ((pX.trans vF).trans tI)).at (i:=i) aa
  refine match yg with|⟨_,akw,⟨_,z3,adS⟩⟩=> ?_
  subst z3
  obtain⟨auW,auX,rfl⟩:=adS.form
  refine g9 8 ?_
  refine W.app (e:=cy) dL gi wy rfl by9 rfl rfl (lE) (adS) ah (by show((l.take i).flatten.length+l[i].length)*16≤140737488355328;omega) (fun v15 O4 O5=>(g9 9 ?_))
  exact⟨Le.rfl,(i+1,v15,O4),ct,⟨rfl,(by have h:=O5;rw [Bx aa];exact h),aa⟩,aa⟩
 refine g9 12 ?_
 refine⟨.inr rfl,[_],⟨rfl,trivial⟩,_,aI _ _,?_⟩
 have h:=lE;rw [w6 aa]at h;exact h

theorem aeV{l:List (List Int)}(aQ:az (JK bE) G dH l)(hb:l.flatten.length*8≤140737488355328):
    Fc Tryz.prog 162 [dH] G [] (fun v G' M'=>M'=[]∧∃u0,v=u0∧az bE G' u0 (l.flatten)):=by
 obtain⟨dz,dA,rfl⟩:=aQ.form
 have hl:=aQ.bq
 refine Fc.go [.tmp 2] Tryz.func162 Tryz.ntmps162 rfl (fun w0=>(g9 19 ?_))
 refine WC.loop (X:=Nat) (fun j=>[(3,aK ((l.take j).flatten.length)),(9,lV dz l.length dA),(10,aK l.length),(11,aK j),(0,lV dz l.length dA)]) (fun j _ Ml=>Ml=[]∧j≤l.length) (fun j=>l.length-j) 0 ⟨rfl,eqv,eqv,eqv,eqv,trivial⟩ ?_ ?_
 ·exact⟨rfl,aa⟩
 rintro j aS3 G18 _ FE ⟨rfl,hj⟩
 have hlj:=nE l j
 have aBY:=nE l (j+1)
 refine g9 6 ?_
 refine WC.cd (fun jC uK=> ?_) (fun jC uK=> ?_)
 ·have Ko:=dY (l:=l) (j:=j) aa
  refine g9 6 ?_
  have Kp:=(aQ.mono FE).at (i:=j) aa
  refine match Kp with|⟨_,aS4,⟨_,uN,aL0⟩⟩=> ?_
  subst uN
  obtain⟨aL1,aL2,rfl⟩:=aL0.form
  refine g9 20 ?_
  refine WC.cd (fun j1 nh=> ?_) (fun j1 nh=> ?_)
  ·exact absurd nh aa
  refine g9 8 ?_
  exact⟨Le.rfl,j+1,⟨(iv (by rw [dY aa];omega)),eqv,eqv,eqv,eqv,trivial⟩,⟨rfl,aa⟩,aa⟩
 refine g9 8 ?_
 refine W.call (Mp:=[]) (apH _ (by rw [w6 aa];omega)) rfl ah ?_
 rintro v24 G23 aBw aex Fj
 refine g9 12 ?_
 refine WC.loop (X:=(Nat)×Value×MH) (fun i=>[(25,lV dz l.length dA),(26,aK l.length),(27,aK i.1),(6,i.2.1)]) (fun i G Ml=>Ml=(i.2.2++[])∧aE bE 3 G i.2.1 ((l.take i.1).flatten) i.2.2∧i.1≤l.length) (fun i=>l.length-i.1) (0,v24,aBw) ct ?_ ?_
 ·exact⟨rfl,(by simpa using Fj),aa⟩
 rintro⟨i,LI,M_6⟩ awJ G27 _ Uk ⟨rfl,lE,hi⟩
 try dsimp only at lE hi
 have hli:=nE l i
 have aws:=nE l (i+1)
 refine WC.fr (f:=gk awJ [(25,lV dz l.length dA),(26,aK l.length),(27,aK i),(6,LI)]) rfl (g9 6 ?_)
 refine WC.cd (fun ya Tj=> ?_) (fun ya Tj=> ?_)
 ·have hil:=dY (l:=l) (j:=i) aa
  refine g9 6 ?_
  have q31:=(aQ.mono ((FE.trans aex).trans Uk)).at (i:=i) aa
  refine match q31 with|⟨_,ai7,⟨_,Pw,aBZ⟩⟩=> ?_
  subst Pw
  obtain⟨aL3,aL4,rfl⟩:=aBZ.form
  refine g9 8 ?_
  refine W.app (e:=bE) dG cV ng rfl HI rfl rfl (lE) (aBZ) ah (by show((l.take i).flatten.length+l[i].length)*8≤140737488355328;omega) (fun YW aaJ PD=>(g9 9 ?_))
  exact⟨Le.rfl,(i+1,YW,aaJ),ct,⟨rfl,(by have h:=PD;rw [Bx aa];exact h),aa⟩,aa⟩
 refine g9 11 ?_
 refine WC.du lE ah (fun G35 avf awM=>(g9 2 ?_))
 refine⟨rfl,_,rfl,?_⟩
 ·have h:=awM;rw [w6 aa]at h;exact h

variable {p:List af} {mJ:Value}
theorem Vo(jr:az cy G Cv p){c:List Int}(gd:az bE G mJ c)(i:Nat)(k:af)(nv:Int)(hb1:(p.length+1)*16≤140737488355328)(hb2:(c.length+1)*8≤140737488355328)(hi:i<c.length)(hh:(aA p (i:Int)).has k=true)(hl:k≠(aA p (i:Int)).lo)(hv:i64 nv):
    Fc Tryz.prog 104 [Cv,mJ,aK i,sV k.b,iV nv] G [] (fun v G' M'=>∃vp vk,v=.tuple #[vp,vk]∧aE cy 9 G' vp (p.take i++([k]++p.drop i)) M'∧az bE G' vk (c.take (i+1)++([nv]++c.drop (i+1)))):=by
 obtain⟨LQ,LR,rfl⟩:=jr.form
 obtain⟨gR,gS,rfl⟩:=gd.form
 have hp:=jr.bq
 have hc:=gd.bq
 have gH:=EA hh
 have Pf:=hv.1
 have Rw:=hv.2
 have jK:i64 ((i:Nat):Int):=⟨aa,aa⟩
 refine Fc.go [.tmp 10,.tmp 11] Tryz.func104 Tryz.ntmps104 rfl (fun w0=>(g9 10 ?_))
 refine W.aH (lH jr _ (by first|assumption|exact⟨aa,aa⟩)) rfl (W.alloc fR (fun b36=>(g9 9 ?_)))
 refine W.sd 18 (fun rX lI=> ?_) (fun rX lI=> ?_)
 ·exfalso;omega
 refine g9 10 ?_
 refine W.sd 24 (fun AJ wA=> ?_) (fun AJ wA=> ?_)
 ·exfalso;omega
 refine g9 5 ?_
 refine W.aH (uJ _ _ _ _) rfl (g9 4 ?_)
 refine W.sp 30 rfl (fun ya=> ?_) (fun ya=> ?_)
 ·exact absurd hh (by simpa using ya)
 refine g9 11 ?_
 refine WC.cd (fun Xb Kf=> ?_) (fun Xb Kf=> ?_)
 ·exact absurd (af.ext' Kf) hl
 refine g9 3 ?_
 refine WC.sub (bB.cons _) (g9 2 ?_)
 refine W.call (Mp:=[]) (vn jr) rfl ah ?_
 rintro v38 G37 BS aaF Fo
 refine g9 2 ?_
 refine W.re (e:=cy) (l:=[_]) (css:=[[sV _]]) dL gi wy rfl rfl rfl rfl rfl rfl ⟨rfl,trivial⟩ (fun v41 DM avJ=>(W.call (Mp:=BS++DM) (aeW Fo _ avJ (by first|assumption|omega) (by first|assumption|omega|simp) (by first|assumption|omega|(simp;omega))) rfl ((nJ (ci _ _ _)).trans ((bO _ ah).trans (bJ ah))) ?_))
 rintro v45 G44 adv Nb ak2
 refine W.mv (W.call (Mp:=[]) (vo (gd.mono aO)) rfl ah ?_)
 rintro v49 G48 LV CM aL5
 refine W.mv (W.ok (Ok.int (n:=((i+1:Nat):Int)) (dZ rfl rfl aa) aa) (W.mv (W.re (e:=bE) (l:=[_]) (css:=[[iV _]]) dG cV ng rfl rfl rfl rfl rfl rfl ⟨⟨rfl,aa,aa⟩,trivial⟩ (fun v52 RD avL=>(W.call (Mp:=LV++RD) (aeX aL5 _ avL (by first|assumption|omega) (by first|assumption|omega|simp) (by first|assumption|omega|(simp;omega))) rfl ((nJ (ci _ _ _)).trans ((bO _ ah).trans (bJ ah))) ?_)))))
 rintro v56 G55 yJ B7 FD
 refine g9 4 ?_
 refine WC.perm (M':=(adv++(yJ++[]))) ((bO _ ah).trans (bJ ah)) (WC.du FD (bJ ah) (fun G59 LW Wh=>(WC.ret ?_)))
 refine⟨.inr rfl,[_,_],⟨rfl,rfl,trivial⟩,_,aI _ _,?_⟩
 have h1:=(ak2.mono ((CM.trans B7).trans LW))
 have h2:=Wh
 rw [ci]at h1 h2
 exact⟨_,_,rfl,h1,h2⟩

theorem Wy(jr:az cy G Cv p){c:List Int}(gd:az bE G mJ c)(i:Nat)(hi:1≤i∧i<c.length∧i≤p.length):
    Fc Tryz.prog 160 [Cv,mJ,aK i] G [] (fun v G' M'=>∃vp vk,v=.tuple #[vp,vk]∧aE cy 9 G' vp (p.take (i-1)++p.drop i) M'∧az bE G' vk (c.take i++c.drop (i+1))):=by
 obtain⟨LQ,LR,rfl⟩:=jr.form
 obtain⟨gR,gS,rfl⟩:=gd.form
 have hp:=jr.bq
 have hc:=gd.bq
 refine Fc.go [.tmp 6,.tmp 7] Tryz.func160 Tryz.ntmps160 rfl (fun w0=>(g9 12 ?_))
 refine W.sd 10 (fun h9 p9=> ?_) (fun h9 p9=> ?_)
 ·exfalso;omega
 refine g9 10 ?_
 refine W.sd 16 (fun zu AG=> ?_) (fun zu AG=> ?_)
 ·exfalso;omega
 refine g9 11 ?_
 refine WC.cd (fun j1 nh=> ?_) (fun j1 nh=> ?_)
 ·exfalso;omega
 refine g9 5 ?_
 refine W.call (Mp:=[]) (vn jr) rfl ah ?_
 rintro v61 G60 alq alm aw5
 refine W.mv (W.ok (Ok.int (n:=((i-1:Nat):Int)) (lm rfl rfl aa) aa) (W.mv (W.call (Mp:=alq) (aw6 aw5 _ _ (by first|assumption|omega)) rfl ah ?_)))
 rintro v65 G64 aji LX awG
 refine W.mv (W.call (Mp:=[]) (vo (gd.mono aO)) rfl ah ?_)
 rintro v69 G68 akP M7 aL6
 refine g9 2 ?_
 refine W.ok (Ok.int (n:=((i+1:Nat):Int)) (dZ rfl rfl aa) aa) (W.call (Mp:=akP) (aw7 aL6 _ _ (by first|assumption|omega)) rfl ah ?_)
 rintro v73 G72 aea Ad ale
 refine g9 4 ?_
 refine WC.perm (M':=(aji++(aea++[]))) ((bO _ ah).trans (bJ ah)) (WC.du ale (bJ ah) (fun G76 LY avO=>(WC.ret ?_)))
 refine⟨.inr rfl,[_,_],⟨rfl,rfl,trivial⟩,_,aI _ _,?_⟩
 exact⟨_,_,rfl,(awG.mono aO),avO⟩

theorem Dx(jr:az cy G Cv p){c:List Int}(gd:az bE G mJ c)(hc4:4≤c.length∧p.length+1=c.length):
    Fc Tryz.prog 105 [Cv,mJ] G [] (fun v G' M'=>∃vp vk vq vl Mp Mq,∃K:af,M'=Mp++Mq∧v=.tuple #[vp,vk,sV K.b,vq,vl,.bool true]∧K=p.getD (((c.length+1) / 2)-1) af.nil∧aE cy 9 G' vp (p.take (((c.length+1) / 2)-1)) Mp∧az bE G' vk (c.take ((c.length+1) / 2))∧aE cy 9 G' vq (p.drop ((c.length+1) / 2)) Mq∧az bE G' vl (c.drop ((c.length+1) / 2))):=by
 obtain⟨LQ,LR,rfl⟩:=jr.form
 obtain⟨gR,gS,rfl⟩:=gd.form
 have hp:=jr.bq
 have hc:=gd.bq
 refine Fc.go [.tmp 4,.tmp 5,.tmp 6,.tmp 7,.tmp 8,.tmp 9] Tryz.func105 Tryz.ntmps105 rfl (fun w0=>(g9 17 ?_))
 refine W.sd 14 (fun xa pG=> ?_) (fun xa pG=> ?_)
 ·exfalso;omega
 refine g9 15 ?_
 refine WC.cn (fun j1 nh=> ?_) (fun j1 nh=> ?_)
 ·exfalso;omega
 refine g9 7 ?_
 refine W.ok (zE rfl rfl aa aa aa) (g9 4 ?_)
 refine WC.dw bB (d9 [0,1,2] ?_)
 have aL7:=az.slice jr (lo:=0) (hi:=((c.length+1) / 2)-1) aa aa
 refine WD.tk 3 rfl (ok_slice (0) (((c.length+1) / 2)-1) dL gi jr rfl rfl ⟨_,_,rfl,aa⟩ ⟨aa,aa⟩) (d9 [5,6] ?_)
 have aL8:=az.slice gd (lo:=0) (hi:=((c.length+1) / 2)) aa aa
 refine WD.tk 7 rfl (ok_slice (0) (((c.length+1) / 2)) dG cV gd rfl rfl ⟨_,_,rfl,aa⟩ ⟨aa,aa⟩) (d9 [9,10,11] ?_)
 refine jr.a1 (i:=((c.length+1) / 2)-1) aa (fun aIE=>(WD.tk 12 rfl (bd (i:=((c.length+1) / 2)-1) dL gi jr rfl rfl ⟨aa,aa⟩) (d9 [13,14,15] ?_)))
 have aL9:=az.slice jr (lo:=((c.length+1) / 2)) (hi:=p.length) aa aa
 refine WD.tk 16 rfl (ok_slice (((c.length+1) / 2)) (p.length) dL gi jr rfl ⟨_,_,rfl,aa⟩ rfl ⟨aa,aa⟩) (d9 [18,19] ?_)
 have aMa:=az.slice gd (lo:=((c.length+1) / 2)) (hi:=c.length) aa aa
 refine WD.tk 20 rfl (ok_slice (((c.length+1) / 2)) (c.length) dG cV gd rfl ⟨_,_,rfl,aa⟩ rfl ⟨aa,aa⟩) (WD.a1 4 rfl (W.call (Mp:=[]) (vn aL7) rfl ah ?_))
 rintro v85 G84 aMb B3 aMc
 refine W.nn (WD.a1 8 rfl (W.call (Mp:=[]) (vo (aL8.mono B3)) rfl ah ?_))
 rintro v89 G88 aw8 aeY alD
 refine W.nn (WD.a1 17 rfl (W.call (Mp:=[]) (vn (aL9.mono aO)) rfl ah ?_))
 rintro v93 G92 aj8 aj9 aMd
 refine W.nn (WD.a1 21 rfl (W.call (Mp:=[]) (vo (aMa.mono aO)) rfl ah ?_))
 rintro v97 G96 acO aw9 RE
 refine W.nn (d9 [22,23,24,25,26,27] ?_)
 refine g9 2 ?_
 refine WC.perm (M':=(aMb++(aj8++(acO++(aw8++[]))))) ((bO _ ((bO _ ah).trans (bJ ah))).trans (bJ (bJ (bJ ah)))) (WC.du (alD.mono aO) (bJ (bJ (bJ ah))) (fun aHq y8 aE0=>(WC.du (RE.mono y8) (bJ (bJ ah)) (fun aMe Z5 aE1=>(WC.ret ?_)))))
 refine⟨.inr rfl,[_,_,_,_,_,_],⟨rfl,rfl,rfl,rfl,rfl,rfl,trivial⟩,_,bi (aI _ _) _,?_⟩
 have h1:=(aMc.mono ((((aeY.trans aj9).trans aw9).trans y8).trans Z5))
 have h2:=(aE0.mono Z5)
 have h3:=(aMd.mono ((aw9.trans y8).trans Z5))
 have h4:=aE1
 rw [rT]at h3 h4
 have h5:=fw (d:=af.nil) (by omega:((c.length+1) / 2)-1<p.length)
 exact⟨_,_,_,_,_,_,_,rfl,rfl,h5.symm,h1,h2,h3,h4⟩

theorem aiI{uL:Value}{a:List af}(cJ:az cy G uL a){v_b:Value}{b:List Int}(O2:az bE G v_b b)(k:af){v_x:Value}{x:List af}(TW:az cy G v_x x){v_y:Value}{y:List Int}(h_y:az bE G v_y y)(hb1:(a.length+1+x.length)*16≤140737488355328)(hb2:(b.length+y.length)*8≤140737488355328):
    Fc Tryz.prog 131 [uL,v_b,sV k.b,v_x,v_y] G [] (fun v G' M'=>∃vp vk,v=.tuple #[vp,vk]∧aE cy 9 G' vp (a++k::x) M'∧az bE G' vk (b++y)):=by
 obtain⟨CA,CB,rfl⟩:=cJ.form
 obtain⟨aqe,aqf,rfl⟩:=O2.form
 obtain⟨aS5,aS6,rfl⟩:=TW.form
 obtain⟨aS7,aS8,rfl⟩:=h_y.form
 refine Fc.go [.tmp 10,.tmp 11] Tryz.func131 Tryz.ntmps131 rfl (fun w0=>(g9 10 ?_))
 refine W.lit (e:=cy) (l:=[k]) (css:=[[sV _]]) dL gi wy rfl rfl rfl rfl rfl rfl ⟨rfl,trivial⟩ (fun aPs aKx ZQ aiJ=>(W.mv (W.lit (e:=(JK cy)) (l:=[a,[k],x]) (css:=[[lV _ _ _],[lV _ _ _],[lV _ _ _]]) ap3 aal aGC rfl rfl rfl rfl rfl rfl ⟨⟨_,rfl,(cJ.mono ZQ)⟩,⟨_,rfl,aiJ⟩,⟨_,rfl,(TW.mono ZQ)⟩,trivial⟩ (fun aPt aJb ahF aE2=>(W.call (Mp:=[]) (Z4 aE2 (by simp;omega)) rfl ah ?_)))))
 rintro aBu aBh aue R6 GP
 refine g9 2 ?_
 refine W.lit (e:=(JK bE)) (l:=[b,y]) (css:=[[lV _ _ _],[lV _ _ _]]) ap4 HJ aGB rfl rfl rfl rfl rfl rfl ⟨⟨_,rfl,(O2.mono aO)⟩,⟨_,rfl,(h_y.mono aO)⟩,trivial⟩ (fun aPu aBv ZR aE3=>(W.cS (aeV aE3 (by simp;omega)) rfl (fun aFX aFY aS9 aE4 aE5=>(g9 5 ?_))))
 refine⟨.inr rfl,[_,_],⟨rfl,rfl,trivial⟩,_,aI _ _,?_⟩
 have h1:=(GP.mono (ZR.trans aE4))
 have h2:=aE5
 have e1:[a,[k],x].flatten=a++k::x:=by simp
 have e2:[b,y].flatten=b++y:=by simp
 rw [e1]at h1
 exact⟨_,_,rfl,h1,az.cast h2 e2⟩

variable {Kn:List Int} {Ma:MH} {mi:MH} {Pn:List af} {Rn:List aG} {aP:Nat} {lv:Int} {tE:Value} {yH:Value} {py:Value}
theorem Wz{st:List (Option Nat)×List Bool}(cJ:bY fu 60 4 3 106 ba G st Ma){root:Int}{leaf:Int}(mj:aE cy 9 G yH Pn mi)(kT:az bE G tE Kn)(we:az aU G py Rn)(i:Nat)(hi:1≤i∧i<Kn.length∧i≤Pn.length)(hki:i64 (Kn[i]'hi.2.1)):
    Fc Tryz.prog 130 [aC aP,aC dM,aK i] G ((aP,ar 62 [aC ba,iV root,iV fan,iV leaf])::((dM,ar 67 [iV lv,yH,tE,py])::(Ma++(mi)))) (fun v G' M'=>v=.tuple #[]∧∃vp vk yY vO,M'=(aP,ar 62 [aC ba,iV root,iV fan,iV leaf])::(dM,ar 67 [iV lv,vp,vk,py])::(yY++vO)∧bY fu 60 4 3 106 ba G' (xm st (Kn[i]'hi.2.1) (none:Option Nat)).2 yY∧aE cy 9 G' vp (Pn.take (i-1)++Pn.drop i) vO∧az bE G' vk (Kn.take i++Kn.drop (i+1))):=by
 obtain⟨zd,ze,rfl⟩:=mj.form
 obtain⟨zf,zg,rfl⟩:=kT.form
 obtain⟨pT,pU,rfl⟩:=we.form
 have fC:=kT.bq
 refine Fc.go [] Tryz.func130 Tryz.ntmps130 rfl (fun w0=>(WC.perm (M':=((aP,ar 62 [aC ba,iV root,iV fan,iV leaf])::((dM,ar 67 [iV lv,lV zd Pn.length ze,lV zf Kn.length zg,lV pT Rn.length pU])::(Ma++(mi++[]))))) (by simp) (WC.seq (WC.dw (iD.k9.k9) (d9 [0,1,2,3,4,5,6,7,8] ?_)))))
 refine kT.a2 (i:=i) aa (fun he1 jY=>(d9 [9,10] ?_))
 refine WD.a1 11 rfl (W.call (Mp:=Ma) (akh cJ _ hki) rfl (ag (ag ah)) ?_)
 intro v8 G5 Ms7 hG5 q6
 refine match q6 with|⟨_,m9⟩=> ?_
 refine W.perm (ag (ag ah)).symm (W.nn (g9 2 ?_))
 refine WC.dw ((iD.cons _).k9) (d9 [0,1,2,3,4,6,7,8,10] ?_)
 refine WD.any [5,9] (by kernel_rfl) rfl ⟨WD.ap ?_,WD.ap ?_,trivial⟩
 ·refine g9 1 ?_
  refine W.nn (WD.a1 9 rfl (g9 1 ?_))
  refine W.nn (WD.a1 11 rfl (W.du (mj.mono hG5) (ag (ag (bJ ah))) (fun TX tI Ds=>(W.call (Mp:=[]) (Wy Ds (kT.mono aO) i hi) rfl ah ?_))))
  intro v14 G11 ajd Fi q12
  refine match q12 with|⟨aOi,aOj,I3,alE,alF⟩=> ?_
  subst I3
  refine W.perm (ag (ag ah)).symm ?_
  have DI:=alE.form
  refine match DI with|⟨aMf,aMg,Ao⟩=> ?_
  subst Ao
  have q24:=alF.form
  refine match q24 with|⟨aMh,aMi,Af⟩=> ?_
  subst Af
  refine W.nn (d9 [12,13,14,15,16,17,18,19,20] ?_)
  refine WD.ua (M':=((aP,ar 62 [aC ba,iV root,iV fan,iV leaf])::((dM,ar 67 [iV lv,lV aMf ((Pn.take (i-1)++Pn.drop i)).length aMg,lV aMh ((Kn.take i++Kn.drop (i+1))).length aMi,lV pT Rn.length pU])::(Ms7++(ajd++[]))))) (by kernel_rfl) bB ((((bO _ ((bO _ ah).trans ah)).trans (bJ ah)).cons _).cons _) ?_
  refine⟨.inl rfl,[],trivial,_,bB.k9.k9,?_⟩
  exact⟨rfl,_,_,_,_,ax _ (ax _ (ax _ (cx _))),(bY.mono aO m9),alE,alF⟩
 refine g9 1 ?_
 refine W.nn (WD.a1 5 rfl (g9 1 ?_))
 refine W.nn (WD.a1 11 rfl (W.du (mj.mono hG5) (ag (ag (bJ ah))) (fun G25 H4 H5=>(W.call (Mp:=[]) (Wy H5 (kT.mono aO) i hi) rfl ah ?_))))
 intro v29 G26 LS Pm DK
 refine match DK with|⟨aOk,aOl,Ab,alG,alH⟩=> ?_
 subst Ab
 refine W.perm (ag (ag ah)).symm ?_
 have q35:=alG.form
 refine match q35 with|⟨aMj,aMk,tp⟩=> ?_
 subst tp
 have q39:=alH.form
 refine match q39 with|⟨aMl,aMm,awu⟩=> ?_
 subst awu
 refine W.nn (d9 [12,13,14,15,16,17,18,19,20] ?_)
 refine WD.ua (M':=((aP,ar 62 [aC ba,iV root,iV fan,iV leaf])::((dM,ar 67 [iV lv,lV aMj ((Pn.take (i-1)++Pn.drop i)).length aMk,lV aMl ((Kn.take i++Kn.drop (i+1))).length aMm,lV pT Rn.length pU])::(Ms7++(LS++[]))))) (by kernel_rfl) bB ((((bO _ ((bO _ ah).trans ah)).trans (bJ ah)).cons _).cons _) ?_
 refine⟨.inl rfl,[],trivial,_,bB.k9.k9,?_⟩
 exact⟨rfl,_,_,_,_,ax _ (ax _ (ax _ (cx _))),(bY.mono aO m9),alG,alH⟩

variable {Ka:List Int} {Kb:List Int} {vV:MH} {zh:MH} {Pa:List af} {Pb:List af} {Ra:List aG} {Rb:List aG} {j6:Nat} {nQ:Nat} {WA:Value} {aeZ:Value} {WB:Value} {ae0:Value} {WE:Value} {ae1:Value}
theorem ag0{st:List (Option Nat)×List Bool}(cJ:bY fu 60 4 3 106 ba G st Ma){root:Int}{leaf:Int}(mj:aE cy 9 G yH Pn mi)(kT:az bE G tE Kn)(we:az aU G py Rn)(i:Nat)(alI:aE cy 9 G WB Pa vV)(alJ:az bE G WA Ka)(alK:az aU G WE Ra)(alL:aE cy 9 G ae0 Pb zh)(alM:az bE G aeZ Kb)(alN:az aU G ae1 Rb)(hi:i+1<Kn.length)(TQ:Pn.length+1=Kn.length)(hA:jm st.1 (Kn[i]'aa) j6)(hB:jm st.1 (Kn[i+1]'hi) nQ)(Nw:da st.2 (Kn[i]'aa)=true)(Nx:da st.2 (Kn[i+1]'hi)=true)(wD:i64 (Kn[i+1]'hi))(hRl:Ra.length+Rb.length≤10000):
    Fc Tryz.prog 97 [aC aP,aC dM,aK i] G ((aP,ar 62 [aC ba,iV root,iV fan,iV leaf])::((dM,ar 67 [iV lv,yH,tE,py])::((j6,ar 67 [iV 0,WB,WA,WE])::((nQ,ar 67 [iV 0,ae0,aeZ,ae1])::(Ma++(mi++(vV++(zh)))))))) (fun v G' M'=>v=.tuple #[]∧((((Ra++Rb).length:Int)≤leaf∧∃vp vk vr yY vO,M'=(aP,ar 62 [aC ba,iV root,iV fan,iV leaf])::(dM,ar 67 [iV lv,vp,vk,py])::(j6,ar 67 [iV 0,WB,WA,vr])::(yY++(vO++vV))∧bY fu 60 4 3 106 ba G' (xm st (Kn[i+1]'hi) (none:Option Nat)).2 yY∧aE cy 9 G' vp (Pn.take (i+1-1)++Pn.drop (i+1)) vO∧az bE G' vk (Kn.take (i+1)++Kn.drop (i+1+1))∧az aU G' vr (Ra++Rb))∨(¬(((Ra++Rb).length:Int)≤leaf)∧∃vp vr vs vO,M'=(aP,ar 62 [aC ba,iV root,iV fan,iV leaf])::(dM,ar 67 [iV lv,vp,tE,py])::(j6,ar 67 [iV 0,WB,WA,vr])::(nQ,ar 67 [iV 0,ae0,aeZ,vs])::(Ma++(vO++(vV++zh)))∧aE cy 9 G' vp (Pn.set i (iY (Ra++Rb)).2.2.1) vO∧az aU G' vr (iY (Ra++Rb)).1∧az aU G' vs (iY (Ra++Rb)).2.1))):=by
 obtain⟨zd,ze,rfl⟩:=mj.form
 obtain⟨zf,zg,rfl⟩:=kT.form
 obtain⟨pT,pU,rfl⟩:=we.form
 obtain⟨D4,D5,rfl⟩:=alI.form
 obtain⟨D6,D7,rfl⟩:=alJ.form
 obtain⟨D8,D9,rfl⟩:=alK.form
 obtain⟨By,Bz,rfl⟩:=alL.form
 obtain⟨BA,BB,rfl⟩:=alM.form
 obtain⟨BC,BD,rfl⟩:=alN.form
 have fC:=kT.bq
 refine Fc.go [] Tryz.func97 Tryz.ntmps97 rfl (fun w0=>(WC.perm (M':=((aP,ar 62 [aC ba,iV root,iV fan,iV leaf])::((dM,ar 67 [iV lv,lV zd Pn.length ze,lV zf Kn.length zg,lV pT Rn.length pU])::((j6,ar 67 [iV 0,lV D4 Pa.length D5,lV D6 Ka.length D7,lV D8 Ra.length D9])::((nQ,ar 67 [iV 0,lV By Pb.length Bz,lV BA Kb.length BB,lV BC Rb.length BD])::(Ma++(mi++(vV++(zh++[]))))))))) (by simp) (g9 8 ?_)))
 refine kT.a2 (i:=i) aa (fun he1 jY=>(g9 2 ?_))
 refine W.jy (fun G1 fC dW=>iz (bY.fV cJ fC (eU (((((aI _ _).cons _).cons _).cons _).cons _) dW) (iI (i:=0) dW rfl)) _ j6 hA Nw) qX rfl (g9 7 ?_)
 refine kT.a2 (i:=i+1) aa (fun he5 uO=>(W.ok (bd (i:=i+1) dG cV kT rfl rfl ⟨aa,aa⟩) (g9 1 ?_)))
 refine W.jy (fun G1 fC dW=>iz (bY.fV cJ fC (eU (((((aI _ _).cons _).cons _).cons _).cons _) dW) (iI (i:=0) dW rfl)) _ nQ hB Nx) qX rfl (g9 16 ?_)
 refine WC.dw (((iD.k9.k9).k9).k9) (d9 [0,1,2,3,4,5,6,7] ?_)
 refine WD.a1 8 rfl (W.cS (Z6 alK alN aa) rfl (fun xK xL G9 Nu Ds=>(W.nn (d9 [9] ?_))))
 refine g9 14 ?_
 refine WC.cd (fun h50 p50=> ?_) (fun h50 p50=> ?_)
 ·refine g9 15 ?_
  refine W.call (Mp:=((aP,ar 62 [aC ba,iV root,iV fan,iV leaf])::((dM,ar 67 [iV lv,lV zd Pn.length ze,lV zf Kn.length zg,lV pT Rn.length pU])::(Ma++mi)))) (Mr:=((j6,ar 67 [iV 0,lV D4 Pa.length D5,lV D6 Ka.length D7,lV xK ((Ra)++(Rb)).length xL])::((nQ,ar 67 [iV 0,lV By Pb.length Bz,lV BA Kb.length BB,lV BC Rb.length BD])::(vV++(zh++[]))))) (Wz (bY.mono Nu cJ) (mj.mono Nu) (kT.mono Nu) (we.mono Nu) (i+1) ⟨aa,aa,aa⟩ wD) rfl (((((ag (ag ((gB ah).trans ah))).cons _).trans ah).cons _).trans ah) ?_
  intro v20 TU BO B6 Ny
  refine match Ny with|⟨_,aOm,aOn,alO,alP,uN,azJ,alQ,alR⟩=> ?_
  subst uN
  have q25:=alQ.form
  refine match q25 with|⟨aB0,aB1,xe⟩=> ?_
  subst xe
  have q29:=alR.form
  refine match q29 with|⟨aB2,aB3,acz⟩=> ?_
  subst acz
  refine W.perm (M':=((aP,ar 62 [aC ba,iV root,iV fan,iV leaf])::((dM,ar 67 [iV lv,lV aB0 ((Pn.take (i+1-1)++Pn.drop (i+1))).length aB1,lV aB2 ((Kn.take (i+1)++Kn.drop (i+1+1))).length aB3,lV pT Rn.length pU])::((j6,ar 67 [iV 0,lV D4 Pa.length D5,lV D6 Ka.length D7,lV xK ((Ra)++(Rb)).length xL])::((nQ,ar 67 [iV 0,lV By Pb.length Bz,lV BA Kb.length BB,lV BC Rb.length BD])::(alO++(alP++(vV++(zh++[]))))))))) (((((ag (ag ((gB ah).trans ah))).cons _).trans ah).cons _).trans ah).symm (g9 2 ?_)
  refine WC.sub (M':=((aP,ar 62 [aC ba,iV root,iV fan,iV leaf])::((dM,ar 67 [iV lv,lV aB0 ((Pn.take (i+1-1)++Pn.drop (i+1))).length aB1,lV aB2 ((Kn.take (i+1)++Kn.drop (i+1+1))).length aB3,lV pT Rn.length pU])::((j6,ar 67 [iV 0,lV D4 Pa.length D5,lV D6 Ka.length D7,lV xK ((Ra)++(Rb)).length xL])::(alO++(alP++(vV++[]))))))) (((((bi (bi (bi (bB.trans (cH _ _)) _) _) _).cons _).k9).k9).k9) (g9 3 ?_)
  refine⟨.inr rfl,[],trivial,_,(((bi (bi (aI _ _) _) _).k9).k9).k9,?_⟩
  exact⟨rfl,.inl ⟨p50,_,_,_,_,_,rfl,azJ,alQ,alR,(Ds.mono B6)⟩⟩
 refine g9 3 ?_
 refine WC.dw ((((iD.cons _).cons _).k9).k9) (d9 [0,1,2,3,4,5,6,7] ?_)
 refine WD.a1 8 rfl (W.call (Mp:=[]) (Lj Ds) rfl ah ?_)
 intro _ G30 _ aBn q33
 refine match q33 with|⟨tp,_,zB,_,_,Jz,aB4,alS⟩=> ?_
 subst tp
 subst zB
 subst Jz
 have q38:=aB4.form
 refine match q38 with|⟨axa,axb,Dt⟩=> ?_
 subst Dt
 have q40:=alS.form
 refine match q40 with|⟨ae2,ae3,aMn⟩=> ?_
 subst aMn
 refine W.nn (d9 [9,10,11,12,13,14,15,16,17,18,19] ?_)
 refine(mj.mono (Nu.trans aBn)).a1 (i:=i) aa (fun aIk=>(WD.tk 20 rfl (aV (i:=i) dL gi (mj.mono aO) rfl rfl ⟨aa,aa⟩) (WD.a1 21 rfl (W.jD (i:=i) (o:=0) (vs:=TE) (a':=((iY ((Ra)++(Rb))).2.2.1)) gi rfl rfl rfl rfl rfl ((mj.mono aO)) (ag (ag (ag (ag (bJ ah))))) aa (by decide) (fun cs h=>by rw [h];rfl) (fun Pz axc=>(W.perm (ag (ag (ag (ag ah)))).symm (W.nn (g9 2 ?_))))))))
 refine WC.perm (M':=((aP,ar 62 [aC ba,iV root,iV fan,iV leaf])::((dM,ar 67 [iV lv,lV zd Pn.length ze,lV zf Kn.length zg,lV pT Rn.length pU])::((j6,ar 67 [iV 0,lV D4 Pa.length D5,lV D6 Ka.length D7,lV axa ((iY ((Ra)++(Rb))).1).length axb])::((nQ,ar 67 [iV 0,lV By Pb.length Bz,lV BA Kb.length BB,lV ae2 ((iY ((Ra)++(Rb))).2.1).length ae3])::(Ma++(Pz++(vV++(zh++[]))))))))) ((((((bO _ ((bO _ ((bO _ ((bO _ ah).trans ah)).trans ah)).trans ah)).trans (bJ ah)).cons _).cons _).cons _).cons _) (g9 2 ?_)
 refine⟨.inr rfl,[],trivial,_,((((bi (bi (bi (aI _ _) _) _) _).k9).k9).k9).k9,?_⟩
 exact⟨rfl,.inr ⟨p50,_,_,_,_,rfl,axc,aB4,alS⟩⟩

theorem ag1{st:List (Option Nat)×List Bool}(cJ:bY fu 60 4 3 106 ba G st Ma){root:Int}{leaf:Int}(mj:aE cy 9 G yH Pn mi)(kT:az bE G tE Kn)(we:az aU G py Rn)(i:Nat){la:Int}(alI:aE cy 9 G WB Pa vV)(alJ:az bE G WA Ka)(alK:az aU G WE Ra){lb:Int}(alL:aE cy 9 G ae0 Pb zh)(alM:az bE G aeZ Kb)(alN:az aU G ae1 Rb)(hi:i+1<Kn.length)(TQ:Pn.length+1=Kn.length)(hA:jm st.1 (Kn[i]'aa) j6)(hB:jm st.1 (Kn[i+1]'hi) nQ)(Nw:da st.2 (Kn[i]'aa)=true)(Nx:da st.2 (Kn[i+1]'hi)=true)(wD:i64 (Kn[i+1]'hi))(hla:la≠0)(hKl:Pa.length+1=Ka.length∧Pb.length+1=Kb.length∧Ka.length+Kb.length≤10000)(hfn:4≤fan):
    Fc Tryz.prog 97 [aC aP,aC dM,aK i] G ((aP,ar 62 [aC ba,iV root,iV fan,iV leaf])::((dM,ar 67 [iV lv,yH,tE,py])::((j6,ar 67 [iV la,WB,WA,WE])::((nQ,ar 67 [iV lb,ae0,aeZ,ae1])::(Ma++(mi++(vV++(zh)))))))) (fun v G' M'=>v=.tuple #[]∧((((Ka++Kb).length:Int)≤fan∧∃vp vk vq vl yY vO Mq',M'=(aP,ar 62 [aC ba,iV root,iV fan,iV leaf])::(dM,ar 67 [iV lv,vp,vk,py])::(j6,ar 67 [iV la,vq,vl,WE])::(yY++(vO++Mq'))∧bY fu 60 4 3 106 ba G' (xm st (Kn[i+1]'hi) (none:Option Nat)).2 yY∧aE cy 9 G' vp (Pn.take (i+1-1)++Pn.drop (i+1)) vO∧az bE G' vk (Kn.take (i+1)++Kn.drop (i+1+1))∧aE cy 9 G' vq ((Pa++(Pn[i]'aa)::Pb)) Mq'∧az bE G' vl ((Ka++Kb)))∨(¬(((Ka++Kb).length:Int)≤fan)∧∃vp va ka vb kb vO Mq' Mr',M'=(aP,ar 62 [aC ba,iV root,iV fan,iV leaf])::(dM,ar 67 [iV lv,vp,tE,py])::(j6,ar 67 [iV la,va,ka,WE])::(nQ,ar 67 [iV lb,vb,kb,ae1])::(Ma++(vO++(Mq'++Mr')))∧aE cy 9 G' vp (Pn.set i ((Pa++(Pn[i]'aa)::Pb).getD ((((Ka++Kb).length+1) / 2)-1) af.nil)) vO∧aE cy 9 G' va ((Pa++(Pn[i]'aa)::Pb).take ((((Ka++Kb).length+1) / 2)-1)) Mq'∧az bE G' ka ((Ka++Kb).take (((Ka++Kb).length+1) / 2))∧aE cy 9 G' vb ((Pa++(Pn[i]'aa)::Pb).drop (((Ka++Kb).length+1) / 2)) Mr'∧az bE G' kb ((Ka++Kb).drop (((Ka++Kb).length+1) / 2))))):=by
 obtain⟨zd,ze,rfl⟩:=mj.form
 obtain⟨zf,zg,rfl⟩:=kT.form
 obtain⟨pT,pU,rfl⟩:=we.form
 obtain⟨D4,D5,rfl⟩:=alI.form
 obtain⟨D6,D7,rfl⟩:=alJ.form
 obtain⟨D8,D9,rfl⟩:=alK.form
 obtain⟨By,Bz,rfl⟩:=alL.form
 obtain⟨BA,BB,rfl⟩:=alM.form
 obtain⟨BC,BD,rfl⟩:=alN.form
 have fC:=kT.bq
 have hlp:=mj.bq
 obtain⟨aTa,aTb,aTc⟩:=hKl
 refine Fc.go [] Tryz.func97 Tryz.ntmps97 rfl (fun w0=>(WC.perm (M':=((aP,ar 62 [aC ba,iV root,iV fan,iV leaf])::((dM,ar 67 [iV lv,lV zd Pn.length ze,lV zf Kn.length zg,lV pT Rn.length pU])::((j6,ar 67 [iV la,lV D4 Pa.length D5,lV D6 Ka.length D7,lV D8 Ra.length D9])::((nQ,ar 67 [iV lb,lV By Pb.length Bz,lV BA Kb.length BB,lV BC Rb.length BD])::(Ma++(mi++(vV++(zh++[]))))))))) (by simp) (g9 8 ?_)))
 refine kT.a2 (i:=i) aa (fun aBf aTd=>(g9 2 ?_))
 refine W.jy (fun G1 fC dW=>iz (bY.fV cJ fC (eU (((((aI _ _).cons _).cons _).cons _).cons _) dW) (iI (i:=0) dW rfl)) _ j6 hA Nw) qX rfl (g9 7 ?_)
 refine kT.a2 (i:=i+1) aa (fun aTe aTf=>(W.ok (bd (i:=i+1) dG cV kT rfl rfl ⟨aa,aa⟩) (g9 1 ?_)))
 refine W.jy (fun G1 fC dW=>iz (bY.fV cJ fC (eU (((((aI _ _).cons _).cons _).cons _).cons _) dW) (iI (i:=0) dW rfl)) _ nQ hB Nx) qX rfl (g9 14 ?_)
 refine WC.cd (fun Xb Kf=> ?_) (fun Xb Kf=> ?_)
 ·exact absurd Kf hla
 refine g9 3 ?_
 refine WC.dw (((iD.k9.k9).k9).k9) (d9 [0,1,2,3,4,5,6,7,8,9,10,11,12] ?_)
 refine mj.a1 (i:=i) aa (fun aMo=>(WD.tk 13 rfl (aV (i:=i) dL gi mj rfl rfl ⟨aa,aa⟩) (d9 [15,16,17,18,19,20,21,22] ?_)))
 refine WD.a1 14 rfl (W.ok (dQ (vs:=TE) gi aMo (ag (ag (ag (ag (bJ ah))))) rfl rfl rfl (by simp)) (W.nn (WD.a1 23 rfl (W.du alI (ag (ag (ag (ag (bJ (bJ ah)))))) (fun G57 MR awN=>(W.du (alL.mono MR) (ag (ag (ag (ag (bJ (bJ ah)))))) (fun G58 Wq aMp=>(W.call (Mp:=[]) (aiI (awN.mono Wq) (alJ.mono aO) _ aMp (alM.mono aO) aa aa) rfl ah ?_))))))))
 intro v62 G59 PB LW Xp
 refine match Xp with|⟨aOo,aOp,aww,Z7,Z8⟩=> ?_
 subst aww
 refine W.perm (ag (ag (ag (ag ah)))).symm ?_
 have q68:=Z7.form
 refine match q68 with|⟨Rk,Rl,Ja⟩=> ?_
 subst Ja
 have q72:=Z8.form
 refine match q72 with|⟨Rm,Ro,Jb⟩=> ?_
 subst Jb
 refine W.nn (d9 [24,25,26,27,28] ?_)
 refine g9 14 ?_
 refine WC.cd (fun aMq axd=> ?_) (fun aMq axd=> ?_)
 ·refine g9 20 ?_
  refine W.call (Mp:=((aP,ar 62 [aC ba,iV root,iV fan,iV leaf])::((dM,ar 67 [iV lv,lV zd Pn.length ze,lV zf Kn.length zg,lV pT Rn.length pU])::(Ma++mi)))) (Mr:=((j6,ar 67 [iV la,lV Rk ((Pa++(Pn[i]'aa)::Pb)).length Rl,lV Rm ((Ka++Kb)).length Ro,lV D8 Ra.length D9])::((nQ,ar 67 [iV lb,lV By Pb.length Bz,lV BA Kb.length BB,lV BC Rb.length BD])::(PB++[])))) (Wz (bY.mono aO cJ) (mj.mono aO) (kT.mono aO) (we.mono aO) (i+1) ⟨aa,aa,aa⟩ wD) rfl (((((ag (ag ((gB (bJ ah)).trans (bJ ah)))).cons _).trans ah).cons _).trans ah) ?_
  intro v77 G74 adx x7 q75
  refine match q75 with|⟨_,aOq,aOr,alT,alU,aeb,azK,alV,alW⟩=> ?_
  subst aeb
  have q82:=alV.form
  refine match q82 with|⟨aB5,aB6,aaM⟩=> ?_
  subst aaM
  have q86:=alW.form
  refine match q86 with|⟨aB7,aB8,awm⟩=> ?_
  subst awm
  refine W.perm (M':=((aP,ar 62 [aC ba,iV root,iV fan,iV leaf])::((dM,ar 67 [iV lv,lV aB5 ((Pn.take (i+1-1)++Pn.drop (i+1))).length aB6,lV aB7 ((Kn.take (i+1)++Kn.drop (i+1+1))).length aB8,lV pT Rn.length pU])::((j6,ar 67 [iV la,lV Rk ((Pa++(Pn[i]'aa)::Pb)).length Rl,lV Rm ((Ka++Kb)).length Ro,lV D8 Ra.length D9])::((nQ,ar 67 [iV lb,lV By Pb.length Bz,lV BA Kb.length BB,lV BC Rb.length BD])::(alT++(alU++(PB++[])))))))) (((((ag (ag ((gB ah).trans ah))).cons _).trans ah).cons _).trans ah).symm (g9 2 ?_)
  refine WC.sub (M':=((aP,ar 62 [aC ba,iV root,iV fan,iV leaf])::((dM,ar 67 [iV lv,lV aB5 ((Pn.take (i+1-1)++Pn.drop (i+1))).length aB6,lV aB7 ((Kn.take (i+1)++Kn.drop (i+1+1))).length aB8,lV pT Rn.length pU])::((j6,ar 67 [iV la,lV Rk ((Pa++(Pn[i]'aa)::Pb)).length Rl,lV Rm ((Ka++Kb)).length Ro,lV D8 Ra.length D9])::(alT++(alU++(PB++[]))))))) (((((bi (bi (bi bB _) _) _).cons _).k9).k9).k9) (g9 2 ?_)
  refine⟨.inr rfl,[],trivial,_,(((bi (bi (aI _ _) _) _).k9).k9).k9,?_⟩
  exact⟨rfl,.inl ⟨axd,_,_,_,_,_,_,_,rfl,azK,alV,alW,(Z7.mono x7),(Z8.mono x7)⟩⟩
 refine g9 2 ?_
 refine WC.dw ((((iD.cons _).cons _).k9).k9) (d9 [0,1,2,3,4,5,6,7,8,9,10] ?_)
 refine WD.a1 11 rfl (W.du Z7 (ag (ag (ag (ag ah)))) (fun G87 yM aMr=> ?_))
 have hL9:(Pa++(Pn[i]'aa)::Pb).length+1=(Ka++Kb).length:=by simp only [bP,jo];omega
 refine W.call (Mp:=[]) (Dx aMr (Z8.mono yM) ⟨aa,hL9⟩) rfl ah ?_
 intro v91 G88 aw8 aeY q89
 refine match q89 with|⟨aOs,_,aOt,aOu,E4,E5,aE6,acs,axe,azL,alX,ae4,alY,ae5⟩=> ?_
 subst acs
 subst axe
 refine W.perm (M':=((aP,ar 62 [aC ba,iV root,iV fan,iV leaf])::((dM,ar 67 [iV lv,lV zd Pn.length ze,lV zf Kn.length zg,lV pT Rn.length pU])::((j6,ar 67 [iV la,lV D4 Pa.length D5,lV D6 Ka.length D7,lV D8 Ra.length D9])::((nQ,ar 67 [iV lb,lV By Pb.length Bz,lV BA Kb.length BB,lV BC Rb.length BD])::(E4++(E5++(Ma++(mi++[]))))))))) (ag (Ms:=E4++E5) (ag (Ms:=E4++E5) (ag (Ms:=E4++E5) (ag (Ms:=E4++E5) (nJ (ci _ _ _)))))).symm ?_
 have q98:=alX.form
 refine match q98 with|⟨Vp,Vq,asz⟩=> ?_
 subst asz
 have aMs:=ae4.form
 refine match aMs with|⟨aMt,aE7,aE8⟩=> ?_
 subst aE8
 have aMu:=alY.form
 refine match aMu with|⟨aE9,aFa,agT⟩=> ?_
 subst agT
 have asC:=ae5.form
 refine match asC with|⟨Rr,Rs,Gy⟩=> ?_
 subst Gy
 refine W.nn (d9 [12,13,14,15,16,17,18,19,20,21,22,23,24] ?_)
 refine(mj.mono ((((MR.trans Wq).trans LW).trans yM).trans aeY)).a1 (i:=i) aa (fun aPv=>(WD.tk 25 rfl (aV (i:=i) dL gi (mj.mono aO) rfl rfl ⟨aa,aa⟩) (WD.a1 26 rfl (W.jD (i:=i) (o:=0) (vs:=TE) (a':=aE6) gi rfl rfl rfl rfl rfl ((mj.mono aO)) (ag (ag (ag (ag (bJ (bJ (bJ ah))))))) aa (by decide) (fun cs h=>by rw [h];rfl) (fun axf Z9=>(W.perm (ag (ag (ag (ag ah)))).symm (W.nn (d9 [27,28,29,30,31,32] ?_))))))))
 refine WD.ua (M':=((aP,ar 62 [aC ba,iV root,iV fan,iV leaf])::((dM,ar 67 [iV lv,lV zd Pn.length ze,lV zf Kn.length zg,lV pT Rn.length pU])::((j6,ar 67 [iV la,lV Vp (((Pa++(Pn[i]'aa)::Pb).take ((((Ka++Kb).length+1) / 2)-1))).length Vq,lV aMt (((Ka++Kb).take (((Ka++Kb).length+1) / 2))).length aE7,lV D8 Ra.length D9])::((nQ,ar 67 [iV lb,lV aE9 (((Pa++(Pn[i]'aa)::Pb).drop (((Ka++Kb).length+1) / 2))).length aFa,lV Rr (((Ka++Kb).drop (((Ka++Kb).length+1) / 2))).length Rs,lV BC Rb.length BD])::(Ma++(axf++(E4++(E5++[]))))))))) (by kernel_rfl) bB ((((((bO _ ((bO _ ((bO _ ((bO _ ah).trans ah)).trans ah)).trans ah)).trans (bJ (bJ (bJ ah)))).cons _).cons _).cons _).cons _) ?_
 refine⟨.inl rfl,[],trivial,_,((((bi (bi (bi (aI _ _) _) _) _).k9).k9).k9).k9,?_⟩
 have hP9:=Z9
 rw [azL]at hP9
 exact⟨rfl,.inr ⟨axd,_,_,_,_,_,_,_,_,rfl,hP9,alX,ae4,alY,ae5⟩⟩

end Go.Proofs.YthhpfadbojfdnaaGreat
