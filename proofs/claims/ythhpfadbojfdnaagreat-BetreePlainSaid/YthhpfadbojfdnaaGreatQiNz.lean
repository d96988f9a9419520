/- A sound tree whose root has got two kids is sound, and stands for the same map. Plain Lean; nothing of the program is named here. No condition. -/
import Derived.Test.YthhpfadbojfdnaaGreatQiOk
set_option linter.unusedVariables false
set_option linter.unusedSimpArgs false
set_option linter.unnecessarySimpa false
set_option maxRecDepth 100000

namespace Go.Fw
open Go Go.RowKit
variable {X:List aD}
theorem IG(h:rz X):dg [X,[]]=X:=by
 have:=(oM h List.Pairwise.nil fun a _ b hb=>by cases hb).1
 rwa [cx]at this
theorem abx(h:rz X):dg [[],X]=X:=(oM List.Pairwise.nil h fun a ha=>by cases ha).1
def sJ (n:Nd) (k:af) (x y:Int):Nd:={ n with level:=n.level+1,ab:=[k],kids:=[x,y],rows:=[],aj:=if n.level=0 then []else n.aj }
def fW (n z:Nd) (s:Int):Nd:={ z with slot:=s,aj:=[],seen:=if n.level=0 then z.seen else 0 }
def eS (n:Nd) (x y:Int):Nd×Nd×Nd×Bool:=
 if(aS n y).2.2.2=true then(sJ n (aS n y).2.2.1 x y,fW n (aS n y).1 x,fW n (aS n y).2.1 (aS n y).2.1.slot,true)else(Nd.zero,Nd.zero,Nd.zero,false)
variable {x:Int} {y:Int}
theorem sL{n:Nd}(h:(aS n y).2.2.2=true):eS n x y=(sJ n (aS n y).2.2.1 x y,fW n (aS n y).1 x,fW n (aS n y).2.1 (aS n y).2.1.slot,true):=if_pos h
theorem aby{n:Nd}(h:(aS n y).2.2.2=false):eS n x y=(Nd.zero,Nd.zero,Nd.zero,false):=if_neg (by simp [h])
theorem amJ{n:Nd}(h:(aS n y).2.2.2=true)(h0:¬n.level=0):eS n x y=({ n with level:=n.level+1,ab:=[(aS n y).2.2.1],kids:=[x,y],rows:=[] },{ (aS n y).1 with slot:=x,aj:=[],seen:=0 },{ (aS n y).2.1 with aj:=[],seen:=0 },true):=by
 rw [sL h];unfold sJ fW;rw [if_neg h0,if_neg h0,if_neg h0]
theorem amK{n:Nd}(h:(aS n y).2.2.2=true)(h0:n.level=0):eS n x y=({ n with level:=n.level+1,ab:=[(aS n y).2.2.1],kids:=[x,y],rows:=[],aj:=[] },{ (aS n y).1 with slot:=x,aj:=[] },{ (aS n y).2.1 with aj:=[] },true):=by
 rw [sL h];unfold sJ fW;rw [if_pos h0,if_pos h0,if_pos h0]
def dE (c:aX) (n:Nd):Bool:=if n.level=0 then decide (c.leaf≤(n.rows.length:Int))else decide (c.fan≤(n.kids.length:Int))
theorem oP(n:Nd)(x y:Int):(eS n x y).2.2.2=(aS n y).2.2.2:=by
 cases h:(aS n y).2.2.2
 ·rw [aby h]
 ·rw [sL h]
def jJ (l:List Nd) (r a b:Nd):List Nd:=(l.set 0 r)++[a,b]
structure LiftOf (c:aX) (l:List Nd) (ss:List aw) (a0 b0:Nd) (k:af) (h:Nat):Prop where
 t:Tree c l ss
 hv:IH (bC l 0).n a0 b0 k h
 sb:b0.slot=(l.length:Int)+1
 ea:a0.seen=(bC l 0).n.seen
 eb:b0.seen=(bC l 0).n.seen
 nk:(bC l 0).n.has k=true
 aR:a0.R c.fan c.leaf c.aT
 bR:b0.R c.fan c.leaf c.aT
 room:(l.length:Int)+1<c.bp
 Qz:l.length+2≤4096
namespace LiftOf
variable {c:aX} {l:List Nd} {ss:List aw} {a0 b0:Nd} {k:af} {h:Nat}
noncomputable def nn (l:List Nd):Nd:=(bC l 0).n
noncomputable def la (l:List Nd) (a0:Nd):Nd:=fW (nn l) a0 (l.length:Int)
noncomputable def lb (l:List Nd) (b0:Nd):Nd:=fW (nn l) b0 ((l.length:Int)+1)
noncomputable def lr (l:List Nd) (k:af):Nd:=sJ (nn l) k (l.length:Int) ((l.length:Int)+1)
noncomputable def ll (l:List Nd) (a0 b0:Nd) (k:af):List Nd:=jJ l (lr l k) (la l a0) (lb l b0)
theorem oN(p:LiftOf c l ss a0 b0 k h):(nn l).slot=0:=p.t.oN
theorem seen(p:LiftOf c l ss a0 b0 k h):(nn l).seen≤1099511627776∧0≤(nn l).seen:=by
 obtain⟨j,hj,e⟩:=cj (p.t.nd p.t.root).2.2
 have h1:=(p.t.slot j hj).2
 rw [e]at h1
 exact⟨h1,(p.t.gz p.t.root).1.1.2.2⟩
theorem aj(p:LiftOf c l ss a0 b0 k h):(lr l k).aj=(nn l).aj:=by
 show(if(nn l).level=0 then []else(nn l).aj)=_
 split
 ·rename_i h0;exact(p.t.sE p.t.root h0).symm
 ·rfl
theorem len(p:LiftOf c l ss a0 b0 k h):(ll l a0 b0 k).length=l.length+2:=by
 unfold ll jJ;rw [bP,cg];rfl
theorem bp(p:LiftOf c l ss a0 b0 k h):jf (ll l a0 b0 k):=by
 have hp:=p.t.pos
 have hs:=p.seen
 have h1:=uf p.t.slot (x:=lr l k) (by show 0≤(nn l).slot∧_;rw [show(lr l k).slot=(nn l).slot from rfl,p.oN];omega) hs.1
 rw [show(lr l k).slot.toNat=0 from by rw [show(lr l k).slot=(nn l).slot from rfl,p.oN];rfl]at h1
 have sA:(la l a0).seen≤1099511627776:=by
  show(if(nn l).level=0 then a0.seen else 0)≤_
  split
  ·rw [p.ea];exact hs.1
  ·omega
 have sB:(lb l b0).seen≤1099511627776:=by
  show(if(nn l).level=0 then b0.seen else 0)≤_
  split
  ·rw [p.eb];exact hs.1
  ·omega
 have h2:=C8 h1 (x:=la l a0) (by rw [cg];rfl) sA
 have h3:=C8 h2 (x:=lb l b0) (by rw [bP,cg];rfl) sB
 rw [ci]at h3
 exact h3
theorem get(p:LiftOf c l ss a0 b0 k h)(s:Int):ai (ll l a0 b0 k) s=if s=(l.length:Int)+1 then lb l b0 else if s=l.length then la l a0 else if s=0 then lr l k else ai l s:=by
 have hp:=p.t.pos
 have e:ll l a0 b0 k=((l.set (lr l k).slot.toNat (lr l k))++[la l a0])++[lb l b0]:=by
  rw [show(lr l k).slot.toNat=0 from by rw [show(lr l k).slot=(nn l).slot from rfl,p.oN];rfl,ci];rfl
 have h0:(lr l k).slot=0:=p.oN
 rw [e,xy,xy,bP,cg,pg (by rw [h0];omega),h0]
 rfl
theorem find(p:LiftOf c l ss a0 b0 k h)(s:Int):cE (ll l a0 b0 k) s=(if s=(l.length:Int)+1 then lb l b0 else if s=l.length then la l a0 else if s=0 then lr l k else ai l s,decide (0≤s∧s<(l.length:Int)+2)):=by
 rw [sy p.bp,p.get,p.len];rfl
variable {x:aw}
theorem A2(p:LiftOf c l ss a0 b0 k h)(hx:x∈ss)(h1:x.n.slot≠0):cE (ll l a0 b0 k) x.n.slot=cE l x.n.slot:=by
 have:=(p.t.nd hx).1
 rw [p.find,if_neg aa,if_neg aa,if_neg h1,sy p.t.slot,dB aa,dB aa]
theorem ayo(p:LiftOf c l ss a0 b0 k h):cE (ll l a0 b0 k) 0=(lr l k,true):=by
 have:=p.t.pos
 rw [p.find,if_neg aa,if_neg aa,if_pos rfl,dB aa]
theorem ajw(p:LiftOf c l ss a0 b0 k h):cE (ll l a0 b0 k) (l.length:Int)=(la l a0,true):=by
 rw [p.find,if_neg aa,if_pos rfl,dB aa]
theorem ajx(p:LiftOf c l ss a0 b0 k h):cE (ll l a0 b0 k) ((l.length:Int)+1)=(lb l b0,true):=by
 rw [p.find,if_pos rfl,dB aa]
noncomputable def nR (l:List Nd) (k:af):aw:=⟨lr l k,Span.all,[]⟩
noncomputable def nA (l:List Nd) (a0 b0:Nd) (k:af):aw:=aq (ll l a0 b0 k) (nR l k) 0
noncomputable def nB (l:List Nd) (a0 b0:Nd) (k:af):aw:=aq (ll l a0 b0 k) (nR l k) 1
theorem aCN(p:LiftOf c l ss a0 b0 k h):bC (ll l a0 b0 k) 0=nR l k:=by
 show(⟨(cE _ 0).1,_,_⟩:aw)=_
 rw [p.ayo];rfl
theorem an(p:LiftOf c l ss a0 b0 k h):(nA l a0 b0 k).n=la l a0:=by
 show(cE _ (l.length:Int)).1=_
 rw [p.ajw]
theorem bn(p:LiftOf c l ss a0 b0 k h):(nB l a0 b0 k).n=lb l b0:=by
 show(cE _ ((l.length:Int)+1)).1=_
 rw [p.ajx]
theorem ajy(k q:af):ae [k] q=if q.lt k=true then 0 else 1:=by
 unfold ae
 cases h:q.lt k<;>simp [lF,h]
theorem ha(p:LiftOf c l ss a0 b0 k h)(q:af):(nA l a0 b0 k).s.has q=((bC l 0).s.has q&&q.lt k):=by
 show(Span.all.bH (aA [k] ((0:Nat):Int))).has q=(Span.all.has q&&_)
 rw [bL,eR (by rfl) q (kW _),ajy]
 cases q.lt k<;>simp
theorem hb(p:LiftOf c l ss a0 b0 k h)(q:af):(nB l a0 b0 k).s.has q=((bC l 0).s.has q&& !q.lt k):=by
 show(Span.all.bH (aA [k] ((1:Nat):Int))).has q=(Span.all.has q&&_)
 rw [bL,eR (by rfl) q (by simp),ajy]
 cases q.lt k<;>simp
theorem ub(p:LiftOf c l ss a0 b0 k h):rz (nn l).aj:=(p.t.aj p.t.root).1
theorem ams(p:LiftOf c l ss a0 b0 k h):(nA l a0 b0 k).ms=aB (nA l a0 b0 k).s (nn l).aj:=by
 show dg [aB (nA l a0 b0 k).s (lr l k).aj,[]]=_
 rw [p.aj,IG (ju p.ub)]
theorem bms(p:LiftOf c l ss a0 b0 k h):(nB l a0 b0 k).ms=aB (nB l a0 b0 k).s (nn l).aj:=by
 show dg [aB (nB l a0 b0 k).s (lr l k).aj,[]]=_
 rw [p.aj,IG (ju p.ub)]
theorem hs(p:LiftOf c l ss a0 b0 k h):nT (bC l 0) (nA l a0 b0 k) (nB l a0 b0 k) k h:=by
 refine⟨?_,p.ha,p.hb,gm _ _,gm _ _,fun s hs=> ?_,fun s hs=> ?_⟩
 ·rw [p.an,p.bn]
  have hv:=p.hv
  exact⟨hv.la,hv.lb,hv.arD,hv.abz,hv.XR.trans p.sb,hv.leaf,hv.inner,hv.size⟩
 ·rw [p.an,p.ams,eL hs]
  show dg [[],aB s (nn l).aj]=dg [aB s (nn l).aj,[]]
  rw [IG (ju p.ub),abx (ju p.ub)]
 ·rw [p.bn,p.bms,eL hs]
  show dg [[],aB s (nn l).aj]=dg [aB s (nn l).aj,[]]
  rw [IG (ju p.ub),abx (ju p.ub)]
variable {j:Nat}
theorem kJ(p:LiftOf c l ss a0 b0 k h)(hx:x∈ss)(h0:¬x.n.level=0)(hj:j<x.n.kids.length):x.n.kids.getD j 0=(aq l x j).n.slot:=by
 have e:=(p.t.at hx h0 hj)
 rw [fc,eY hj,e.2.2.1,(cZ p.t.slot e.2.1).1];rfl
theorem arE(p:LiftOf c l ss a0 b0 k h)(hx:x∈ss)(h0:¬x.n.level=0)(hj:j<x.n.kids.length):cE (ll l a0 b0 k) (x.n.kids.getD j 0)=cE l (x.n.kids.getD j 0):=by
 rw [p.kJ hx h0 hj]
 refine p.A2 (p.t.at hx h0 hj).1 fun e=> ?_
 have gH:aq l x j∈bu l x:=by rw [(cL (p.t.kids hx) h0).1];exact cB.2 ⟨j,gN.2 hj,rfl⟩
 exact p.t.Ez hx gH (by rw [e];exact p.t.oN.symm)
theorem abA(p:LiftOf c l ss a0 b0 k h):(ft (ll l a0 b0 k) (nA l a0 b0 k)).isSome=true∧(ft (ll l a0 b0 k) (nB l a0 b0 k)).isSome=true∧bu (ll l a0 b0 k) (nA l a0 b0 k)++bu (ll l a0 b0 k) (nB l a0 b0 k)=bu l (bC l 0):=by
 refine nT.kids p.t p.t.root p.hs fun j hj=> ?_
 by_cases h0:(bC l 0).n.level=0
 ·have:=(p.t.leaf p.t.root h0).1
  omega
 ·exact p.arE p.t.root h0 hj
theorem aAs(p:LiftOf c l ss a0 b0 k h):(ft (ll l a0 b0 k) (nR l k)).isSome=true∧bu (ll l a0 b0 k) (nR l k)=[nA l a0 b0 k,nB l a0 b0 k]:=by
 have hl:=p.t.lvl p.t.root
 obtain⟨g1,g2⟩:=uS (l:=ll l a0 b0 k) (x:=nR l k) (by show 0<(nn l).level+1;have:0≤(nn l).level:=hl;omega) (by rfl) fun j hj=>by
  have hj:j<2:=hj
  have e:∀z:Nd,z.level=(nn l).level→decide (z.level=(nR l k).n.level-1)=true:=fun z hz=>by
   rw [fJ,hz]
   show _=(nn l).level+1-1
   omega
  unfold oK
  rcases rO j 1 with h|h
  ·have:j=0:=aa
   subst this
   show((cE _ (l.length:Int)).2&&_)=true
   rw [show(nR l k).n.kids.getD 0 0=(l.length:Int)from rfl,p.ajw]
   exact e (la l a0) p.hv.la
  ·have:j=1:=aa
   subst this
   show((cE _ ((l.length:Int)+1)).2&&_)=true
   rw [show(nR l k).n.kids.getD 1 0=(l.length:Int)+1 from rfl,p.ajx]
   exact e (lb l b0) p.hv.lb
 exact⟨g1,g2⟩
theorem abB(p:LiftOf c l ss a0 b0 k h)(hx:x∈ss):(ft (ll l a0 b0 k) x).isSome=true∧bu (ll l a0 b0 k) x=bu l x:=by
 by_cases h0:x.n.level=0
 ·rw [uQ h0,fN h0,fN h0];exact⟨rfl,rfl⟩
 ·obtain⟨h1,h2,h3,h4⟩:=cL (p.t.kids hx) h0
  obtain⟨g1,g2⟩:=uS (l:=ll l a0 b0 k) (x:=x) h2 h3 fun j hj=>by
   rw [ue (l':=l) (y:=x) (j:=j) (p.arE hx h0 hj) rfl];exact h4 j hj
  refine⟨g1,?_⟩
  rw [g2,h1]
  exact rU fun j hj=>uc (by rw [p.arE hx h0 (gN.1 hj)]) (fun _=>rfl) fun _ _=>rfl
noncomputable def rest (l:List Nd) (ss:List aw):List aw:=ss.flatMap (bu l)
theorem QA(p:LiftOf c l ss a0 b0 k h)(hx:x∈rest l ss):x∈ss:=by
 rw [p.t.fix];exact dk _ hx
theorem amL(p:LiftOf c l ss a0 b0 k h):rest l ss=bu l (bC l 0)++(rest l ss).flatMap (bu l):=by
 have h1:rest l ss=(bC l 0::rest l ss).flatMap (bu l):=by
  conv=>lhs;unfold rest;rw [p.t.fix]
  rfl
 rw [cI]at h1
 exact h1
theorem QB{f g:aw→List aw} :∀ {L:List aw},(∀x∈L,f x=g x)→L.flatMap f=L.flatMap g
 |[],_=>rfl
 |x::L,h=>by rw [cI,cI,h x (by simp),QB fun z hz=>h z (dk _ hz)]
noncomputable def ug (l:List Nd) (ss:List aw) (a0 b0:Nd) (k:af):List aw:=nR l k::nA l a0 b0 k::nB l a0 b0 k::rest l ss
theorem fix(p:LiftOf c l ss a0 b0 k h):ug l ss a0 b0 k=bC (ll l a0 b0 k) 0::(ug l ss a0 b0 k).flatMap (bu (ll l a0 b0 k)):=by
 rw [p.aCN]
 unfold ug
 rw [cI,cI,cI,p.aAs.2,←ci (bu _ (nA l a0 b0 k)),p.abA.2.2,QB fun x hx=>(p.abB (p.QA hx)).2,←p.amL]
 rfl
theorem fp(p:LiftOf c l ss a0 b0 k h):(nn l).fp=true∧(nn l).high=af.nil∧(nn l).right= -1:=by
 have h1:=(p.t.gz p.t.root).2.1.1.1
 have h2:(nn l).fp=true:=h1
 have h3:=(p.t.gz p.t.root).1.2.1 h2
 exact⟨h2,h3.1,h3.2⟩
theorem perm(p:LiftOf c l ss a0 b0 k h):((ug l ss a0 b0 k).map fun x:aw=>x.n.slot).Perm ((ll l a0 b0 k).map fun n:Nd=>n.slot):=by
 have h4:((ll l a0 b0 k).map fun n:Nd=>n.slot)=(l.map fun n:Nd=>n.slot)++[(l.length:Int),(l.length:Int)+1]:=by
  rw [lx p.bp,lx p.t.slot,p.len,uz,uz,bU,bU,ci];rfl
 have h5:=p.t.IB
 rw [p.t.fix]at h5
 rw [h4]
 refine List.Perm.trans ?_ (pD _ h5)
 unfold ug
 rw [cA,cA,cA,cA,p.an,p.bn,pC]
 rw [show(nR l k).n.slot=(bC l 0).n.slot from rfl]
 refine List.Perm.cons _ ?_
 exact(tN (l₁:=[(l.length:Int),(l.length:Int)+1]))
theorem lk(p:LiftOf c l ss a0 b0 k h):Np ((ug l ss a0 b0 k).map aw.key):=by
 have h1:=(rn ss).1 p.t.q.1.2.1
 rw [p.t.fix,cA]at h1
 have e0:aw.key (bC l 0)=((nn l).slot,(nn l).level,-1):=by
  show((nn l).slot,(nn l).level,(nn l).right)=_
  rw [p.fp.2.2]
 rw [e0]at h1
 have h2:=arB (x:=(l.length:Int)) (y:=(l.length:Int)+1) h1
 unfold ug
 rw [cA,cA,cA]
 have e1:aw.key (nR l k)=((nn l).slot,(nn l).level+1,-1):=by
  show((nn l).slot,(nn l).level+1,(nn l).right)=_
  rw [p.fp.2.2]
 have e2:aw.key (nA l a0 b0 k)=((l.length:Int),(nn l).level,(l.length:Int)+1):=by
  unfold aw.key;rw [p.an]
  show((l.length:Int),a0.level,a0.right)=_
  rw [p.hv.la,p.hv.XR,p.sb];rfl
 have e3:aw.key (nB l a0 b0 k)=((l.length:Int)+1,(nn l).level,-1):=by
  unfold aw.key;rw [p.bn]
  show((l.length:Int)+1,b0.level,b0.right)=_
  rw [p.hv.lb,p.hv.abz.2.2,show(bC l 0).n.right=(nn l).right from rfl,p.fp.2.2];rfl
 rw [e1,e2,e3]
 exact h2
theorem XS(p:LiftOf c l ss a0 b0 k h){z:Nd}(hz:z.R c.fan c.leaf c.aT)(s:Int)(hs:0≤s):(fW (nn l) z s).R c.fan c.leaf c.aT:=by
 obtain⟨⟨q1,q2,q3⟩,q4,q5,q6⟩:=hz
 have hc:=p.t.kd.2.2.1
 refine⟨⟨hs,q2,?_⟩,q4,q5,?_⟩
 ·show 0≤(if(nn l).level=0 then z.seen else 0)
  split<;>omega
 ·by_cases h0:z.level=0
  ·rw [if_pos h0]at q6
   rw [if_pos (show(fW (nn l) z s).level=0 from h0)]
   obtain⟨r1,r2,r3,r4⟩:=q6
   exact⟨by show z.ab.length+z.kids.length+0=0;omega,r2,r3,r4⟩
  ·rw [if_neg h0]at q6
   rw [if_neg (show ¬(fW (nn l) z s).level=0 from h0)]
   obtain⟨r1,r4,r5,r6,r7,r8,r9⟩:=q6
   exact⟨r1,r4,(fun i hi=>absurd hi (qJ _)),by show(0:Int)≤_;omega,r7,r8,fun i hi=>absurd hi (qJ _)⟩
theorem rR(p:LiftOf c l ss a0 b0 k h):(lr l k).R c.fan c.leaf c.aT:=by
 obtain⟨⟨q1,q2,q3⟩,q4,q5,q6⟩:=(p.t.gz p.t.root).1
 have hc:=p.t.kd
 have h0:¬(lr l k).level=0:=by show ¬(nn l).level+1=0;have:0≤(nn l).level:=q2;omega
 have hn:fq (lr l k).aj∧bX (lr l k).aj≤c.aT∧∀i (h:i<(lr l k).aj.length),(lr l k).fits (lr l k).aj[i]:=by
  by_cases h1:(nn l).level=0
  ·have e:(lr l k).aj=[]:=if_pos h1
   rw [e]
   exact⟨fun i hi=>absurd hi (qJ _),by show(0:Int)≤_;have:=hc.2.2.1;omega,fun i hi=>absurd hi (qJ _)⟩
  ·have q6:(nn l).pe c.fan c.aT:=p.t.inner p.t.root h1
   obtain⟨r1,r4,r5,r6,r7,r8,r9⟩:=q6
   have e:=p.aj
   refine⟨by rw [e];exact r5,by rw [e];exact r6,fun i hi=> ?_⟩
   have jY:i<(nn l).aj.length:=by rw [←e];exact hi
   have e2:(lr l k).aj[i]=(nn l).aj[i]:=by simp only [e]
   rw [e2];exact r9 i jY
 refine⟨⟨q1,by show 0≤(nn l).level+1;have:0≤(nn l).level:=q2;omega,q3⟩,q4,q5,?_⟩
 rw [if_neg h0]
 refine⟨⟨rfl,by show 2≤2;omega,by show((2:Nat):Int)≤_;have:=hc.1;omega⟩,by rfl,hn.1,hn.2.1,fun i hi=> ?_,fun i hi=> ?_,hn.2.2⟩
 ·have hm:(lr l k).kids[i]∈[(l.length:Int),(l.length:Int)+1]:=bN hi
  simp only [dK,ww,Ek]at hm
  omega
 ·have hm:(lr l k).ab[i]∈[k]:=bN hi
  rw [gh]at hm
  rw [hm]
  exact⟨p.hv.size.1,p.hv.size.2,p.nk⟩
theorem rP(p:LiftOf c l ss a0 b0 k h):xu (nR l k):=by
 obtain⟨p0,p3,p4,p5⟩:=(p.t.gz p.t.root).2.1
 refine⟨p0,fun i hi=>absurd hi (qJ _),fun i hi=> ?_,fun i hi=> ?_⟩
 ·have hm:(nR l k).n.ab[i]∈[k]:=bN hi
  rw [gh]at hm
  rw [hm]
  exact⟨sC k,p.hv.size.1⟩
 ·have e:(nR l k).n.aj=(nn l).aj:=p.aj
  have e2:(nR l k).n.aj[i]=(nn l).aj[i]'(by rw [←e];exact hi):=by simp only [e]
  rw [e2]
  exact p5 i (by rw [show(bC l 0).n.aj=(nn l).aj from rfl,←e];exact hi)
theorem aCO(p:LiftOf c l ss a0 b0 k h):∀z∈ug l ss a0 b0 k,yV c z:=fun z hz=>by
 have nU:=p.room
 have st:∀ {s:Span} {ms:List aD} {e:Nd},e.seen=(nn l).seen→ms=aB s (nn l).aj→∀j (hj:j<ms.length),(if(nn l).level=0 then e.seen else 0)<ms[j].aW:=fun es e j hj=>by
  subst e
  by_cases h0:(nn l).level=0
  ·have:(nn l).aj=[]:=p.t.sE p.t.root h0
   rw [this]at hj
   exact absurd hj (qJ _)
  ·rw [if_neg h0]
   obtain⟨m0,hm0,e⟩:=gX (bN hj)
   have:=((p.t.aj p.t.root).2.1 m0 hm0).1.1
   rw [e];omega
 unfold ug at hz
 simp only [dK]at hz
 have nil:∀ {s:Span} (m:aD),m∈([]:List aD)→∃m'∈(bC l 0).n.aj,(m'.clip s).2=true∧(m'.clip s).1=m:=fun m hm=>by cases hm
 rcases hz with rfl|rfl|rfl|hz
 ·exact⟨p.rR,p.rP,by show(nn l).slot<_;rw [p.oN];omega,fun j hj=>absurd hj (qJ _)⟩
 ·refine⟨by rw [p.an];exact p.XS p.aR _ aa,nT.abC p.t p.t.root p.hs (by rfl) p.nk (by rw [p.an];exact nil),by rw [p.an];show(l.length:Int)<_;omega,fun j hj=> ?_⟩
  rw [p.an];exact st p.ea p.ams j hj
 ·refine⟨by rw [p.bn];exact p.XS p.bR _ aa,nT.abD p.t p.t.root p.hs (by rfl) p.nk (by rw [p.bn];exact nil),by rw [p.bn];show(l.length:Int)+1<_;omega,fun j hj=> ?_⟩
  rw [p.bn];exact st p.eb p.bms j hj
 ·exact p.t.gz (p.QA hz)
theorem tree(p:LiftOf c l ss a0 b0 k h):Tree c (ll l a0 b0 k) (ug l ss a0 b0 k):=by
 have arF:=p.Qz
 have gn:=p.room
 refine IC p.t.kd (by rw [p.len];omega) (XT p.t.kd (by rw [p.len];omega) fun n hn=> ?_) p.bp p.fix (fun z hz=> ?_) p.perm p.lk (by rw [p.len];omega) p.aCO
 ·have uT:∀n∈l,n.R c.fan c.leaf c.aT:=fun n hn=>by
   have:=(p.t.perm.mem_iff).2 hn
   obtain⟨x,hx,rfl⟩:=cB.1 this
   exact(p.t.gz hx).1
  unfold ll jJ at hn
  rcases cP.1 hn with hn|hn
  ·rcases qI hn with hn|rfl
   ·exact uT n hn
   ·exact p.rR
  ·simp only [dK,ww,Ek]at hn
   rcases hn with rfl|rfl
   ·exact p.XS p.aR _ aa
   ·exact p.XS p.bR _ aa
 ·unfold ug at hz
  simp only [dK]at hz
  rcases hz with rfl|rfl|rfl|hz
  ·exact p.aAs.1
  ·exact p.abA.1
  ·exact p.abA.2.1
  ·exact(p.abB (p.QA hz)).1
theorem map(p:LiftOf c l ss a0 b0 k h):bM (ll l a0 b0 k)=bM l:=by
 rw [qD p.tree.KK,qD p.t.KK]
 have h1:=nT.view p.t p.t.root p.hs (fun _=>by rw [p.ams,eL fun _ h=>h];rw [show(nn l).aj=[]from p.t.sE p.t.root (by assumption)];rfl) (fun _=>by rw [p.bms,eL fun _ h=>h];rw [show(nn l).aj=[]from p.t.sE p.t.root (by assumption)];rfl)
 have e2:¬(nR l k).n.level=0:=by show ¬(nn l).level+1=0;have:0≤(nn l).level:=p.t.lvl p.t.root;omega
 have e3:ck ss=ck [bC l 0]++ck (rest l ss):=by
  conv=>lhs;rw [p.t.fix]
  unfold ck
  rw [←gv];rfl
 have e4:ck (ug l ss a0 b0 k)=ck [nA l a0 b0 k,nB l a0 b0 k]++ck (rest l ss):=by
  unfold ck
  rw [←gv]
  unfold ug
  rw [lF,if_neg (by simpa using e2)];rfl
 rw [e3,e4,dT,dT,h1]
end LiftOf
variable {l:List Nd} {ss:List aw}
theorem arG{c:aX}(t:Tree c l ss)(room:(l.length:Int)+1<c.bp)(Qz:l.length+2≤4096)
  (hc:(eS (bC l 0).n l.length ((l.length:Int)+1)).2.2.2=true):
  ∃T,Tree c (jJ l (eS (bC l 0).n l.length ((l.length:Int)+1)).1 (eS (bC l 0).n l.length ((l.length:Int)+1)).2.1 (eS (bC l 0).n l.length ((l.length:Int)+1)).2.2.1) T∧
   bM (jJ l (eS (bC l 0).n l.length ((l.length:Int)+1)).1 (eS (bC l 0).n l.length ((l.length:Int)+1)).2.1 (eS (bC l 0).n l.length ((l.length:Int)+1)).2.2.1)=bM l:=by
 rw [oP]at hc
 have hR:=(t.gz t.root).1
 have hRR:=Un (slot:=(l.length:Int)+1) hR aa hc
 obtain⟨a,b,k,h,e,hv,g1,g2,g3,g4,g5,g6,g7⟩:=sM (y:=(l.length:Int)+1) hR hc
 rw [sL hc,e]
 rw [e]at hRR
 have p:LiftOf c l ss a b k h:=⟨t,hv,g2,g3,g4,g7,hRR.1,hRR.2.1,room,Qz⟩
 have e9:fW (bC l 0).n b b.slot=LiftOf.lb l b:=by rw [g2];rfl
 dsimp only
 rw [e9]
 exact⟨_,p.tree,p.map⟩
theorem jv(n:Nd)(i:Int):(aS n i).2.2.2=(ch n).2.2.2:=by
 cases h:(ch n).2.2.2
 ·rw [tW h]
 ·rw [gG h]
theorem EB(n:Nd)(x y x' y':Int):(eS n x y).2.2.2=(eS n x' y').2.2.2:=by rw [oP,oP,jv,jv]
def tk (l:List Nd) (x:Nd):List Nd:=l++[{ x with slot:=l.length }]
theorem yD(l:List Nd)(x:Nd):(tk l x).length=l.length+1:=by simp [tk]
theorem abE{n:Nat}{x:Nd}(h:l.length<n):xq n l x=(((l.length:Int),0),tk l x):=PY h
def dJ (c:aX) (l:List Nd):Int×List Nd:=
 if(eS (ai l 0) l.length ((l.length:Int)+1)).2.2.2=false then(6,l)
 else if c.bp.toNat-l.length<2 then(4,l)
 else(0,jJ l (eS (ai l 0) l.length ((l.length:Int)+1)).1 (eS (ai l 0) l.length ((l.length:Int)+1)).2.1 (eS (ai l 0) l.length ((l.length:Int)+1)).2.2.1)
variable {x:Int} {y:Int}
theorem II{c:aX}(h:(eS (ai l 0) x y).2.2.2=false):dJ c l=(6,l):=if_pos (by rw [EB _ _ _ x y];exact h)
theorem xz{c:aX}(h:(eS (ai l 0) x y).2.2.2=true)(hr:c.bp.toNat-l.length<2):dJ c l=(4,l):=by
 unfold dJ;rw [if_neg (by rw [EB _ _ _ x y,h];simp),if_pos hr]
theorem zO{c:aX}(h:(eS (ai l 0) x y).2.2.2=true)(hr:¬c.bp.toNat-l.length<2):
  dJ c l=(0,jJ l (eS (ai l 0) l.length ((l.length:Int)+1)).1 (eS (ai l 0) l.length ((l.length:Int)+1)).2.1 (eS (ai l 0) l.length ((l.length:Int)+1)).2.2.1):=by
 unfold dJ;rw [if_neg (by rw [EB _ _ _ x y,h];simp),if_neg hr]
theorem abF{n:Nd}(h:(eS n x y).2.2.2=true)(hk:(aS n y).2.1.slot=y):(eS n x y).1.slot=n.slot∧(eS n x y).2.1.slot=x∧(eS n x y).2.2.1.slot=y:=by
 rw [oP]at h
 rw [sL h]
 exact⟨rfl,rfl,hk⟩
theorem XU{n:Nd}(h:(aS n y).2.2.2=true):(aS n y).2.1.slot=y:=by
 rw [jv]at h
 rw [gG h]
theorem XV{n:Nd}{x' y':Int}(h:(eS n x' y').2.2.2=true):(eS n x y).1.slot=n.slot∧(eS n x y).2.1.slot=x∧(eS n x y).2.2.1.slot=y:=by
 have h2:(eS n x y).2.2.2=true:=by rw [EB n x y x' y'];exact h
 exact abF h2 (XU (by rw [←oP n x y];exact h2))
theorem ajz{A B:List Nd}{x y:Nd}(h:l=A++x::B)(hy:y.slot.toNat=A.length):l.set y.slot.toNat y=A++y::B:=by
 rw [h,hy,Hs _ _ (bZ _),Ei];rfl
variable {a:Nd} {b:Nd} {r:Nd}
theorem af8{n:Nd}(hr:r.slot=0)(ha:a.slot=l.length)(hb:b.slot=(l.length:Int)+1)(hp:0<l.length):(((tk (tk l n) n).set r.slot.toNat r).set a.slot.toNat a).set b.slot.toNat b=jJ l r a b:=by
 have e1:(tk (tk l n) n).set r.slot.toNat r=l.set 0 r++[{ n with slot:=l.length },{ n with slot:=(tk l n).length }]:=by
  unfold tk
  rw [hr,ci]
  show List.set _ 0 r=_
  rw [NL _ _ hp];rfl
 have l0:(l.set 0 r).length=l.length:=cg
 rw [e1,ajz (A:=l.set 0 r) (B:=[{ n with slot:=(tk l n).length }]) (x:={ n with slot:=l.length }) rfl (by rw [l0];omega)]
 rw [ajz (A:=l.set 0 r++[a]) (B:=[]) (x:={ n with slot:=(tk l n).length }) (by simp) (by rw [bP,l0];simp;omega)]
 unfold jJ
 simp
theorem UP{c:aX}(t:Tree c l ss):∃T,Tree c (dJ c l).2 T∧bM (dJ c l).2=bM l:=by
 have hr:(bC l 0).n=ai l 0:=t.pK
 by_cases h1:(eS (ai l 0) l.length ((l.length:Int)+1)).2.2.2=true
 ·by_cases h2:c.bp.toNat-l.length<2
  ·rw [xz h1 h2];exact⟨ss,t,rfl⟩
  ·rw [zO h1 h2]
   have nU:=t.kd.2.2.2.1.2
   have:=arG t aa aa (by rw [hr];exact h1)
   rw [hr]at this
   exact this
 ·rw [II (by simpa using h1)];exact⟨ss,t,rfl⟩
theorem C9(n:Nd)(i j:Int):(aS n i).2.2.1=(aS n j).2.2.1:=by
 cases h:(ch n).2.2.2
 ·rw [tW h,tW h]
 ·rw [gG h,gG h]
theorem Mv(n:Nd)(i j:Int):(aS n i).2.2.2=(aS n j).2.2.2:=by rw [jv,jv]
theorem amM(p:List af)(c:List Int)(i:Nat)(k:af)(v w:Int):(qS p c i k v).2.length=(qS p c i k w).2.length:=by
 unfold qS
 split
 ·rfl
 ·simp
theorem QC(n:Nd)(i:Nat)(k:af)(v w:Int):(jg n i k v).2=(jg n i k w).2:=by
 unfold jg
 rw [amM _ _ _ _ v w]
 split<;>rfl
def fT (l:List Nd) (p:Int) (i:Nat):Int:=(ai l p).kids.getD i 0
def fU (l:List Nd) (p:Int) (i:Nat):Nd×Nd×af×Bool:=aS (ai l (fT l p i)) l.length
def sN (l:List Nd) (p:Int) (i:Nat):Nd×Bool:=jg (ai l p) i (fU l p i).2.2.1 l.length
def BZ (l:List Nd) (p:Int) (i:Nat):List Nd:=((l.set (fU l p i).1.slot.toNat (fU l p i).1).set p.toNat (sN l p i).1)++[(fU l p i).2.1]
def m5 (c:aX) (l:List Nd) (p:Int) (i:Nat):Int×List Nd:=
 if ¬(0≤p∧p<l.length)∨(ai l p).kids.length≤i∨¬(0≤fT l p i∧fT l p i<l.length)then(8,l)
 else if dE c (ai l p)=true then(9,l)
 else if(fU l p i).2.2.2=false∨(sN l p i).2=false then(6,l)
 else if ¬(l.length:Int)<c.bp then(4,l)
 else(0,BZ l p i)
def dx (c:aX) (l:List Nd) (p i:Int):Int×List Nd:=if i<0 then(8,l)else m5 c l p i.toNat
variable {i:Nat} {p:Int}
theorem sO{c:aX}(h:¬(0≤p∧p<l.length)∨(ai l p).kids.length≤i∨¬(0≤fT l p i∧fT l p i<l.length)):m5 c l p i=(8,l):=if_pos h
theorem QD{c:aX}(h1:0≤p∧p<l.length)(h2:¬(ai l p).kids.length≤i)(h3:0≤fT l p i∧fT l p i<l.length)(h:dE c (ai l p)=true):m5 c l p i=(9,l):=by
 unfold m5;rw [if_neg (by rintro(h|h|h);exact h h1;exact h2 h;exact h h3),if_pos h]
theorem zP{c:aX}(h1:0≤p∧p<l.length)(h2:¬(ai l p).kids.length≤i)(h3:0≤fT l p i∧fT l p i<l.length)(h4:dE c (ai l p)=false)(h:(fU l p i).2.2.2=false∨(sN l p i).2=false):m5 c l p i=(6,l):=by
 unfold m5;rw [if_neg (by rintro(h|h|h);exact h h1;exact h2 h;exact h h3),if_neg (by rw [h4];simp),if_pos h]
theorem IJ{c:aX}(h1:0≤p∧p<l.length)(h2:¬(ai l p).kids.length≤i)(h3:0≤fT l p i∧fT l p i<l.length)(h4:dE c (ai l p)=false)(h5:(fU l p i).2.2.2=true)(h6:(sN l p i).2=true)(h:¬(l.length:Int)<c.bp):m5 c l p i=(4,l):=by
 unfold m5;rw [if_neg (by rintro(h|h|h);exact h h1;exact h2 h;exact h h3),if_neg (by rw [h4];simp),if_neg (by rw [h5,h6];simp),if_pos h]
theorem IK{c:aX}(h1:0≤p∧p<l.length)(h2:¬(ai l p).kids.length≤i)(h3:0≤fT l p i∧fT l p i<l.length)(h4:dE c (ai l p)=false)(h5:(fU l p i).2.2.2=true)(h6:(sN l p i).2=true)(h:(l.length:Int)<c.bp):m5 c l p i=(0,BZ l p i):=by
 unfold m5;rw [if_neg (by rintro(h|h|h);exact h h1;exact h2 h;exact h h3),if_neg (by rw [h4];simp),if_neg (by rw [h5,h6];simp),if_neg (by simpa using h)]
theorem Gh(h:(fU l p i).2.2.2=true):(fU l p i).1.slot=(ai l (fT l p i)).slot∧(fU l p i).2.1.slot=l.length:=by
 have hh:(ch (ai l (fT l p i))).2.2.2=true:=by rw [←jv _ (l.length:Int)];exact h
 unfold fU
 rw [gG hh]
 refine⟨?_,rfl⟩
 show(ch (ai l (fT l p i))).1.slot=_
 by_cases h0:(ai l (fT l p i)).level=0
 ·rw [mO h0]
 ·cases h2:fA (ai l (fT l p i)).ab (ai l (fT l p i)).kids.length
  ·rw [qN h0 h2]
  ·rw [mQ h0 h2]
theorem abG(h:(sN l p i).2=true):(sN l p i).1.slot=(ai l p).slot:=by
 unfold sN jg at*
 split
 ·rename_i h2;rw [if_pos h2]at h;cases h
 ·rfl
theorem af9{n:Nd}(ha:0≤a.slot∧a.slot<l.length)(hb:b.slot=l.length)(hr:r.slot=p)(hp:0≤p∧p<l.length):
  (((tk l n).set a.slot.toNat a).set b.slot.toNat b).set r.slot.toNat r=((l.set a.slot.toNat a).set p.toNat r)++[b]:=by
 unfold tk
 rw [NL _ _ aa,hb,hr]
 have l1:(l.set a.slot.toNat a).length=l.length:=cg
 rw [show((l.length:Int)).toNat=(l.set a.slot.toNat a).length by rw [l1];omega,Hs _ _ (bZ _),Ei,NL _ _ aa]
 rfl
theorem amN{c:aX}(t:Tree c l ss)(p i:Int):∃T,Tree c (dx c l p i).2 T∧bM (dx c l p i).2=bM l:=by
 unfold dx
 split
 ·exact⟨ss,t,rfl⟩
 ·generalize i.toNat=j
  by_cases h1:0≤p∧p<l.length
  ·by_cases h2:(ai l p).kids.length≤j
   ·rw [sO (.inr (.inl h2))];exact⟨ss,t,rfl⟩
   ·by_cases h3:0≤fT l p j∧fT l p j<l.length
    ·cases h4:dE c (ai l p)
     ·by_cases h5:(fU l p j).2.2.2=true
      ·by_cases h6:(sN l p j).2=true
       ·by_cases h7:(l.length:Int)<c.bp
        ·rw [IK h1 h2 h3 h4 h5 h6 h7]
         obtain⟨g1,g2⟩:=cZ t.slot h1
         obtain⟨P,hP,eP⟩:=cB.1 ((t.perm.mem_iff).2 g2)
         have hj:j<P.n.kids.length:=by rw [eP];omega
         have h0:¬P.n.level=0:=fun h0=>by have:=(t.leaf hP h0).1;omega
         have hat:=t.at hP h0 hj
         have ek:(aq l P j).n=ai l (fT l p j):=by
          rw [hat.2.2.1]
          unfold fT
          rw [←eP,fc,eY hj];rfl
         have aCP:(P.n.kids.length:Int)<c.fan:=by
          unfold dE at h4
          rw [if_neg (by rw [←eP];exact h0),lR]at h4
          rw [eP];omega
         unfold sN fU at h6
         unfold fU at h5
         rw [←ek]at h5 h6
         rw [←eP]at h6
         have nU:=t.kd.2.2.2.1.2
         have key:=arH t hP h0 hj aCP h7 aa h5 h6
         obtain⟨e9,h,q⟩:=key
         have el:BZ l p j=dX l P.n j (aS (aq l P j).n l.length).1 (aS (aq l P j).n l.length).2.1 (aS (aq l P j).n l.length).2.2.1:=by
          unfold BZ sN fU dX
          rw [←ek,←eP,e9]
          have:P.n.slot=p:=by rw [eP];exact g1
          rw [this]
         rw [el]
         exact⟨_,q.tree,q.map⟩
        ·rw [IJ h1 h2 h3 h4 h5 h6 h7];exact⟨ss,t,rfl⟩
       ·rw [zP h1 h2 h3 h4 (.inr (by simpa using h6))];exact⟨ss,t,rfl⟩
      ·rw [zP h1 h2 h3 h4 (.inl (by simpa using h5))];exact⟨ss,t,rfl⟩
     ·rw [QD h1 h2 h3 h4];exact⟨ss,t,rfl⟩
    ·rw [sO (.inr (.inr h3))];exact⟨ss,t,rfl⟩
  ·rw [sO (.inl h1)];exact⟨ss,t,rfl⟩
theorem aE.cast{α:Type}{e:fB α}{T:TypeId}{G:GH}{v:Value}{l l':List α}{Ms:MH}(h:aE e T G v l Ms)(h2:l=l'):aE e T G v l' Ms:=h2▸h
def oQ (P:List af) (F:List aD) (i:Nat):Int:=bX (F.filter fun m=>decide (ae P m.key=i))
def iy (w:Nat→Int):Nat→Nat
 |0=>0
 |k+1=>if w (iy w k)<w k then k else iy w k
variable {k:Nat}
theorem amO{w:Nat→Int}(h:w (iy w k)<w k):iy w (k+1)=k:=if_pos h
theorem amP{w:Nat→Int}(h:¬w (iy w k)<w k):iy w (k+1)=iy w k:=if_neg h
theorem Gi(w:Nat→Int):∀k,iy w k<k∨(k=0∧iy w k=0)
 |0=>.inr ⟨rfl,rfl⟩
 |k+1=>by
  left
  unfold iy
  split
  ·omega
  ·rcases Gi w k with h|h<;>omega
theorem Da(w:Nat→Int):∀k j,j<k→w j≤w (iy w k)
 |0,j,h=>absurd h (qJ j)
 |k+1,j,h=>by
  unfold iy
  split
  ·rename_i h2
   by_cases e:j=k
   ·rw [e];exact eI _
   ·have:=Da w k j aa;omega
  ·rename_i h2
   by_cases e:j=k
   ·rw [e];omega
   ·exact Da w k j aa
def jj (P:List af) (l:List aD):Int×Bool:=if l.length=0 then(0,false)else(((iy (oQ P (aM l)) (P.length+1):Nat):Int),true)
theorem QE(P:List af)(F:List aD)(i:Nat):0≤oQ P F i:=by
  unfold oQ
  generalize F.filter _=L
  induction L with
  |nil=>exact eI 0
  | cons m L ih => have:=size_pos m;have e:bX (m::L)=m.size+bX L:=by simp [bX]
                   rw [e];omega
theorem ayp(P:List af)(F:List aD)(i:Nat)(h:∀m∈F,m.key.b.size≤16∧m.val.b.size≤16):oQ P F i≤36*F.length:=by
 have h1:=wG (l:=F.filter fun m=>decide (ae P m.key=i)) fun m hm=>h m (eO.1 hm).1
 have h2:=fy (fun m:aD=>decide (ae P m.key=i)) F
 have:=h1.2
 unfold oQ
 omega
variable {F:List aD} {P:List af}
theorem arI{q:Nat}(hq:q<F.length)(h:ae P F[q].key=i):oQ P (F.take (q+1)) i=oQ P (F.take q) i+F[q].size:=by
 unfold oQ
 rw [N8 (p:=fun m:aD=>decide (ae P m.key=i)) hq (by simp [h]),A3]
 simp [bX]
theorem aCQ{q:Nat}(hq:q<F.length)(h:¬ae P F[q].key=i):oQ P (F.take (q+1)) i=oQ P (F.take q) i:=by
 unfold oQ
 rw [HW (p:=fun m:aD=>decide (ae P m.key=i)) hq (by simp [h])]
variable {l:List aD}
theorem aga(h:0<l.length):0<(aM l).length:=by
 unfold aM
 have h1:=Pc xi l
 split
 ·exact h
 ·split
  ·rw [bV];omega
  ·rw [bV];omega
theorem amQ(h:0<l.length):0<oQ P (aM l) (iy (oQ P (aM l)) (P.length+1)):=by
 have h0:=aga h
 have hr:ae P ((aM l)[0]).key≤P.length:=fy _ _
 have hm:=Da (oQ P (aM l)) (P.length+1) (ae P ((aM l)[0]).key) aa
 have:0<oQ P (aM l) (ae P ((aM l)[0]).key):=by
  have e:(aM l).take 1++(aM l).drop 1=aM l:=fo _ _
  have h1:=arI (P:=P) (F:=aM l) (q:=0) h0 rfl
  have h2:0<((aM l)[0]).size:=by unfold aD.size;split<;>omega
  have h3:oQ P (aM l) (ae P ((aM l)[0]).key)=oQ P ((aM l).take 1) (ae P ((aM l)[0]).key)+oQ P ((aM l).drop 1) (ae P ((aM l)[0]).key):=by
   generalize ae P ((aM l)[0]).key=z
   conv=>lhs;rw [←e]
   unfold oQ
   rw [gv,A3]
  have h4:=QE P ((aM l).take 0) (ae P ((aM l)[0]).key)
  have h5:=QE P ((aM l).drop 1) (ae P ((aM l)[0]).key)
  rw [h3]
  rw [show(0+1:Nat)=1 from rfl]at h1
  omega
 omega
theorem amR(h:¬0<l.length):jj P l=(0,false):=by unfold jj;rw [if_pos aa]
theorem KS(h:0<l.length):jj P l=(((iy (oQ P (aM l)) (P.length+1):Nat):Int),true):=by unfold jj;rw [if_neg aa]
theorem agb:0≤(jj P l).1∧(jj P l).1≤P.length:=by
 unfold jj
 split
 ·exact⟨eI 0,aa⟩
 ·rcases Gi (oQ P (aM l)) (P.length+1)with h|h
  ·dsimp only;omega
  ·omega
def Db (P:List af) (F:List aD):List Int:=(List.range (P.length+1)).map (oQ P F)
theorem Dc(P:List af)(F:List aD):(Db P F).length=P.length+1:=by simp [Db]
theorem sQ(h:i<(Db P F).length):(Db P F)[i]=oQ P F i:=by simp [Db]
theorem arJ(P:List af):List.replicate (P.length+1) (0:Int)=Db P []:=by
 refine Av (by simp [Db]) fun i h1 h2=> ?_
 rw [sQ h2]
 simp [oQ,bX]
theorem abH{q:Nat}(hq:q<F.length)(h:ae P F[q].key<(Db P (F.take q)).length):(Db P (F.take q)).set (ae P F[q].key) ((Db P (F.take q))[ae P F[q].key]+F[q].size)=Db P (F.take (q+1)):=by
 refine Av (by rw [cg,Dc,Dc]) fun i h1 h2=> ?_
 rw [sQ h2,Hr]
 rw [cg]at h1
 split
 ·rename_i e
  subst e
  rw [sQ h1,arI hq rfl]
 ·rename_i e
  rw [sQ h1,aCQ hq e]
def bI (c:aX) (n:Nd) (k:af):Int×Int:=
 if n.level=0 then(0,0)else if n.slot=0∧dE c n=true then(1,0)else(2,if(jj n.ab n.aj).2=true then(jj n.ab n.aj).1 else((ae n.ab k:Nat):Int))
noncomputable def cQ (c:aX) (p k:Nd) (i:Int):Int:=
 if 0<k.level∧dE c k=true then(if dE c p=true then 0 else 3)else if 0<c9 c.leaf c.aT p k i then 4 else if 0<k.level then 5 else if 0<(aJ p.ab p.aj i).length then(if dE c p=true then 0 else 3)else 0
theorem ayq(leaf aT:Int)(p k:Nd)(i:Int):(eC leaf aT p k i).2.2=c9 leaf aT p k i:=by
 unfold eC
 split
 ·rename_i h;rw [h]
 ·rfl
variable {k:af}
theorem UQ{c:aX}{n:Nd}(h:n.level=0):bI c n k=(0,0):=if_pos h
theorem UR{c:aX}{n:Nd}(h:¬n.level=0)(h2:n.slot=0)(h3:dE c n=true):bI c n k=(1,0):=by unfold bI;rw [if_neg h,if_pos ⟨h2,h3⟩]
theorem KT{c:aX}{n:Nd}(h:¬n.level=0)(h2:¬(n.slot=0∧dE c n=true))(h3:(jj n.ab n.aj).2=true):bI c n k=(2,(jj n.ab n.aj).1):=by unfold bI;rw [if_neg h,if_neg h2,if_pos h3]
theorem US{c:aX}{n:Nd}(h:¬n.level=0)(h2:¬(n.slot=0∧dE c n=true))(h3:(jj n.ab n.aj).2=false):bI c n k=(2,((ae n.ab k:Nat):Int)):=by unfold bI;rw [if_neg h,if_neg h2,if_neg (by simp [h3])]
theorem XW(s:Span):s.norm.empty=s.empty:=by
 rw [eZ,dv,dv]
 exact⟨fun h k=>by rw [←ld];exact h k,fun h k=>by rw [ld];exact h k⟩
section
variable {c:aX} {p k:Nd} {i:Int}
theorem UT(h:0<k.level)(h2:dE c k=true):cQ c p k i=if dE c p=true then 0 else 3:=if_pos ⟨h,h2⟩
theorem EC(h:¬(0<k.level∧dE c k=true))(hc:0<c9 c.leaf c.aT p k i):cQ c p k i=4:=by unfold cQ;rw [if_neg h,if_pos hc]
theorem ED(h:¬(0<k.level∧dE c k=true))(hc:¬0<c9 c.leaf c.aT p k i)(h0:0<k.level):cQ c p k i=5:=by unfold cQ;rw [if_neg h,if_neg hc,if_pos h0]
theorem EE(hc:¬0<c9 c.leaf c.aT p k i)(h0:¬0<k.level)(hw:0<(aJ p.ab p.aj i).length):cQ c p k i=if dE c p=true then 0 else 3:=by unfold cQ;rw [if_neg (fun h=>h0 h.1),if_neg hc,if_neg h0,if_pos hw]
theorem IL(hc:¬0<c9 c.leaf c.aT p k i)(h0:¬0<k.level)(hw:¬0<(aJ p.ab p.aj i).length):cQ c p k i=0:=by unfold cQ;rw [if_neg (fun h=>h0 h.1),if_neg hc,if_neg h0,if_neg hw]
end
def Gj (n:Nd):Prop:=¬n.level=0→rising n.ab=true∧(∀m∈n.aj,m.key.b.size≤16∧m.val.b.size≤16)∧n.aj.length≤100000∧n.ab.length≤100000
theorem abI{c:aX}{n:Nd}(h:n.R c.fan c.leaf c.aT)(s:XK n):Gj n:=fun h0=>by
 have h4:=h.2.2.2
 rw [if_neg h0]at h4
 obtain⟨_,s2,s3,_⟩:=s
 exact⟨(dp h4.2.1).1,fun m hm=>fg (KU h m hm),aa,aa⟩
structure aCR where
 kind:Int
 n:Nd
instance : Inhabited aCR := ⟨⟨0, Nd.zero⟩⟩
variable {i:Int} {l:List Nd}
theorem amS(h:¬(0≤i∧i<l.length)):ai l i=Nd.zero:=by
 unfold ai
 by_cases h0:0≤i
 ·rw [if_pos h0,fc,rE aa];rfl
 ·rw [if_neg h0]
theorem ly(h:0≤i∧i<l.length):ai l i=l[i.toNat]'aa:=by
 have:=su (l:=l) (k:=i.toNat) aa
 rwa [show((i.toNat:Nat):Int)=i by omega]at this
def aZ (l:List Nd) (a i:Int):Nd:=ai l ((ai l a).kids.getD i.toNat 0)
noncomputable def iH (c:aX) (l:List Nd) (a i:Int):(Int×Int×Int)×List Nd:=
 if cQ c (ai l a) (aZ l a i) i=3 then(if(dx c l a i).1=0 then((3,a,0),(dx c l a i).2)else((0,a,(dx c l a i).1),(dx c l a i).2))
 else if cQ c (ai l a) (aZ l a i) i=4 then((4,a,0),dP l (eC c.leaf c.aT (ai l a) (aZ l a i) i).1 (eC c.leaf c.aT (ai l a) (aZ l a i) i).2.1)
 else if cQ c (ai l a) (aZ l a i) i=5 then((5,(aZ l a i).slot,0),l)
 else((0,a,0),l)
noncomputable def cU (c:aX) (l:List Nd) (a:Int) (k:af):(Int×Int×Int)×List Nd:=
 if(bI c (ai l a) k).1=0 then((0,a,0),l)
 else if(bI c (ai l a) k).1=1 then(if(dJ c l).1=0 then((1,a,0),(dJ c l).2)else((0,a,(dJ c l).1),(dJ c l).2))
 else iH c l a (bI c (ai l a) k).2
variable {a:Int} {k:af}
theorem nZ{c:aX}(h:(bI c (ai l a) k).1=0):cU c l a k=((0,a,0),l):=if_pos h
theorem ph{c:aX}(h:(bI c (ai l a) k).1=1)(h2:(dJ c l).1=0):cU c l a k=((1,a,0),(dJ c l).2):=by unfold cU;rw [if_neg aa,if_pos h,if_pos h2]
theorem pi{c:aX}(h:(bI c (ai l a) k).1=1)(h2:¬(dJ c l).1=0):cU c l a k=((0,a,(dJ c l).1),(dJ c l).2):=by unfold cU;rw [if_neg aa,if_pos h,if_neg h2]
theorem n6{c:aX}(h:(bI c (ai l a) k).1=2):cU c l a k=iH c l a (bI c (ai l a) k).2:=by unfold cU;rw [if_neg aa,if_neg aa]
section
variable {c:aX} {l:List Nd} {a i:Int}
theorem sS(h:cQ c (ai l a) (aZ l a i) i=3)(h2:(dx c l a i).1=0):iH c l a i=((3,a,0),(dx c l a i).2):=by unfold iH;rw [if_pos h,if_pos h2]
theorem sU(h:cQ c (ai l a) (aZ l a i) i=3)(h2:¬(dx c l a i).1=0):iH c l a i=((0,a,(dx c l a i).1),(dx c l a i).2):=by unfold iH;rw [if_pos h,if_neg h2]
theorem j4(h:cQ c (ai l a) (aZ l a i) i=4):iH c l a i=((4,a,0),dP l (eC c.leaf c.aT (ai l a) (aZ l a i) i).1 (eC c.leaf c.aT (ai l a) (aZ l a i) i).2.1):=by unfold iH;rw [if_neg aa,if_pos h]
theorem sW(h:cQ c (ai l a) (aZ l a i) i=5):iH c l a i=((5,(aZ l a i).slot,0),l):=by unfold iH;rw [if_neg aa,if_neg aa,if_pos h]
theorem uh(h:cQ c (ai l a) (aZ l a i) i=0):iH c l a i=((0,a,0),l):=by unfold iH;rw [if_neg aa,if_neg aa,if_neg aa]
theorem eT(c:aX)(p k:Nd)(i:Int):cQ c p k i=0∨cQ c p k i=3∨(cQ c p k i=4∧0<c9 c.leaf c.aT p k i)∨cQ c p k i=5:=by
 unfold cQ
 split
 ·split
  ·exact .inl rfl
  ·exact .inr (.inl rfl)
 ·split
  ·rename_i h;exact .inr (.inr (.inl ⟨rfl,h⟩))
  ·split
   ·exact .inr (.inr (.inr rfl))
   ·split
    ·split
     ·exact .inl rfl
     ·exact .inr (.inl rfl)
    ·exact .inl rfl
end
theorem fj(c:aX)(n:Nd)(k:af):(bI c n k).1=0∨(bI c n k).1=1∨((bI c n k).1=2∧¬n.level=0∧((bI c n k).2=(jj n.ab n.aj).1∨(bI c n k).2=((ae n.ab k:Nat):Int))):=by
 unfold bI
 split
 ·exact .inl rfl
 ·rename_i h0
  split
  ·exact .inr (.inl rfl)
  ·refine .inr (.inr ⟨rfl,h0,?_⟩)
   dsimp only
   split
   ·exact .inl rfl
   ·exact .inr rfl
variable {a:Int} {l:List Nd} {ss:List aw}
theorem Tree.qb{c:aX}(t:Tree c l ss)(ha:0≤a∧a<l.length):∃P∈ss,P.n=ai l a:=by
 have hm:ai l a∈l:=by rw [ly ha];exact bN _
 have:=(t.perm.mem_iff).2 hm
 obtain⟨P,hP,e⟩:=cB.1 this
 exact⟨P,hP,e⟩
structure uE (c:aX) (l:List Nd) (ss:List aw) (a i:Int) (P:aw):Prop where
 mem:P∈ss
 n:P.n=ai l a
 h0:¬P.n.level=0
 hi:0≤i∧i<(P.n.kids.length:Int)
 slot:P.n.slot=a
 Iw:(aq l P i.toNat).n=aZ l a i
 Nr:0≤(ai l a).kids.getD i.toNat 0∧(ai l a).kids.getD i.toNat 0<(l.length:Int)
 KV:(aZ l a i).slot=(ai l a).kids.getD i.toNat 0
 XX:ku (ai l a) (aZ l a i) i
variable {i:Int}
theorem nm{c:aX}(t:Tree c l ss)(ha:0≤a∧a<l.length)(h0:¬(ai l a).level=0)(hi:0≤i∧i<((ai l a).kids.length:Int)):∃P,uE c l ss a i P:=by
 obtain⟨P,hP,e⟩:=t.qb ha
 have hP0:¬P.n.level=0:=by rw [e];exact h0
 have hj:i.toNat<P.n.kids.length:=by rw [e];omega
 have h1:=t.at hP hP0 hj
 have ek:(ai l a).kids.getD i.toNat 0=P.n.kids[i.toNat]:=by rw [←e,fc,eY hj];rfl
 have hs:=(cZ t.slot ha).1
 have ni:=(cZ t.slot h1.2.1).1
 have hl:=t.lvl hP
 refine⟨P,hP,e,hP0,by rw [e];exact hi,by rw [e,hs],by rw [h1.2.2.1];unfold aZ;rw [ek],by rw [ek];exact h1.2.1,by unfold aZ;rw [ek];exact ni,?_⟩
 unfold ku aZ
 rw [ek,←h1.2.2.1,h1.2.2.2,←e]
 exact⟨aa,rfl,aa,by rw [e];exact hi.2⟩
variable {k:af}
theorem kK{c:aX}(t:Tree c l ss)(ha:0≤a∧a<l.length)(h:(bI c (ai l a) k).1=2):¬(ai l a).level=0∧0≤(bI c (ai l a) k).2∧(bI c (ai l a) k).2<((ai l a).kids.length:Int):=by
 obtain⟨P,hP,e⟩:=t.qb ha
 rcases fj c (ai l a) k with h1|h1|⟨_,h0,h1⟩
 ·omega
 ·omega
 ·refine⟨h0,?_⟩
  have hr:=(dp (cL (t.kids hP) (by rw [e];exact h0)).2.2.1).2
  rw [e]at hr
  rcases h1 with h1|h1
  ·rw [h1]
   have:=agb (P:=(ai l a).ab) (l:=(ai l a).aj)
   omega
  ·rw [h1]
   have:ae (ai l a).ab k≤(ai l a).ab.length:=fy _ _
   omega
theorem uE.QF{c:aX}{P:aw}(t:Tree c l ss)(s:uE c l ss a i P)(h:0<c9 c.leaf c.aT (ai l a) (aZ l a i) i):
  ∃T,PourOf c l ss P i.toNat (eC c.leaf c.aT (ai l a) (aZ l a i) i).1 (eC c.leaf c.aT (ai l a) (aZ l a i) i).2.1 T:=by
 rcases abJ c (ai l a) (aZ l a i) i with e|⟨hk,T,hp,e⟩
 ·have:=ayq c.leaf c.aT (ai l a) (aZ l a i) i
  rw [e]at this
  dsimp only at this
  omega
 ·refine⟨T,t,s.mem,s.h0,by have:=s.hi;omega,?_⟩
  have hc:((i.toNat:Nat):Int)=i:=by have:=s.hi;omega
  rw [s.Iw,s.n,hc]
  exact hp
theorem amT{c:aX}(t:Tree c l ss)(ha:0≤a∧a<l.length)(h0:¬(ai l a).level=0)(hi:0≤i∧i<((ai l a).kids.length:Int)):∃T,Tree c (iH c l a i).2 T∧bM (iH c l a i).2=bM l:=by
 obtain⟨P,s⟩:=nm t ha h0 hi
 rcases eT c (ai l a) (aZ l a i) i with h|h|⟨h,h2⟩|h
 ·rw [uh h];exact⟨ss,t,rfl⟩
 ·obtain⟨T,h1,h2⟩:=amN t a i
  by_cases h3:(dx c l a i).1=0
  ·rw [sS h h3];exact⟨T,h1,h2⟩
  ·rw [sU h h3];exact⟨T,h1,h2⟩
 ·rw [j4 h]
  obtain⟨T,p⟩:=s.QF t h2
  exact⟨_,p.tree,p.map⟩
 ·rw [sW h];exact⟨ss,t,rfl⟩
theorem lL{c:aX}(t:Tree c l ss)(ha:0≤a∧a<l.length)(k:af):∃T,Tree c (cU c l a k).2 T∧bM (cU c l a k).2=bM l:=by
 rcases fj c (ai l a) k with h|h|⟨h,_⟩
 ·rw [nZ h];exact⟨ss,t,rfl⟩
 ·obtain⟨T,h1,h2⟩:=UP t
  by_cases h3:(dJ c l).1=0
  ·rw [ph h h3];exact⟨T,h1,h2⟩
  ·rw [pi h h3];exact⟨T,h1,h2⟩
 ·rw [n6 h]
  obtain⟨h0,hi⟩:=kK t ha h
  exact amT t ha h0 hi
theorem sX{K:(Int×Int×Int)×List Nd}{w n e w0 n0 e0:Int}{L:List Nd}(hE:K=((w0,n0,e0),L))(h1:w=w0)(h2:n=n0)(h3:e=e0):
  Value.tuple #[.int .i64 w,.int .i64 n,.int .i64 e]=.tuple #[.int .i64 K.1.1,.int .i64 K.1.2.1,.int .i64 K.1.2.2]:=by rw [hE,h1,h2,h3]
variable {p:Nd}
theorem arK{c:aX}{k:Nd}(h3:¬cQ c p k i=3)(h4:¬cQ c p k i=4)(h5:¬cQ c p k i=5):cQ c p k i=0:=by
 rcases eT c p k i with h|h|⟨h,_⟩|h
 ·exact h
 ·exact absurd h h3
 ·exact absurd h h4
 ·exact absurd h h5
theorem arL{c:aX}{n:Nd}(h1:¬(bI c n k).1=1)(h2:¬(bI c n k).1=2):(bI c n k).1=0:=by
 rcases fj c n k with h|h|⟨h,_⟩
 ·exact h
 ·exact absurd h h1
 ·exact absurd h h2
theorem agc(c:aX)(l:List Nd):l.length≤(dJ c l).2.length:=by
 unfold dJ
 split
 ·exact bZ _
 ·split
  ·exact bZ _
  ·unfold jJ
   simp
theorem Gk(c:aX)(l:List Nd)(p i:Int):l.length≤(dx c l p i).2.length:=by
 unfold dx
 split
 ·exact bZ _
 ·unfold m5
  split
  ·exact bZ _
  ·split
   ·exact bZ _
   ·split
    ·exact bZ _
    ·split
     ·exact bZ _
     ·unfold BZ
      simp
theorem QG(l:List Nd)(a b:Nd):l.length≤(dP l a b).length:=by unfold dP;simp
theorem amU(c:aX)(l:List Nd)(a i:Int):l.length≤(iH c l a i).2.length:=by
 have hp:=Gk c l a i
 rcases eT c (ai l a) (aZ l a i) i with h|h|⟨h,h2⟩|h
 ·rw [uh h];exact bZ _
 ·by_cases h3:(dx c l a i).1=0
  ·rw [sS h h3];exact hp
  ·rw [sU h h3];exact hp
 ·rw [j4 h];exact QG _ _ _
 ·rw [sW h];exact bZ _
theorem agd(c:aX)(l:List Nd)(a:Int)(k:af):l.length≤(cU c l a k).2.length:=by
 have hl:=agc c l
 rcases fj c (ai l a) k with h|h|⟨h,_⟩
 ·rw [nZ h];exact bZ _
 ·by_cases h3:(dJ c l).1=0
  ·rw [ph h h3];exact hl
  ·rw [pi h h3];exact hl
 ·rw [n6 h];exact amU c l a _
theorem m6{c:aX}(t:Tree c l ss)(ha:0≤a∧a<l.length)(k:af):0≤(cU c l a k).1.2.1∧(cU c l a k).1.2.1<((cU c l a k).2.length:Int):=by
 have hg:=agd c l a k
 rcases fj c (ai l a) k with h|h|⟨h,_⟩
 ·rw [nZ h];exact ha
 ·by_cases h3:(dJ c l).1=0
  ·rw [ph h h3]at hg⊢;exact⟨ha.1,by show a<_;dsimp only at hg⊢;omega⟩
  ·rw [pi h h3]at hg⊢;exact⟨ha.1,by show a<_;dsimp only at hg⊢;omega⟩
 ·obtain⟨h0,hi⟩:=kK t ha h
  obtain⟨P,s⟩:=nm t ha h0 hi
  have hpg:=Gk c l a (bI c (ai l a) k).2
  rw [n6 h]
  rcases eT c (ai l a) (aZ l a (bI c (ai l a) k).2) (bI c (ai l a) k).2 with h|h|⟨h,h2⟩|h
  ·rw [uh h];exact ha
  ·by_cases h3:(dx c l a (bI c (ai l a) k).2).1=0
   ·rw [sS h h3];exact⟨ha.1,by dsimp only;omega⟩
   ·rw [sU h h3];exact⟨ha.1,by dsimp only;omega⟩
  ·rw [j4 h]
   have:=QG l (eC c.leaf c.aT (ai l a) (aZ l a (bI c (ai l a) k).2) (bI c (ai l a) k).2).1 (eC c.leaf c.aT (ai l a) (aZ l a (bI c (ai l a) k).2) (bI c (ai l a) k).2).2.1
   exact⟨ha.1,by dsimp only;omega⟩
  ·rw [sW h]
   show 0≤(aZ _ _ _).slot∧(aZ _ _ _).slot<_
   rw [s.KV]
   exact s.Nr
noncomputable def n7 (c:aX) (k:af):Nat→List Nd→Int→Int→Option (Int×Int×List Nd)
 |0,_,_,_=>none
 |m+1,l,a,n=>if(cU c l a k).1.1=0 then some (n,(cU c l a k).1.2.2,(cU c l a k).2)else n7 c k m (cU c l a k).2 (cU c l a k).1.2.1 (if(cU c l a k).1.1=5 then n else n+1)
variable {m:Nat}
theorem jk{c:aX}{n:Int}(h:(cU c l a k).1.1=0):n7 c k (m+1) l a n=some (n,(cU c l a k).1.2.2,(cU c l a k).2):=if_pos h
theorem mc{c:aX}{n:Int}(h:(cU c l a k).1.1=5):n7 c k (m+1) l a n=n7 c k m (cU c l a k).2 (cU c l a k).1.2.1 n:=by
 show(if _ then _ else _)=_
 rw [if_neg aa,if_pos h]
theorem ke{c:aX}{n:Int}(h:¬(cU c l a k).1.1=0)(h2:¬(cU c l a k).1.1=5):n7 c k (m+1) l a n=n7 c k m (cU c l a k).2 (cU c l a k).1.2.1 (n+1):=by
 show(if _ then _ else _)=_
 rw [if_neg h,if_neg h2]
theorem zQ{c:aX}{k:af} :∀(m:Nat) {l:List Nd} {ss:List aw} {a n:Int} {r:Int×Int×List Nd},Tree c l ss→0≤a∧a<l.length→n7 c k m l a n=some r→∃T,Tree c r.2.2 T∧bM r.2.2=bM l
 |0,_,_,_,_,_,_,_,h=>by cases h
 |m+1,l,ss,a,n,r,t,ha,h=>by
  obtain⟨T,hT,hm⟩:=lL t ha k
  by_cases h0:(cU c l a k).1.1=0
  ·rw [jk h0]at h
   cases h
   exact⟨T,hT,hm⟩
  ·have hn:=m6 t ha k
   by_cases h5:(cU c l a k).1.1=5
   ·rw [mc h5]at h
    obtain⟨T2,h1,h2⟩:=zQ m hT hn h
    exact⟨T2,h1,h2.trans hm⟩
   ·rw [ke h0 h5]at h
    obtain⟨T2,h1,h2⟩:=zQ m hT hn h
    exact⟨T2,h1,h2.trans hm⟩
def Dd (fan:Nat) (P:List af) (m:aD):Nat:=if m.kind=4 then fan-ae P m.key else 1
def Ns (fan:Nat) (P:List af) (l:List aD):Nat:=(l.map (Dd fan P)).sum
def De (c:aX) (n:Nd):Nat:=Ns c.fan.toNat n.ab n.aj+(c.fan.toNat-n.kids.length)
theorem UU{fan:Nat}(hf:fan≤64)(P:List af):∀l:List aD,(Ns fan P l:Int)≤2*bX l
 |[]=>by simp [Ns,bX]
 |m::l=>by
  have ih:=UU hf P l
  have h1:(Dd fan P m:Int)≤2*m.size:=by
   unfold Dd aD.size
   split
   ·omega
   ·omega
  simp only [Ns,bX,cA,mH]at ih⊢
  omega
theorem XY{c:aX}{n:Nd}(hc:lY c)(h:n.pe c.fan c.aT):De c n≤8256:=by
 obtain⟨⟨f1,f2⟩,_,⟨b1,b2⟩,_⟩:=hc
 have h1:=UU (fan:=c.fan.toNat) aa n.ab n.aj
 have h2:=h.2.2.2.1
 unfold De
 omega
variable {P:List af} {fan:Nat} {m:aD}
theorem arM(h:ae P m.key<fan):1≤Dd fan P m:=by
 unfold Dd;split<;>omega
theorem abK{s:Span}(h:¬s.norm.empty=true):s.norm.lo=s.lo:=by
 unfold Span.norm at h⊢
 split
 ·rename_i h2
  rw [if_pos h2]at h
  exact absurd (by simp [Span.empty,Span.zero,af.lt_irrefl]) h
 ·split<;>rfl
theorem UW{s:Span}(h4:m.kind=4)(h:(m.clip s).2=true):(m.clip s).1.kind=4∧(m.clip s).1.key=if m.key.lt s.lo=true then s.lo else m.key:=by
 unfold aD.clip at h⊢
 split at h
 ·cases h
 ·rename_i h2
  rw [if_neg h2,if_pos h4]
  refine⟨h4,?_⟩
  dsimp only
  have hs:m.span=⟨m.key,m.hi,m.bQ⟩:=if_pos h4
  rw [hs]at h2⊢
  unfold Span.bH at h2⊢
  rw [abK h2]
variable {T:List aD} {m':aD}
theorem age(h:kY P i T m=some m'):m'=m∨(m.kind=4∧(aA P i).bQ=false∧(m.clip ⟨(aA P i).hi,af.nil,true⟩).2=true∧m'=(m.clip ⟨(aA P i).hi,af.nil,true⟩).1):=by
 unfold kY at h
 split at h
 ·split at h
  ·rename_i h2
   cases h
   right
   have h3:=h2.2
   unfold bw at h3⊢
   split at h3
   ·cases h3
   ·rename_i h4
    rw [if_neg h4]
    exact⟨h2.1,by simpa using h4,h3,rfl⟩
  ·cases h
 ·cases h;exact .inl rfl
theorem arN(h:kY P i T m=some m'):Dd fan P m'≤Dd fan P m:=by
 rcases age h with rfl|⟨h4,_,h2,rfl⟩
 ·exact bZ _
 ·obtain⟨h5,h6⟩:=UW h4 h2
  unfold Dd
  rw [if_pos h4,if_pos h5,h6]
  dsimp only
  have:ae P m.key≤ae P (if m.key.lt (aA P i).hi=true then(aA P i).hi else m.key):=by
   apply oO
   split
   ·rename_i h7;exact af.lt_asymm h7
   ·exact af.lt_irrefl _
  omega
variable {i:Nat}
theorem arO(hr:rising P=true)(hT:m.aW∈T.map aD.aW)(hi:ae P m.key=i)(hf:i<fan):
  ((kY P i T m).elim 0 (Dd fan P))+1≤Dd fan P m:=by
 cases h:kY P i T m with
 |none=>exact arM aa
 |some m'=>
  show Dd fan P m'+1≤Dd fan P m
  have hiP:i≤P.length:=by rw [←hi];exact fy _ _
  unfold kY at h
  rw [if_pos hT]at h
  split at h
  ·rename_i h2
   cases h
   have h3:=h2.2
   unfold bw at h3⊢
   split at h3
   ·cases h3
   ·rename_i h4
    rw [if_neg h4]
    obtain⟨h5,h6⟩:=UW h2.1 h3
    have hk:(aA P (i:Int)).has m.key=true:=by rw [eR hr _ hiP,hi];simp
    have ho:(aA P (i:Int)).bQ=false:=by simpa using h4
    have ko:m.key.lt (aA P (i:Int)).hi=true:=by
     rcases (cO.1 hk).2 with h|h
     ·rw [ho]at h;cases h
     ·exact h
    unfold Dd
    rw [if_pos h2.1,if_pos h5,h6,if_pos ko]
    dsimp only
    have h7:ae P m.key≤ae P (aA P (i:Int)).hi:=oO (af.lt_asymm ko)
    have h8:ae P (aA P (i:Int)).hi≠i:=fun e=>by
     have h9:(aA P (i:Int)).has (aA P (i:Int)).hi=true:=by rw [eR hr _ hiP,e];simp
     rcases (cO.1 h9).2 with h|h
     ·rw [ho]at h;cases h
     ·rw [af.lt_irrefl]at h;cases h
    omega
  ·cases h
theorem ajA{w:aD→Nat}{f:aD→Option aD} :∀ {l:List aD},(∀m∈l,(f m).elim 0 w≤w m)→((l.filterMap f).map w).sum≤(l.map w).sum
 |[],_=>by simp
 |m::l,h=>by
  have ih:=ajA (w:=w) (f:=f) (l:=l) fun x hx=>h x (dk _ hx)
  have h1:=h m (by simp)
  rw [rS]
  cases hf:f m with
  |none=>simp only [cA,mH];omega
  |some x=>rw [hf]at h1;simp only [cA,mH];dsimp only [Option.elim]at h1;omega
theorem QH{w:aD→Nat}{f:aD→Option aD} :∀ {l:List aD} {a:aD},(∀m∈l,(f m).elim 0 w≤w m)→a∈l→(f a).elim 0 w+1≤w a→((l.filterMap f).map w).sum+1≤(l.map w).sum
 |[],_,_,ha,_=>by cases ha
 |m::l,a,h,ha,hl=>by
  have h1:=h m (by simp)
  rw [rS]
  rcases dK.1 ha with rfl|ha
  ·have ih:=ajA (w:=w) (f:=f) (l:=l) fun x hx=>h x (dk _ hx)
   cases hf:f a with
   |none=>rw [hf]at hl;simp only [cA,mH];dsimp only [Option.elim]at hl;omega
   |some x=>rw [hf]at hl;simp only [cA,mH];dsimp only [Option.elim]at hl;omega
  ·have ih:=QH (w:=w) (f:=f) (l:=l) (fun x hx=>h x (dk _ hx)) ha hl
   cases hf:f m with
   |none=>simp only [cA,mH];omega
   |some x=>rw [hf]at h1;simp only [cA,mH];dsimp only [Option.elim]at h1;omega
variable {b:Nd}
theorem sY.ajB{c:aX}{k:Nd}{f:Nat}{a:Nd}(h:sY c p k i a b T)(hr:rising p.ab=true)(hi:i<f):Ns f a.ab a.aj+1≤Ns f p.ab p.aj∧a.kids=p.kids:=by
 obtain⟨n,hn,hle,hT⟩:=h.take
 obtain⟨x0,hx⟩:∃x,x∈T:=⟨_,bN h.ne⟩
 have C3:x0∈aJ p.ab p.aj i:=by
  rw [hT]at hx
  exact gu hx
 obtain⟨m,hm,h2⟩:=wl.1 C3
 unfold uU at h2
 split at h2
 ·rename_i h3
  have e:(m.clip (aA p.ab i)).1=x0:=Hx h2
  have kq:m.aW∈T.map aD.aW:=by
   rw [←gM h3.2,e]
   exact kn hx
  have key:=QH (w:=Dd f p.ab) (f:=kY p.ab i T) (l:=p.aj) (a:=m) (fun x _=>by
   cases hf:kY p.ab i T x with
   |none=>exact kW _
   |some y=>exact arN hf) (A4 hm) (arO hr kq aa hi)
  rw [h.ea]
  unfold Ns
  dsimp only
  unfold dC
  exact⟨key,rfl⟩
 ·cases h2
theorem sY.abL{c:aX}{k:Nd}{a:Nd}(h:sY c p k i a b T)(hr:rising p.ab=true)(hi:i<c.fan.toNat):De c a+1≤De c p:=by
 obtain⟨h1,h2⟩:=h.ajB hr hi
 unfold De
 rw [h2];omega
variable {v:Int}
theorem QI{c:aX}{n:Nd}(hf:(n.kids.length:Int)<c.fan)(hi:i<n.kids.length):De c (gA n i k v)+1≤De c n:=by
 have h1:∀l:List aD,Ns c.fan.toNat ((n.ab.take i++[k])++n.ab.drop i) l≤Ns c.fan.toNat n.ab l:=by
  intro l
  induction l with
  |nil=>exact bZ _
  |cons m l ih=>
   have h2:Dd c.fan.toNat ((n.ab.take i++[k])++n.ab.drop i) m≤Dd c.fan.toNat n.ab m:=by
    unfold Dd
    rw [Qy]
    split
    ·omega
    ·exact bZ _
   simp only [Ns,cA,mH]at ih⊢
   omega
 have h3:=h1 n.aj
 have h4:((n.kids.take (i+1)++[v])++n.kids.drop (i+1)).length=n.kids.length+1:=by simp;omega
 unfold De gA
 dsimp only
 rw [h4]
 omega
theorem QJ{c:aX}{n n':Nd}(h0:¬n.level=0)(h1:n'.level=n.level)(h2:n'.kids.length=n.kids.length):dE c n'=dE c n:=by
 unfold dE
 rw [if_neg h0,if_neg (by rw [h1];exact h0),h2]
theorem sZ{c:aX}(t:Tree c l ss)(ha:0≤a∧a<l.length)(h0:¬(ai l a).level=0):De c (ai l a)≤8256:=by
 obtain⟨P,hP,e⟩:=t.qb ha
 rw [←e]at h0⊢
 exact XY t.kd (t.inner hP h0)
variable {P:aw} {x:Nd} {y:Nd}
theorem Mw{c:aX}(p:PourOf c l ss P i x y T)(s:Int):
  ai (dP l x y) s=if s=y.slot then y else if s=x.slot then x else ai l s:=by
 have hx:0≤x.slot∧x.slot<l.length:=by rw [p.al.1];exact p.sin p.mem
 have hy:0≤y.slot∧y.slot<l.length:=by rw [p.bl.1];exact p.sin p.km.1
 unfold dP
 rw [pg (by rw [cg];exact hy),pg hx]
theorem arP{c:aX}(p:PourOf c l ss P i x y T):ai (dP l x y) P.n.slot=x:=by
 rw [Mw p,p.bl.1,p.al.1,if_neg p.KV.symm,if_pos rfl]
variable {i:Int}
theorem QK{c:aX}(t:Tree c l ss)(s:uE c l ss a i P)(h:0<c9 c.leaf c.aT (ai l a) (aZ l a i) i):
  ∃x y,dP l (eC c.leaf c.aT (ai l a) (aZ l a i) i).1 (eC c.leaf c.aT (ai l a) (aZ l a i) i).2.1=dP l x y∧ai (dP l x y) a=x∧(dP l x y).length=l.length∧x.slot=(ai l a).slot∧x.level=(ai l a).level∧x.kids=(ai l a).kids∧De c x+1≤De c (ai l a)∧
   (∀q:Int,(ai (dP l x y) q).level=(ai l q).level∧(ai (dP l x y) q).kids=(ai l q).kids)∧∀f,i.toNat<f→Ns f x.ab x.aj+1≤Ns f (ai l a).ab (ai l a).aj:=by
 obtain⟨T,p⟩:=s.QF t h
 have hn:=s.n
 have hs:=s.slot
 have hf:i.toNat<c.fan.toNat:=by
  have h1:=s.hi
  have h2:=p.QL.1.2.2
  omega
 have hi:((i.toNat:Nat):Int)=i:=by have:=s.hi;omega
 have ko:=sY.abL p.po p.rt.1 hf
 have zR:=fun f h=>(sY.ajB (f:=f) p.po p.rt.1 h).1
 rw [hn]at ko zR
 refine⟨_,_,rfl,?_,p.len,?_,?_,?_,ko,fun q=> ?_,zR⟩
 ·have:=arP p
  rwa [hs]at this
 ·exact p.al.1.trans (by rw [hn])
 ·exact p.al.2.1.trans (by rw [hn])
 ·exact p.al.2.2.2.1.trans (by rw [hn])
 ·rw [Mw p]
  have hk:=(p.t.nd p.km.1).2.1
  have hp:=(p.t.nd p.mem).2.1
  split
  ·rename_i e
   rw [e,p.bl.1,←hk];exact⟨p.bl.2.1,p.bl.2.2.2.1⟩
  ·split
   ·rename_i e
    rw [e,p.al.1,←hp];exact⟨p.al.2.1,p.al.2.2.2.1⟩
   ·exact⟨rfl,rfl⟩
theorem EF{n:Nd}{i:Nat}(h:(jg n i k v).2=true):(jg n i k v).1=gA n i k v∧i<n.kids.length:=by
 unfold jg at h⊢
 split at h
 ·cases h
 ·rename_i h2
  rw [if_neg h2]
  by_cases h3:n.kids.length≤i∨(aA n.ab (i:Int)).has k=false∨k=(aA n.ab (i:Int)).lo
  ·exact absurd (.inr (XP h3)) h2
  ·have h4:¬n.kids.length≤i:=fun e=>h3 (.inl e)
   have h5:(aA n.ab (i:Int)).has k=true:=by
    cases h6:(aA n.ab (i:Int)).has k
    ·exact absurd (.inr (.inl h6)) h3
    ·rfl
   rw [IE h4 h5 (fun e=>h3 (.inr (.inr e)))]
   exact⟨rfl,aa⟩
theorem agf{c:aX}(h:(dx c l a i).1=0)(hl:(ai l a).slot=a):
  l.length≤(dx c l a i).2.length∧∃k v,ai (dx c l a i).2 a=gA (ai l a) i.toNat k v∧i.toNat<(ai l a).kids.length∧dE c (ai l a)=false:=by
 refine⟨Gk c l a i,?_⟩
 unfold dx at h⊢
 split at h
 ·cases h
 ·rename_i hi
  rw [if_neg hi]
  by_cases h1:0≤a∧a<l.length
  ·by_cases h2:(ai l a).kids.length≤i.toNat
   ·rw [sO (.inr (.inl h2))]at h;cases h
   ·by_cases h3:0≤fT l a i.toNat∧fT l a i.toNat<l.length
    ·cases h4:dE c (ai l a)
     ·by_cases h5:(fU l a i.toNat).2.2.2=true
      ·by_cases h6:(sN l a i.toNat).2=true
       ·by_cases h7:(l.length:Int)<c.bp
        ·rw [IK h1 h2 h3 h4 h5 h6 h7]
         obtain⟨e1,e2⟩:=EF (n:=ai l a) h6
         refine⟨(fU l a i.toNat).2.2.1,(l.length:Int),?_,e2,rfl⟩
         have nU:=abG h6
         unfold BZ
         dsimp only
         rw [xy]
         rw [if_neg (by simp only [cg];omega)]
         have hx:(sN l a i.toNat).1.slot=a:=nU.trans hl
         have:=pg (l:=l.set (fU l a i.toNat).1.slot.toNat (fU l a i.toNat).1) (x:=(sN l a i.toNat).1) (by rw [hx,cg];exact h1) a
         rw [hx,if_pos rfl]at this
         rw [this]
         exact e1
        ·rw [IJ h1 h2 h3 h4 h5 h6 h7]at h;cases h
       ·rw [zP h1 h2 h3 h4 (.inr (by simpa using h6))]at h;cases h
      ·rw [zP h1 h2 h3 h4 (.inl (by simpa using h5))]at h;cases h
     ·rw [QD h1 h2 h3 h4]at h;cases h
    ·rw [sO (.inr (.inr h3))]at h;cases h
  ·rw [sO (.inl h1)]at h;cases h
theorem My{c:aX}(h0:¬(ai l a).level=0)(h:(dx c l a i).1=0)(hl:(ai l a).slot=a):
  (ai (dx c l a i).2 a).slot=a∧(ai (dx c l a i).2 a).level=(ai l a).level∧De c (ai (dx c l a i).2 a)+1≤De c (ai l a):=by
 obtain⟨_,k,v,e,hi,hf⟩:=agf h hl
 rw [e]
 refine⟨hl,rfl,QI ?_ hi⟩
 unfold dE at hf
 rw [if_neg h0,lR]at hf
 omega
def aAt (c:aX) (l:List Nd) (a:Int):Prop:=¬(ai l a).slot=0∨(2≤(ai l a).level∧dE c (ai l a)=false∧∀j:Nat,j<(ai l a).kids.length→dE c (aZ l a j)=false)
theorem rp{c:aX}{n:Nd}(h:(bI c n k).1=1):¬n.level=0∧n.slot=0∧dE c n=true:=by
 unfold bI at h
 split at h
 ·cases h
 ·rename_i h0
  split at h
  ·rename_i h1;exact⟨h0,h1.1,h1.2⟩
  ·cases h
theorem uV{c:aX}(t:Tree c l ss)(s:uE c l ss a i P):¬(aZ l a i).slot=0∧(aZ l a i).level=(ai l a).level-1∧ai l (aZ l a i).slot=aZ l a i∧0≤(aZ l a i).slot∧(aZ l a i).slot<l.length:=by
 have hk:=t.at s.mem s.h0 (j:=i.toNat) (by have:=s.hi;omega)
 have Df:=hk.2.2.2
 rw [s.Iw,s.n]at Df
 refine⟨fun e=> ?_,Df,by rw [s.KV];rfl,by rw [s.KV];exact s.Nr.1,by rw [s.KV];exact s.Nr.2⟩
 have h1:=t.zN
 rw [t.fix,cA,nN]at h1
 refine h1.1 (cB.2 ⟨aq l P i.toNat,kl.2 ⟨P,s.mem,?_⟩,?_⟩)
 ·rw [(cL (t.kids s.mem) s.h0).1]
  exact cB.2 ⟨i.toNat,gN.2 (by have:=s.hi;omega),rfl⟩
 ·rw [s.Iw,e,t.pK,(cZ t.slot ⟨eI _,by have:=t.pos;omega⟩).1]
theorem amV{c:aX}{k:Nd}(h:cQ c p k i=3):(0<k.level∧dE c k=true)∨¬0<k.level:=by
 unfold cQ at h
 split at h
 ·rename_i h1;exact .inl h1
 ·split at h
  ·cases h
  ·split at h
   ·cases h
   ·rename_i h3;exact .inr h3
theorem KW{c:aX}{k:Nd}(h:cQ c p k i=5):0<k.level∧dE c k=false∧¬0<c9 c.leaf c.aT p k i:=by
 unfold cQ at h
 split at h
 ·split at h<;>cases h
 ·rename_i h1
  split at h
  ·cases h
  ·rename_i h2
   split at h
   ·rename_i h3
    refine⟨h3,?_,h2⟩
    cases h4:dE c k
    ·rfl
    ·exact absurd ⟨h3,h4⟩ h1
   ·split at h
    ·split at h<;>cases h
    ·cases h
theorem UX{c:aX} :∀(m:Nat) {l:List Nd} {ss:List aw} {a n:Int},Tree c l ss→0≤a∧a<l.length→aAt c l a→(ai l a).level.toNat*8300+De c (ai l a)≤m→∃r,n7 c k (m+1) l a n=some r:=by
 intro m
 induction m using Nat.strongRecOn with
 |_ m ih=>
  intro l ss a n t ha hp hm
  rcases fj c (ai l a) k with h|h|⟨h,h0,_⟩
  ·exact⟨_,jk (by rw [nZ h])⟩
  ·obtain⟨_,h2,h3⟩:=rp h
   rcases hp with hp|⟨_,hp,_⟩
   ·exact absurd h2 hp
   ·rw [hp]at h3;cases h3
  ·obtain⟨_,tw,jY⟩:=kK t ha h
   obtain⟨P,s⟩:=nm t ha h0 ⟨tw,jY⟩
   have kq:=n6 h
   have nU:=(cZ t.slot ha).1
   obtain⟨T,hT,_⟩:=lL t ha k
   have mA:=m6 t ha k
   have Df:0<(ai l a).level:=by have:=s.XX.1;exact this
   rcases eT c (ai l a) (aZ l a (bI c (ai l a) k).2) (bI c (ai l a) k).2 with hd|hd|⟨hd,KX⟩|hd
   ·exact⟨_,jk (by rw [kq,uh hd])⟩
   ·by_cases h3:(dx c l a (bI c (ai l a) k).2).1=0
    ·have e:=kq.trans (sS hd h3)
     obtain⟨g1,g2,g3⟩:=My h0 h3 nU
     rw [ke (by rw [e];simp) (by rw [e];simp)]
     rw [e]at hT mA⊢
     dsimp only at hT mA⊢
     obtain⟨m2,rfl⟩:∃m2,m=m2+1:=⟨m-1,aa⟩
     refine ih m2 aa hT mA ?_ (by rw [g2];omega)
     rcases hp with hp|⟨q1,q2,q3⟩
     ·left;rw [g1];rw [nU]at hp;exact hp
     ·exfalso
      have hk:=uV t s
      have hf:=q3 (bI c (ai l a) k).2.toNat aa
      rw [show(((bI c (ai l a) k).2.toNat:Nat):Int)=(bI c (ai l a) k).2 by omega]at hf
      rcases amV hd with⟨_,h5⟩|h5
      ·rw [hf]at h5;cases h5
      ·omega
    ·exact⟨_,jk (by rw [kq,sU hd h3])⟩
   ·have e:=kq.trans (j4 hd)
    obtain⟨x,y,e2,g1,g2,g3,g4,g5,g6,g7,_⟩:=QK t s KX
    rw [e2]at e
    rw [ke (by rw [e];simp) (by rw [e];simp)]
    rw [e]at hT mA⊢
    dsimp only at hT mA⊢
    obtain⟨m2,rfl⟩:∃m2,m=m2+1:=⟨m-1,aa⟩
    refine ih m2 aa hT mA ?_ (by rw [g1,g4];omega)
    rcases hp with hp|⟨q1,q2,q3⟩
    ·left;rw [g1,g3];exact hp
    ·right
     rw [g1]
     refine⟨by rw [g4];exact q1,(QJ h0 g4 (by rw [g5])).trans q2,fun j hj=> ?_⟩
     rw [g5]at hj
     have ek:aZ (dP l x y) a j=ai (dP l x y) ((ai l a).kids.getD j 0):=by
      unfold aZ
      rw [g1,g5,qG]
     have ek2:aZ l a j=ai l ((ai l a).kids.getD j 0):=by unfold aZ;rw [qG]
     have h7:=g7 ((ai l a).kids.getD j 0)
     obtain⟨P2,s2⟩:=nm t ha h0 (i:=(j:Int)) ⟨aa,aa⟩
     have zA:=(uV t s2).2.1
     rw [ek,QJ (n:=aZ l a j) (by rw [zA];omega) (by rw [ek2];exact h7.1) (by rw [ek2,h7.2])]
     exact q3 j hj
   ·have e:=kq.trans (sW hd)
    obtain⟨k1,k2,k3,k4⟩:=uV t s
    have h5:=KW hd
    rw [mc (by rw [e])]
    rw [e]at hT mA⊢
    dsimp only at hT mA⊢
    obtain⟨m2,rfl⟩:∃m2,m=m2+1:=⟨m-1,aa⟩
    have hw:=sZ t (a:=(aZ l a (bI c (ai l a) k).2).slot) k4 (by rw [k3];omega)
    refine ih m2 aa t k4 (.inl (by rw [k3];exact k1)) ?_
    rw [k3]at hw⊢
    omega
theorem amW{c:aX}(t:Tree c l ss)(h0:¬(ai l 0).level=0)(h:(dJ c l).1=0):aAt c (dJ c l).2 0∧(ai (dJ c l).2 0).level=(ai l 0).level+1:=by
 have hp:=t.pos
 obtain⟨P,hP,eP⟩:=t.qb (a:=0) ⟨eI _,aa⟩
 have gH:=t.inner hP (by rw [eP];exact h0)
 rw [eP]at gH
 have Df:=t.lvl hP
 rw [eP]at Df
 by_cases hk:(eS (ai l 0) l.length ((l.length:Int)+1)).2.2.2=true
 ·by_cases hr:c.bp.toNat-l.length<2
  ·rw [xz hk hr]at h;cases h
  ·rw [zO hk hr]
   have hc:(aS (ai l 0) ((l.length:Int)+1)).2.2.2=true:=by rw [←oP _ (l.length:Int)];exact hk
   obtain⟨x,y,q,hh,e,hv,_⟩:=sM (t.gz hP).1 (y:=(l.length:Int)+1) (by rw [eP];exact hc)
   rw [eP]at e hv
   rw [sL hc,e]
   obtain⟨_,_,hh2,_,ka,_,kb,_⟩:True∧True∧hh<(ai l 0).ab.length∧True∧x.kids=(ai l 0).kids.take (hh+1)∧True∧y.kids=(ai l 0).kids.drop (hh+1)∧True:=by
    obtain⟨_,_,g1,_,_,g2,_,g3⟩:=hv.inner h0
    exact⟨trivial,trivial,g1,trivial,g2,trivial,g3,trivial⟩
   have Gg:=(dp gH.2.1).2
   have aQh:=gH.1.2.2
   obtain⟨⟨f1,f2⟩,_⟩:=t.kd
   have e0:ai (jJ l (sJ (ai l 0) q l.length ((l.length:Int)+1)) (fW (ai l 0) x l.length) (fW (ai l 0) y y.slot)) 0=sJ (ai l 0) q l.length ((l.length:Int)+1):=by
    have:=su (l:=jJ l (sJ (ai l 0) q l.length ((l.length:Int)+1)) (fW (ai l 0) x l.length) (fW (ai l 0) y y.slot)) (k:=0) (by unfold jJ;simp)
    refine Eq.trans this ?_
    unfold jJ
    rw [yo (by simp;exact hp),WY]
   have ek:∀(j:Nat) (z:Nd),(jJ l (sJ (ai l 0) q l.length ((l.length:Int)+1)) (fW (ai l 0) x l.length) (fW (ai l 0) y y.slot))[l.length+j]?=some z→ai (jJ l (sJ (ai l 0) q l.length ((l.length:Int)+1)) (fW (ai l 0) x l.length) (fW (ai l 0) y y.slot)) ((l.length:Int)+j)=z:=fun j z hz=>by
    obtain⟨g1,g2⟩:=vz.1 hz
    have:=su g1
    rw [show(((l.length+j:Nat)):Int)=(l.length:Int)+j by omega]at this
    rw [this];exact g2
   have ex:ai (jJ l (sJ (ai l 0) q l.length ((l.length:Int)+1)) (fW (ai l 0) x l.length) (fW (ai l 0) y y.slot)) (l.length:Int)=fW (ai l 0) x l.length:=by
    have:=ek 0 (fW (ai l 0) x l.length) (by unfold jJ;rw [rV (by simp)];simp)
    simpa using this
   have ey:ai (jJ l (sJ (ai l 0) q l.length ((l.length:Int)+1)) (fW (ai l 0) x l.length) (fW (ai l 0) y y.slot)) ((l.length:Int)+1)=fW (ai l 0) y y.slot:=by
    have:=ek 1 (fW (ai l 0) y y.slot) (by unfold jJ;rw [rV (by simp)];simp)
    simpa using this
   refine⟨.inr ?_,by rw [e0];rfl⟩
   dsimp only
   rw [e0]
   refine⟨by show 2≤(ai l 0).level+1;omega,?_,fun j hj=> ?_⟩
   ·unfold dE
    rw [if_neg (by show ¬(ai l 0).level+1=0;omega),lR]
    show ¬c.fan≤((2:Nat):Int)
    omega
   ·have hj2:j<2:=hj
    unfold aZ
    rw [e0]
    have hlx:x.level=(ai l 0).level:=hv.la
    have hly:y.level=(ai l 0).level:=hv.lb
    have hkx:x.kids.length=hh+1:=by rw [ka,bV];omega
    have hky:y.kids.length=(ai l 0).kids.length-(hh+1):=by rw [kb,cv]
    rcases (by omega:j=0∨j=1)with rfl|rfl
    ·show dE c (ai _ (l.length:Int))=false
     rw [ex]
     unfold dE fW
     dsimp only
     rw [if_neg (by rw [hlx];exact h0),lR]
     omega
    ·show dE c (ai _ ((l.length:Int)+1))=false
     rw [ey]
     unfold dE fW
     dsimp only
     rw [if_neg (by rw [hly];exact h0),lR]
     omega
 ·rw [II (by simpa using hk)]at h;cases h
theorem amX{c:aX}(v:Nat):∀(w:Nat) {l:List Nd} {ss:List aw} {n:Int},Tree c l ss→(ai l 0).level.toNat=v→De c (ai l 0)≤w→8256≤w+8256→∃r,n7 c k ((v+2)*8300+w+1) l 0 n=some r:=by
 intro w
 induction w using Nat.strongRecOn with
 |_ w ih=>
  intro l ss n t hv hw hx
  have ha:(0:Int)≤0∧(0:Int)<l.length:=⟨eI _,by have:=t.pos;omega⟩
  obtain⟨T,hT,_⟩:=lL t ha k
  have mA:=m6 t ha k
  have nU:=(cZ t.slot ha).1
  rcases fj c (ai l 0) k with h|h|⟨h,h0,_⟩
  ·exact⟨_,jk (by rw [nZ h])⟩
  ·obtain⟨h0,h2,h3⟩:=rp h
   by_cases hl:(dJ c l).1=0
   ·have e:=ph h hl
    rw [ke (by rw [e];simp) (by rw [e];simp)]
    rw [e]at hT mA⊢
    dsimp only at hT mA⊢
    obtain⟨g1,g2⟩:=amW t h0 hl
    have Df:0≤(ai l 0).level:=by
     obtain⟨P,hP,eP⟩:=t.qb ha
     rw [←eP];exact t.lvl hP
    have Nt:=sZ hT (a:=0) mA (by rw [g2];omega)
    have:=UX (k:=k) ((v+2)*8300+w-1) (n:=n+1) hT mA g1 (by rw [g2];omega)
    rwa [show(v+2)*8300+w-1+1=(v+2)*8300+w by omega]at this
   ·exact⟨_,jk (by rw [pi h hl])⟩
  ·obtain⟨_,tw,jY⟩:=kK t ha h
   obtain⟨P,s⟩:=nm t ha h0 ⟨tw,jY⟩
   have kq:=n6 h
   have Df:0<(ai l 0).level:=by have:=s.XX.1;exact this
   rcases eT c (ai l 0) (aZ l 0 (bI c (ai l 0) k).2) (bI c (ai l 0) k).2 with hd|hd|⟨hd,KX⟩|hd
   ·exact⟨_,jk (by rw [kq,uh hd])⟩
   ·by_cases h3:(dx c l 0 (bI c (ai l 0) k).2).1=0
    ·have e:=kq.trans (sS hd h3)
     obtain⟨g1,g2,g3⟩:=My h0 h3 nU
     rw [ke (by rw [e];simp) (by rw [e];simp)]
     rw [e]at hT mA⊢
     dsimp only at hT mA⊢
     have:=ih (w-1) aa (n:=n+1) hT (by rw [g2];exact hv) aa aa
     rwa [show(v+2)*8300+(w-1)+1=(v+2)*8300+w by omega]at this
    ·exact⟨_,jk (by rw [kq,sU hd h3])⟩
   ·have e:=kq.trans (j4 hd)
    obtain⟨x,y,e2,g1,g2,g3,g4,g5,g6,g7,_⟩:=QK t s KX
    rw [e2]at e
    rw [ke (by rw [e];simp) (by rw [e];simp)]
    rw [e]at hT mA⊢
    dsimp only at hT mA⊢
    have:=ih (w-1) aa (n:=n+1) hT (by rw [g1,g4];exact hv) (by rw [g1];omega) aa
    rwa [show(v+2)*8300+(w-1)+1=(v+2)*8300+w by omega]at this
   ·have e:=kq.trans (sW hd)
    obtain⟨k1,k2,k3,k4⟩:=uV t s
    have h5:=KW hd
    rw [mc (by rw [e])]
    rw [e]at hT mA⊢
    dsimp only at hT mA⊢
    have hw:=sZ t (a:=(aZ l 0 (bI c (ai l 0) k).2).slot) k4 (by rw [k3];omega)
    have:=UX (k:=k) ((v+2)*8300+w-1) (n:=n) t k4 (.inl (by rw [k3];exact k1)) (by rw [k3]at hw⊢;omega)
    rwa [show(v+2)*8300+w-1+1=(v+2)*8300+w by omega]at this
theorem wV{c:aX}{k:af} :∀(m:Nat) {l:List Nd} {a n:Int} {r:Int×Int×List Nd},n7 c k m l a n=some r→n≤r.1
 |0,_,_,_,_,h=>by cases h
 |m+1,l,a,n,r,h=>by
  by_cases h0:(cU c l a k).1.1=0
  ·rw [jk h0]at h;cases h;exact eI _
  ·by_cases h5:(cU c l a k).1.1=5
   ·rw [mc h5]at h;exact wV m h
   ·rw [ke h0 h5]at h
    have:=wV m h
    omega
theorem abM{P:List af}{l:List aD}(hr:rising P=true)(hR:∀m∈l,m.R)(h:0<l.length):0<(aJ P l (jj P l).1).length:=by
 have h1:=amQ (P:=P) h
 rw [KS h]
 have h2:∃m∈aM l,ae P m.key=iy (oQ P (aM l)) (P.length+1):=by
  apply rJ
  intro hn
  have:(aM l).filter (fun m=>decide (ae P m.key=iy (oQ P (aM l)) (P.length+1)))=[]:=by
   rw [rG]
   intro m hm h3
   exact hn ⟨m,hm,jW h3⟩
  unfold oQ at h1 this
  rw [this]at h1
  simp [bX]at h1
 obtain⟨m,hm,e⟩:=h2
 have uW:=hR m (A4 hm)
 have hb:iy (oQ P (aM l)) (P.length+1)≤P.length:=by rw [←e];exact fy _ _
 have qc:(m.clip (aA P ((iy (oQ P (aM l)) (P.length+1):Nat):Int))).2=true:=by
  have ig:¬(m.span.bH (aA P ((iy (oQ P (aM l)) (P.length+1):Nat):Int))).empty=true:=fun h=>by
   have:=dv.1 h m.key
   rw [bL,aD.C0 uW,eR hr _ hb,e]at this
   simp at this
  unfold aD.clip
  rw [if_neg ig]
  split<;>rfl
 dsimp only
 refine List.length_pos_of_mem (a:=(m.clip (aA P ((iy (oQ P (aM l)) (P.length+1):Nat):Int))).1) (wl.2 ⟨m,hm,?_⟩)
 unfold uU
 rw [if_pos ⟨aa,qc⟩]
theorem agh{c:aX}{k:Nd}(hp:dE c p=false)(hf:0<(aJ p.ab p.aj i).length):¬cQ c p k i=0:=by
 unfold cQ
 split
 ·rw [if_neg (by rw [hp];simp)];simp
 ·split
  ·simp
  ·split
   ·simp
   ·first
    |(rw [if_pos hf,if_neg (by rw [hp];simp)];simp;done)
    |(rw [if_neg (by rw [hp];simp)];simp)
theorem QM{c:aX}{k:Nd}(h:cQ c p k i=3):(0<k.level∧dE c k=true)∨(¬0<k.level∧¬0<c9 c.leaf c.aT p k i):=by
 unfold cQ at h
 split at h
 ·rename_i h1;exact .inl h1
 ·split at h
  ·cases h
  ·rename_i h2
   split at h
   ·cases h
   ·rename_i h3;exact .inr ⟨h3,h2⟩
theorem size_le(h:m.R):m.size≤36:=by
 have:=fg h
 unfold aD.size
 split<;>omega
theorem KY{c:aX}{k:Nd}(hc:lY c)(hk:ku p k i)(hR:∀m∈aJ p.ab p.aj i,m.R)(hf:0<(aJ p.ab p.aj i).length)(h:¬0<c9 c.leaf c.aT p k i):
  (k.level=0→2≤k.rows.length)∧(¬k.level=0→0<k.aj.length):=by
 obtain⟨_,⟨l1,l2⟩,⟨b1,b2⟩,_⟩:=hc
 rw [xA hk]at h
 obtain⟨m,L,e⟩:∃m L,aJ p.ab p.aj i=m::L:=by
  cases hh:aJ p.ab p.aj i with
  |nil=>rw [hh]at hf;cases hf
  |cons m L=>exact⟨m,L,rfl⟩
 have uW:=hR m (by rw [e];simp)
 rw [e]at h
 refine⟨fun h0=> ?_,fun h0=> ?_⟩
 ·rw [QN h0]at h
  dsimp only at h
  unfold ed at h
  split at h
  ·dsimp only at h;omega
  ·rename_i h2
   rw [Ew uW]at h2
   unfold wU at h2
   simp only [kU,fJ,not_or]at h2
   omega
 ·rw [QO h0 rfl]at h
  dsimp only at h
  unfold mf at h
  split at h
  ·omega
  ·rename_i h2
   apply rJ
   intro h3
   have h4:k.aj=[]:=kj aa
   apply h2
   rw [h4]
   have:=size_le uW
   simp [fX,bX]
   omega
variable {y:Int}
theorem IM{n:Nd}(h0:n.level=0)(h:2≤n.rows.length):(aS n y).2.2.2=true:=by
 rw [jv,mO h0]
 dsimp only
 rw [sg aa]
theorem yW{n:Nd}(h0:¬n.level=0)(hr:fA n.ab n.kids.length=true)(h:4≤n.kids.length):(aS n y).2.2.2=true:=by
 rw [jv,mQ h0 hr]
 dsimp only
 have:=(dp hr).2
 rw [Kz aa]
theorem arQ{n:Nd}{i:Nat}(h0:¬n.level=0)(hi:i<n.kids.length)(hk:(aA n.ab (i:Int)).has k=true)(hl:¬k=(aA n.ab (i:Int)).lo):(jg n i k v).2=true:=by
 rw [KQ h0]
 rw [IE aa hk hl]
 simp
theorem UY{c:aX}(t:Tree c l ss)(ha:0≤a∧a<l.length)(s:uE c l ss a i P)(hf:dE c (ai l a)=false)
  (h:(0<(aZ l a i).level∧dE c (aZ l a i)=true)∨((aZ l a i).level=0∧2≤(aZ l a i).rows.length)):(dx c l a i).1=0∨(dx c l a i).1=4:=by
 have hi:=s.hi
 have gH:i.toNat<P.n.kids.length:=aa
 have hat:=t.at s.mem s.h0 gH
 have hkR:=t.gz hat.1
 have ec:(aS (aZ l a i) l.length).2.2.2=true:=by
  rcases h with⟨h1,h2⟩|⟨h1,h2⟩
  ·have h3:¬(aZ l a i).level=0:=aa
   have h4:=t.inner hat.1 (by rw [s.Iw];exact h3)
   rw [s.Iw]at h4
   refine yW h3 h4.2.1 ?_
   unfold dE at h2
   rw [if_neg h3]at h2
   have:=jW h2
   obtain⟨⟨f1,_⟩,_⟩:=t.kd
   omega
  ·exact IM h1 h2
 unfold dx
 rw [if_neg aa]
 have h3:0≤fT l a i.toNat∧fT l a i.toNat<l.length:=s.Nr
 have e5:(fU l a i.toNat).2.2.2=true:=ec
 have e6:(sN l a i.toNat).2=true:=by
  obtain⟨x,y,q,hh,e,hv,_,_,_,_,_,_,hq⟩:=sM hkR.1 (y:=(l.length:Int)) (by rw [s.Iw];exact ec)
  obtain⟨g1,g2⟩:=t.ajC hat.1 hv hq
  have ni:(aq l P i.toNat).s=P.s.bH (aA P.n.ab ((i.toNat:Nat):Int)):=rfl
  rw [ni,bL,cm]at g1
  have eq:(fU l a i.toNat).2.2.1=q:=by
   show(aS (aZ l a i) l.length).2.2.1=q
   rw [←s.Iw,e]
  show(jg (ai l a) i.toNat (fU l a i.toNat).2.2.1 l.length).2=true
  rw [eq,←s.n]
  refine arQ s.h0 gH g1.2 (fun e7=>g2 ?_)
  rw [ni]
  have h8:¬(P.s.bH (aA P.n.ab ((i.toNat:Nat):Int))).empty=true:=fun h=>by
   have:=dv.1 h q
   rw [bL,g1.1,g1.2]at this
   cases this
  unfold Span.bH at h8⊢
  rw [abK h8]
  dsimp only
  split
  ·exact e7
  ·rename_i h9
   have ir:=(cO.1 g1.1).1
   rw [e7]at ir
   rw [e7]
   cases ov:P.s.lo.lt (aA P.n.ab ((i.toNat:Nat):Int)).lo
   ·exact(af.iw ir ov)
   ·exact absurd ov h9
 by_cases h7:(l.length:Int)<c.bp
 ·rw [IK ha (by rw [←s.n];omega) h3 hf e5 e6 h7];exact .inl rfl
 ·rw [IJ ha (by rw [←s.n];omega) h3 hf e5 e6 h7];exact .inr rfl
theorem prog{c:aX}{k:af} :∀(m:Nat) {l:List Nd} {ss:List aw} {a n:Int} {r:Int×Int×List Nd},Tree c l ss→0≤a∧a<l.length→¬(ai l a).level=0→0<(ai l a).aj.length→dE c (ai l a)=false→n7 c k m l a n=some r→n<r.1∨r.2.1=4
 |0,_,_,_,_,_,_,_,_,_,_,h=>by cases h
 |m+1,l,ss,a,n,r,t,ha,h0,hm,hf,h=>by
  obtain⟨Q,hQ,eQ⟩:=t.qb ha
  have gH:=t.inner hQ (by rw [eQ];exact h0)
  rw [eQ]at gH
  have uW:∀m∈(ai l a).aj,m.R:=(fq.iff.1 gH.2.2.1).1
  have hri:=(dp gH.2.1).1
  have Mz:=abM hri uW hm
  have hc:=KT (k:=k) h0 (fun e=>by rw [hf]at e;cases e.2) (show(jj (ai l a).ab (ai l a).aj).2=true by rw [KS hm])
  have Fb:(bI c (ai l a) k).1=2:=by rw [hc]
  have Im:(bI c (ai l a) k).2=(jj (ai l a).ab (ai l a).aj).1:=by rw [hc]
  obtain⟨_,tw,jY⟩:=kK t ha Fb
  obtain⟨P,s⟩:=nm t ha h0 ⟨tw,jY⟩
  have kq:=n6 Fb
  rw [←Im]at Mz
  generalize (bI c (ai l a) k).2=i at*
  have XZ:∀m∈aJ (ai l a).ab (ai l a).aj i,m.R:=QP (fun q hq=>by
   obtain⟨j,hj,rfl⟩:=cj hq
   exact(gH.2.2.2.2.2.1 j hj).2.1) uW
  obtain⟨k1,k2,k3,k4⟩:=uV t s
  have o9:0≤(aZ l a i).level:=by have:=s.XX.1;omega
  rcases eT c (ai l a) (aZ l a i) i with hd|hd|⟨hd,_⟩|hd
  ·exact absurd hd (agh hf Mz)
  ·have hpe:(dx c l a i).1=0∨(dx c l a i).1=4:=by
    refine UY t ha s hf ?_
    rcases QM hd with h|⟨h1,h2⟩
    ·exact .inl h
    ·have h3:(aZ l a i).level=0:=aa
     exact .inr ⟨h3,(KY t.kd s.XX XZ Mz h2).1 h3⟩
   rcases hpe with h3|h3
   ·have e:=kq.trans (sS hd h3)
    rw [ke (by rw [e];simp) (by rw [e];simp)]at h
    have:=wV m h
    exact .inl aa
   ·have e:=kq.trans (sU hd aa)
    rw [jk (by rw [e])]at h
    cases h
    exact .inr (by rw [e];exact h3)
  ·have e:=kq.trans (j4 hd)
   rw [ke (by rw [e];simp) (by rw [e];simp)]at h
   have:=wV m h
   exact .inl aa
  ·have e:=kq.trans (sW hd)
   obtain⟨d1,d2,d3⟩:=KW hd
   rw [mc (by rw [e])]at h
   rw [e]at h
   dsimp only at h
   exact prog m t k4 (by rw [k3];omega) (by rw [k3];exact(KY t.kd s.XX XZ Mz d3).2 aa) (by rw [k3];exact d2) h
theorem agi{c:aX}{m:Nat}{r:Int×Int×List Nd}(t:Tree c l ss)(hm:0<(ai l 0).aj.length)(h:n7 c k m l 0 0=some r):0<r.1∨r.2.1=4:=by
 have ha:(0:Int)≤0∧(0:Int)<l.length:=⟨eI _,by have:=t.pos;omega⟩
 obtain⟨Q,hQ,eQ⟩:=t.qb ha
 have h0:¬(ai l 0).level=0:=fun e=>by
  have:=t.sE hQ (by rw [eQ];exact e)
  rw [eQ]at this
  rw [this]at hm
  cases hm
 cases hf:dE c (ai l 0)
 ·exact prog m t ha h0 hm hf h
 ·obtain⟨m2,rfl⟩:∃m2,m=m2+1:=by
   cases m with
   |zero=>cases h
   |succ m2=>exact⟨m2,rfl⟩
  have nU:=(cZ t.slot ha).1
  have Fb:(bI c (ai l 0) k).1=1:=by rw [UR h0 nU hf]
  have gH:=t.inner hQ (by rw [eQ];exact h0)
  rw [eQ]at gH
  have IN:4≤(ai l 0).kids.length:=by
   unfold dE at hf
   rw [if_neg h0]at hf
   have:=jW hf
   obtain⟨⟨f1,_⟩,_⟩:=t.kd
   omega
  have vK:(eS (ai l 0) 0 0).2.2.2=true:=by rw [oP];exact yW h0 gH.2.1 IN
  by_cases hr:c.bp.toNat-l.length<2
  ·have e:=pi Fb (show ¬(dJ c l).1=0 by rw [xz vK hr];simp)
   rw [jk (by rw [e])]at h
   cases h
   exact .inr (by rw [e,xz vK hr])
  ·have e:=ph Fb (show(dJ c l).1=0 by rw [zO vK hr])
   rw [ke (by rw [e];simp) (by rw [e];simp)]at h
   have:=wV m2 h
   exact .inl aa
section
variable {c:aX} {l:List Nd} {ss:List aw}
def jw (ms:List aD):Nat:=(ms.filter fun m=>decide (m.kind=1∨m.kind=2)).length
def kS (c:aX) (n:Nd):Nat:=if n.level=0 then 1+(n.rows.length-(c.leaf.toNat+1) / 2)else jw n.aj
def uX (c:aX) (l:List Nd):Nat:=(l.map (kS c)).sum
theorem wH{n:Nd}(h:n.level=0):kS c n=1+(n.rows.length-(c.leaf.toNat+1) / 2):=if_pos h
theorem od{n:Nd}(h:¬n.level=0):kS c n=jw n.aj:=if_neg h
end
section
theorem kA(m:aD)(ms:List aD):jw (m::ms)=(if m.kind=1∨m.kind=2 then 1 else 0)+jw ms:=by
 unfold jw
 rw [lF]
 by_cases h:m.kind=1∨m.kind=2
 ·rw [if_pos (dB h),if_pos h,jo];omega
 ·rw [if_neg (by simpa using h),if_neg h];omega
theorem qT(A B:List aD):jw (A++B)=jw A+jw B:=by unfold jw;rw [gv,bP]
theorem Gl:jw []=0:=rfl
theorem Gm(m:aD)(s:Span)(h:(m.clip s).2=true):(m.clip s).1.kind=m.kind:=by
 unfold aD.clip at h⊢
 split at h
 ·cases h
 ·rename_i h1
  rw [if_neg h1]
  split<;>rfl
theorem UZ{m:aD}(hR:m.R)(hk:m.kind=1∨m.kind=2)(s:Span)(h:(m.clip s).2=true):s.has m.key=true:=by
 cases hs:s.has m.key
 ·exfalso
  have he:(m.span.bH s).empty=true:=dv.2 fun q=>by
   rw [bL]
   cases hq:m.span.has q
   ·rfl
   ·have lW:m.span=⟨m.key,m.key.next,false⟩:=by unfold aD.span;rw [if_neg aa]
    rw [lW,mW (by have:=(fg hR).1;omega)]at hq
    have e:q=m.key:=jW hq
    rw [e,hs];rfl
  unfold aD.clip at h
  rw [if_pos he]at h
  cases h
 ·rfl
theorem IP(s:Span)(m:aD)(ms:List aD):aB s (m::ms)=(if(m.clip s).2=true then [(m.clip s).1]else [])++aB s ms:=by
 unfold aB
 rw [rS]
 split<;>simp_all
theorem U0{s u:Span}(h:∀q,s.has q=true→u.has q=false):∀ {ms:List aD},(∀m∈ms,m.R)→jw (aB s ms)+jw (aB u ms)≤jw ms
 |[],_=>bZ _
 |m::ms,hR=>by
  have ih:=U0 h (ms:=ms) fun x hx=>hR x (dk _ hx)
  have hm:=hR m (by simp)
  rw [IP,IP,kA,qT,qT]
  have one:∀v:Span,jw (if(m.clip v).2=true then [(m.clip v).1]else [])=if(m.clip v).2=true∧(m.kind=1∨m.kind=2)then 1 else 0:=fun v=>by
   cases hc:(m.clip v).2
   ·rfl
   ·rw [if_pos rfl,kA,Gm m v hc,Gl]
    by_cases hk:m.kind=1∨m.kind=2
    ·rw [if_pos hk,if_pos ⟨rfl,hk⟩]
    ·rw [if_neg hk,if_neg (fun h=>hk h.2)]
  rw [one,one]
  by_cases hk:m.kind=1∨m.kind=2
  ·rw [if_pos hk]
   by_cases h1:(m.clip s).2=true
   ·have h2:=h _ (UZ hm hk s h1)
    have h3:¬(m.clip u).2=true:=fun h4=>by rw [UZ hm hk u h4]at h2;cases h2
    rw [if_pos ⟨h1,hk⟩,if_neg (fun h=>h3 h.1)];omega
   ·rw [if_neg (fun h=>h1 h.1)]
    split<;>omega
  ·rw [if_neg hk,if_neg (fun h=>hk h.2),if_neg (fun h=>hk h.2)];omega
end
end Go.Fw

set_option maxHeartbeats 1000000
namespace Go.Fw
open Go Go.RowKit
theorem s8{f:Nd→Nat} :∀ {l:List Nd} {i:Nat} (h:i<l.length) (x:Nd),((l.set i x).map f).sum+f l[i]=(l.map f).sum+f x
 |n::l,0,_,x=>by simp only [NM,cA,mH,WO];omega
 |n::l,i+1,h,x=>by
  have:=s8 (f:=f) (l:=l) (i:=i) (by simpa using h) x
  simp only [List.set_cons_succ,cA,mH,NI]
  omega
variable {m:aD}
theorem QQ{rows:List aG}{n:Int}(hp:bc rows)(hm:m.R)(h:eD rows m n=true)(hl:(rows.length:Int)≤n):((takeN rows m).length:Int)≤n:=by
 have h1:=F9 n [m] rows hp (fun x hx=>by simp at hx;subst hx;exact hm)
 have h2:(ed n rows [m]).1=takeN rows m:=by
  show(if eD rows m n=true then((ed n (takeN rows m) []).1,(ed n (takeN rows m) []).2+1)else(rows,0)).1=_
  rw [if_pos h]
  cases htk:takeN rows m<;>rfl
 rw [h2]at h1
 omega
def arR (m:aD):Nat:=if m.kind=1∨m.kind=2 then 1 else 0
theorem agj{rows:List aG}(hp:bc rows)(hm:m.R):(takeN rows m).length≤rows.length+arR m:=by
 unfold arR
 by_cases hk:m.kind=1∨m.kind=2
 ·rw [if_pos hk];exact hp.wR m
 ·rw [if_neg hk]
  have h3:3≤m.kind:=by
   have h:=hm.2
   split at h
   ·omega
   ·rcases h.2.2 with h|h|h<;>omega
  have:=QQ (n:=rows.length) hp hm (by rw [Ew hm];unfold wU;simp [h3]) (eI _)
  omega
theorem QR:∀ {T:List aD} {rows:List aG},bc rows→(∀m∈T,m.R)→(cq rows T).length≤rows.length+jw T
 |[],_,_,_=>bZ _
 |m::T,rows,hp,hT=>by
  have hm:=hT m (by simp)
  have h1:=agj hp hm
  have h2:=QR (T:=T) (hp.KA hm.1.2.1 hm.1.2.2.1) fun x hx=>hT x (dk _ hx)
  rw [kA]
  unfold arR at h1
  show(cq (takeN rows m) T).length≤_
  omega
theorem QS(h:m.kind=4):jw [m]=0:=by rw [kA,if_neg aa];rfl
theorem IQ(p:aD→Bool):∀(L:List aD),jw (L.filter p)+jw (L.filter fun m=> !p m)=jw L
 |[]=>rfl
 |m::L=>by
  have ih:=IQ p L
  cases h:p m
  ·rw [nM (by simp [h]),oz (by simp [h]),kA,kA];omega
  ·rw [oz h,nM (by simp [h]),kA,kA];omega
theorem abN{P:List af}{i:Nat}{l T:List aD}(h:A5 P i l T):jw (dC P i T l)+jw T≤jw l:=by
 cases h with
 |none hT=>rw [hT,KZ,Gl];exact bZ _
 |ajD w R hl hk hr hc hT hA=>
  rw [hA,hT,hl,qT,kA w R,QS ((Gm w _ hc).trans hk)]
  have:jw (if(bw w (aA P (i:Int))).2=true then [(bw w (aA P (i:Int))).1]else [])=0:=by
   split
   ·rename_i h
    unfold bw at h⊢
    split at h
    ·cases h
    ·rename_i h2
     rw [if_neg h2]
     exact QS ((Gm w _ h).trans hk)
   ·rfl
  omega
 |points F R hl hF hT hA=>
  rw [hA,hT,hl,qT,qT]
  have:=IQ (fun m=>decide (ae P m.key=i)) F
  omega
section
variable {c:aX} {l:List Nd} {ss:List aw}
variable {a:Int} {i:Int}
theorem amY(t:Tree c l ss){P:aw}(s:uE c l ss a i P)(h4:0<c9 c.leaf c.aT (ai l a) (aZ l a i) i):
  uX c (dP l (eC c.leaf c.aT (ai l a) (aZ l a i) i).1 (eC c.leaf c.aT (ai l a) (aZ l a i) i).2.1)≤uX c l:=by
 obtain⟨T,p⟩:=s.QF t h4
 have hmv:=abN p.mv
 have hTR:∀m∈T,m.R:=fun m hm=>by
  obtain⟨n,_,_,e⟩:=p.po.take
  have o7:m∈aJ P.n.ab P.n.aj (i.toNat:Int):=by rw [e]at hm;exact gu hm
  exact QP (fun q hq=>by
   obtain⟨j,hj,rfl⟩:=cj hq
   exact(p.QL.2.2.2.2.2.1 j hj).2.1) ((fq.iff.1 p.QL.2.2.1).1) m o7
 have yX:=t.rows p.km.1
 generalize (eC c.leaf c.aT (ai l a) (aZ l a i) i).1=x at*
 generalize (eC c.leaf c.aT (ai l a) (aZ l a i) i).2.1=y at*
 have hx:0≤x.slot∧x.slot<l.length:=by rw [p.al.1];exact p.sin p.mem
 have hy:0≤y.slot∧y.slot<l.length:=by rw [p.bl.1];exact p.sin p.km.1
 have ig:x.slot.toNat≠y.slot.toNat:=by
  have:=p.KV
  rw [←p.al.1,←p.bl.1]at this
  omega
 have zS:x.slot.toNat<l.length:=aa
 have hyl:y.slot.toNat<(l.set x.slot.toNat x).length:=by rw [cg];omega
 have e1:=s8 (f:=kS c) zS x
 have e2:=s8 (f:=kS c) hyl y
 have gx:l[x.slot.toNat]=P.n:=by
  have h:=(t.nd p.mem).2.1
  rw [ly (p.sin p.mem)]at h
  have h2:=p.al.1
  simp only [h2]
  exact h.symm
 have gy:(l.set x.slot.toNat x)[y.slot.toNat]=(aq l P i.toNat).n:=by
  rw [qH ig]
  have h:=(t.nd p.km.1).2.1
  rw [ly (p.sin p.km.1)]at h
  have h2:=p.bl.1
  simp only [h2]
  exact h.symm
 rw [gx,od p.h0,od (by rw [p.al.2.1];exact p.h0),p.al.2.2.2.2.2.2.2.2.2]at e1
 rw [gy]at e2
 have hv:kS c y≤kS c (aq l P i.toNat).n+jw T:=by
  by_cases h0:(aq l P i.toNat).n.level=0
  ·rw [wH h0,wH (by rw [p.bl.2.1];exact h0),(p.po.leaf h0).2.1]
   have:=QR yX hTR
   omega
  ·rw [od h0,od (by rw [p.bl.2.1];exact h0),(p.po.inner h0).2.1,qT]
   exact bZ _
 unfold uX dP
 omega
theorem U1(t:Tree c l ss)(h:(ai l 0).level=0→c.leaf≤((ai l 0).rows.length:Int)):uX c (dJ c l).2≤uX c l:=by
 have hp:=t.pos
 unfold dJ
 split
 ·exact bZ _
 ·split
  ·exact bZ _
  ·rename_i h1 h2
   have hc:(eS (ai l 0) l.length ((l.length:Int)+1)).2.2.2=true:=by simpa using h1
   rw [oP]at hc
   have hh:(ch (ai l 0)).2.2.2=true:=by rw [←jv];exact hc
   rw [sL hc,gG hh]
   have e0:ai l 0=l[0]:=ly ⟨eI _,aa⟩
   have hR:=(t.gz t.root).1
   rw [t.pK]at hR
   dsimp only
   unfold uX jJ
   have key:∀r a b:Nd,kS c r+kS c a+kS c b≤kS c (ai l 0)→(((l.set 0 r)++[a,b]).map (kS c)).sum≤(l.map (kS c)).sum:=fun r a b hk=>by
    have e1:=s8 (f:=kS c) hp r
    rw [←e0]at e1
    rw [bU,NG]
    simp only [cA,lG,mH,List.sum_nil]
    omega
   apply key
   have Df:=hR.1.2.1
   have er:∀k x y,kS c (sJ (ai l 0) k x y)=if(ai l 0).level=0 then 0 else jw (ai l 0).aj:=fun k x y=>by
    rw [od (show ¬(ai l 0).level+1=0 by omega)]
    show jw (if _ then _ else _)=_
    split<;>rfl
   rw [er]
   by_cases h0:(ai l 0).level=0
   ·rw [if_pos h0,wH h0,mO h0]
    have hL:=hR.2.2.2
    rw [if_pos h0]at hL
    have h9:=h h0
    have hle:=hL.2.1
    obtain⟨_,⟨f1,f2⟩,_⟩:=t.kd
    have hA:∀z s,z.level=0→z.rows.length≤(c.leaf.toNat+1) / 2→kS c (fW (ai l 0) z s)≤1:=fun z s e1 e2=>by
     refine gg (Hy (wH (show(fW (ai l 0) z s).level=0 from e1))) ?_
     show 1+(z.rows.length-_)≤1
     omega
    have hr:=sg (l:=(ai l 0).rows) aa
    have Qr:0+1+1≤1+((ai l 0).rows.length-(c.leaf.toNat+1) / 2):=aa
    refine gg (NT (Nat.add_le_add_left (hA _ _ ?_ ?_) _) (hA _ _ ?_ ?_)) Qr
    ·exact h0
    ·show(iY (ai l 0).rows).1.length≤_
     rw [hr,bV];omega
    ·exact h0
    ·show(iY (ai l 0).rows).2.1.length≤_
     rw [hr,cv];omega
   ·rw [if_neg h0,od h0]
    have hz:∀z s,z.level=(ai l 0).level→kS c (fW (ai l 0) z s)=0:=fun z s e=>by
     rw [od (show ¬(fW _ z _).level=0 by show ¬z.level=0;rw [e];exact h0)];rfl
    have aAu:(ch (ai l 0)).1.level=(ai l 0).level∧(ch (ai l 0)).2.1.level=(ai l 0).level:=by
     unfold ch
     rw [if_neg h0]
     split<;>exact⟨rfl,rfl⟩
    refine gg (NT (Nat.add_le_add_left (Hy (hz _ _ ?_)) _) (Hy (hz _ _ ?_))) (bZ _)
    ·exact aAu.1
    ·exact aAu.2
theorem amZ{k:af} :∀q,(⟨af.nil,k,false⟩:Span).has q=true→(⟨k,af.nil,true⟩:Span).has q=false:=fun q h=>by
 have h1:=(cO.1 h).2
 rcases h1 with h1|h1
 ·cases h1
 ·cases h2:(⟨k,af.nil,true⟩:Span).has q
  ·rfl
  ·have h3:=(cO.1 h2).1
   dsimp only at h1 h3
   rw [h1]at h3;cases h3
theorem am0(t:Tree c l ss){p:Int}(h:(aZ l p i).level=0→c.leaf≤((aZ l p i).rows.length:Int)):uX c (dx c l p i).2≤uX c l:=by
 have BY:=t.pos
 unfold dx
 split
 ·exact bZ _
 ·unfold aZ at h
  generalize i.toNat=j at h⊢
  unfold m5
  split
  ·exact bZ _
  ·rename_i h1
   split
   ·exact bZ _
   ·split
    ·exact bZ _
    ·rename_i h3
     split
     ·exact bZ _
     ·rename_i h4
      have h3:(fU l p j).2.2.2=true∧(sN l p j).2=true:=by
       constructor
       ·cases h5:(fU l p j).2.2.2
        ·exact absurd (.inl h5) h3
        ·rfl
       ·cases h5:(sN l p j).2
        ·exact absurd (.inr h5) h3
        ·rfl
      obtain⟨e3,hj⟩:=EF (n:=ai l p) h3.2
      have gH:¬(¬(0≤p∧p<l.length)∨(ai l p).kids.length≤j∨¬(0≤fT l p j∧fT l p j<l.length)):=h1
      have Cs:0≤p∧p<l.length:=rJ fun e=>gH (.inl e)
      have zA:0≤fT l p j∧fT l p j<l.length:=rJ fun e=>gH (.inr (.inr e))
      have FW:=(Gh h3.1).1
      obtain⟨ni,ox⟩:=cZ t.slot zA
      obtain⟨P,hP,eP⟩:=t.qb Cs
      have h0:¬P.n.level=0:=fun h0=>by have:=(t.leaf hP h0).1;rw [eP]at this;omega
      obtain⟨K,hK,eK⟩:=t.qb zA
      have hjP:j<P.n.kids.length:=by rw [eP];exact hj
      have hat:=t.at hP h0 hjP
      have ek:(aq l P j).n=ai l (fT l p j):=by
       rw [hat.2.2.1]
       unfold fT
       rw [←eP,fc,eY hjP];rfl
      have ig:fT l p j≠p:=fun e=>by
       have:=hat.2.2.2
       rw [ek,eP,e]at this
       omega
      have MC:(ch (ai l (fT l p j))).2.2.2=true:=by rw [←jv _ (l.length:Int)];exact h3.1
      have hA:kS c (fU l p j).1+kS c (fU l p j).2.1≤kS c (ai l (fT l p j)):=by
       unfold fU
       rw [gG MC]
       have hR:=(t.gz hK).1
       rw [eK]at hR
       have Iy:=(t.aj hK).2.1
       rw [eK]at Iy
       by_cases Gn:(ai l (fT l p j)).level=0
       ·have hL:=hR.2.2.2
        rw [if_pos Gn]at hL
        have h9:=h Gn
        have hle:=hL.2.1
        obtain⟨_,⟨f1,f2⟩,_⟩:=t.kd
        have h9:c.leaf≤((ai l (fT l p j)).rows.length:Int):=h9
        rw [mO Gn,wH Gn]
        have hA:∀z:Nd,z.level=0→z.rows.length≤(c.leaf.toNat+1) / 2→kS c z≤1:=fun z e1 e2=>by rw [wH e1];omega
        have hr:=sg (l:=(ai l (fT l p j)).rows) aa
        have Qr:1+1≤1+((ai l (fT l p j)).rows.length-(c.leaf.toNat+1) / 2):=aa
        refine gg (NT (hA _ ?_ ?_) (hA _ ?_ ?_)) Qr
        ·exact Gn
        ·show(iY (ai l (fT l p j)).rows).1.length≤_
         rw [hr,bV];omega
        ·exact Gn
        ·show(iY (ai l (fT l p j)).rows).2.1.length≤_
         rw [hr,cv];omega
       ·cases hr:fA (ai l (fT l p j)).ab (ai l (fT l p j)).kids.length
        ·rw [qN Gn hr]at MC;cases MC
        ·rw [mQ Gn hr,od Gn]
         exact gg (NT (Hy (od Gn)) (Hy (od Gn))) (U0 amZ Iy)
      have hB:kS c (sN l p j).1=kS c (ai l p):=by
       show kS c (jg (ai l p) j _ _).1=_
       rw [e3]
       rw [eP]at h0
       exact(od (show ¬(gA (ai l p) j _ _).level=0 from h0)).trans (od h0).symm
      have o9:(fU l p j).1.slot.toNat<l.length:=by rw [FW,ni];omega
      have e1:=s8 (f:=kS c) o9 (fU l p j).1
      have Gg:p.toNat<(l.set (fU l p j).1.slot.toNat (fU l p j).1).length:=by rw [cg];omega
      have e2:=s8 (f:=kS c) Gg (sN l p j).1
      have g1:l[(fU l p j).1.slot.toNat]=ai l (fT l p j):=by
       rw [ly zA]
       have h2:=FW.trans ni
       simp only [h2]
      have g2:(l.set (fU l p j).1.slot.toNat (fU l p j).1)[p.toNat]=ai l p:=by
       rw [qH (by rw [FW,ni];omega),ly Cs]
      rw [g1]at e1
      rw [g2,hB]at e2
      unfold uX BZ
      rw [bU,NG]
      simp only [cA,lG,mH,List.sum_nil]
      omega
variable {k:Nd} {p:Nd}
theorem arS(hk:ku p k i)(hR:∀m∈aJ p.ab p.aj i,m.R)(hf:0<(aJ p.ab p.aj i).length)(h:¬0<c9 c.leaf c.aT p k i)(h0:k.level=0):c.leaf≤(k.rows.length:Int):=by
 rw [xA hk]at h
 obtain⟨m,L,e⟩:∃m L,aJ p.ab p.aj i=m::L:=by
  cases hh:aJ p.ab p.aj i with
  |nil=>rw [hh]at hf;cases hf
  |cons m L=>exact⟨m,L,rfl⟩
 have uW:=hR m (by rw [e];simp)
 rw [e,QN h0]at h
 dsimp only at h
 unfold ed at h
 split at h
 ·dsimp only at h;omega
 ·rename_i h2
  rw [Ew uW]at h2
  unfold wU at h2
  simp only [kU,fJ,not_or]at h2
  omega
theorem agk(h:cQ c p k i=3):0<k.level∨(0<(aJ p.ab p.aj i).length∧¬0<c9 c.leaf c.aT p k i):=by
 unfold cQ at h
 split at h
 ·rename_i h1;exact .inl h1.1
 ·split at h
  ·cases h
  ·rename_i h2
   split at h
   ·cases h
   ·split at h
    ·rename_i h4;exact .inr ⟨h4,h2⟩
    ·cases h
theorem am1(t:Tree c l ss)(ha:0≤a∧a<l.length)(k:af):uX c (cU c l a k).2≤uX c l:=by
 rcases fj c (ai l a) k with h1|h1|⟨h1,_⟩
 ·rw [nZ h1];exact bZ _
 ·obtain⟨g1,g2,_⟩:=rp h1
  have hs:=(cZ t.slot ha).1
  have e0:a=0:=aa
  subst e0
  have hl:=U1 t (fun h=>absurd h g1)
  by_cases h3:(dJ c l).1=0
  ·rw [ph h1 h3];exact hl
  ·rw [pi h1 h3];exact hl
 ·obtain⟨h0,hi⟩:=kK t ha h1
  obtain⟨P,s⟩:=nm t ha h0 hi
  rw [n6 h1]
  generalize (bI c (ai l a) k).2=i at*
  rcases eT c (ai l a) (aZ l a i) i with hd|hd|⟨hd,KX⟩|hd
  ·rw [uh hd];exact bZ _
  ·have gH:=t.inner s.mem s.h0
   rw [s.n]at gH
   have hl:=am0 t (p:=a) (i:=i) fun h9=>by
    rcases agk hd with h|⟨h5,h6⟩
    ·omega
    ·exact arS s.XX (QP (fun q hq=>by
      obtain⟨j,hj,rfl⟩:=cj hq
      exact(gH.2.2.2.2.2.1 j hj).2.1) ((fq.iff.1 gH.2.2.1).1)) h5 h6 h9
   by_cases h3:(dx c l a i).1=0
   ·rw [sS hd h3];exact hl
   ·rw [sU hd h3];exact hl
  ·rw [j4 hd];exact amY t s KX
  ·rw [sW hd];exact bZ _
theorem QT{k:af} :∀(m:Nat) {l:List Nd} {ss:List aw} {a n:Int} {r:Int×Int×List Nd},Tree c l ss→0≤a∧a<l.length→n7 c k m l a n=some r→uX c r.2.2≤uX c l
 |0,_,_,_,_,_,_,_,h=>by cases h
 |m+1,l,ss,a,n,r,t,ha,h=>by
  obtain⟨T,hT,_⟩:=lL t ha k
  have mA:=m6 t ha k
  have QU:=am1 t ha k
  by_cases h1:(cU c l a k).1.1=0
  ·rw [jk h1]at h
   cases h
   exact QU
  ·by_cases h2:(cU c l a k).1.1=5
   ·rw [mc h2]at h;exact gg (QT m hT mA h) QU
   ·rw [ke h1 h2]at h;exact gg (QT m hT mA h) QU
end
end Go.Fw

set_option maxHeartbeats 1000000
namespace Go.Fw
open Go Go.RowKit
def A6 (c:aX) (n:Nd):Prop:=n.slot=0∨n.level=0∨c.fan.tdiv 2≤(n.kids.length:Int)
instance (c : aX) (n : Nd) : Decidable (A6 c n) := by unfold A6; infer_instance
def vL (c:aX) (l:List Nd):Prop:=∀n∈l,A6 c n
section
variable {c:aX} {l:List Nd} {ss:List aw}
theorem am2(h:4≤c.fan):c.fan.tdiv 2=c.fan / 2:=NK aa
theorem agl(hc4:4≤c.fan){n:Nd}(h0:¬n.level=0)(hf:c.fan≤(n.kids.length:Int))(hh:(ch n).2.2.2=true):c.fan.tdiv 2≤((ch n).1.kids.length:Int)∧c.fan.tdiv 2≤((ch n).2.1.kids.length:Int):=by
 rw [am2 hc4]
 cases hr:fA n.ab n.kids.length
 ·rw [qN h0 hr]at hh;cases hh
 ·rw [mQ h0 hr]at hh⊢
  dsimp only at hh⊢
  unfold je at hh⊢
  split at hh
  ·cases hh
  ·rename_i h1
   rw [if_neg h1]
   dsimp only
   rw [bV,cv]
   omega
theorem Fv{n:Nd} :(ch n).1.level=n.level∧(ch n).2.1.level=n.level:=by
 unfold ch
 split
 ·exact⟨rfl,rfl⟩
 ·split<;>exact⟨rfl,rfl⟩
theorem wI(t:Tree c l ss){n:Nd}(hf:¬n.level=0→c.fan≤(n.kids.length:Int))(hh:(ch n).2.2.2=true):∀z:Nd,(z.level=(ch n).1.level∧z.kids=(ch n).1.kids)∨(z.level=(ch n).2.1.level∧z.kids=(ch n).2.1.kids)→A6 c z:=by
 intro z hz
 obtain⟨⟨c1,_⟩,_⟩:=t.kd
 by_cases h0:n.level=0
 ·refine .inr (.inl ?_)
  rcases hz with⟨e,_⟩|⟨e,_⟩
  ·rw [e,Fv.1];exact h0
  ·rw [e,Fv.2];exact h0
 ·have h1:=agl c1 h0 (hf h0) hh
  refine .inr (.inr ?_)
  rcases hz with⟨_,e⟩|⟨_,e⟩
  ·rw [e];exact h1.1
  ·rw [e];exact h1.2
theorem QV(t:Tree c l ss)(hF:vL c l)(hf:¬(ai l 0).level=0→c.fan≤((ai l 0).kids.length:Int)):vL c (dJ c l).2:=by
 have hp:=t.pos
 unfold dJ
 split
 ·exact hF
 ·split
  ·exact hF
  ·rename_i h1 h2
   have hc:(eS (ai l 0) l.length ((l.length:Int)+1)).2.2.2=true:=by simpa using h1
   rw [oP]at hc
   have hh:(ch (ai l 0)).2.2.2=true:=by rw [←jv];exact hc
   rw [sL hc,gG hh]
   dsimp only
   unfold jJ
   intro n hn
   rcases cP.1 hn with hn|hn
   ·rcases qI hn with hn|rfl
    ·exact hF n hn
    ·exact .inl (cZ t.slot ⟨eI 0,aa⟩).1
   ·simp only [dK,ww,Ek]at hn
    rcases hn with rfl|rfl
    ·exact wI t hf hh _ (.inl ⟨rfl,rfl⟩)
    ·exact wI t hf hh _ (.inr ⟨rfl,rfl⟩)
variable {i:Int}
theorem agm(t:Tree c l ss)(hF:vL c l){p:Int}(hf:¬(aZ l p i).level=0→c.fan≤((aZ l p i).kids.length:Int)):vL c (dx c l p i).2:=by
 have BY:=t.pos
 unfold dx
 split
 ·exact hF
 ·unfold aZ at hf
  generalize i.toNat=j at hf⊢
  unfold m5
  split
  ·exact hF
  ·rename_i h1
   split
   ·exact hF
   ·split
    ·exact hF
    ·rename_i h3
     split
     ·exact hF
     ·have h3:(fU l p j).2.2.2=true∧(sN l p j).2=true:=by
       constructor
       ·cases h5:(fU l p j).2.2.2
        ·exact absurd (.inl h5) h3
        ·rfl
       ·cases h5:(sN l p j).2
        ·exact absurd (.inr h5) h3
        ·rfl
      obtain⟨e3,hj⟩:=EF (n:=ai l p) h3.2
      have gH:¬(¬(0≤p∧p<l.length)∨(ai l p).kids.length≤j∨¬(0≤fT l p j∧fT l p j<l.length)):=h1
      have Cs:0≤p∧p<l.length:=rJ fun e=>gH (.inl e)
      have MC:(ch (ai l (fT l p j))).2.2.2=true:=by rw [←jv _ (l.length:Int)];exact h3.1
      have hpF:A6 c (ai l p):=hF _ (cZ t.slot Cs).2
      intro n hn
      unfold BZ at hn
      rcases cP.1 hn with hn|hn
      ·rcases qI hn with hn|rfl
       ·rcases qI hn with hn|rfl
        ·exact hF n hn
        ·unfold fU
         rw [gG MC]
         exact wI t hf MC _ (.inl ⟨rfl,rfl⟩)
       ·show A6 c (jg (ai l p) j _ _).1
        rw [e3]
        rcases hpF with h|h|h
        ·exact .inl h
        ·exact .inr (.inl h)
        ·refine .inr (.inr ?_)
         show c.fan.tdiv 2≤((((ai l p).kids.take (j+1)++[_])++(ai l p).kids.drop (j+1)).length:Int)
         simp only [bP,bV,cv,jo,Em]
         omega
      ·rw [gh]at hn
       rw [hn]
       unfold fU
       rw [gG MC]
       exact wI t hf MC _ (.inr ⟨rfl,rfl⟩)
variable {a:Int}
theorem agn(t:Tree c l ss)(hF:vL c l){P:aw}(s:uE c l ss a i P)(h4:0<c9 c.leaf c.aT (ai l a) (aZ l a i) i):
  vL c (dP l (eC c.leaf c.aT (ai l a) (aZ l a i) i).1 (eC c.leaf c.aT (ai l a) (aZ l a i) i).2.1):=by
 obtain⟨T,p⟩:=s.QF t h4
 have same:∀ {x y:Nd},x.slot=y.slot→x.level=y.level→x.kids=y.kids→A6 c y→A6 c x:=fun e1 e2 e3 h=>by
  unfold A6 at h⊢
  rw [e1,e2,e3];exact h
 intro n hn
 unfold dP at hn
 rcases qI hn with hn|rfl
 ·rcases qI hn with hn|rfl
  ·exact hF n hn
  ·exact same p.al.1 p.al.2.1 p.al.2.2.2.1 (hF _ (t.nd p.mem).2.2)
 ·exact same p.bl.1 p.bl.2.1 p.bl.2.2.2.1 (hF _ (t.nd p.km.1).2.2)
theorem ago{p k:Nd}(h:cQ c p k i=3):¬k.level=0→c.fan≤(k.kids.length:Int)∨¬0<k.level:=fun h0=>by
 unfold cQ at h
 split at h
 ·rename_i h1
  have:=h1.2
  unfold dE at this
  rw [if_neg h0]at this
  exact .inl (jW this)
 ·split at h
  ·cases h
  ·split at h
   ·cases h
   ·rename_i h4;exact .inr h4
theorem agp(t:Tree c l ss)(hF:vL c l)(ha:0≤a∧a<l.length)(k:af):vL c (cU c l a k).2:=by
 rcases fj c (ai l a) k with h1|h1|⟨h1,_⟩
 ·rw [nZ h1];exact hF
 ·obtain⟨g1,g2,g3⟩:=rp h1
  have hs:=(cZ t.slot ha).1
  have e0:a=0:=aa
  subst e0
  have hl:=QV t hF (fun h=>by unfold dE at g3;rw [if_neg h]at g3;exact jW g3)
  by_cases h3:(dJ c l).1=0
  ·rw [ph h1 h3];exact hl
  ·rw [pi h1 h3];exact hl
 ·obtain⟨h0,hi⟩:=kK t ha h1
  obtain⟨P,s⟩:=nm t ha h0 hi
  rw [n6 h1]
  have o9:0≤(aZ l a (bI c (ai l a) k).2).level:=by
   have h2:=(uV t s).2.1
   have h3:=t.lvl s.mem
   have h4:=s.h0
   rw [s.n]at h3 h4
   omega
  generalize (bI c (ai l a) k).2=i at*
  rcases eT c (ai l a) (aZ l a i) i with hd|hd|⟨hd,KX⟩|hd
  ·rw [uh hd];exact hF
  ·have hl:=agm t hF (p:=a) (i:=i) fun h9=>(ago hd h9).resolve_right (fun h=>h aa)
   by_cases h3:(dx c l a i).1=0
   ·rw [sS hd h3];exact hl
   ·rw [sU hd h3];exact hl
  ·rw [j4 hd];exact agn t hF s KX
  ·rw [sW hd];exact hF
theorem K0{k:af} :∀(m:Nat) {l:List Nd} {ss:List aw} {a n:Int} {r:Int×Int×List Nd},Tree c l ss→vL c l→0≤a∧a<l.length→n7 c k m l a n=some r→vL c r.2.2
 |0,_,_,_,_,_,_,_,_,h=>by cases h
 |m+1,l,ss,a,n,r,t,hF,ha,h=>by
  obtain⟨T,hT,_⟩:=lL t ha k
  have mA:=m6 t ha k
  have QU:=agp t hF ha k
  by_cases h1:(cU c l a k).1.1=0
  ·rw [jk h1]at h
   cases h
   exact QU
  ·by_cases h2:(cU c l a k).1.1=5
   ·rw [mc h2]at h;exact K0 m hT QU mA h
   ·rw [ke h1 h2]at h;exact K0 m hT QU mA h
end
def Gq (S:Int) (l:List Nd):Prop:=∀n∈l,n.seen≤S
structure Grown (c:aX) (k:Int) (l:List Nd):Prop where
 all:Gq (ai l 0).seen l
 le:(ai l 0).seen≤k
 pos:0≤(ai l 0).seen
 val:(uX c l:Int)≤1+k
 fill:vL c l
section
variable {c:aX} {l:List Nd} {ss:List aw}
theorem Tree.am3(t:Tree c l ss)(h:(ai l 0).level=0):l=[ai l 0]:=by
 have h0:(bC l 0).n.level=0:=by rw [t.pK];exact h
 have h1:∀x∈ss,x=bC l 0:=t.ind rfl fun x hx hl e=>absurd (by rw [e];exact h0) hl
 have h2:ss.length=1:=by
  have h3:=t.zN
  have h4:=t.fix
  cases hs:ss with
  |nil=>rw [hs]at h4;cases h4
  |cons x L=>
   cases hL:L with
   |nil=>rfl
   |cons y L2=>
    exfalso
    rw [hs,hL]at h3 h1
    have e1:=h1 x (by simp)
    have e2:=h1 y (by simp)
    rw [e1,e2]at h3
    simp at h3
 have h3:l.length=1:=by rw [←t.len,h2]
 match l,h3 with
 |[n],_=>rfl
def B0 (n:Nd) (m:aD):Nd:={ n with rows:=takeN n.rows m,seen:=m.aW }
variable {m:aD}
theorem agq(t:Tree c l ss)(h:(ai l 0).level=0)(hm:m.R)(hf:eD (ai l 0).rows m c.leaf=true)(hle:m.aW≤1099511627776):
  (∃T,Tree c (iC l (B0 (ai l 0) m)) T)∧bM (iC l (B0 (ai l 0) m))=takeN (bM l) m:=by
 have e:=t.am3 h
 have hS:=t.gz t.root
 have hg:=t.pK
 have nU:=cZ t.slot ⟨eI _,by have:=t.pos;omega⟩
 have hR:=hS.1
 rw [hg]at hR
 have aAv:(ai l 0).fp=true:=by have:=hS.2.1.1.1;rw [hg]at this;exact this
 have pL:(ai l 0).seen≤1099511627776:=by
  obtain⟨j,hj,e2⟩:=cj nU.2
  rw [←e2];exact(t.slot j hj).2
 generalize ai l 0=n at*
 obtain⟨⟨r1,r2,r3⟩,r4,r5,r6⟩:=hR
 rw [if_pos h]at r6
 obtain⟨f1,f2,f3,f4⟩:=r6
 have e2:iC l (B0 n m)=[B0 n m]:=by rw [e];rfl
 have kq:=hm.1.1
 have hR2:(B0 n m).R c.fan c.leaf c.aT:=by
  refine⟨⟨r1,r2,by show 0≤m.aW;omega⟩,r4,r5,?_⟩
  rw [if_pos (show(B0 n m).level=0 from h)]
  refine⟨f1,QQ f3 hm hf f2,f3.KA hm.1.2.1 hm.1.2.2.1,fun i hi=> ?_⟩
  show(n.fp||_)=true
  rw [aAv];rfl
 rw [e2]
 refine⟨⟨_,UL t.kd h nU.1 hle hR2 aAv (Gr t.kd hR2)⟩,?_⟩
 rw [Qu (show(B0 n m).level=0 from h) nU.1 hle,e,Qu h nU.1 pL];rfl
def dD (c:aX) (l:List Nd) (o:bx):Int×Int×List Nd:=
 if(ai l 0).level=0 then(if eD (ai l 0).rows (o.msg ((ai l 0).seen+1)) c.leaf=true then((ai l 0).seen+1,0,iC l (B0 (ai l 0) (o.msg ((ai l 0).seen+1))))else(0,4,l))
 else if fX c.aT (ai l 0).aj (o.msg ((ai l 0).seen+1))=true then((ai l 0).seen+1,0,iC l (jl (ai l 0) (o.msg ((ai l 0).seen+1))))else(0,4,l)
variable {o:bx}
theorem zT(h:(ai l 0).level=0)(h2:eD (ai l 0).rows (o.msg ((ai l 0).seen+1)) c.leaf=true):dD c l o=((ai l 0).seen+1,0,iC l (B0 (ai l 0) (o.msg ((ai l 0).seen+1)))):=by unfold dD;rw [if_pos h,if_pos h2]
theorem xB(h:(ai l 0).level=0)(h2:eD (ai l 0).rows (o.msg ((ai l 0).seen+1)) c.leaf=false):dD c l o=(0,4,l):=by unfold dD;rw [if_pos h,if_neg (by simp [h2])]
theorem zU(h:¬(ai l 0).level=0)(h2:fX c.aT (ai l 0).aj (o.msg ((ai l 0).seen+1))=true):dD c l o=((ai l 0).seen+1,0,iC l (jl (ai l 0) (o.msg ((ai l 0).seen+1)))):=by unfold dD;rw [if_neg h,if_pos h2]
theorem xC(h:¬(ai l 0).level=0)(h2:fX c.aT (ai l 0).aj (o.msg ((ai l 0).seen+1))=false):dD c l o=(0,4,l):=by unfold dD;rw [if_neg h,if_neg (by simp [h2])]
theorem agr(h:o.R)(h4:o.kind≤4){s:Int}(hs:1≤s):(o.msg s).R:=by
 obtain⟨⟨h1,h2,h3,h5,h6⟩,h7,_,_,h8⟩:=h
 refine⟨⟨hs,h3,h6,h5⟩,?_⟩
 show if o.kind=4 then _ else _
 split
 ·rename_i h9
  rw [if_pos (.inl h9)]at h8
  refine⟨h7 aa,h8.2,?_⟩
  have:(o.msg s).span=o.span:=by
   show(if o.kind=4 then _ else _)=_
   unfold bx.span
   rw [if_pos h9,if_pos (.inl h9)];rfl
  rw [this];exact h8.1
 ·rename_i h9
  rw [if_neg aa]at h8
  refine⟨h8.1,h8.2,?_⟩
  show o.kind=1∨o.kind=2∨(o.kind=3∧o.val=af.nil)
  rcases (by omega:o.kind=1∨o.kind=2∨o.kind=3)with h|h|h
  ·exact .inl h
  ·exact .inr (.inl h)
  ·exact .inr (.inr ⟨h,h7 aa⟩)
variable {r:Nd}
theorem Gs(hp:0<l.length):ai (iC l r) 0=r:=by
 rw [ly ⟨eI _,by unfold iC;rw [cg];omega⟩]
 unfold iC
 simp
theorem U2{n:Nd}(h:n∈iC l r):n∈l∨n=r:=qI h
variable {k:Int}
theorem ayr(t:Tree c l ss)(ho:o.R)(h4:o.kind≤4)(hg:Grown c k l)(hk:k<1099511627776)(h:(dD c l o).2.1=0):
  (∃T,Tree c (dD c l o).2.2 T)∧bM (dD c l o).2.2=takeN (bM l) (o.msg 1)∧Grown c (k+1) (dD c l o).2.2∧(dD c l o).2.2.length=l.length∧(dD c l o).1=(ai l 0).seen+1:=by
 have hp:=hg.pos
 have hl:=hg.le
 have BY:=t.pos
 have uW:=agr ho h4 (s:=(ai l 0).seen+1) aa
 have grown:∀r:Nd,r.slot=(ai l 0).slot→r.seen=(ai l 0).seen+1→kS c r≤kS c (ai l 0)+1→Grown c (k+1) (iC l r):=fun r nU hr hv=>by
  refine⟨fun n hn=> ?_,?_,?_,?_,fun n hn=> ?_⟩
  ·rw [Gs BY,hr]
   rcases U2 hn with hn|rfl
   ·have:=hg.all n hn;omega
   ·omega
  ·rw [Gs BY,hr];omega
  ·rw [Gs BY,hr];omega
  ·have h1:=s8 (f:=kS c) BY r
   have h2:=hg.val
   have e0:ai l 0=l[0]:=ly ⟨eI _,aa⟩
   rw [←e0]at h1
   unfold uX at h2⊢
   unfold iC
   omega
  ·rcases U2 hn with hn|rfl
   ·exact hg.fill n hn
   ·exact .inl (nU.trans (cZ t.slot ⟨eI 0,aa⟩).1)
 by_cases h0:(ai l 0).level=0
 ·cases hf:eD (ai l 0).rows (o.msg ((ai l 0).seen+1)) c.leaf
  ·rw [xB h0 hf]at h;cases h
  ·rw [zT h0 hf]
   obtain⟨h1,h2⟩:=agq t h0 uW hf (by show(ai l 0).seen+1≤_;omega)
   have yX:=t.rows t.root
   rw [t.pK]at yX
   have h3:=yX.wR (o.msg ((ai l 0).seen+1))
   refine⟨h1,h2,grown _ rfl rfl ?_,by show(iC l _).length=_;unfold iC;rw [cg],rfl⟩
   rw [wH h0,wH (show(B0 _ _).level=0 from h0)]
   show 1+((takeN _ _).length-_)≤_
   omega
 ·cases hf:fX c.aT (ai l 0).aj (o.msg ((ai l 0).seen+1))
  ·rw [xC h0 hf]at h;cases h
  ·rw [zU h0 hf]
   unfold fX at hf
   rw [cm]at hf
   have p:InjOf c l ss (o.msg ((ai l 0).seen+1)):=⟨t,h0,uW,rfl,by show(ai l 0).seen+1≤_;omega,hg.all,jW hf.1⟩
   refine⟨⟨_,p.tree⟩,p.map,grown _ rfl rfl ?_,by show(iC l _).length=_;unfold iC;rw [cg],rfl⟩
   rw [od h0,od (show ¬(jl _ _).level=0 from h0)]
   show jw (_++[_])≤_
   rw [qT,kA,Gl]
   split<;>omega
theorem am4(t:Tree c l ss)(ho:o.R)(h4:o.kind≤4)(hg:Grown c k l)(h:¬(dD c l o).2.1=0):
  dD c l o=(0,4,l)∧((ai l 0).level=0→c.leaf≤((ai l 0).rows.length:Int))∧(¬(ai l 0).level=0→0<(ai l 0).aj.length):=by
 have uW:=agr ho h4 (s:=(ai l 0).seen+1) (by have:=hg.pos;omega)
 obtain⟨_,⟨f1,_⟩,⟨b1,_⟩,_⟩:=t.kd
 by_cases h0:(ai l 0).level=0
 ·cases hf:eD (ai l 0).rows (o.msg ((ai l 0).seen+1)) c.leaf
  ·refine⟨xB h0 hf,fun _=> ?_,fun h=>absurd h0 h⟩
   unfold eD qP at hf
   simp only [rM,lR]at hf
   omega
  ·rw [zT h0 hf]at h;exact absurd rfl h
 ·cases hf:fX c.aT (ai l 0).aj (o.msg ((ai l 0).seen+1))
  ·refine⟨xC h0 hf,fun h=>absurd h h0,fun _=> ?_⟩
   apply rJ
   intro hn
   have e:(ai l 0).aj=[]:=kj aa
   rw [e]at hf
   have:=size_le uW
   unfold fX at hf
   simp [bX]at hf
   omega
  ·rw [zU h0 hf]at h;exact absurd rfl h
def X0 (l:List Nd) (o:bx):Nd:=if(ai l 0).level=0 then B0 (ai l 0) (o.msg ((ai l 0).seen+1))else jl (ai l 0) (o.msg ((ai l 0).seen+1))
theorem abO(h:(ai l 0).level=0)(o:bx):X0 l o=B0 (ai l 0) (o.msg ((ai l 0).seen+1)):=if_pos h
theorem abP(h:¬(ai l 0).level=0)(o:bx):X0 l o=jl (ai l 0) (o.msg ((ai l 0).seen+1)):=if_neg h
theorem U3(h:(dD c l o).2.1=0):(dD c l o).2.2=l.set 0 (X0 l o)∧(dD c l o).1=(ai l 0).seen+1:=by
 by_cases h0:(ai l 0).level=0
 ·rw [abO h0]
  cases hf:eD (ai l 0).rows (o.msg ((ai l 0).seen+1)) c.leaf
  ·rw [xB h0 hf]at h;cases h
  ·rw [zT h0 hf];exact⟨rfl,rfl⟩
 ·rw [abP h0]
  cases hf:fX c.aT (ai l 0).aj (o.msg ((ai l 0).seen+1))
  ·rw [xC h0 hf]at h;cases h
  ·rw [zU h0 hf];exact⟨rfl,rfl⟩
theorem QW(h:¬(dD c l o).2.1=0):dD c l o=(0,4,l):=by
 by_cases h0:(ai l 0).level=0
 ·cases hf:eD (ai l 0).rows (o.msg ((ai l 0).seen+1)) c.leaf
  ·exact xB h0 hf
  ·rw [zT h0 hf]at h;exact absurd rfl h
 ·cases hf:fX c.aT (ai l 0).aj (o.msg ((ai l 0).seen+1))
  ·exact xC h0 hf
  ·rw [zU h0 hf]at h;exact absurd rfl h
theorem X1(l:List aG)(m:aD)(n:Int):(mZ l m n).2=eD l m n:=by
 cases h:eD l m n
 ·rw [A0 h]
 ·rw [sx h]
theorem aCS{l:List aG}{n:Int}(h:eD l m n=true):(mZ l m n).1=takeN l m:=by rw [sx h]
end
section
variable {c:aX} {l:List Nd} {ss:List aw}
theorem abQ(t:Tree c l ss)(k:af):∃N r,N≤200000∧n7 c k N l 0 0=some r:=by
 by_cases h0:(ai l 0).level=0
 ·exact⟨1,_,aa,jk (by rw [nZ (by rw [UQ h0])])⟩
 ·have hw:=sZ t ⟨eI _,by have:=t.pos;omega⟩ h0
  have h8:=t.Iz
  rw [t.pK]at h8
  obtain⟨r,hr⟩:=amX (k:=k) (ai l 0).level.toNat 8256 (n:=0) t rfl hw aa
  exact⟨_,r,aa,hr⟩
variable {i:Int}
theorem ays{p:Int}(h:(dx c l p i).1=4):(dx c l p i).2=l∧¬(l.length:Int)<c.bp:=by
 unfold dx at h⊢
 split at h
 ·cases h
 ·rename_i h1
  rw [if_neg h1]
  unfold m5 at h⊢
  split at h
  ·cases h
  ·rename_i h2
   rw [if_neg h2]
   split at h
   ·cases h
   ·rename_i h3
    rw [if_neg h3]
    split at h
    ·cases h
    ·rename_i h4
     rw [if_neg h4]
     split at h
     ·rename_i h5
      exact⟨by rw [if_pos h5],h5⟩
     ·cases h
variable {k:Nd} {p:Nd}
theorem ags(h:cQ c p k i=3):dE c p=false:=by
 cases hf:dE c p
 ·rfl
 ·exfalso
  unfold cQ at h
  rw [hf]at h
  split at h
  ·rw [if_pos rfl]at h;cases h
  ·split at h
   ·cases h
   ·split at h
    ·cases h
    ·split at h
     ·rw [if_pos rfl]at h;cases h
     ·cases h
theorem agt(h:cQ c p k i=3)(h2:¬0<k.level):0<(aJ p.ab p.aj i).length:=by
 apply rJ
 intro hn
 unfold cQ at h
 rw [if_neg (fun e=>h2 e.1)]at h
 split at h
 ·cases h
 ·simp [h2,hn]at h
theorem U4{k:af}(t:Tree c l ss)(h:(bI c (ai l 0) k).1=1∨((ai l 0).level=0∧2≤(ai l 0).rows.length)):(eS (ai l 0) 0 0).2.2.2=true:=by
 rw [oP]
 rcases h with h|⟨h1,h2⟩
 ·obtain⟨h0,_,h3⟩:=rp h
  have gH:=t.inner t.root (by rw [t.pK];exact h0)
  rw [t.pK]at gH
  refine yW h0 gH.2.1 ?_
  unfold dE at h3
  rw [if_neg h0]at h3
  have:=jW h3
  obtain⟨⟨f1,_⟩,_⟩:=t.kd
  omega
 ·exact IM h1 h2
theorem U5(t:Tree c l ss)(h:(eS (ai l 0) 0 0).2.2.2=true):(dJ c l).1=0∨(dJ c l=(4,l)∧c.bp-(l.length:Int)<2):=by
 by_cases h2:c.bp.toNat-l.length<2
 ·exact .inr ⟨xz h h2,aa⟩
 ·exact .inl (by rw [zO h h2])
theorem am5(t:Tree c l ss){a:Int}(ha:0≤a∧a<l.length)(k:af):(cU c l a k).1.2.2=0∨((cU c l a k).1.1=0∧(cU c l a k).1.2.2=4∧(cU c l a k).2=l∧c.bp-(l.length:Int)<2):=by
 rcases fj c (ai l a) k with h|h|⟨h,_⟩
 ·rw [nZ h];exact .inl rfl
 ·obtain⟨_,hs,_⟩:=rp h
  have nU:=(cZ t.slot ha).1
  have ea:a=0:=aa
  subst ea
  rcases U5 t (U4 (k:=k) t (.inl h))with h3|⟨h3,h4⟩
  ·rw [ph h h3];exact .inl rfl
  ·rw [pi h (by rw [h3];simp),h3];exact .inr ⟨rfl,rfl,rfl,h4⟩
 ·obtain⟨h0,hi⟩:=kK t ha h
  obtain⟨P,s⟩:=nm t ha h0 hi
  rw [n6 h]
  generalize (bI c (ai l a) k).2=i at*
  rcases eT c (ai l a) (aZ l a i) i with hd|hd|⟨hd,_⟩|hd
  ·rw [uh hd];exact .inl rfl
  ·have hf:=ags hd
   have o9:0≤(aZ l a i).level:=by have:=s.XX.1;have:=(uV t s).2.1;omega
   have gH:=t.inner s.mem s.h0
   rw [s.n]at gH
   have hpe:(dx c l a i).1=0∨(dx c l a i).1=4:=by
    refine UY t ha s hf ?_
    rcases QM hd with h|⟨h1,h2⟩
    ·exact .inl h
    ·have h3:(aZ l a i).level=0:=aa
     have Mz:=agt hd h1
     have XZ:∀m∈aJ (ai l a).ab (ai l a).aj i,m.R:=QP (fun q hq=>by
      obtain⟨j,hj,rfl⟩:=cj hq
      exact(gH.2.2.2.2.2.1 j hj).2.1) (fq.iff.1 gH.2.2.1).1
     exact .inr ⟨h3,(KY t.kd s.XX XZ Mz h2).1 h3⟩
   rcases hpe with h3|h3
   ·rw [sS hd h3];exact .inl rfl
   ·obtain⟨e1,e2⟩:=ays h3
    rw [sU hd aa]
    exact .inr ⟨rfl,h3,e1,aa⟩
  ·rw [j4 hd];exact .inl rfl
  ·rw [sW hd];exact .inl rfl
theorem IS{k:af} :∀(m:Nat) {l:List Nd} {ss:List aw} {a n:Int} {r:Int×Int×List Nd},Tree c l ss→0≤a∧a<l.length→n7 c k m l a n=some r→r.2.1=0∨(r.2.1=4∧c.bp-(r.2.2.length:Int)<2)
 |0,_,_,_,_,_,_,_,h=>by cases h
 |m+1,l,ss,a,n,r,t,ha,h=>by
  obtain⟨T,hT,_⟩:=lL t ha k
  have mA:=m6 t ha k
  by_cases h1:(cU c l a k).1.1=0
  ·rw [jk h1]at h
   cases h
   rcases am5 t ha k with h2|⟨_,h2,h3,h4⟩
   ·exact .inl h2
   ·exact .inr ⟨h2,by show c.bp-((cU c l a k).2.length:Int)<2;rw [h3];exact h4⟩
  ·by_cases h2:(cU c l a k).1.1=5
   ·rw [mc h2]at h;exact IS m hT mA h
   ·rw [ke h1 h2]at h;exact IS m hT mA h
end
section
variable {c:aX} {l:List Nd} {ss:List aw}
theorem X2(n:Nd):(ch n).1.seen=n.seen∧(ch n).2.1.seen=n.seen:=by
 unfold ch
 split
 ·exact⟨rfl,rfl⟩
 ·split<;>exact⟨rfl,rfl⟩
variable {i:Int}
theorem IT{n:Nd}(h:(aS n i).2.2.2=true):(aS n i).1.seen=n.seen∧(aS n i).2.1.seen=n.seen:=by
 rw [jv]at h
 rw [gG h]
 exact X2 n
variable {S:Int} {x:Nd}
theorem xD{l:List Nd}{i:Nat}(h:Gq S l)(hx:x.seen≤S):Gq S (l.set i x):=fun n hn=>by
 rcases qI hn with hn|rfl
 ·exact h n hn
 ·exact hx
theorem abR{l:List Nd}(h:Gq S l)(hx:x.seen≤S):Gq S (l++[x]):=fun n hn=>by
 rcases cP.1 hn with hn|hn
 ·exact h n hn
 ·simp at hn;subst hn;exact hx
theorem Gt(h:Gq S l)(hs:0≤S)(i:Int):(ai l i).seen≤S:=by
 by_cases hi:0≤i∧i<l.length
 ·rw [ly hi];exact h _ (bN _)
 ·rw [amS hi];exact hs
def vM (S:Int) (l:List Nd):Prop:=Gq S l∧(ai l 0).seen=S
theorem QX(t:Tree c l ss)(hs:0≤S)(h:vM S l):vM S (dJ c l).2:=by
 have hp:=t.pos
 unfold dJ
 split
 ·exact h
 ·split
  ·exact h
  ·rename_i h1 h2
   have h1:(eS (ai l 0) l.length ((l.length:Int)+1)).2.2.2=true:=by simpa using h1
   have hc:=h1
   rw [oP]at hc
   obtain⟨e1,e2⟩:=IT hc
   rw [sL hc]
   dsimp only
   have er:(sJ (ai l 0) (aS (ai l 0) ((l.length:Int)+1)).2.2.1 l.length ((l.length:Int)+1)).seen=S:=h.2
   have ha:∀z s,z.seen=(ai l 0).seen→(fW (ai l 0) z s).seen≤S:=fun z s e=>by
    unfold fW
    dsimp only
    split
    ·rw [e,h.2];exact eI _
    ·exact hs
   refine⟨?_,?_⟩
   ·unfold jJ
    refine fun n hn=> ?_
    rcases cP.1 hn with hn|hn
    ·exact xD h.1 (by rw [er];exact eI _) n hn
    ·simp at hn
     rcases hn with rfl|rfl
     ·exact ha _ _ e1
     ·exact ha _ _ e2
   ·unfold jJ
    rw [ly ⟨eI _,by rw [bP,cg];omega⟩]
    rw [yo (by rw [cg];show 0<_;omega)]
    simp
    exact er
theorem EG{i:Nat}(hp:0<l.length):ai (l.set i x) 0=if i=0 then x else ai l 0:=by
 rw [ly ⟨eI _,by rw [cg];omega⟩,ly ⟨eI _,aa⟩]
 simp only [Hr]
 rfl
variable {p:Int}
theorem agu(t:Tree c l ss)(hs:0≤S)(h:vM S l):vM S (dx c l p i).2:=by
 have hp:=t.pos
 unfold dx
 split
 ·exact h
 ·generalize i.toNat=j
  unfold m5
  split
  ·exact h
  ·rename_i h1
   split
   ·exact h
   ·split
    ·exact h
    ·rename_i h3
     split
     ·exact h
     ·rename_i h4
      have h3:(fU l p j).2.2.2=true∧(sN l p j).2=true:=by
       constructor
       ·cases h5:(fU l p j).2.2.2
        ·exact absurd (.inl h5) h3
        ·rfl
       ·cases h5:(sN l p j).2
        ·exact absurd (.inr h5) h3
        ·rfl
      obtain⟨e1,e2⟩:=IT (n:=ai l (fT l p j)) (i:=(l.length:Int)) h3.1
      obtain⟨e3,_⟩:=EF (n:=ai l p) h3.2
      have ha:(sN l p j).1.seen=(ai l p).seen:=by
       show(jg (ai l p) j _ _).1.seen=_
       rw [e3];rfl
      have hk:=Gt h.1 hs (fT l p j)
      have hq:=Gt h.1 hs p
      have gH:¬(¬(0≤p∧p<l.length)∨(ai l p).kids.length≤j∨¬(0≤fT l p j∧fT l p j<l.length)):=h1
      have Cs:0≤p∧p<l.length:=rJ fun e=>gH (.inl e)
      have zA:0≤fT l p j∧fT l p j<l.length:=rJ fun e=>gH (.inr (.inr e))
      have FW:=(Gh h3.1).1
      have ni:=(cZ t.slot zA).1
      unfold BZ
      refine⟨abR (xD (xD h.1 ?_) ?_) ?_,?_⟩
      ·show(aS _ _).1.seen≤S;rw [e1];exact hk
      ·rw [ha];exact hq
      ·show(aS _ _).2.1.seen≤S;rw [e2];exact hk
      ·have fC:0<(l.set (fU l p j).1.slot.toNat (fU l p j).1).length:=by rw [cg];exact hp
       rw [xy,if_neg (by simp only [cg];omega),EG fC,EG hp]
       split
       ·rename_i e
        have:p=0:=aa
        rw [ha,this];exact h.2
       ·split
        ·rename_i e
         rw [FW,ni]at e
         have:fT l p j=0:=aa
         show(aS _ _).1.seen=S
         rw [e1,this];exact h.2
        ·exact h.2
variable {P:aw} {a:Int}
theorem agv(t:Tree c l ss)(s:uE c l ss a i P)(h4:0<c9 c.leaf c.aT (ai l a) (aZ l a i) i)(hs:0≤S)(h:vM S l):
  vM S (dP l (eC c.leaf c.aT (ai l a) (aZ l a i) i).1 (eC c.leaf c.aT (ai l a) (aZ l a i) i).2.1):=by
 obtain⟨T,p⟩:=s.QF t h4
 have hp:=t.pos
 have hn:=s.n
 have tk:=zV p.may p.po
 obtain⟨⟨xl,zS,exl⟩,_⟩:=IU tk.ub p.po.ne
 have hm:xl∈aB (aq l P i.toNat).s P.n.aj:=by rw [p.qc];exact fK _ zS
 obtain⟨m,hm,e⟩:=gX hm
 obtain⟨j,hj,rfl⟩:=cj hm
 have h5:=(p.QL.2.2.2.2.2.2 j hj).1
 have h6:=Gt h.1 hs a
 rw [←hn]at h6
 have h7:=p.al.2.2.2.2.2.2.2.1
 have h8:=p.po.seen
 have hx:0≤(eC c.leaf c.aT (ai l a) (aZ l a i) i).1.slot∧(eC c.leaf c.aT (ai l a) (aZ l a i) i).1.slot<l.length:=by rw [p.al.1];exact p.sin p.mem
 have hk0:=(uV t s).1
 have hy:(eC c.leaf c.aT (ai l a) (aZ l a i) i).2.1.slot=(aZ l a i).slot:=p.bl.1.trans (by rw [s.Iw])
 have hy2:0≤(eC c.leaf c.aT (ai l a) (aZ l a i) i).2.1.slot:=by rw [p.bl.1];exact(p.sin p.km.1).1
 unfold dP
 refine⟨xD (xD h.1 (by rw [h7];exact h6)) (by rw [h8,exl,e];exact Hn h5 h6),?_⟩
 rw [EG (by rw [cg];exact hp),if_neg aa,EG hp]
 split
 ·rename_i e0
  rw [h7]
  have e1:=p.al.1
  have:P.n.slot=0:=aa
  have e2:P.n=ai l 0:=by have:=(t.nd p.mem).2.1;rw [‹P.n.slot=0›]at this;exact this
  rw [e2];exact h.2
 ·exact h.2
theorem agw(t:Tree c l ss)(ha:0≤a∧a<l.length)(k:af)(hs:0≤S)(h:vM S l):vM S (cU c l a k).2:=by
 rcases fj c (ai l a) k with h1|h1|⟨h1,_⟩
 ·rw [nZ h1];exact h
 ·have hl:=QX t hs h
  by_cases h3:(dJ c l).1=0
  ·rw [ph h1 h3];exact hl
  ·rw [pi h1 h3];exact hl
 ·obtain⟨h0,hi⟩:=kK t ha h1
  obtain⟨P,s⟩:=nm t ha h0 hi
  rw [n6 h1]
  generalize (bI c (ai l a) k).2=i at*
  rcases eT c (ai l a) (aZ l a i) i with hd|hd|⟨hd,KX⟩|hd
  ·rw [uh hd];exact h
  ·have hl:=agu t (p:=a) (i:=i) hs h
   by_cases h3:(dx c l a i).1=0
   ·rw [sS hd h3];exact hl
   ·rw [sU hd h3];exact hl
  ·rw [j4 hd];exact agv t s KX hs h
  ·rw [sW hd];exact h
theorem K2{k:af}{S:Int}(hs:0≤S):∀(m:Nat) {l:List Nd} {ss:List aw} {a n:Int} {r:Int×Int×List Nd},Tree c l ss→0≤a∧a<l.length→vM S l→n7 c k m l a n=some r→vM S r.2.2
 |0,_,_,_,_,_,_,_,_,h=>by cases h
 |m+1,l,ss,a,n,r,t,ha,hq,h=>by
  obtain⟨T,hT,_⟩:=lL t ha k
  have mA:=m6 t ha k
  have QU:=agw t ha k hs hq
  by_cases h1:(cU c l a k).1.1=0
  ·rw [jk h1]at h
   cases h
   exact QU
  ·by_cases h2:(cU c l a k).1.1=5
   ·rw [mc h2]at h;exact K2 hs m hT mA QU h
   ·rw [ke h1 h2]at h;exact K2 hs m hT mA QU h
variable {k:Int}
theorem Grown.q(h:Grown c k l):vM (ai l 0).seen l:=⟨h.all,rfl⟩
theorem Grown.of(h:vM S l)(h1:S≤k)(h0:0≤S)(hv:(uX c l:Int)≤1+k)(hf:vL c l):Grown c k l:=⟨by rw [h.2];exact h.1,by rw [h.2];exact h1,by rw [h.2];exact h0,hv,hf⟩
theorem Grown.lift(t:Tree c l ss)(h:Grown c k l)(hl:(ai l 0).level=0→c.leaf≤((ai l 0).rows.length:Int))(h0:(ai l 0).level=0):Grown c k (dJ c l).2:=Grown.of (QX t h.pos h.q) h.le h.pos (by have:=U1 t hl;have:=h.val;omega) (QV t h.fill fun h9=>absurd h0 h9)
theorem Grown.cyc{q:af}{m:Nat}{r:Int×Int×List Nd}(t:Tree c l ss)(h:Grown c k l)(hr:n7 c q m l 0 0=some r):Grown c k r.2.2:=Grown.of (K2 h.pos m t ⟨eI _,by have:=t.pos;omega⟩ h.q hr) h.le h.pos (by have:=QT m t ⟨eI _,by have:=t.pos;omega⟩ hr;have:=h.val;omega) (K0 m t h.fill ⟨eI _,by have:=t.pos;omega⟩ hr)
def yE:Nat:=9000^12
noncomputable def QY (c:aX) (n:Nd):Nat:=if n.level=0 then 0 else De c n*9000^n.level.toNat
noncomputable def U6 (c:aX) (l:List Nd):Nat:=(l.map (QY c)).sum
noncomputable def K3 (c:aX) (l:List Nd):Nat:=(c.bp.toNat-l.length)*(4097*yE)+U6 c l
theorem Tree.low(t:Tree c l ss):∀x∈ss,x.n.level≤11:=by
 have h:∀x∈ss,x.n.level≤11:=t.ind t.Iz fun x hx h0 hl j hj=>by
  have:=(t.at hx h0 hj).2.2.2
  omega
 exact h
theorem Tree.aCT(t:Tree c l ss){n:Nd}(hn:n∈l):QY c n<yE:=by
 have:=(t.perm.mem_iff).2 hn
 obtain⟨x,hx,rfl⟩:=cB.1 this
 unfold QY
 split
 ·exact NU aa
 ·rename_i h0
  have h1:=XY t.kd (t.inner hx h0)
  have h2:=t.low x hx
  have h3:9000^x.n.level.toNat≤9000^11:=Nat.pow_le_pow_right aa aa
  have h4:De c x.n*9000^x.n.level.toNat≤8256*9000^11:=Nat.mul_le_mul h1 h3
  have h5:(8256:Nat)*9000^11<yE:=by unfold yE;decide
  exact Nat.lt_of_le_of_lt h4 h5
theorem abS{f:Nd→Nat}{b:Nat} :∀ {l:List Nd},(∀n∈l,f n<b)→(l.map f).sum≤l.length*b
 |[],_=>by simp
 |n::l,h=>by
  have h1:=h n (by simp)
  have h2:=abS (l:=l) fun x hx=>h x (dk _ hx)
  rw [cA,mH,jo,fz]
  omega
theorem Tree.ayt(t:Tree c l ss):U6 c l<4097*yE:=by
 have h1:=abS (f:=QY c) (b:=yE) (l:=l) fun n hn=>t.aCT hn
 have h2:=t.C2.1
 have h3:l.length*yE≤4096*yE:=ic _ h2
 have h4:0<yE:=NU aa
 unfold U6
 have h5:4097*yE=4096*yE+yE:=by rw [←NQ]
 omega
theorem QZ{l':List Nd}{T:List aw}(t':Tree c l' T)(h:l.length<l'.length):K3 c l'<K3 c l:=by
 have h1:=t'.ayt
 have h2:=t'.q.1.2.2
 unfold K3
 have h3:(c.bp.toNat-l'.length+1)*(4097*yE)≤(c.bp.toNat-l.length)*(4097*yE):=ic _ aa
 rw [fz]at h3
 omega
theorem arT(t:Tree c l ss)(s:uE c l ss a i P)(h4:0<c9 c.leaf c.aT (ai l a) (aZ l a i) i):
  K3 c (dP l (eC c.leaf c.aT (ai l a) (aZ l a i) i).1 (eC c.leaf c.aT (ai l a) (aZ l a i) i).2.1)<K3 c l:=by
 obtain⟨T,p⟩:=s.QF t h4
 have hf:i.toNat<c.fan.toNat:=by
  have h1:=s.hi
  have h2:=p.QL.1.2.2
  omega
 have ko:=sY.abL p.po p.rt.1 hf
 have hm:=(K4 p.may p.po).1
 generalize (eC c.leaf c.aT (ai l a) (aZ l a i) i).1=x at*
 generalize (eC c.leaf c.aT (ai l a) (aZ l a i) i).2.1=y at*
 have hx:0≤x.slot∧x.slot<l.length:=by rw [p.al.1];exact p.sin p.mem
 have hy:0≤y.slot∧y.slot<l.length:=by rw [p.bl.1];exact p.sin p.km.1
 have ig:x.slot.toNat≠y.slot.toNat:=by
  have:=p.KV
  rw [←p.al.1,←p.bl.1]at this
  omega
 have zS:x.slot.toNat<l.length:=aa
 have hyl:y.slot.toNat<(l.set x.slot.toNat x).length:=by rw [cg];omega
 have e1:=s8 (f:=QY c) zS x
 have e2:=s8 (f:=QY c) hyl y
 have gx:l[x.slot.toNat]=P.n:=by
  have h:=(t.nd p.mem).2.1
  rw [ly (p.sin p.mem)]at h
  have h2:=p.al.1
  simp only [h2]
  exact h.symm
 have gy:(l.set x.slot.toNat x)[y.slot.toNat]=(aq l P i.toNat).n:=by
  rw [qH ig]
  have h:=(t.nd p.km.1).2.1
  rw [ly (p.sin p.km.1)]at h
  have h2:=p.bl.1
  simp only [h2]
  exact h.symm
 rw [gx]at e1
 rw [gy]at e2
 have w1:QY c x+9000^P.n.level.toNat≤QY c P.n:=by
  unfold QY
  rw [p.al.2.1,if_neg p.h0,if_neg p.h0]
  have:=ic (9000^P.n.level.toNat) ko
  rw [fz,NV]at this
  exact this
 have w2:QY c y<9000^P.n.level.toNat:=by
  unfold QY
  split
  ·exact NU aa
  ·rename_i h0
   have hI:y.pe c.fan c.aT:=by have h:=hm.1.2.1.2.2.2;rwa [if_neg h0]at h
   have h1:=XY t.kd hI
   have h2:=p.km.2
   have h3:=p.bl.2.1
   have h5:=t.lvl p.km.1
   have h6:=t.lvl p.mem
   have h7:P.n.level.toNat=y.level.toNat+1:=aa
   rw [h7,Nat.pow_succ]
   have h8:0<9000^y.level.toNat:=NU aa
   have h9:=ic (9000^y.level.toNat) h1
   omega
 have hlen:(dP l x y).length=l.length:=p.len
 unfold K3
 rw [hlen]
 have:U6 c (dP l x y)<U6 c l:=by
  unfold U6 dP
  omega
 omega
theorem arU(t:Tree c l ss)(ha:0≤a∧a<l.length)(k:af)(h1:¬(cU c l a k).1.1=0)(h2:¬(cU c l a k).1.1=5):K3 c (cU c l a k).2<K3 c l:=by
 obtain⟨T,hT,_⟩:=lL t ha k
 rcases fj c (ai l a) k with h|h|⟨h,_⟩
 ·rw [nZ h]at h1;exact absurd rfl h1
 ·by_cases h3:(dJ c l).1=0
  ·rw [ph h h3]at hT⊢
   refine QZ hT ?_
   unfold dJ at h3⊢
   split at h3
   ·cases h3
   ·rename_i h4
    rw [if_neg h4]
    split at h3
    ·cases h3
    ·rename_i h5
     rw [if_neg h5]
     unfold jJ
     simp
  ·rw [pi h h3]at h1;exact absurd rfl h1
 ·obtain⟨h0,hi⟩:=kK t ha h
  obtain⟨P,s⟩:=nm t ha h0 hi
  rw [n6 h]at h1 h2 hT⊢
  generalize (bI c (ai l a) k).2=i at*
  rcases eT c (ai l a) (aZ l a i) i with hd|hd|⟨hd,KX⟩|hd
  ·rw [uh hd]at h1;exact absurd rfl h1
  ·by_cases h3:(dx c l a i).1=0
   ·rw [sS hd h3]at hT⊢
    refine QZ hT ?_
    unfold dx at h3⊢
    split at h3
    ·cases h3
    ·rename_i h4
     rw [if_neg h4]
     unfold m5 at h3⊢
     split at h3
     ·cases h3
     ·rename_i h5
      rw [if_neg h5]
      split at h3
      ·cases h3
      ·rename_i h6
       rw [if_neg h6]
       split at h3
       ·cases h3
       ·rename_i h7
        rw [if_neg h7]
        split at h3
        ·cases h3
        ·rename_i h8
         rw [if_neg h8]
         unfold BZ
         simp
   ·rw [sU hd h3]at h1;exact absurd rfl h1
  ·rw [j4 hd];exact arT t s KX
  ·rw [sW hd]at h2;exact absurd rfl h2
theorem MD(h:¬(dx c l p i).1=0):(dx c l p i).2=l:=by
 unfold dx at h⊢
 split at h
 ·rename_i h4;rw [if_pos h4]
 ·rename_i h4
  rw [if_neg h4]
  unfold m5 at h⊢
  split at h
  ·rename_i h5;rw [if_pos h5]
  ·rename_i h5
   rw [if_neg h5]
   split at h
   ·rename_i h6;rw [if_pos h6]
   ·rename_i h6
    rw [if_neg h6]
    split at h
    ·rename_i h7;rw [if_pos h7]
    ·rename_i h7
     rw [if_neg h7]
     split at h
     ·rename_i h8;rw [if_pos h8]
     ·exact absurd rfl h
theorem ME(h:¬(dJ c l).1=0):(dJ c l).2=l:=by
 unfold dJ at h⊢
 split at h
 ·rename_i h4;rw [if_pos h4]
 ·rename_i h4
  rw [if_neg h4]
  split at h
  ·rename_i h5;rw [if_pos h5]
  ·exact absurd rfl h
variable {k:af}
theorem abT(t:Tree c l ss)(ha:0≤a∧a<l.length)(h1:(cU c l a k).1.1=0):(cU c l a k).2=l:=by
 rcases fj c (ai l a) k with h|h|⟨h,_⟩
 ·rw [nZ h]
 ·by_cases h3:(dJ c l).1=0
  ·rw [ph h h3]at h1;cases h1
  ·rw [pi h h3];exact ME h3
 ·rw [n6 h]at h1⊢
  generalize (bI c (ai l a) k).2=i at*
  rcases eT c (ai l a) (aZ l a i) i with hd|hd|⟨hd,KX⟩|hd
  ·rw [uh hd]
  ·by_cases h3:(dx c l a i).1=0
   ·rw [sS hd h3]at h1;cases h1
   ·rw [sU hd h3];exact MD h3
  ·rw [j4 hd]at h1;cases h1
  ·rw [sW hd]
theorem agx(t:Tree c l ss)(ha:0≤a∧a<l.length)(h1:(cU c l a k).1.1=5):(cU c l a k).2=l:=by
 rcases fj c (ai l a) k with h|h|⟨h,_⟩
 ·rw [nZ h]
 ·by_cases h3:(dJ c l).1=0
  ·rw [ph h h3]at h1;cases h1
  ·rw [pi h h3];exact ME h3
 ·rw [n6 h]at h1⊢
  generalize (bI c (ai l a) k).2=i at*
  rcases eT c (ai l a) (aZ l a i) i with hd|hd|⟨hd,KX⟩|hd
  ·rw [uh hd]
  ·by_cases h3:(dx c l a i).1=0
   ·rw [sS hd h3]at h1;cases h1
   ·rw [sU hd h3];exact MD h3
  ·rw [j4 hd]at h1;cases h1
  ·rw [sW hd]
theorem X3{k:af} :∀(m:Nat) {l:List Nd} {ss:List aw} {a n:Int} {r:Int×Int×List Nd},Tree c l ss→0≤a∧a<l.length→n7 c k m l a n=some r→(n<r.1→K3 c r.2.2<K3 c l)∧(r.1≤n→r.2.2=l)
 |0,_,_,_,_,_,_,_,h=>by cases h
 |m+1,l,ss,a,n,r,t,ha,h=>by
  obtain⟨T,hT,_⟩:=lL t ha k
  have mA:=m6 t ha k
  by_cases h1:(cU c l a k).1.1=0
  ·rw [jk h1]at h
   cases h
   refine⟨fun e=>absurd e (Int.lt_irrefl _),fun _=> ?_⟩
   exact abT t ha h1
  ·by_cases h2:(cU c l a k).1.1=5
   ·have kq:=agx t ha h2
    rw [mc h2]at h
    rw [kq]at h hT mA
    exact X3 m hT mA h
   ·have hmu:=arU t ha k h1 h2
    rw [ke h1 h2]at h
    have ih:=X3 m hT mA h
    have hmo:=wV m h
    refine⟨fun _=> ?_,fun e=>by omega⟩
    by_cases h3:n+1<r.1
    ·exact Nat.lt_trans (ih.1 h3) hmu
    ·rw [ih.2 aa];exact hmu
end
theorem ajE(aT:Int)(ms:List aD)(m:aD):(B1 aT ms m).2=fX aT ms m:=Q0 aT ms m
theorem aG9{aT:Int}{ms:List aD}{m:aD}(h:fX aT ms m=true):(B1 aT ms m).1=ms++[m]:=by rw [EH h]
noncomputable def wb (c:aX) (l:List Nd) (o:bx):Nd:=
 if(ai l 0).level=0 then { ai l 0 with rows:=(mZ (ai l 0).rows (o.msg ((ai l 0).seen+1)) c.leaf).1,seen:=(ai l 0).seen+(if(dD c l o).2.1=0 then 1 else 0) }
 else { ai l 0 with aj:=(B1 c.aT (ai l 0).aj (o.msg ((ai l 0).seen+1))).1,seen:=(ai l 0).seen+(if(dD c l o).2.1=0 then 1 else 0) }
section
variable {c:aX} {l:List Nd} {ss:List aw} {o:bx}
theorem X4(h:(ai l 0).level=0)(e:(dD c l o).2.1=0):wb c l o={ ai l 0 with rows:=(mZ (ai l 0).rows (o.msg ((ai l 0).seen+1)) c.leaf).1,seen:=(ai l 0).seen+1 } :=by unfold wb;rw [if_pos h,if_pos e]
theorem ajF(h:(ai l 0).level=0)(e:¬(dD c l o).2.1=0):wb c l o={ ai l 0 with rows:=(mZ (ai l 0).rows (o.msg ((ai l 0).seen+1)) c.leaf).1,seen:=(ai l 0).seen } :=by unfold wb;rw [if_pos h,if_neg e,Int.add_zero]
theorem X5(h:¬(ai l 0).level=0)(e:(dD c l o).2.1=0):wb c l o={ ai l 0 with aj:=(B1 c.aT (ai l 0).aj (o.msg ((ai l 0).seen+1))).1,seen:=(ai l 0).seen+1 } :=by unfold wb;rw [if_neg h,if_pos e]
theorem ajG(h:¬(ai l 0).level=0)(e:¬(dD c l o).2.1=0):wb c l o={ ai l 0 with aj:=(B1 c.aT (ai l 0).aj (o.msg ((ai l 0).seen+1))).1,seen:=(ai l 0).seen } :=by unfold wb;rw [if_neg h,if_neg e,Int.add_zero]
theorem ayu(e:(dD c l o).2.1=0):wb c l o=X0 l o:=by
 by_cases h:(ai l 0).level=0
 ·rw [X4 h e,abO h]
  cases hf:eD (ai l 0).rows (o.msg ((ai l 0).seen+1)) c.leaf
  ·rw [xB h hf]at e;cases e
  ·rw [aCS hf];rfl
 ·rw [X5 h e,abP h]
  cases hf:fX c.aT (ai l 0).aj (o.msg ((ai l 0).seen+1))
  ·rw [xC h hf]at e;cases e
  ·rw [aG9 hf];rfl
theorem U7:(wb c l o).slot=(ai l 0).slot:=by unfold wb;split<;>rfl
theorem am6(e:(dD c l o).2.1=0):(wb c l o).seen=(dD c l o).1:=by rw [(U3 e).2];unfold wb;split<;>simp [e]
theorem am7(t:Tree c l ss)(e:(dD c l o).2.1=0):l.set (wb c l o).slot.toNat (wb c l o)=(dD c l o).2.2:=by
 rw [(U3 e).1,U7,ayu e,(cZ t.slot ⟨eI _,by have:=t.pos;omega⟩).1];rfl
end
def oR (te tB ti tb TS TT bt bs:Nat) (c:aX) (G:GH) (X:List Nd×af) (M:MH):Prop:=∃Ms,M=(bt,.cells (List.toArray [.pointer (some ⟨bs,0,none⟩),.string X.2.b]) TT (0,0))::Ms∧cz te tB ti tb TS bs c G X.1 Ms
theorem oR.mono{te tB ti tb TS TT bt bs:Nat}{c:aX}{G G':GH}{X:List Nd×af}{M:MH}(hl:Le G G')(h:oR te tB ti tb TS TT bt bs c G X M):oR te tB ti tb TS TT bt bs c G' X M:=by
 obtain⟨Ms,h1,h2⟩:=h;exact⟨Ms,h1,h2.mono hl⟩
section
variable {c:aX} {l l':List Nd} {ss:List aw} {o:bx} {k:Int} {q:af} {e:Int}
def X6 (n:Nd):Bool:=decide ((0:Int)<(n.aj.length:Int))
def yF (l:List Nd):Bool:=l.all fun n=> !X6 n
theorem agy(l:List Nd):(!decide ((0:Int)≤kz X6 l))=yF l:=by
 rcases uR X6 l with⟨h,h2⟩|⟨k,hk,h,h2,_⟩
 ·rw [h]
  have:yF l=true:=ym.2 fun x hx=>by rw [h2 x hx];rfl
  rw [this];rfl
 ·rw [h]
  have:yF l=false:=Bool.eq_false_iff.2 fun hq=>by
   have:=ym.1 hq l[k] (bN hk)
   rw [h2]at this;cases this
  rw [this];simp
def agz (c:aX) (l:List Nd) (q:af) (e:Int) (l':List Nd):Prop:=
 ((ai l 0).level=0∧e=(dJ c l).1∧l'=(dJ c l).2)∨
 (¬(ai l 0).level=0∧∃N r,n7 c q N l 0 0=some r∧l'=r.2.2∧e=(if 0<r.1 then 0 else if r.2.1=0 then 4 else r.2.1))
theorem am8(h:(dJ c l).1=0):l.length<(dJ c l).2.length:=by
 unfold dJ at h⊢
 split at h
 ·cases h
 ·rename_i h4
  rw [if_neg h4]
  split at h
  ·cases h
  ·rename_i h5
   rw [if_neg h5]
   unfold jJ
   simp
theorem U8(t:Tree c l ss)(ho:o.R)(h4:o.kind≤4)(hg:Grown c k l)(hf:¬(dD c l o).2.1=0)(h:agz c l q e l'):
  (∃T,Tree c l' T)∧bM l'=bM l∧Grown c k l'∧(e=0→K3 c l'<K3 c l)∧(¬e=0→e=4∧c.bp-(l'.length:Int)<2):=by
 obtain⟨_,hl,hi⟩:=am4 t ho h4 hg hf
 rcases h with⟨h0,rfl,rfl⟩|⟨h0,N,r,hr,rfl,rfl⟩
 ·obtain⟨T,hT,hm⟩:=UP t
  refine⟨⟨T,hT⟩,hm,hg.lift t hl h0,fun h1=>QZ hT (am8 h1),fun h1=> ?_⟩
  rcases U5 t (U4 (k:=q) t (.inr ⟨h0,by have h8:=hl h0;have h9:=t.kd.2.1.1;omega⟩))with h2|⟨h2,h3⟩
  ·exact absurd h2 h1
  ·rw [h2];exact⟨rfl,h3⟩
 ·have ha:(0:Int)≤0∧(0:Int)<l.length:=⟨eI _,by have:=t.pos;omega⟩
  obtain⟨T,hT,hm⟩:=zQ N t ha hr
  have hmu:=X3 N t ha hr
  have her:=IS N t ha hr
  refine⟨⟨T,hT⟩,hm,hg.cyc t hr,fun h1=> ?_,fun h1=> ?_⟩
  ·by_cases h2:0<r.1
   ·exact hmu.1 h2
   ·rw [if_neg h2]at h1
    split at h1
    ·cases h1
    ·rename_i h3;exact absurd h1 h3
  ·by_cases h2:0<r.1
   ·rw [if_pos h2]at h1;exact absurd rfl h1
   ·rw [if_neg h2]
    rcases agi t (hi h0) hr with h3|h3
    ·exact absurd h3 h2
    ·rw [if_neg aa]
     rcases her with h5|⟨h5,h6⟩
     ·omega
     ·exact⟨h5,h6⟩
structure WrP (c:aX) (k:Int) (o:bx) (l:List Nd) (e:Int) (l':List Nd):Prop where
 t:∃T,Tree c l' T
 g:Grown c (k+1) l'
 r:(e=0∧bM l'=takeN (bM l) (o.msg 1))∨(e=4∧bM l'=bM l∧c.bp-(l'.length:Int)<2)
 x:(dD c l o).2.1=0→l'=(dD c l o).2.2∧e=0
theorem Grown.up{k':Int}(h:Grown c k l)(hk:k≤k'):Grown c k' l:=⟨h.all,by have:=h.le;omega,h.pos,by have:=h.val;omega,h.fill⟩
variable {l0:List Nd}
theorem WrP.ok(t:Tree c l ss)(ho:o.R)(h4:o.kind≤4)(hg:Grown c k l)(hk:k<1099511627776)(hm:bM l=bM l0)(hx:l=l0∨¬(dD c l0 o).2.1=0)(h:(dD c l o).2.1=0):WrP c k o l0 0 (dD c l o).2.2:=by
 obtain⟨h1,h2,h3,_,_⟩:=ayr t ho h4 hg hk h
 exact⟨h1,h3,.inl ⟨rfl,by rw [h2,hm]⟩,fun h0=>hx.elim (fun e=>by subst e;exact⟨rfl,rfl⟩) fun hn=>absurd h0 hn⟩
theorem WrP.no(t:Tree c l ss)(ho:o.R)(h4:o.kind≤4)(hg:Grown c k l)(hm:bM l=bM l0)(hx:l=l0∨¬(dD c l0 o).2.1=0)(hf:¬(dD c l o).2.1=0)(h:agz c l q e l')(he:¬e=0):WrP c k o l0 e l':=by
 obtain⟨h1,h2,h3,_,h5⟩:=U8 t ho h4 hg hf h
 exact⟨h1,h3.up aa,.inr ⟨(h5 he).1,by rw [h2,hm],(h5 he).2⟩,fun h0=>hx.elim (fun e=>absurd (e▸h0) hf) fun hn=>absurd h0 hn⟩
structure Dg (c:aX) (k:Int) (o:bx) (l:List Nd) (a:X7) (l':List Nd):Prop where
 t:∃T,Tree c l' T
 g:Grown c (k+1) l'
 r:(a=(qU (bM l) o).2∧bM l'=(qU (bM l) o).1)∨(a=⟨4,false,af.nil,[]⟩∧bM l'=bM l∧o.kind≤4∧(qU (bM l) o).2.err=0∧c.bp-(l'.length:Int)<2)
 x:o.R→o.kind≤4→(dD c l o).2.1=0→l'=(dD c l o).2.2∧a=⟨0,false,af.nil,[]⟩
 z:4<o.kind→l'=l
theorem Dg.bad(t:Tree c l ss)(hg:Grown c k l)(h:¬o.R):Dg c k o l ⟨3,false,af.nil,[]⟩ l:=⟨⟨_,t⟩,hg.up aa,.inl (by rw [arV h];exact⟨rfl,rfl⟩),fun hR=>absurd hR h,fun _=>rfl⟩
theorem Dg.get(t:Tree c l ss)(hg:Grown c k l)(h:o.R)(h5:o.kind=5):Dg c k o l ⟨0,(bz (bM l) o.key).isSome,(bz (bM l) o.key).getD af.nil,[]⟩ l:=⟨⟨_,t⟩,hg.up aa,.inl (by rw [arW h h5];exact⟨rfl,rfl⟩),fun _ h4=>absurd h4 aa,fun _=>rfl⟩
theorem Dg.scan(t:Tree c l ss)(hg:Grown c k l)(h:o.R)(h6:o.kind=6):Dg c k o l ⟨0,false,af.nil,fe (bM l) o.span o.lim⟩ l:=⟨⟨_,t⟩,hg.up aa,.inl (by rw [arX h h6];exact⟨rfl,rfl⟩),fun _ h4=>absurd h4 aa,fun _=>rfl⟩
theorem Dg.wr{l':List Nd}(h:o.R)(h5:¬o.kind=5)(h6:¬o.kind=6)(hw:WrP c k o l e l'):Dg c k o l ⟨e,false,af.nil,[]⟩ l':=by
 have h7:o.kind≤4:=by have h8:=h.1.1;have h9:=h.1.2.1;omega
 refine⟨hw.t,hw.g,?_,fun _ _ h0=>⟨(hw.x h0).1,by rw [(hw.x h0).2]⟩,fun h8=>absurd h8 aa⟩
 rw [agA h h5 h6]
 rcases hw.r with⟨rfl,h1⟩|⟨rfl,h1,h2⟩
 ·exact .inl ⟨rfl,h1⟩
 ·exact .inr ⟨rfl,h1,h7,rfl,h2⟩
end
structure A7 where
 o:bx
 fl:Int
instance : Inhabited A7 := ⟨⟨default, 0⟩⟩
def ayv (cs:List Value) (x:A7):Prop:=cs=[.int .i64 x.o.kind,.string x.o.key.b,.string x.o.hi.b,.bool x.o.bQ,.string x.o.val.b,.int .i64 x.o.lim,.int .i64 x.fl]∧x.o.Ok∧i64 x.fl
def X8:fB A7 where
 k:=7
 w:=80
 R:=fun _ cs x=>ayv cs x
 mono:=fun _ h=>h
 len:=fun h=>by rw [h.1];rfl
 one:=fun h u hu=>by rw [h.1]at hu;simp at hu;rcases hu with rfl|rfl|rfl|rfl|rfl|rfl|rfl<;>rfl
theorem afP{P:Program}{t i tn:TypeId}(ht:xE P t=some [(tn,0,6),(i,6,1)])(hi:P.underlying i=some (.int .i64))(hn:Ya P tn eOp)(hc:P.cellsOf t=7):Ya P t X8:=by
 intro H enc w dS cs x h hw
 obtain⟨hl,hf⟩:=K5 ht h hw
 obtain⟨y0,n0,t0,w0⟩:=hf 0 _ _ _ rfl
 obtain⟨y1,n1,t1,w1⟩:=hf 1 _ _ _ rfl
 obtain⟨a0,e0,q0⟩:=hn enc w n0 _ y0 t0 w0
 obtain⟨a1,e1,q1⟩:=uY hi t1 w1
 rw [hc]at hl
 match cs,hl with
 |[_,_,_,_,_,_,_],_=>
  simp at e0 e1
  obtain⟨e2,e3,e4,e5,e6,e7⟩:=e0
  subst e1 e2 e3 e4 e5 e6 e7
  exact⟨⟨a0,a1⟩,rfl,q0,q1⟩
def IV (l:List A7):Int:=(l.map fun a=>max 0 a.fl).sum
theorem am9{l:List A7}{k:Nat}(hk:k<l.length):IV (l.take (k+1))=IV (l.take k)+max 0 l[k].fl:=by
 unfold IV
 rw [iA hk,bU,NG]
 simp
theorem arY(l:List A7):0≤IV l:=by
 unfold IV
 induction l with
 |nil=>simp
 |cons a l ih=>rw [cA,mH];omega
def aAw (l:List A7):Prop:=l.length≤100∧(∀a∈l,(a.o.key.b.size:Int)≤300∧(a.o.hi.b.size:Int)≤300∧(a.o.val.b.size:Int)≤300∧a.fl≤20)∧IV l≤200
section
variable {c:aX} {l l':List Nd} {ss:List aw} {o:bx} {k:Int} {q:af} {a:X7}
theorem arZ(m:List aG)(o:bx):(qU m o).2.err=0∨(qU m o).2.err=3:=by
 unfold qU
 split
 ·exact .inr rfl
 ·split
  ·exact .inl rfl
  ·split<;>exact .inl rfl
theorem Dg.full(h:Dg c k o l a l')(e:a.err=4):a=⟨4,false,af.nil,[]⟩∧bM l'=bM l∧o.kind≤4∧(qU (bM l) o).2.err=0∧c.bp-(l'.length:Int)<2:=by
 rcases h.r with⟨h1,_⟩|h1
 ·rw [h1]at e
  have:=arZ (bM l) o
  omega
 ·exact h1
theorem Dg.MF(h:Dg c k o l a l')(e:¬a.err=4):a=(qU (bM l) o).2∧bM l'=(qU (bM l) o).1:=by
 rcases h.r with h1|⟨h1,_⟩
 ·exact h1
 ·exact absurd (by rw [h1]) e
theorem U9(hc:lY c):Tree c [lZ 0] [C5 (lZ 0)]:=by
 have hR:(lZ 0).R c.fan c.leaf c.aT:=by
  obtain⟨_,⟨h1,_⟩,_⟩:=hc
  refine⟨⟨by decide,by decide,by decide⟩,fun _=>⟨rfl,rfl⟩,fun h=>(by cases h),?_⟩
  rw [if_pos (show(lZ 0).level=0 from rfl)]
  refine⟨rfl,by show(0:Int)≤_;omega,(fun i h=>absurd h (qJ i)),fun i hi=>absurd hi (qJ i)⟩
 exact UL hc rfl rfl (by decide) hR rfl (Gr hc hR)
theorem abU:bM [lZ 0]=[]:=Qu (n:=lZ 0) rfl rfl (by decide)
theorem Q1:Grown c 0 [lZ 0]:=⟨fun n hn=>by simp at hn;subst hn;exact eI _,eI _,eI _,by
 have:uX c [lZ 0]=1:=by
  show kS c (lZ 0)+0=1
  rw [wH (show(lZ 0).level=0 from rfl)]
  show 1+(0-_)+0=1
  omega
 omega,fun n hn=>by simp at hn;subst hn;exact .inl rfl⟩
theorem agB{N:Nat}{r:Int×Int×List Nd}(t:Tree c l ss)(hg:Grown c k l)(hr:n7 c q N l 0 0=some r):(∃T,Tree c r.2.2 T)∧bM r.2.2=bM l∧Grown c k r.2.2∧(r.2.1=0∨(r.2.1=4∧c.bp-(r.2.2.length:Int)<2)):=by
 have ha:(0:Int)≤0∧(0:Int)<l.length:=⟨eI _,by have:=t.pos;omega⟩
 obtain⟨T,hT,hm⟩:=zQ N t ha hr
 exact⟨⟨T,hT⟩,hm,hg.cyc t hr,IS N t ha hr⟩
end
section
variable {c:aX} {l:List Nd} {ss:List aw} {k:af}
def ar0 (ss:List aw) (cur:af):Prop:=∀x∈ss,x.s.lo.lt cur=true→x.n.aj=[]
end
section
variable {c:aX} {l l':List Nd} {ss:List aw} {k cur:af}
noncomputable def spL (l:List Nd):List Span:=(ck ((sv l 0).getD [])).map fun x=>x.s
noncomputable def aHa (l:List Nd) (cur:af):Nat:=((spL l).filter fun s=> !s.bQ&& !cur.lt s.hi).length
end
section
variable {c:aX} {l0 l:List Nd} {ss:List aw} {k cur:af} {did:Int}
noncomputable def aCU (l:List Nd) (cur:af):af:=if(cG l cur).s.bQ=true then af.nil else(cG l cur).s.hi
noncomputable def aHb (l:List Nd) (cur:af):Int:=if cur=af.nil then 4097 else(aHa l cur:Nat)
structure DrI (c:aX) (l0 l:List Nd) (cur:af) (did:Int):Prop where
 t:∃T,Tree c l T
 m:bM l=bM l0
 g:∀k,Grown c k l0→Grown c k l
 d0:0≤did
 db:did≤200001*((l.length:Int)*5000+aHb l cur+1)
 cl:did=0→c.bp-(l.length:Int)<2∨∀ss,Tree c l ss→if cur=af.nil then ∀x∈ss,x.n.aj=[]else ar0 ss cur
structure DrP (c:aX) (l:List Nd) (e:Int) (l':List Nd):Prop where
 t:∃T,Tree c l' T
 m:bM l'=bM l
 g:∀k,Grown c k l→Grown c k l'
 r:(e=0∧yF l'=true)∨(e=4∧yF l'=false∧c.bp-(l'.length:Int)<2)
end
end Go.Fw
