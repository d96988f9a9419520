/- Messages that are moved on from a node to its kid. Plain Lean; nothing of the program is named here. No condition. -/
import Derived.Test.YthhpfadbojfdnaaGreatQiNc
set_option linter.unusedVariables false
set_option linter.unusedSimpArgs false
set_option linter.unnecessarySimpa false

namespace Go.Fw
open Go Go.RowKit
def xi (m:aD):Bool:=decide (m.kind=4)
def aM (l:List aD):List aD:=if kz xi l= -1 then l else if kz xi l=0 then l.take 1 else l.take (kz xi l).toNat
def uU (P:List af) (i:Int) (m:aD):Option aD:=if((ae P m.key:Nat):Int)=i∧(m.clip (aA P i)).2=true then some (m.clip (aA P i)).1 else none
def aJ (P:List af) (l:List aD) (i:Int):List aD:=(aM l).filterMap (uU P i)
def aD.zero:aD:=⟨0,0,af.nil,af.nil,false,af.nil⟩
def bw (m:aD) (s:Span):aD×Bool:=if s.bQ=true then(aD.zero,false)else m.clip ⟨s.hi,af.nil,true⟩
def kY (P:List af) (i:Int) (T:List aD) (m:aD):Option aD:=
 if m.aW∈T.map aD.aW then(if m.kind=4∧(bw m (aA P i)).2=true then some (bw m (aA P i)).1 else none)else some m
def dC (P:List af) (i:Int) (T:List aD) (l:List aD):List aD:=l.filterMap (kY P i T)
theorem IW(P:List af)(i:Int)(T A B:List aD):dC P i T (A++B)=dC P i T A++dC P i T B:=Hk
theorem A8{P:List af}{i:Int}{T:List aD} :∀ {l:List aD},(∀m∈l,¬m.aW∈T.map aD.aW)→dC P i T l=l
 |[],_=>rfl
 |m::l,h=>by
  have ih:=A8 (P:=P) (i:=i) (T:=T) (l:=l) fun x hx=>h x (dk _ hx)
  unfold dC at ih⊢
  rw [rS,show kY P i T m=some m from if_neg (h m (by simp)),ih]
theorem KZ(P:List af)(i:Int)(l:List aD):dC P i [] l=l:=A8 fun m _ h=>by cases h
variable {m:aD} {t:Span}
theorem aCV{s:Span}(kq:∀k,m.span.has k=true→s.has k=true→t.has k=true):(if(m.clip t).2=true then(m.clip t).1.clip s else(⟨0,0,af.nil,af.nil,false,af.nil⟩,false))=m.clip s:=by
 cases h:(m.clip t).2
 ·rw [if_neg (by simp)]
  have h1:=qa.1 h
  have h2:(m.span.bH s).empty=true:=dv.2 fun k=>by
   have:=dv.1 h1 k
   rw [bL]at this⊢
   cases hm:m.span.has k
   ·rfl
   ·rw [hm,vw]at this
    cases hs:s.has k
    ·rfl
    ·rw [kq k hm hs]at this;cases this
  rw [uB h2]
 ·rw [if_pos rfl]
  by_cases k:m.kind=4
  ·have hs:=xv h k
   have k2:(m.clip t).1.kind=4:=by rw [(jh h).2,if_pos k];exact k
   have e:(m.span.bH t).bH s=m.span.bH s:=KL fun q=>by
    rw [bL]
    cases hm:m.span.has q
    ·simp
    ·cases hs:s.has q
     ·simp
     ·rw [kq q hm hs];simp
   cases he:(m.span.bH s).empty
   ·rw [uC (by rw [hs,e];exact he) k2,uC he k,hs,e,(jh h).2,if_pos k]
   ·rw [uB (by rw [hs,e];exact he),uB he]
  ·rw [(jh h).2,if_neg k]
theorem agC{s:Span}(h:∀k,m.span.has k=true→s.has k=t.has k):m.clip s=m.clip t:=by
 have e:m.span.bH s=m.span.bH t:=KL fun k=>by
  cases hm:m.span.has k
  ·rfl
  ·rw [h k hm]
 unfold aD.clip
 rw [e]
theorem MG{s:Span} :∀ {l:List aD},(∀m∈l,∀k,m.span.has k=true→s.has k=false)→aB s l=[]
 |[],_=>rfl
 |m::l,h=>by
  rw [fv,if_neg,MG fun x hx=>h x (dk _ hx)]
  rw [qa.2 (dv.2 fun k=>by
   rw [bL]
   cases hm:m.span.has k
   ·rfl
   ·rw [h m (by simp) k hm];rfl)]
  simp
theorem Dh(hR:m.R)(h:¬m.kind=4)(k:af):m.span.has k=decide (k=m.key):=by
 have:m.span=⟨m.key,m.key.next,false⟩:=by unfold aD.span;rw [if_neg h]
 rw [this,mW (by have:=hR.1.2.1;omega)]
theorem Di(hR:m.R)(h:¬m.kind=4)(s:Span):(m.clip s).2=s.has m.key∧((m.clip s).2=true→(m.clip s).1=m):=by
 refine⟨?_,fun h2=>by rw [(jh h2).2,if_neg h]⟩
 cases h2:(m.clip s).2
 ·have:=dv.1 (qa.1 h2) m.key
  rw [bL,Dh hR h,dB rfl,vw]at this
  exact this.symm
 ·cases h3:s.has m.key
  ·exfalso
   have:(m.clip s).2=false:=qa.2 (dv.2 fun k=>by
    rw [bL,Dh hR h]
    by_cases e:k=m.key
    ·rw [e,h3];simp
    ·simp [e])
   rw [this]at h2;cases h2
  ·rfl
theorem A9{α:Type}(g:α→Bool):∀(F:List α) (n:Nat),∃q,(F.take q).filter g=(F.filter g).take n
 |[],n=>⟨0,by simp⟩
 |a::F,0=>⟨0,by simp⟩
 |a::F,n+1=>by
  cases h:g a
  ·obtain⟨q,hq⟩:=A9 g F (n+1)
   exact⟨q+1,by rw [wx,nM (by simp [h]),nM (by simp [h]),hq]⟩
  ·obtain⟨q,hq⟩:=A9 g F n
   exact⟨q+1,by rw [wx,oz h,oz h,hq,wx]⟩
theorem Yb(l:List aD):(∃w R,l=w::R∧w.kind=4∧aM l=[w])∨∃F R,l=F++R∧aM l=F∧∀m∈F,¬m.kind=4:=by
 rcases uR xi l with⟨h,h2⟩|⟨k,hk,h,h2,h3⟩
 ·refine .inr ⟨l,[],by simp,by unfold aM;rw [if_pos h],fun m hm e=> ?_⟩
  have:=h2 m hm
  simp [xi,e]at this
 ·cases k with
  |zero=>
   left
   match l,hk with
   |w::R,_=>exact⟨w,R,rfl,by simpa [xi]using h2,by unfold aM;rw [if_neg (by rw [h];decide),if_pos (by rw [h];rfl)];rfl⟩
  |succ k=>
   right
   refine⟨l.take (k+1),l.drop (k+1),(fo _ _).symm,by unfold aM;rw [if_neg (by rw [h];omega),if_neg (by rw [h];omega),h];rfl,fun m hm e=> ?_⟩
   obtain⟨j,hj,rfl⟩:=cj hm
   rw [bV]at hj
   rw [nL]at e
   have:=h3 j aa aa
   simp [xi,e]at this
variable {l:List aD}
theorem Oe(h:fq l):rz l:=(fq.iff.1 h).2
inductive A5 (P:List af) (i:Nat) (l T:List aD):Prop
 |none (hT:T=[]):A5 P i l T
 | ajD (w:aD) (R:List aD) (hl:l=w::R) (hk:w.kind=4) (hr:ae P w.key=i) (hc:(w.clip (aA P i)).2=true) (hT:T=[(w.clip (aA P i)).1])
   (hA:dC P i T l=(if(bw w (aA P i)).2=true then [(bw w (aA P i)).1]else [])++R):A5 P i l T
 |points (F R:List aD) (hl:l=F++R) (hF:∀m∈F,¬m.kind=4) (hT:T=F.filter fun m=>decide (ae P m.key=i)) (hA:dC P i T l=(F.filter fun m=> !decide (ae P m.key=i))++R):A5 P i l T
theorem uZ{A B:List aD}(h:rz (A++B)):rz A∧rz B∧∀a∈A,∀b∈B,a.aW<b.aW:=wo.1 h
theorem abV:∀ {l:List aD},rz l→∀ {a b:aD},a∈l→b∈l→a.aW=b.aW→a=b
 |[],_,_,_,ha,_,_=>by cases ha
 |x::l,h,a,b,ha,hb,e=>by
  obtain⟨h1,h2⟩:=rN.1 h
  rcases dK.1 ha with ea|ha2
  ·rcases dK.1 hb with eb|hb2
   ·rw [ea,eb]
   ·have:=h1 b hb2;rw [ea]at e;omega
  ·rcases dK.1 hb with eb|hb2
   ·have:=h1 a ha2;rw [eb]at e;omega
   ·exact abV h2 ha2 hb2 e
theorem Va{P:List af}{i:Nat}(hP:rising P=true)(hi:i≤P.length)(hm:fq l)(n:Nat):A5 P i l ((aJ P l i).take n):=by
 have hR:=(fq.iff.1 hm).1
 have hs:=Oe hm
 rcases Yb l with⟨w,R,rfl,hk,hf⟩|⟨F,R,rfl,hf,hF⟩
 ·by_cases hT:(aJ P (w::R) i).take n=[]
  ·exact .none hT
  ·have e0:aJ P (w::R) i=(uU P i w).toList:=by unfold aJ;rw [hf];cases h:uU P i w<;>simp [h]
   have hw:(ae P w.key=i)∧(w.clip (aA P i)).2=true:=by
    by_cases h:((ae P w.key:Nat):Int)=i∧(w.clip (aA P i)).2=true
    ·exact⟨aa,h.2⟩
    ·exact absurd (by rw [e0,show uU P i w=none from if_neg h];simp) hT
   have e1:aJ P (w::R) i=[(w.clip (aA P i)).1]:=by rw [e0,show uU P i w=some _ from if_pos ⟨aa,hw.2⟩];rfl
   have e2:(aJ P (w::R) i).take n=[(w.clip (aA P i)).1]:=by
    rw [e1]at hT⊢
    cases n with
    |zero=>exact absurd rfl hT
    |succ n=>rw [wx,List.take_nil]
   refine .ajD w R rfl hk hw.1 hw.2 e2 ?_
   rw [e2]
   have kq:(w.clip (aA P i)).1.aW=w.aW:=gM hw.2
   rw [show w::R=[w]++R from rfl,IW,A8 (l:=R) fun m hm h=> ?_]
   ·congr 1
    unfold dC kY
    by_cases h:(bw w (aA P i)).2=true
    ·rw [if_pos h];simp [kq,hk,h]
    ·rw [if_neg h];simp [kq,hk,h]
   ·have:=(rN.1 hs).1 m hm
    simp [kq]at h
    omega
 ·obtain⟨q,hq⟩:=A9 (fun m:aD=>decide (ae P m.key=i)) F n
  have hRF:∀m∈F,m.R:=fun m h=>hR m (fK _ h)
  have Mz:∀(G:List aD),(∀m∈G,m∈F)→G.filterMap (uU P i)=G.filter fun m=>decide (ae P m.key=i):=fun G=>by
   induction G with
   |nil=>intro _;rfl
   |cons m G ih=>
    intro hG
    have Q2:=hG m (by simp)
    have hc:=Di (hRF m Q2) (hF m Q2) (aA P i)
    rw [eR hP _ hi]at hc
    rw [rS,ih fun x hx=>hG x (dk _ hx)]
    by_cases e:ae P m.key=i
    ·have h2:(m.clip (aA P i)).2=true:=by rw [hc.1,dB e.symm]
     rw [show uU P i m=some m from(if_pos ⟨aa,h2⟩).trans (ax some (hc.2 h2)),oz (by simp [e])]
    ·rw [show uU P i m=none from if_neg fun h=>e aa,nM (by simp [e])]
  have hT:(aJ P (F++R) i).take n=(F.take q).filter fun m=>decide (ae P m.key=i):=by
   unfold aJ
   rw [hf,Mz F (fun m h=>h),hq]
  refine .points (F.take q) (F.drop q++R) (by rw [←ci,fo]) (fun m hm=>hF m (gu hm)) hT ?_
  rw [hT]
  have hl:F++R=F.take q++(F.drop q++R):=by rw [←ci,fo]
  rw [hl]at hs⊢
  obtain⟨s1,s2,s3⟩:=uZ hs
  rw [IW,A8 (l:=F.drop q++R) fun m hm h=> ?_]
  ·congr 1
   generalize hFq:F.take q=G at*
   have hGF:∀m∈G,¬m.kind=4:=fun m hm=>hF m (by rw [←hFq]at hm;exact gu hm)
   have key:∀(H:List aD),(∀m∈H,m∈G)→dC P i (G.filter fun m=>decide (ae P m.key=i)) H=H.filter fun m=> !decide (ae P m.key=i):=fun H=>by
    induction H with
    |nil=>intro _;rfl
    |cons m H ih=>
     intro hH
     have hmG:=hH m (by simp)
     have ih:=ih fun x hx=>hH x (dk _ hx)
     unfold dC at ih⊢
     rw [rS,ih]
     by_cases e:ae P m.key=i
     ·have:m.aW∈(G.filter fun m=>decide (ae P m.key=i)).map aD.aW:=cB.2 ⟨m,eO.2 ⟨hmG,by simp [e]⟩,rfl⟩
      rw [show kY P i (G.filter fun m=>decide (ae P m.key=i)) m=none from(if_pos this).trans (if_neg fun h=>hGF m hmG h.1),nM (by simp [e])]
     ·have:¬m.aW∈(G.filter fun m=>decide (ae P m.key=i)).map aD.aW:=fun h=>by
       obtain⟨x,hx,hxs⟩:=cB.1 h
       obtain⟨Qf,C3⟩:=eO.1 hx
       rw [abV s1 Qf hmG hxs]at C3
       simp [e]at C3
      rw [show kY P i (G.filter fun m=>decide (ae P m.key=i)) m=some m from if_neg this,oz (by simp [e])]
   exact key G fun m h=>h
  ·obtain⟨x,hx,hxs⟩:=cB.1 h
   have:=s3 x (eO.1 hx).1 m hm
   omega
section
variable {P:List af} {i:Nat} {l T:List aD} (hP:rising P=true) (hi:i≤P.length) (hm:fq l) (h:A5 P i l T)
include hP hi hm h
theorem A5.Vb{s:Span}(hs:∀k,s.has k=true→(aA P i).has k=true)(hS:∀m∈l,∀k,m.span.has k=true→(aA P i).has k=true→s.has k=true):aB s l=T++aB s (dC P i T l):=by
 have hR:=(fq.iff.1 hm).1
 cases h with
 |none hT=>rw [hT,KZ];rfl
 |ajD w R hl hk hr hc hT hA=>
  subst hl
  have e1:w.clip s=w.clip (aA P i):=agC fun k hk=>by
   cases h1:(aA P i).has k
   ·cases h2:s.has k
    ·rfl
    ·rw [hs k h2]at h1;cases h1
   ·exact hS w (by simp) k hk h1
  have e2:aB s (if(bw w (aA P i)).2=true then [(bw w (aA P i)).1]else [])=[]:=by
   by_cases h2:(bw w (aA P i)).2=true
   ·rw [if_pos h2]
    unfold bw at h2⊢
    by_cases ho:(aA P i).bQ=true
    ·rw [if_pos ho]at h2;cases h2
    ·rw [if_neg ho]at h2⊢
     refine MG fun m hm k zA=> ?_
     rw [gh]at hm
     subst hm
     rw [xv h2 hk,bL,cm]at zA
     cases h3:s.has k
     ·rfl
     ·have a1:=(cO.1 (hs k h3)).2
      have a2:=(cO.1 zA.2).1
      rcases a1 with a1|a1
      ·exact absurd a1 ho
      ·rw [show(⟨(aA P i).hi,af.nil,true⟩:Span).lo=(aA P i).hi from rfl,a1]at a2;cases a2
   ·rw [if_neg h2];rfl
  rw [hA,fi,e2,fv,e1,if_pos hc,hT];rfl
 |points F R hl hF hT hA=>
  subst hl
  have hRF:∀m∈F,m.R:=fun m h=>hR m (fK _ h)
  have key:∀(G:List aD),(∀m∈G,m∈F)→aB s G=G.filter (fun m=>decide (ae P m.key=i))∧aB s (G.filter fun m=> !decide (ae P m.key=i))=[]:=fun G=>by
   induction G with
   |nil=>intro _;exact⟨rfl,rfl⟩
   |cons m G ih=>
    intro hG
    have Q2:=hG m (by simp)
    obtain⟨i1,i2⟩:=ih fun x hx=>hG x (dk _ hx)
    have hc:=Di (hRF m Q2) (hF m Q2) s
    have hk:m.span.has m.key=true:=by rw [Dh (hRF m Q2) (hF m Q2)];simp
    have hrg:=eR hP m.key hi
    by_cases e:ae P m.key=i
    ·have h1:s.has m.key=true:=hS m (fK _ Q2) m.key hk (by rw [hrg,dB e.symm])
     rw [h1]at hc
     refine⟨?_,by rw [nM (by simp [e])];exact i2⟩
     rw [fv,if_pos hc.1,hc.2 hc.1,i1,oz (by simp [e])]
    ·have h1:s.has m.key=false:=by
      cases h1:s.has m.key
      ·rfl
      ·have:=hs _ h1;rw [hrg,fJ]at this;exact absurd this.symm e
     rw [h1]at hc
     refine⟨?_,?_⟩
     ·rw [fv,if_neg (by simp [hc.1]),i1,nM (by simp [e])]
     ·rw [oz (by simp [e]),fv,if_neg (by simp [hc.1]),i2]
  obtain⟨k1,k2⟩:=key F fun m h=>h
  rw [hA,fi,fi,k1,k2,hT];rfl
theorem A5.agD{t:Span}(ht:∀k,t.has k=true→(aA P i).has k=false):aB t (dC P i T l)=aB t l:=by
 have hR:=(fq.iff.1 hm).1
 cases h with
 |none hT=>rw [hT,KZ]
 |ajD w R hl hk hr hc hT hA=>
  subst hl
  rw [hA,fi,fv]
  have hwk:(aA P i).has w.key=true:=by rw [eR hP _ hi,dB hr.symm]
  have eG:∀k,w.span.has k=true→k.lt (aA P i).lo=false:=fun k h1=>by
   have lW:w.span=⟨w.key,w.hi,w.bQ⟩:=by unfold aD.span;rw [if_pos hk]
   rw [lW]at h1
   have a1:=(cO.1 h1).1
   have a2:=(cO.1 hwk).1
   exact af.le_trans a2 a1
  have e2:aB t (if(bw w (aA P i)).2=true then [(bw w (aA P i)).1]else [])=if(w.clip t).2=true then [(w.clip t).1]else []:=by
   unfold bw
   by_cases ho:(aA P i).bQ=true
   ·rw [if_pos ho,if_neg (by simp),if_neg]
    ·rfl
    ·rw [qa.2 (dv.2 fun k=>by
      rw [bL]
      cases h1:w.span.has k
      ·rfl
      ·cases h2:t.has k
       ·rfl
       ·have:=ht k h2
        rw [cO.2 ⟨eG k h1,.inl ho⟩]at this;cases this)]
     simp
   ·rw [if_neg ho]
    have e:=aCV (m:=w) (s:=t) (t:=⟨(aA P i).hi,af.nil,true⟩) fun k h1 h2=>by
     refine cO.2 ⟨?_,.inl rfl⟩
     show k.lt (aA P i).hi=false
     cases h3:k.lt (aA P i).hi
     ·rfl
     ·have:=ht k h2
      rw [cO.2 ⟨eG k h1,.inr h3⟩]at this;cases this
    cases h2:(w.clip ⟨(aA P i).hi,af.nil,true⟩).2
    ·rw [h2,if_neg (by simp)]at e
     rw [←e,if_neg (by simp),if_neg (by simp)];rfl
    ·rw [h2,if_pos rfl]at e
     rw [if_pos rfl,fv,e];rfl
  rw [e2]
  by_cases h2:(w.clip t).2=true
  ·rw [if_pos h2,if_pos h2];rfl
  ·rw [if_neg h2,if_neg h2];rfl
 |points F R hl hF hT hA=>
  subst hl
  have hRF:∀m∈F,m.R:=fun m h=>hR m (fK _ h)
  rw [hA,fi,fi]
  congr 1
  have key:∀(G:List aD),(∀m∈G,m∈F)→aB t (G.filter fun m=> !decide (ae P m.key=i))=aB t G:=fun G=>by
   induction G with
   |nil=>intro _;rfl
   |cons m G ih=>
    intro hG
    have Q2:=hG m (by simp)
    have ih:=ih fun x hx=>hG x (dk _ hx)
    have hc:=Di (hRF m Q2) (hF m Q2) t
    by_cases e:ae P m.key=i
    ·have h1:t.has m.key=false:=by
      cases h1:t.has m.key
      ·rfl
      ·have:=ht _ h1;rw [eR hP _ hi,lR]at this;exact absurd e.symm this
     rw [h1]at hc
     rw [nM (by simp [e]),ih,fv,if_neg (by simp [hc.1])]
    ·rw [oz (by simp [e]),fv,fv,ih]
  exact key F fun m h=>h
end
variable {c:aX} {l:List Nd} {ss:List aw}
def Wst (l:List aD):Prop:=l.Pairwise fun a b=>a.aW≤b.aW
theorem ar1{m:aD}{s:Span}{k:af}(hk:s.has k=true):(m.clip s).2=true→(m.clip s).1.on k=m.on k:=fun h=>by
 by_cases h4:m.kind=4
 ·have h5:=xv h h4
  have k2:(m.clip s).1.kind=4:=by rw [(jh h).2,if_pos h4];exact h4
  unfold aD.on
  rw [h5,bL,hk,Hl,k2,h4];rfl
 ·rw [(jh h).2,if_neg h4]
theorem Gu{s:Span}{k:af}(hk:s.has k=true):∀(A:List aD) (o:Option af),(aB s A).foldl (fun o m=>(m.on k).apply o) o=A.foldl (fun o m=>(m.on k).apply o) o
 |[],o=>rfl
 |m::A,o=>by
  rw [fv,wm]
  cases h:(m.clip s).2
  ·rw [if_neg (by simp),Gu hk A]
   have:=dv.1 (qa.1 h) k
   rw [bL,hk,Hl]at this
   have e:m.on k=bG.zero:=by unfold aD.on;rw [if_pos (.inl this)]
   rw [e];rfl
  ·rw [if_pos rfl,wm,ar1 hk h,Gu hk A]
def ptS (k:af):Span:=⟨k,k.next,false⟩
structure Gp (l:List Nd) (ss:List aw) (k:af) (x:aw) (W:List aD):Prop where
 mem:x∈ss
 has:x.s.has k=true
 wst:Wst W
 eq:aB (ptS k) W=aB (ptS k) x.ms
 fit:∀m∈W,m.R
 len:W.length≤1024*((bC l 0).n.level-x.n.level).toNat
section
variable {α:Type} {E:Env} {f:Fr} {G:GH} {M Mk Ms Mr:MH} {ops rest:List Oper} {q:Bool} {K:Kt} {d:Nat} {ty:TypeId} {pos:String} {aft:Array Edge} {t et:TypeId} {x y kk:Operand} {b:Nat} {k:Int} {m:List (Int×α)} {V:Fq α}
end
def fX (aT:Int) (ms:List aD) (m:aD):Bool:=decide (m.size≤aT-bX ms)&&(ms.getLast?.all fun x=>decide (x.aW<m.aW))
def mf (aT:Int):List aD→List aD→Nat
 |_,[]=>0
 |ms,m::l=>if fX aT ms m=true then mf aT (ms++[m]) l+1 else 0
def bF (leaf aT:Int) (k:Nd) (l:List aD):Nd×Nat:=
 if k.level=0 then({ k with rows:=(ed leaf k.rows l).1 },(ed leaf k.rows l).2)else({ k with aj:=k.aj++l.take (mf aT k.aj l) },mf aT k.aj l)
def ku (p k:Nd) (i:Int):Prop:=1≤p.level∧k.level=p.level-1∧0≤i∧i<(p.kids.length:Int)
instance (p k : Nd) (i : Int) : Decidable (ku p k i) := by unfold ku; infer_instance
noncomputable def c9 (leaf aT:Int) (p k:Nd) (i:Int):Nat:=if ku p k i then(bF leaf aT k (aJ p.ab p.aj i)).2 else 0
noncomputable def eC (leaf aT:Int) (p k:Nd) (i:Int):Nd×Nd×Nat:=
 if c9 leaf aT p k i=0 then(p,k,0)
 else({ p with aj:=dC p.ab i ((aJ p.ab p.aj i).take (c9 leaf aT p k i)) p.aj },
  { (bF leaf aT k (aJ p.ab p.aj i)).1 with seen:=(((aJ p.ab p.aj i).take (c9 leaf aT p k i)).getLast?.getD aD.zero).aW },c9 leaf aT p k i)
theorem abW(aT:Int):∀(l ms:List aD),mf aT ms l≤l.length
 |[],_=>bZ _
 |m::l,ms=>by
  unfold mf
  split
  ·have:=abW aT l (ms++[m]);simp;omega
  ·omega
theorem Vc(leaf aT:Int)(k:Nd)(l:List aD):(bF leaf aT k l).2≤l.length:=by
 unfold bF
 split
 ·exact KJ _ _ _
 ·exact abW _ _ _
theorem A3(A B:List aD):bX (A++B)=bX A+bX B:=by simp [bX]
theorem Q3(aT:Int):∀(l ms:List aD),bX ms≤aT→bX (ms++l.take (mf aT ms l))≤aT
 |[],ms,h=>by simpa using h
 |m::l,ms,h=>by
  unfold mf
  split
  ·rename_i hr
   have Fa:m.size≤aT-bX ms:=by unfold fX at hr;rw [cm,fJ]at hr;exact hr.1
   have:=Q3 aT l (ms++[m]) (by rw [A3];show _+(m.size+0)≤_;omega)
   rw [ci]at this
   exact this
  ·simpa using h
def Nd.K6 (n:Nd):Span:=if n.fp=true then Span.all else Span.norm ⟨af.nil,n.high,false⟩
theorem agE(n:Nd)(k:af):n.K6.has k=n.has k:=by
 unfold Nd.K6 Nd.has
 cases n.fp
 ·rw [if_neg (by simp),ld]
  unfold Span.has
  simp [af.nil_le]
 ·rw [if_pos rfl,sC];rfl
def lM (p:Nd) (i:Int):Span:=p.K6.bH (aA p.ab i)
def Vd (c:aX) (p k:Nd) (i:Int):Prop:=(p.R c.fan c.leaf c.aT∧k.R c.fan c.leaf c.aT∧ku p k i)∧(k.fp=(lM p i).bQ∧k.high=(lM p i).hi)∧∀j (h:j<p.aj.length),(p.aj[j].span.bH (lM p i)).empty=false→k.seen<p.aj[j].aW
instance (c : aX) (p k : Nd) (i : Int) : Decidable (Vd c p k i) := by unfold Vd; infer_instance
variable {m:aD}
theorem EI{n:Nd}(hm:m.R):(n.fp=true∨(m.span.bQ=false∧n.high.lt m.span.hi=false))↔∀k,m.span.has k=true→n.has k=true:=by
 have ig:m.span.empty=false:=by
  cases h:m.span.empty
  ·rfl
  ·have:=dv.1 h m.key;rw [aD.C0 hm]at this;cases this
 have eG:m.span.bQ=true∨m.span.lo.lt m.span.hi=true:=by
  have:=ig;unfold Span.empty at this
  cases h:m.span.bQ
  ·right;simpa [h]using this
  ·exact .inl rfl
 constructor
 ·rintro(h|⟨h1,h2⟩) k hk
  ·unfold Nd.has;rw [h];rfl
  ·have:=(cO.1 hk).2
   rcases this with h3|h3
   ·rw [h1]at h3;cases h3
   ·unfold Nd.has;rw [af.lt_of_lt_of_le h3 h2];simp
 ·intro h
  cases ht:n.fp
  ·right
   have key:∀q,m.span.has q=true→q.lt n.high=true:=fun q hq=>by
    have:=h q hq;unfold Nd.has at this;rw [ht]at this;simpa using this
   -- the aHc one of two texts
   have mx:m.span.has (if m.span.lo.lt n.high=true then n.high else m.span.lo)=true→False:=fun hq=>by
    have:=key _ hq
    split at this
    ·rw [af.lt_irrefl]at this;cases this
    ·rename_i h1;exact h1 this
   have hmx:(if m.span.lo.lt n.high=true then n.high else m.span.lo).lt m.span.lo=false:=by
    split
    ·rename_i h1;exact af.lt_asymm h1
    ·exact af.lt_irrefl _
   cases ho:m.span.bQ
   ·refine⟨rfl,?_⟩
    cases h2:n.high.lt m.span.hi
    ·rfl
    ·exfalso
     refine mx (cO.2 ⟨hmx,.inr ?_⟩)
     split
     ·exact h2
     ·rcases eG with h3|h3
      ·rw [ho]at h3;cases h3
      ·exact h3
   ·exact absurd (cO.2 ⟨hmx,.inl ho⟩) (fun hq=>mx hq)
  ·exact .inl rfl
variable {P:List af} {T:List aD} {i:Int} {m':aD}
theorem Ve(h:kY P i T m=some m'):m'=m∨((aA P i).bQ=false∧(m.clip ⟨(aA P i).hi,af.nil,true⟩).2=true∧m'=(m.clip ⟨(aA P i).hi,af.nil,true⟩).1):=by
 unfold kY at h
 split at h
 ·split at h
  ·rename_i h2
   cases h
   right
   have h3:=h2.2
   unfold bw at h3⊢
   split at h3
   ·cases h3
   ·rename_i h4
    rw [if_neg h4]
    exact⟨by simpa using h4,h3,rfl⟩
  ·cases h
 ·cases h;exact .inl rfl
theorem Bc(h:kY P i T m=some m'):m'.aW=m.aW∧m'.size=m.size:=by
 rcases Ve h with rfl|⟨_,h2,rfl⟩
 ·exact⟨rfl,rfl⟩
 ·exact⟨gM h2,PR h2⟩
theorem ana{l:List aD}(h:m'∈dC P i T l):∃m∈l,kY P i T m=some m':=wl.1 h
theorem anb{l:List aD}(h:rz l):rz (dC P i T l):=by
 unfold rz dC
 rw [List.pairwise_filterMap]
 refine List.Pairwise.imp (fun {a b} rY x hx y hy=> ?_) h
 have:=(Bc hx).1
 have:=(Bc hy).1
 omega
theorem size_pos(m:aD):0≤m.size:=by unfold aD.size;split<;>omega
theorem Q4(P:List af)(i:Int)(T:List aD):∀(l:List aD),bX (dC P i T l)≤bX l
 |[]=>eI _
 |m::l=>by
  have ih:=Q4 P i T l
  have hp:=size_pos m
  unfold dC at ih⊢
  rw [rS]
  have e:bX (m::l)=m.size+bX l:=by simp [bX]
  split
  ·omega
  ·rename_i m' h
   have:=(Bc h).2
   have e2:∀L,bX (m'::L)=m'.size+bX L:=fun L=>by simp [bX]
   rw [e2];omega
theorem Yc{l:List aD}(hP:∀k∈P,k.b.size≤16)(hl:∀m∈l,m.R)(h:m'∈dC P i T l):m'.R∧∃m∈l,m'.aW=m.aW∧∀q,m'.span.has q=true→m.span.has q=true:=by
 obtain⟨m,hm,h2⟩:=ana h
 rcases Ve h2 with rfl|⟨_,h3,rfl⟩
 ·exact⟨hl _ hm,m',hm,rfl,fun q hq=>hq⟩
 ·have hr:=sw (p:=P) (i:=i) (n:=16) hP
  exact⟨AP (hl m hm) hr.2 (by show af.nil.b.size≤16;decide) h3,m,hm,gM h3,fun q hq=>(C7 (hl m hm) h3 hq).1⟩
theorem agF{l:List aD}{n:Nat}(h:0<n)(hl:n≤l.length):∃x∈l.take n,(l.take n).getLast?.getD aD.zero=x∧∀y∈l.take n,rz l→y.aW≤x.aW:=by
 obtain⟨j,rfl⟩:∃j,n=j+1:=⟨n-1,aa⟩
 have e:l.take (j+1)=l.take j++[l[j]]:=iA aa
 refine⟨l[j],by rw [e];exact ib _ (gh.2 rfl),by rw [e,List.getLast?_concat];rfl,fun y hy hr=> ?_⟩
 rw [e,cP,gh]at hy
 rcases hy with hy|rfl
 ·obtain⟨q,hq,rfl⟩:=cj hy
  rw [bV]at hq
  rw [nL]
  have:=wk.1 hr q j aa aa aa
  omega
 ·omega
structure sY (c:aX) (p k:Nd) (i:Int) (a b:Nd) (T:List aD):Prop where
 ne:0<T.length
 ea:a={ p with aj:=dC p.ab i T p.aj }
 eb:b={ k with rows:=b.rows,aj:=b.aj,seen:=b.seen }
 leaf:k.level=0→b.aj=k.aj∧b.rows=cq k.rows T∧(bc k.rows→(∀m∈aJ p.ab p.aj i,m.R)→(k.rows.length:Int)≤c.leaf→(b.rows.length:Int)≤c.leaf)
 inner:¬k.level=0→b.rows=k.rows∧b.aj=k.aj++T∧(bX k.aj≤c.aT→bX b.aj≤c.aT)
 seen:b.seen=(T.getLast?.getD aD.zero).aW
 take:∃n,0<n∧n≤(aJ p.ab p.aj i).length∧T=(aJ p.ab p.aj i).take n
theorem abJ(c:aX)(p k:Nd)(i:Int):(eC c.leaf c.aT p k i=(p,k,0))∨(ku p k i∧∃T,sY c p k i (eC c.leaf c.aT p k i).1 (eC c.leaf c.aT p k i).2.1 T∧(eC c.leaf c.aT p k i).2.2=T.length):=by
 by_cases h:c9 c.leaf c.aT p k i=0
 ·left;unfold eC;rw [if_pos h]
 ·right
  have hk:ku p k i:=by
   unfold c9 at h
   by_cases hk:ku p k i
   ·exact hk
   ·rw [if_neg hk]at h;exact absurd rfl h
  have hc:c9 c.leaf c.aT p k i=(bF c.leaf c.aT k (aJ p.ab p.aj i)).2:=if_pos hk
  have hle:=Vc c.leaf c.aT k (aJ p.ab p.aj i)
  rw [←hc]at hle
  refine⟨hk,(aJ p.ab p.aj i).take (c9 c.leaf c.aT p k i),?_,by unfold eC;rw [if_neg h,bV];show c9 c.leaf c.aT p k i=_;omega⟩
  unfold eC
  rw [if_neg h]
  refine⟨by rw [bV];omega,rfl,?_,fun h0=> ?_,fun h0=> ?_,rfl,_,aa,hle,rfl⟩
  ·dsimp only
   unfold bF
   split<;>rfl
  ·have hm:bF c.leaf c.aT k (aJ p.ab p.aj i)=({ k with rows:=(ed c.leaf k.rows (aJ p.ab p.aj i)).1 },(ed c.leaf k.rows (aJ p.ab p.aj i)).2):=if_pos h0
   rw [hc,hm]
   dsimp only
   refine⟨rfl,Mh _ _ _,fun h1 h2 hl=> ?_⟩
   have:=F9 c.leaf (aJ p.ab p.aj i) k.rows h1 h2
   omega
  ·have hm:bF c.leaf c.aT k (aJ p.ab p.aj i)=({ k with aj:=k.aj++(aJ p.ab p.aj i).take (mf c.aT k.aj (aJ p.ab p.aj i)) },mf c.aT k.aj (aJ p.ab p.aj i)):=if_neg h0
   rw [hc,hm]
   exact⟨rfl,rfl,Q3 _ _ _⟩
theorem abX{l:List aD}(h:m∈aJ P l i):∃a∈l,(a.clip (aA P i)).2=true∧(a.clip (aA P i)).1=m:=by
 obtain⟨a,ha,h2⟩:=wl.1 h
 unfold uU at h2
 split at h2
 ·rename_i h3
  cases h2
  refine⟨a,?_,h3.2,rfl⟩
  unfold aM at ha
  split at ha
  ·exact ha
  ·split at ha
   ·exact gu ha
   ·exact gu ha
 ·cases h2
theorem ui{c:aX}{n:Nd}(h:n.R c.fan c.leaf c.aT):∀k∈n.ab,k.b.size≤16:=fun k hk=>by
 have h4:=h.2.2.2
 by_cases h0:n.level=0
 ·rw [if_pos h0]at h4
  have:=h4.1
  have e:n.ab=[]:=kj aa
  rw [e]at hk;cases hk
 ·rw [if_neg h0]at h4
  obtain⟨j,hj,rfl⟩:=cj hk
  exact(h4.2.2.2.2.2.1 j hj).2.1
theorem ar2{c:aX}{n:Nd}(h:n.R c.fan c.leaf c.aT):n.high.b.size≤16:=by
 cases ht:n.fp
 ·exact(h.2.2.1 ht).2.1
 ·rw [(h.2.1 ht).1];decide
theorem abY{c:aX}{n:Nd}(h:n.R c.fan c.leaf c.aT):n.K6.lo.b.size≤16∧n.K6.hi.b.size≤16:=by
 have h1:=ar2 h
 unfold Nd.K6
 split
 ·exact⟨by decide,by decide⟩
 ·unfold Span.norm
  split
  ·exact⟨by decide,by decide⟩
  ·split
   ·exact⟨by show af.nil.b.size≤16;decide,by show af.nil.b.size≤16;decide⟩
   ·exact⟨by show af.nil.b.size≤16;decide,h1⟩
theorem EJ(p:Nd)(i:Int)(k:af):(lM p i).has k=(p.has k&&(aA p.ab i).has k):=by unfold lM;rw [bL,agE]
structure aCW (c:aX) (p k:Nd) (i:Int) (T:List aD):Prop where
 R:∀m∈T,m.R
 up:∀m∈T,k.seen<m.aW
 sp:∀m∈T,∀q,m.span.has q=true→(lM p i).has q=true
 ub:rz T
 late:∀m∈dC p.ab i T p.aj,(m.span.bH (lM p i)).empty=false→∀x∈T,x.aW<m.aW
 clip:aB (lM p i) p.aj=T++aB (lM p i) (dC p.ab i T p.aj)
variable {a:Nd} {b:Nd} {k:Nd} {p:Nd}
theorem zV{c:aX}(h:Vd c p k i)(hp:sY c p k i a b T):aCW c p k i T:=by
 obtain⟨⟨K7,hkR,hk⟩,lW,kq⟩:=h
 obtain⟨k1,k2,k3,k4⟩:=hk
 have gH:p.pe c.fan c.aT:=by have:=K7.2.2.2;rwa [if_neg aa]at this
 obtain⟨j,rfl⟩:∃j:Nat,i=j:=⟨i.toNat,aa⟩
 obtain⟨hr1,Fa⟩:=dp gH.2.1
 have hj:j≤p.ab.length:=aa
 have hm:=gH.2.2.1
 have uW:=(fq.iff.1 hm).1
 obtain⟨n,n1,n2,rfl⟩:=hp.take
 have mv:=Va (P:=p.ab) hr1 hj hm n
 have hs:∀q,(lM p j).has q=true→(aA p.ab j).has q=true:=fun q hq=>by rw [EJ,cm]at hq;exact hq.2
 have Vf:∀m∈p.aj,∀q,m.span.has q=true→p.has q=true:=fun m TM=>by
  obtain⟨x,hx,rfl⟩:=cj TM
  exact(EI (uW _ TM)).1 (gH.2.2.2.2.2.2 x hx).2
 have qc:=mv.Vb hr1 hj hm hs fun m TM q h1 h2=>by rw [EJ,Vf m TM q h1,h2];rfl
 have u4:∀m∈(aJ p.ab p.aj (j:Int)).take n,∃a∈p.aj,(a.clip (lM p j)).2=true∧(a.clip (lM p j)).1=m:=fun m TM=>mS (by rw [qc];exact fK _ TM)
 have kr:=yC (abY K7) (sw (p:=p.ab) (i:=(j:Int)) (ui K7))
 have ar3:=ju (s:=lM p j) (Oe hm)
 rw [qc]at ar3
 refine⟨fun m h=> ?_,fun m h=> ?_,fun m h q hq=> ?_,(uZ ar3).1,fun m h he x hx=> ?_,qc⟩
 ·obtain⟨a,ha,h1,rfl⟩:=u4 m h
  exact AP (uW a ha) kr.1 kr.2 h1
 ·obtain⟨a,ha,h1,rfl⟩:=u4 m h
  rw [gM h1]
  obtain⟨x,hx,rfl⟩:=cj ha
  exact kq x hx (jh h1).1
 ·obtain⟨a,ha,h1,rfl⟩:=u4 m h
  exact(C7 (uW a ha) h1 hq).2
 ·have h1:(m.clip (lM p j)).2=true:=by
   cases h2:(m.clip (lM p j)).2
   ·rw [qa.1 h2]at he;cases he
   ·rfl
  have:=(uZ ar3).2.2 x hx (m.clip (lM p j)).1 (wl.2 ⟨m,h,if_pos h1⟩)
  rwa [gM h1]at this
theorem IU(hr:rz T)(hn:0<T.length):(∃x∈T,T.getLast?.getD aD.zero=x)∧∀y∈T,y.aW≤(T.getLast?.getD aD.zero).aW:=by
 obtain⟨x,h1,h2,h3⟩:=agF (l:=T) hn (bZ _)
 rw [rT]at h1 h2 h3
 rw [h2]
 exact⟨⟨x,h1,rfl⟩,fun y hy=>h3 y hy hr⟩
theorem abZ{X:Span}{l:List aG}(hl:bc l)(hT:∀m∈T,m.R)(h1:∀p∈l,X.has p.key=true)(h2:∀m∈T,∀q,m.span.has q=true→X.has q=true):∀p∈cq l T,X.has p.key=true:=by
 induction T generalizing l with
 |nil=>exact h1
 |cons m T ih=>
  have hR:=hT m (by simp)
  have hR':=hR
  unfold aD.R at hR'
  refine ih (l:=takeN l m) (hl.KA hR'.1.2.1 hR'.1.2.2.1) (fun x hx=>hT x (dk _ hx)) (fun p hp=> ?_) fun x hx=>h2 x (dk _ hx)
  unfold takeN at hp
  split at hp
  ·exact h1 p ((eO.1 hp).1)
  ·rw [j3,cP,cP]at hp
   rcases hp with(hp|hp)|hp
   ·exact h1 p ((eO.1 hp).1)
   ·unfold vZ at hp
    split at hp
    ·rw [gh]at hp
     subst hp
     exact h2 m (by simp) _ (aD.C0 hR)
    ·cases hp
   ·exact h1 p ((eO.1 hp).1)
theorem K4{c:aX}(h:Vd c p k i)(hp:sY c p k i a b T):Vd c a b i∧k.seen<b.seen:=by
 have tk:=zV h hp
 obtain⟨⟨K7,hkR,hk⟩,lW,kq⟩:=h
 obtain⟨⟨xl,zS,exl⟩,CQ⟩:=IU tk.ub hp.ne
 have pL:k.seen<b.seen:=by rw [hp.seen,exl];exact tk.up xl zS
 have gH:p.pe c.fan c.aT:=by have h9:=hk.1;have:=K7.2.2.2;rwa [if_neg aa]at this
 have uW:=(fq.iff.1 gH.2.2.1).1
 have aR:a.R c.fan c.leaf c.aT:=by
  rw [hp.ea]
  refine⟨K7.1,K7.2.1,K7.2.2.1,?_⟩
  rw [if_neg (show ¬p.level=0 by have:=hk.1;omega)]
  obtain⟨h1,h2,h3,h4,h5,h6,h7⟩:=gH
  refine⟨h1,h2,fq.iff.2 ⟨fun m hm=>(Yc (ui K7) uW hm).1,anb (Oe h3)⟩,Hn (Q4 _ _ _ _) h4,h5,h6,fun j hj=> ?_⟩
  have hm:=bN hj
  obtain⟨r1,m,o7,r2,r3⟩:=Yc (ui K7) uW hm
  obtain⟨x,hx,rfl⟩:=cj o7
  have f:=h7 x hx
  exact⟨by show _≤p.seen;rw [r2];exact f.1,(EI (n:={ p with aj:=dC p.ab i T p.aj }) r1).2 fun q hq=>(EI (uW _ o7)).1 f.2 q (r3 q hq)⟩
 have K8:lM a i=lM p i:=by rw [hp.ea];rfl
 have hb:b.fp=k.fp∧b.high=k.high∧b.level=k.level∧b.slot=k.slot∧b.right=k.right∧b.kids=k.kids∧b.ab=k.ab:=by rw [hp.eb];exact⟨rfl,rfl,rfl,rfl,rfl,rfl,rfl⟩
 obtain⟨b1,b2,b3,b4,b5,b6,b7⟩:=hb
 have Nr:∀q,(lM p i).has q=true→k.has q=true:=fun q hq=>by
  have:=(cO.1 hq).2
  unfold Nd.has
  rw [lW.1,lW.2]
  rcases this with h|h<;>simp [h]
 have bR:b.R c.fan c.leaf c.aT:=by
  refine⟨by rw [b3,b4];have:=hkR.1;omega,by rw [b1,b2,b5];exact hkR.2.1,by rw [b1,b2,b5];exact hkR.2.2.1,?_⟩
  have h4:=hkR.2.2.2
  rw [b3]
  by_cases h0:k.level=0
  ·rw [if_pos h0]at h4⊢
   obtain⟨e1,e2,e3⟩:=hp.leaf h0
   obtain⟨l1,l2,l3,l4⟩:=h4
   have yX:∀p∈b.rows,(Span.mk af.nil k.high k.fp).has p.key=true:=by
    rw [e2]
    refine abZ l3 tk.R (fun x hx=> ?_) fun m hm q hq=> ?_
    ·obtain⟨j,hj,rfl⟩:=cj hx
     have:=l4 j hj
     unfold Nd.has at this
     unfold Span.has
     simp [af.nil_le]at this⊢
     exact this
    ·have:=Nr q (tk.sp m hm q hq)
     unfold Nd.has at this
     unfold Span.has
     simp [af.nil_le]at this⊢
     exact this
   refine⟨by rw [b7,b6,e1];exact l1,e3 l3 (fun m hm=> ?_) l2,by rw [e2];exact bc.fold l3 fun m hm=>Mi (tk.R m hm),fun j hj=> ?_⟩
   ·obtain⟨x,hx,h2,rfl⟩:=abX hm
    have hr:=sw (p:=p.ab) (i:=i) (ui K7)
    exact AP (uW x hx) hr.1 hr.2 h2
   ·have:=yX _ (bN hj)
    unfold Span.has at this
    unfold Nd.has
    rw [b1,b2]
    simp [af.nil_le]at this⊢
    exact this
  ·rw [if_neg h0]at h4⊢
   obtain⟨e1,e2,e3⟩:=hp.inner h0
   obtain⟨l1,l2,l3,l4,l5,l6,l7⟩:=h4
   have ox:=(fq.iff.1 l3).1
   have hold:∀m∈k.aj,m.aW≤k.seen:=fun m hm=>by
    obtain⟨x,hx,rfl⟩:=cj hm
    exact(l7 x hx).1
   refine⟨by rw [e1,b6];exact l1,by rw [b6,b7];exact l2,?_,e3 l4,by rw [b6];exact l5,fun j hj=> ?_,fun j hj=> ?_⟩
   ·rw [e2]
    refine fq.iff.2 ⟨fun m hm=> ?_,wo.2 ⟨Oe l3,tk.ub,fun x hx y hy=> ?_⟩⟩
    ·rcases cP.1 hm with hm|hm
     ·exact ox m hm
     ·exact tk.R m hm
    ·have:=hold x hx
     have:=tk.up y hy
     omega
   ·have hh:b.has b.ab[j]=k.has b.ab[j]:=by unfold Nd.has;rw [b1,b2]
    obtain⟨q1,q2,q3⟩:=l6 j (by rw [←b7];exact hj)
    have eb:b.ab[j]=k.ab[j]'(by rw [←b7];exact hj):=by simp only [b7]
    exact⟨by rw [eb];exact q1,by rw [eb];exact q2,by rw [hh,eb];exact q3⟩
   ·have hm:=bN hj
    have hbm:∀m∈b.aj,b.fits m:=fun m hm=>by
     rw [e2]at hm
     rcases cP.1 hm with hm|hm
     ·obtain⟨x,hx,rfl⟩:=cj hm
      have f:=l7 x hx
      exact⟨by have:=f.1;omega,by rw [b1,b2];exact f.2⟩
     ·refine⟨by rw [hp.seen];exact CQ m hm,?_⟩
      rw [b1,b2]
      exact(EI (n:=k) (tk.R m hm)).2 fun q hq=>Nr q (tk.sp m hm q hq)
    exact hbm _ hm
 refine⟨⟨⟨aR,bR,by rw [hp.ea];unfold ku;rw [b3];exact hk⟩,⟨by rw [K8,b1];exact lW.1,by rw [K8,b2];exact lW.2⟩,fun j hj he=> ?_⟩,pL⟩
 rw [K8]at he
 have e:a.aj=dC p.ab i T p.aj:=by rw [hp.ea]
 have hm:a.aj[j]∈dC p.ab i T p.aj:=by rw [←e];exact bN hj
 rw [hp.seen,exl]
 exact tk.late _ hm he xl zS
variable {c:aX} {l:List Nd} {ss:List aw}
structure IH (n a b:Nd) (k:af) (h:Nat):Prop where
 la:a.level=n.level
 lb:b.level=n.level
 arD:a.high=k∧a.fp=false
 abz:b.high=n.high∧b.fp=n.fp∧b.right=n.right
 XR:a.right=b.slot
 leaf:n.level=0→1≤h∧h<n.rows.length∧a.rows=n.rows.take h∧b.rows=n.rows.drop h∧a.ab=n.ab∧b.ab=n.ab∧(∀i (hi:i<n.rows.length),i<h→n.rows[i].key.lt k=true)∧∀i (hi:i<n.rows.length),h≤i→n.rows[i].key.lt k=false
 inner:¬n.level=0→a.rows=n.rows∧b.rows=n.rows∧∃hh:h<n.ab.length,k=n.ab[h]∧a.ab=n.ab.take h∧a.kids=n.kids.take (h+1)∧b.ab=n.ab.drop (h+1)∧b.kids=n.kids.drop (h+1)
 size:k≠af.nil∧k.b.size≤16
theorem sM{n:Nd}{fan leaf aT y:Int}(hR:n.R fan leaf aT)(dI:(aS n y).2.2.2=true):
  ∃a b k h,aS n y=(a,b,k,true)∧IH n a b k h∧a.slot=n.slot∧b.slot=y∧a.seen=n.seen∧b.seen=n.seen∧(n.level=0→a.aj=n.aj∧b.aj=n.aj)∧
   (¬n.level=0→a.aj=aB ⟨af.nil,k,false⟩ n.aj∧b.aj=aB ⟨k,af.nil,true⟩ n.aj)∧n.has k=true:=by
 obtain⟨⟨q1,q2,q3⟩,q4,q5,q6⟩:=hR
 by_cases h0:n.level=0
 ·rw [if_pos h0]at q6
  obtain⟨r1,r2,r3,r4⟩:=q6
  by_cases hl:n.rows.length<2
  ·rw [PL h0 hl]at dI;cases dI
  ·have ko:=bc.lt r3 ((n.rows.length+1) / 2) ((n.rows.length+1) / 2-1) aa aa
   obtain⟨b1,b2,b3,b4⟩:=sh ko (r3 ((n.rows.length+1) / 2) aa).1.1
   refine⟨_,_,_,(n.rows.length+1) / 2,PM h0 hl,⟨rfl,rfl,⟨rfl,rfl⟩,⟨rfl,rfl,rfl⟩,rfl,fun _=>⟨aa,aa,rfl,rfl,rfl,rfl,?_,?_⟩,fun h=>absurd h0 h,b1,b2⟩,rfl,rfl,rfl,rfl,fun _=>⟨rfl,rfl⟩,fun h=>absurd h0 h,?_⟩
   ·intro i hi hih
    by_cases e:i=(n.rows.length+1) / 2-1
    ·subst e;exact b3
    ·exact af.lt_trans (bc.lt r3 ((n.rows.length+1) / 2-1) i aa aa) b3
   ·intro i hi hih
    by_cases e:i=(n.rows.length+1) / 2
    ·subst e;exact b4
    ·cases h9:n.rows[i].key.lt (js (n.rows[(n.rows.length+1) / 2-1]'aa).key (n.rows[(n.rows.length+1) / 2]'aa).key).1
     ·rfl
     ·have:=af.lt_trans (bc.lt r3 i ((n.rows.length+1) / 2) aa hi) h9
      rw [b4]at this;cases this
   ·have h5:=r4 ((n.rows.length+1) / 2) aa
    unfold Nd.has at h5⊢
    rw [kU]at h5⊢
    rcases h5 with h5|h5
    ·exact .inl h5
    ·exact .inr (af.lt_of_le_of_lt b4 h5)
 ·rw [if_neg h0]at q6
  obtain⟨⟨r1,r2,r3⟩,r4,r5,r6,r7,r8,r9⟩:=q6
  by_cases hl:n.kids.length<4
  ·rw [PN h0 (.inl hl)]at dI;cases dI
  ·obtain⟨hr,hc⟩:=dp r4
   have hk:=r8 ((n.kids.length+1) / 2-1) aa
   have e9:(n.kids.length+1) / 2-1+1=(n.kids.length+1) / 2:=aa
   refine⟨_,_,_,(n.kids.length+1) / 2-1,PO h0 hl r4 hc,⟨rfl,rfl,⟨rfl,rfl⟩,⟨rfl,rfl,rfl⟩,rfl,fun h=>absurd h h0,fun _=>⟨rfl,rfl,aa,rfl,rfl,?_,?_,?_⟩,hk.1,hk.2.1⟩,rfl,rfl,rfl,rfl,fun h=>absurd h h0,fun _=>⟨rfl,rfl⟩,hk.2.2⟩
   ·rw [e9]
   ·rw [e9]
   ·rw [e9]
variable {x:Nd}
theorem uf{l:List Nd}(hs:jf l)(hx:0≤x.slot∧x.slot<l.length)(pL:x.seen≤1099511627776):jf (l.set x.slot.toNat x):=fun i h=>by
 rw [cg]at h
 rw [Hr]
 split
 ·exact⟨aa,pL⟩
 ·exact hs i h
theorem C8{l:List Nd}(hs:jf l)(hx:x.slot=l.length)(pL:x.seen≤1099511627776):jf (l++[x]):=fun i h=>by
 rw [bP]at h
 by_cases e:i<l.length
 ·rw [yo e];exact hs i e
 ·rw [NS aa]
  have:i=l.length:=by simp at h;omega
  subst this
  simp [hx,pL]
theorem pg{l:List Nd}(hx:0≤x.slot∧x.slot<l.length)(i:Int):ai (l.set x.slot.toNat x) i=if i=x.slot then x else ai l i:=by
 by_cases e:i=x.slot
 ·rw [if_pos e,e]
  have:=su (l:=l.set x.slot.toNat x) (k:=x.slot.toNat) (by rw [cg];omega)
  rw [show((x.slot.toNat:Nat):Int)=x.slot by omega]at this
  rw [this,WY]
 ·rw [if_neg e]
  unfold ai
  split
  ·rw [fc,fc,Hz aa]
  ·rfl
theorem xy{l:List Nd}(i:Int):ai (l++[x]) i=if i=l.length then x else ai l i:=by
 by_cases e:i=l.length
 ·rw [if_pos e,e,su (by simp)]
  simp
 ·rw [if_neg e]
  unfold ai
  split
  ·rename_i h0
   rw [fc,fc]
   by_cases h1:i.toNat<l.length
   ·rw [rH h1]
   ·rw [rE (by simp;omega),rE aa]
  ·rfl
structure nT (K A B:aw) (k:af) (h:Nat):Prop where
 hv:IH K.n A.n B.n k h
 ha:∀q,A.s.has q=(K.s.has q&&q.lt k)
 hb:∀q,B.s.has q=(K.s.has q&& !q.lt k)
 na:A.s.norm=A.s
 nb:B.s.norm=B.s
 ma:∀s:Span,(∀q,s.has q=true→A.s.has q=true)→dg [aB s A.n.aj,aB s A.ms]=dg [aB s K.n.aj,aB s K.ms]
 mb:∀s:Span,(∀q,s.has q=true→B.s.has q=true)→dg [aB s B.n.aj,aB s B.ms]=dg [aB s K.n.aj,aB s K.ms]
variable {k:af}
theorem Tree.ajC(t:Tree c l ss){K:aw}(hK:K∈ss){h:Nat}(hv:IH K.n a b k h)(hk:K.n.has k=true):K.s.has k=true∧k≠K.s.lo:=by
 obtain⟨⟨p1,p2⟩,p3,p4,p5⟩:=(t.gz hK).2.1
 have aHd:K.s.bQ=true∨k.lt K.s.hi=true:=by
  unfold Nd.has at hk
  rw [p1,p2,kU]at hk
  exact hk
 by_cases h0:K.n.level=0
 ·obtain⟨g1,g2,_,_,_,_,g3,g4⟩:=hv.leaf h0
  have e1:=(cO.1 (p3 (h-1) aa)).1
  have e2:=af.lt_of_le_of_lt e1 (g3 (h-1) aa aa)
  exact⟨cO.2 ⟨af.lt_asymm e2,aHd⟩,fun e=>by rw [←e,af.lt_irrefl]at e2;cases e2⟩
 ·obtain⟨_,_,hh,e,_⟩:=hv.inner h0
  have:=p4 h hh
  rw [←e]at this
  exact this
variable {A:aw} {B:aw}
theorem nT.abC(t:Tree c l ss){K:aw}{h:Nat}(hK:K∈ss)(H:nT K A B k h)(hs:K.s.norm=K.s)(hk:K.n.has k=true)
  (hm:∀m∈A.n.aj,∃m'∈K.n.aj,(m'.clip ⟨af.nil,k,false⟩).2=true∧(m'.clip ⟨af.nil,k,false⟩).1=m):xu A:=by
 obtain⟨⟨p1,p2⟩,p3,p4,p5⟩:=(t.gz hK).2.1
 obtain⟨k1,k2⟩:=t.ajC hK H.hv hk
 obtain⟨e,eG⟩:=af7 hs H.na k1 k2 H.ha
 have eo:A.s.bQ=false:=by rw [e]
 have eh:A.s.hi=k:=by rw [e]
 have el:A.s.lo=K.s.lo:=by rw [e]
 refine⟨⟨by rw [eo];exact H.hv.arD.2,by rw [eh];exact H.hv.arD.1⟩,fun i hi=> ?_,fun i hi=> ?_,fun i hi=> ?_⟩
 ·by_cases h0:K.n.level=0
  ·obtain⟨g1,g2,ga,_,_,_,g3,g4⟩:=H.hv.leaf h0
   have jY:=hi
   rw [ga,bV]at jY
   simp only [ga,nL]
   rw [H.ha,p3 i aa,g3 i aa aa];rfl
  ·have ga:=(H.hv.inner h0).1
   have gb:=(t.inner hK h0).1.1
   rw [ga]at hi
   exact absurd hi aa
 ·by_cases h0:K.n.level=0
  ·have ga:=(H.hv.leaf h0).2.2.2.2.1
   have gb:=(t.leaf hK h0).1
   rw [ga]at hi
   exact absurd hi aa
  ·obtain⟨_,_,hh,ek,ga,_,_,_⟩:=H.hv.inner h0
   have jY:=hi
   rw [ga,bV]at jY
   simp only [ga,nL]
   have hr:=(dp (cL (t.kids hK) h0).2.2.1).1
   have:=p4 i aa
   refine⟨?_,by rw [el];exact this.2⟩
   rw [H.ha,this.1,ek,jt hr h i aa hh];rfl
 ·obtain⟨m',TM,hc,e9⟩:=hm _ (bN hi)
  obtain⟨j,hj,rfl⟩:=cj TM
  refine UN fun q hq=> ?_
  rw [←e9]at hq
  have g:=C7 ((t.aj hK).2.1 _ (bN hj)) hc hq
  rw [H.ha,UO (p5 j hj) g.1]
  have:=(cO.1 g.2).2
  rcases this with h|h
  ·cases h
  ·rw [show q.lt k=true from h];rfl
theorem nT.abD(t:Tree c l ss){K:aw}{h:Nat}(hK:K∈ss)(H:nT K A B k h)(hs:K.s.norm=K.s)(hk:K.n.has k=true)
  (hm:∀m∈B.n.aj,∃m'∈K.n.aj,(m'.clip ⟨k,af.nil,true⟩).2=true∧(m'.clip ⟨k,af.nil,true⟩).1=m):xu B:=by
 obtain⟨⟨p1,p2⟩,p3,p4,p5⟩:=(t.gz hK).2.1
 obtain⟨k1,k2⟩:=t.ajC hK H.hv hk
 have e:=C6 hs H.nb k1 H.hb
 have eo:B.s.bQ=K.s.bQ:=by rw [e]
 have eh:B.s.hi=K.s.hi:=by rw [e]
 have el:B.s.lo=k:=by rw [e]
 refine⟨⟨by rw [eo,H.hv.abz.2.1];exact p1,by rw [eh,H.hv.abz.1];exact p2⟩,fun i hi=> ?_,fun i hi=> ?_,fun i hi=> ?_⟩
 ·by_cases h0:K.n.level=0
  ·obtain⟨g1,g2,_,ga,_,_,g3,g4⟩:=H.hv.leaf h0
   have jY:=hi
   rw [ga,cv]at jY
   simp only [ga,pB]
   rw [H.hb,p3 (h+i) aa,g4 (h+i) aa aa];rfl
  ·have ga:=(H.hv.inner h0).2.1
   have gb:=(t.inner hK h0).1.1
   rw [ga]at hi
   exact absurd hi aa
 ·by_cases h0:K.n.level=0
  ·have ga:=(H.hv.leaf h0).2.2.2.2.2.1
   have gb:=(t.leaf hK h0).1
   rw [ga]at hi
   exact absurd hi aa
  ·obtain⟨_,_,hh,ek,_,_,ga,_⟩:=H.hv.inner h0
   have jY:=hi
   rw [ga,cv]at jY
   simp only [ga,pB]
   have hr:=(dp (cL (t.kids hK) h0).2.2.1).1
   have:=p4 (h+1+i) aa
   have hl:=jt hr (h+1+i) h aa aa
   refine⟨?_,?_⟩
   ·rw [H.hb,this.1,ek,af.lt_asymm hl];rfl
   ·rw [el,ek]
    intro e2
    rw [e2,af.lt_irrefl]at hl;cases hl
 ·obtain⟨m',TM,hc,e9⟩:=hm _ (bN hi)
  obtain⟨j,hj,rfl⟩:=cj TM
  refine UN fun q hq=> ?_
  rw [←e9]at hq
  have g:=C7 ((t.aj hK).2.1 _ (bN hj)) hc hq
  rw [H.hb,UO (p5 j hj) g.1]
  have:=(cO.1 g.2).1
  rw [show q.lt k=false from this];rfl
theorem nT.kids(t:Tree c l ss){K A B:aw}{k:af}{h:Nat}{l':List Nd}(hK:K∈ss)(H:nT K A B k h)
  (hf:∀j,j<K.n.kids.length→cE l' (K.n.kids.getD j 0)=cE l (K.n.kids.getD j 0)):(ft l' A).isSome=true∧(ft l' B).isSome=true∧bu l' A++bu l' B=bu l K:=by
 by_cases h0:K.n.level=0
 ·have ea:A.n.level=0:=by rw [H.hv.la,h0]
  have eb:B.n.level=0:=by rw [H.hv.lb,h0]
  rw [uQ ea,uQ eb,fN ea,fN eb,fN h0]
  exact⟨rfl,rfl,rfl⟩
 ·obtain⟨_,_,hh,ek,g1,g2,g3,g4⟩:=H.hv.inner h0
  have a1:=af6 (l':=l') (t.kids hK) h0 hh g1 g2 H.hv.la (fun q=>by rw [H.ha,ek]) H.ma hf
  have b1:=abu (l':=l') (t.kids hK) h0 hh g3 g4 H.hv.lb (fun q=>by rw [H.hb,ek]) H.mb hf
  exact⟨a1.1,b1.1,by rw [a1.2,b1.2,fo]⟩
theorem nT.view(t:Tree c l ss){K:aw}{h:Nat}(hK:K∈ss)(H:nT K A B k h)(ca:K.n.level=0→aB A.s A.ms=aB A.s K.ms)(cb:K.n.level=0→aB B.s B.ms=aB B.s K.ms):
  (ck [A,B]).flatMap iZ=(ck [K]).flatMap iZ:=by
 by_cases h0:K.n.level=0
 ·have ea:A.n.level=0:=by rw [H.hv.la,h0]
  have eb:B.n.level=0:=by rw [H.hv.lb,h0]
  obtain⟨g1,g2,ga,gb,_,_,g3,g4⟩:=H.hv.leaf h0
  have:=XQ (t.rows hK) (t.fits K hK).2 ga gb H.ha H.hb g3 g4 (ca h0) (cb h0)
  simp only [ck,lF,ea,eb,h0,decide_true,if_true,NN,cI,iB,cx]
  exact this
 ·have ea:¬A.n.level=0:=by rw [H.hv.la];exact h0
  have eb:¬B.n.level=0:=by rw [H.hv.lb];exact h0
  simp [ck,lF,ea,eb,h0]
theorem Gr{c:aX}{n:Nd}(hc:lY c)(hR:n.R c.fan c.leaf c.aT):XK n:=by
 obtain⟨⟨q1,q2,q3⟩,q4,q5,q6⟩:=hR
 obtain⟨c1,c2,c3,c4,c5⟩:=hc
 have hh:n.high.b.size≤4000:=by
  cases e:n.fp
  ·have:=(q5 e).2.1;omega
  ·rw [(q4 e).1];decide
 by_cases h0:n.level=0
 ·rw [if_pos h0]at q6
  obtain⟨r1,r2,r3,r4⟩:=q6
  have e1:n.aj=[]:=kj aa
  have e2:n.ab=[]:=kj aa
  refine⟨aa,aa,aa,aa,hh,(by rw [e1];intro m hm;cases hm),(by rw [e2];intro m hm;cases hm),fun p hp=> ?_⟩
  have:=(dr.1 r3).1 p hp
  exact⟨by have:=this.1;omega,by have:=this.2;omega⟩
 ·rw [if_neg h0]at q6
  obtain⟨⟨r1,r2,r3⟩,r4,r5,r6,r7,r8,r9⟩:=q6
  have e1:n.rows=[]:=kj r1
  have hp:=(dp r4).2
  have hm:∀m∈n.aj,m.R:=(fq.iff.1 r5).1
  have hl:=Ga hm
  refine⟨aa,aa,aa,aa,hh,fun m h=> ?_,fun p h=> ?_,(by rw [e1];intro m hm;cases hm)⟩
  ·have:=(hm m h).1
   exact⟨aa,aa,aa⟩
  ·obtain⟨i,hi,rfl⟩:=cj h
   have:=(r8 i hi).2.1;omega
theorem XT{c:aX}{l:List Nd}(hc:lY c)(hl:l.length≤4096)(h:∀n∈l,n.R c.fan c.leaf c.aT):Sml l:=⟨hl,fun n hn=>Gr hc (h n hn)⟩
theorem lx{l:List Nd}(hs:jf l):(l.map fun n:Nd=>n.slot)=(List.range l.length).map fun i:Nat=>(i:Int):=by
 refine Av (by simp) fun i hi hj=> ?_
 simp only [jX,NP]
 exact(hs i (by simpa using hi)).1
variable {f:aw→List aw}
theorem IX:∀ {L:List aw},(∀y∈L,f y=[y])→L.flatMap f=L
 |[],_=>rfl
 |y::L,h=>by rw [cI,h y (by simp),IX fun z hz=>h z (dk _ hz)];rfl
theorem Bd{f:aw→List aw} :∀ {L:List aw},(∀x∈L,(ck (f x)).flatMap iZ=(ck [x]).flatMap iZ)→(ck (L.flatMap f)).flatMap iZ=(ck L).flatMap iZ
 |[],_=>rfl
 |x::L,h=>by
  have ih:=Bd (f:=f) (L:=L) fun z hz=>h z (dk _ hz)
  have e1:ck ((x::L).flatMap f)=ck (f x)++ck (L.flatMap f):=by unfold ck;rw [cI,gv]
  have e2:ck (x::L)=ck [x]++ck L:=by unfold ck;rw [←gv];rfl
  rw [e1,e2,dT,dT,h x (by simp),ih]
theorem Vg{K K':aw→List aw} :∀ {L:List aw},(∀x∈L,(f x).flatMap K'=(K x).flatMap f)→(L.flatMap f).flatMap K'=(L.flatMap K).flatMap f
 |[],_=>rfl
 |x::L,h=>by
  rw [cI,cI,dT,dT,h x (by simp),Vg fun z hz=>h z (dk _ hz)]
def gA (n:Nd) (i:Nat) (k:af) (v:Int):Nd:={ n with ab:=(n.ab.take i++[k])++n.ab.drop i,kids:=(n.kids.take (i+1)++[v])++n.kids.drop (i+1) }
def dX (l:List Nd) (P:Nd) (i:Nat) (a b:Nd) (k:af):List Nd:=((l.set a.slot.toNat a).set P.slot.toNat (gA P i k l.length))++[b]
structure PartOf (c:aX) (l:List Nd) (ss:List aw) (P:aw) (i:Nat) (a b:Nd) (k:af) (h:Nat):Prop where
 t:Tree c l ss
 mem:P∈ss
 h0:¬P.n.level=0
 hi:i<P.n.kids.length
 hv:IH (aq l P i).n a b k h
 sa:a.slot=(aq l P i).n.slot
 sb:b.slot=l.length
 ea:a.seen=(aq l P i).n.seen
 eb:b.seen=(aq l P i).n.seen
 m0:(aq l P i).n.level=0→a.aj=(aq l P i).n.aj∧b.aj=(aq l P i).n.aj
 m1:¬(aq l P i).n.level=0→a.aj=aB ⟨af.nil,k,false⟩ (aq l P i).n.aj∧b.aj=aB ⟨k,af.nil,true⟩ (aq l P i).n.aj
 nk:(aq l P i).n.has k=true
 aR:a.R c.fan c.leaf c.aT
 bR:b.R c.fan c.leaf c.aT
 Nr:(aA P.n.ab (i:Int)).has k=true
 klo:¬k=(aA P.n.ab (i:Int)).lo
 full:(P.n.kids.length:Int)<c.fan
 room:(l.length:Int)<c.bp
 Qz:l.length<4096
namespace PartOf
variable {c:aX} {l:List Nd} {ss:List aw} {P:aw} {i:Nat} {a b:Nd} {k:af} {h:Nat}
theorem km(p:PartOf c l ss P i a b k h):aq l P i∈ss∧(aq l P i).n.level=P.n.level-1:=by
 have:=p.t.at p.mem p.h0 p.hi
 exact⟨this.1,this.2.2.2⟩
variable {x:aw}
theorem ne(p:PartOf c l ss P i a b k h){y:aw}(hx:x∈ss)(hy:y∈ss)(hl:x.n.level≠y.n.level):x.n.slot≠y.n.slot:=fun e=>hl (by rw [p.t.rj hx hy e])
theorem KV(p:PartOf c l ss P i a b k h):(aq l P i).n.slot≠P.n.slot:=p.ne p.km.1 p.mem (by have:=p.km.2;omega)
theorem sin(p:PartOf c l ss P i a b k h)(hx:x∈ss):0≤x.n.slot∧x.n.slot<l.length:=(p.t.nd hx).1
theorem K9(p:PartOf c l ss P i a b k h)(hx:x∈ss):x.n.seen≤1099511627776:=by
 obtain⟨j,hj,e⟩:=cj (p.t.nd hx).2.2
 rw [←e];exact(p.t.slot j hj).2
theorem bp(p:PartOf c l ss P i a b k h):jf (dX l P.n i a b k):=by
 have hk:=p.sin p.km.1
 have hp:=p.sin p.mem
 have h1:=uf p.t.slot (x:=a) (by rw [p.sa];exact hk) (by rw [p.ea];exact p.K9 p.km.1)
 have h2:=uf h1 (x:=gA P.n i k l.length) (by rw [cg];exact hp) (p.K9 p.mem)
 exact C8 h2 (by rw [cg,cg];exact p.sb) (by rw [p.eb];exact p.K9 p.km.1)
theorem len(p:PartOf c l ss P i a b k h):(dX l P.n i a b k).length=l.length+1:=by
 unfold dX;rw [bP,cg,cg];rfl
theorem get(p:PartOf c l ss P i a b k h)(s:Int):ai (dX l P.n i a b k) s=if s=l.length then b else if s=P.n.slot then gA P.n i k l.length else if s=(aq l P i).n.slot then a else ai l s:=by
 have hk:=p.sin p.km.1
 have hp:=p.sin p.mem
 unfold dX
 rw [xy,cg,cg]
 split
 ·rfl
 ·have e:=pg (l:=l.set a.slot.toNat a) (x:=gA P.n i k l.length) (by rw [cg];exact hp) s
  rw [show(gA P.n i k l.length).slot=P.n.slot from rfl]at e
  rw [e]
  split
  ·rfl
  ·rw [pg (by rw [p.sa];exact hk),p.sa]
theorem find(p:PartOf c l ss P i a b k h)(s:Int):cE (dX l P.n i a b k) s=(if s=l.length then b else if s=P.n.slot then gA P.n i k l.length else if s=(aq l P i).n.slot then a else ai l s,decide (0≤s∧s<(l.length:Int)+1)):=by
 rw [sy p.bp,p.get,p.len]
 congr 1
theorem A2(p:PartOf c l ss P i a b k h)(hx:x∈ss)(h1:x.n.slot≠P.n.slot)(h2:x.n.slot≠(aq l P i).n.slot):cE (dX l P.n i a b k) x.n.slot=cE l x.n.slot:=by
 have:=p.sin hx
 rw [p.find,if_neg aa,if_neg h1,if_neg h2,sy p.t.slot,dB aa,dB aa]
theorem ajH(p:PartOf c l ss P i a b k h):cE (dX l P.n i a b k) P.n.slot=(gA P.n i k l.length,true):=by
 have:=p.sin p.mem
 rw [p.find,if_neg aa,if_pos rfl,dB aa]
theorem ajI(p:PartOf c l ss P i a b k h):cE (dX l P.n i a b k) (aq l P i).n.slot=(a,true):=by
 have:=p.sin p.km.1
 rw [p.find,if_neg aa,if_neg p.KV,if_pos rfl,dB aa]
theorem ajJ(p:PartOf c l ss P i a b k h):cE (dX l P.n i a b k) (l.length:Int)=(b,true):=by
 rw [p.find,if_pos rfl,dB aa]
noncomputable def nP (l:List Nd) (P:aw) (i:Nat) (k:af):aw:=⟨gA P.n i k l.length,P.s,P.ms⟩
noncomputable def nA (l:List Nd) (P:aw) (i:Nat) (a b:Nd) (k:af):aw:=aq (dX l P.n i a b k) (nP l P i k) i
noncomputable def nB (l:List Nd) (P:aw) (i:Nat) (a b:Nd) (k:af):aw:=aq (dX l P.n i a b k) (nP l P i k) (i+1)
variable {j:Nat}
theorem kJ(p:PartOf c l ss P i a b k h)(hx:x∈ss)(h0:¬x.n.level=0)(hj:j<x.n.kids.length):x.n.kids.getD j 0=(aq l x j).n.slot:=by
 have e:=(p.t.at hx h0 hj)
 rw [fc,eY hj,e.2.2.1,(cZ p.t.slot e.2.1).1];rfl
theorem La(p:PartOf c l ss P i a b k h)(j:Nat):(nP l P i k).n.kids.getD j 0=if j≤i then P.n.kids.getD j 0 else if j=i+1 then(l.length:Int)else P.n.kids.getD (j-1) 0:=by
 have hi:=p.hi
 show((P.n.kids.take (i+1)++[(l.length:Int)])++P.n.kids.drop (i+1)).getD j 0=_
 rw [fc,fc,fc]
 have l1:(P.n.kids.take (i+1)).length=i+1:=by rw [bV];omega
 by_cases h1:j≤i
 ·rw [if_pos h1,rH (by rw [bP,l1];omega),rH aa,mF,if_pos aa]
 ·rw [if_neg h1]
  by_cases h2:j=i+1
  ·rw [if_pos h2,h2,rH (by rw [bP,l1];simp),rV aa,l1];simp
  ·rw [if_neg h2,rV (by rw [bP,l1];simp;omega),oA,bP,l1]
   congr 2
   simp;omega
theorem rt(p:PartOf c l ss P i a b k h):rising P.n.ab=true∧P.n.kids.length=P.n.ab.length+1:=dp (cL (p.t.kids p.mem) p.h0).2.2.1
theorem rt'(p:PartOf c l ss P i a b k h):fA (nP l P i k).n.ab (nP l P i k).n.kids.length=true:=abt (cL (p.t.kids p.mem) p.h0).2.2.1 p.hi p.Nr p.klo
theorem ar4(p:PartOf c l ss P i a b k h):(nP l P i k).n.kids.length=P.n.kids.length+1:=by
 have:=p.hi
 show((P.n.kids.take (i+1)++[(l.length:Int)])++P.n.kids.drop (i+1)).length=_
 simp;omega
theorem ayw(p:PartOf c l ss P i a b k h):ae P.n.ab k=i:=by
 have h1:=p.rt
 have h2:=p.Nr
 rw [eR h1.1 k (by have:=p.hi;omega),fJ]at h2
 exact h2.symm
theorem nS(p:PartOf c l ss P i a b k h)(q:af):(q.lt k=true→ae (nP l P i k).n.ab q=ae P.n.ab q∧ae P.n.ab q≤i)∧(q.lt k=false→ae (nP l P i k).n.ab q=ae P.n.ab q+1∧i≤ae P.n.ab q):=by
 have e:=Qy P.n.ab i k q
 have hk:=p.ayw
 constructor
 ·intro hq
  rw [if_pos hq]at e
  have:=oO (P:=P.n.ab) (p:=k) (q:=q) (af.lt_asymm hq)
  exact⟨by rw [←rK (ae P.n.ab q)];exact e,aa⟩
 ·intro hq
  rw [if_neg (by simp [hq])]at e
  have:=oO (P:=P.n.ab) (p:=q) (q:=k) hq
  exact⟨e,aa⟩
theorem ajK(p:PartOf c l ss P i a b k h)(hj:j≤P.n.kids.length)(q:af):((nP l P i k).s.bH (aA (nP l P i k).n.ab (j:Int))).has q=(P.s.has q&&decide (j=ae (nP l P i k).n.ab q)):=by
 obtain⟨h1,h2⟩:=dp p.rt'
 have:=p.ar4
 rw [bL,eR h1 q aa];rfl
theorem MI(p:PartOf c l ss P i a b k h)(hj:j<P.n.kids.length)(q:af):(aq l P j).s.has q=(P.s.has q&&decide (j=ae P.n.ab q)):=qR (cL (p.t.kids p.mem) p.h0).2.2.1 hj q
theorem ha(p:PartOf c l ss P i a b k h)(q:af):(nA l P i a b k).s.has q=((aq l P i).s.has q&&q.lt k):=by
 have h1:=p.ajK (j:=i) (by have:=p.hi;omega) q
 have h2:=p.MI p.hi q
 show((nP l P i k).s.bH _).has q=_
 rw [h1,h2]
 cases hq:q.lt k
 ·have:=(p.nS q).2 hq
  rw [gr aa];simp
 ·have:=(p.nS q).1 hq
  rw [this.1];simp
theorem hb(p:PartOf c l ss P i a b k h)(q:af):(nB l P i a b k).s.has q=((aq l P i).s.has q&& !q.lt k):=by
 have h1:=p.ajK (j:=i+1) (by have:=p.hi;omega) q
 have h2:=p.MI p.hi q
 show((nP l P i k).s.bH (aA _ ((i+1:Nat):Int))).has q=_
 rw [h1,h2]
 cases hq:q.lt k
 ·have:=(p.nS q).2 hq
  rw [this.1];simp
 ·have:=(p.nS q).1 hq
  rw [gr (show ¬i+1=ae (nP l P i k).n.ab q by omega)];simp
theorem ams(p:PartOf c l ss P i a b k h):(nA l P i a b k).ms=aB (nA l P i a b k).s (aq l P i).ms:=by
 have h1:=(p.t.two p.mem (nA l P i a b k).s).1
 have h2:=(p.t.sF p.mem (p.t.ub P p.mem) i).1
 rw [h2,fi,eL (fun q hq=>by rw [p.ha,cm]at hq;exact hq.1),eL (fun q hq=>by rw [p.ha,cm]at hq;exact hq.1),←h1]
 rfl
theorem bms(p:PartOf c l ss P i a b k h):(nB l P i a b k).ms=aB (nB l P i a b k).s (aq l P i).ms:=by
 have h1:=(p.t.two p.mem (nB l P i a b k).s).1
 have h2:=(p.t.sF p.mem (p.t.ub P p.mem) i).1
 rw [h2,fi,eL (fun q hq=>by rw [p.hb,cm]at hq;exact hq.1),eL (fun q hq=>by rw [p.hb,cm]at hq;exact hq.1),←h1]
 rfl
theorem an(p:PartOf c l ss P i a b k h):(nA l P i a b k).n=a:=by
 show(cE _ ((nP l P i k).n.kids.getD i 0)).1=a
 rw [p.La,if_pos (bZ i),p.kJ p.mem p.h0 p.hi,p.ajI]
theorem bn(p:PartOf c l ss P i a b k h):(nB l P i a b k).n=b:=by
 show(cE _ ((nP l P i k).n.kids.getD (i+1) 0)).1=b
 rw [p.La,if_neg aa,if_pos rfl,p.ajJ]
theorem hs(p:PartOf c l ss P i a b k h):nT (aq l P i) (nA l P i a b k) (nB l P i a b k) k h:=by
 refine⟨by rw [p.an,p.bn];exact p.hv,p.ha,p.hb,gm _ _,gm _ _,fun s hs=> ?_,fun s hs=> ?_⟩
 ·rw [p.an,p.ams,eL hs]
  by_cases h0:(aq l P i).n.level=0
  ·rw [(p.m0 h0).1]
  ·rw [(p.m1 h0).1,eL fun q hq=> ?_]
   have:=hs q hq
   rw [p.ha,cm]at this
   exact cO.2 ⟨af.nil_le q,.inr this.2⟩
 ·rw [p.bn,p.bms,eL hs]
  by_cases h0:(aq l P i).n.level=0
  ·rw [(p.m0 h0).2]
  ·rw [(p.m1 h0).2,eL fun q hq=> ?_]
   have:=hs q hq
   rw [p.hb,cm]at this
   exact cO.2 ⟨by simpa using this.2,.inl rfl⟩
end PartOf
namespace PartOf
variable {c:aX} {l:List Nd} {ss:List aw} {P:aw} {i:Nat} {a b:Nd} {k:af} {h:Nat}
noncomputable def fP (l:List Nd) (P:aw) (i:Nat) (a b:Nd) (k:af) (x:aw):List aw:=
 if x.n.slot=(aq l P i).n.slot then [nA l P i a b k,nB l P i a b k]else if x.n.slot=P.n.slot then [nP l P i k]else [x]
theorem f_k:fP l P i a b k (aq l P i)=[nA l P i a b k,nB l P i a b k]:=if_pos rfl
theorem f_p(p:PartOf c l ss P i a b k h):fP l P i a b k P=[nP l P i k]:=by
 unfold fP;rw [if_neg p.KV.symm,if_pos rfl]
variable {x:aw}
theorem f_x(h1:x.n.slot≠P.n.slot)(h2:x.n.slot≠(aq l P i).n.slot):fP l P i a b k x=[x]:=by
 unfold fP;rw [if_neg h2,if_neg h1]
theorem abA(p:PartOf c l ss P i a b k h):(ft (dX l P.n i a b k) (nA l P i a b k)).isSome=true∧(ft (dX l P.n i a b k) (nB l P i a b k)).isSome=true∧bu (dX l P.n i a b k) (nA l P i a b k)++bu (dX l P.n i a b k) (nB l P i a b k)=bu l (aq l P i):=by
 refine nT.kids p.t p.km.1 p.hs fun j hj=> ?_
 by_cases h0:(aq l P i).n.level=0
 ·have:=(p.t.leaf p.km.1 h0).1
  omega
 ·have e:=p.t.at p.km.1 h0 hj
  have g:=p.km.2
  rw [p.kJ p.km.1 h0 hj]
  exact p.A2 e.1 (p.ne e.1 p.mem aa) (p.ne e.1 p.km.1 aa)
variable {j:Nat}
theorem aAx(p:PartOf c l ss P i a b k h)(hj:j<i):cE (dX l P.n i a b k) ((nP l P i k).n.kids.getD j 0)=cE l (P.n.kids.getD j 0):=by
 have hi:=p.hi
 have e:=p.t.at p.mem p.h0 (j:=j) aa
 have o9:=(cL (p.t.kids p.mem) p.h0)
 rw [p.La,if_pos aa,p.kJ p.mem p.h0 aa]
 refine p.A2 e.1 (p.ne e.1 p.mem aa) fun e2=> ?_
 have:=p.t.Od p.mem (i:=j) (j:=i) (by rw [o9.1,lK];omega) (by rw [o9.1,lK];omega) (by rw [(p.t.rm p.mem p.h0).2,(p.t.rm p.mem p.h0).2];exact e2)
 omega
theorem aAy(p:PartOf c l ss P i a b k h)(hj:i<j)(hj2:j<P.n.kids.length):cE (dX l P.n i a b k) ((nP l P i k).n.kids.getD (j+1) 0)=cE l (P.n.kids.getD j 0):=by
 have hi:=p.hi
 have e:=p.t.at p.mem p.h0 (j:=j) aa
 have o9:=(cL (p.t.kids p.mem) p.h0)
 rw [p.La,if_neg aa,if_neg aa,show j+1-1=j from rfl,p.kJ p.mem p.h0 aa]
 refine p.A2 e.1 (p.ne e.1 p.mem aa) fun e2=> ?_
 have:=p.t.Od p.mem (i:=j) (j:=i) (by rw [o9.1,lK];omega) (by rw [o9.1,lK];omega) (by rw [(p.t.rm p.mem p.h0).2,(p.t.rm p.mem p.h0).2];exact e2)
 omega
theorem aHe(p:PartOf c l ss P i a b k h)(hj:j<i):aq (dX l P.n i a b k) (nP l P i k) j=aq l P j:=by
 have hi:=p.hi
 refine uc (by rw [p.aAx hj]) (fun q=> ?_) fun s _=>rfl
 show _=(aq l P j).s.has q
 rw [p.ajK aa,p.MI aa]
 cases hq:q.lt k
 ·have:=(p.nS q).2 hq
  rw [gr (show ¬j=ae (nP l P i k).n.ab q by omega),gr (show ¬j=ae P.n.ab q by omega)]
 ·rw [((p.nS q).1 hq).1]
theorem aHf(p:PartOf c l ss P i a b k h)(hj:i<j)(hj2:j<P.n.kids.length):aq (dX l P.n i a b k) (nP l P i k) (j+1)=aq l P j:=by
 refine uc (by rw [p.aAy hj hj2]) (fun q=> ?_) fun s _=>rfl
 show _=(aq l P j).s.has q
 rw [p.ajK aa,p.MI aa]
 cases hq:q.lt k
 ·rw [((p.nS q).2 hq).1];simp
 ·have:=(p.nS q).1 hq
  rw [gr (show ¬j+1=ae (nP l P i k).n.ab q by omega),gr (show ¬j=ae P.n.ab q by omega)]
theorem aAz(p:PartOf c l ss P i a b k h):(ft (dX l P.n i a b k) (nP l P i k)).isSome=true∧bu (dX l P.n i a b k) (nP l P i k)=(bu l P).flatMap (fP l P i a b k):=by
 obtain⟨h1,h2,h3,h4⟩:=cL (p.t.kids p.mem) p.h0
 have hi:=p.hi
 have o9:=p.ar4
 have ox:=p.km.2
 obtain⟨g1,g2⟩:=uS (l:=dX l P.n i a b k) (x:=nP l P i k) h2 p.rt' fun j hj=>by
  by_cases c1:j<i
  ·rw [ue (l':=l) (y:=P) (j:=j) (p.aAx c1) rfl];exact h4 j aa
  ·by_cases c2:j=i
   ·subst c2
    unfold oK
    rw [p.La,if_pos (bZ _),p.kJ p.mem p.h0 p.hi,p.ajI]
    simp only [vw,fJ]
    rw [p.hv.la,ox];rfl
   ·by_cases c3:j=i+1
    ·subst c3
     unfold oK
     rw [p.La,if_neg aa,if_pos rfl,p.ajJ]
     simp only [vw,fJ]
     rw [p.hv.lb,ox];rfl
    ·obtain⟨q,rfl⟩:∃q,j=q+1:=⟨j-1,aa⟩
     rw [ue (l':=l) (y:=P) (j:=q) (p.aAy aa aa) rfl];exact h4 q aa
 refine⟨g1,?_⟩
 obtain⟨r,hr⟩:∃r,P.n.kids.length=i+(1+r):=⟨P.n.kids.length-(i+1),aa⟩
 rw [g2,h1,o9,hr,show i+(1+r)+1=i+(2+r)by omega]
 have hf:∀j,j<P.n.kids.length→j≠i→fP l P i a b k (aq l P j)=[aq l P j]:=fun j hj ig=>by
  have e:=p.t.at p.mem p.h0 hj
  refine f_x (p.ne e.1 p.mem aa) fun e2=> ?_
  have:=p.t.Od p.mem (i:=j) (j:=i) (by rw [h1,lK];omega) (by rw [h1,lK];omega) (by rw [(p.t.rm p.mem p.h0).2,(p.t.rm p.mem p.h0).2];exact e2)
  exact ig this
 unfold l8
 rw [show List.range (i+(2+r))=List.range i++(List.range (2+r)).map (i+ ·)from NW,show List.range (i+(1+r))=List.range i++(List.range (1+r)).map (i+ ·)from NW,bU,bU,dT,lS,lS]
 congr 1
 ·rw [IX fun y hy=> ?_]
  ·exact rU fun j hj=>p.aHe (gN.1 hj)
  ·obtain⟨j,hj,rfl⟩:=cB.1 hy
   have:=gN.1 hj
   exact hf j aa aa
 ·rw [show List.range (2+r)=List.range 2++(List.range r).map (2+ ·)from NW,show List.range (1+r)=List.range 1++(List.range r).map (1+ ·)from NW,bU,bU,dT,lS,lS]
  congr 1
  ·show [aq (dX l P.n i a b k) (nP l P i k) (i+0),aq (dX l P.n i a b k) (nP l P i k) (i+1)]=([aq l P (i+0)]).flatMap _
   rw [cI,iB,cx,rK,f_k];rfl
  ·rw [IX fun y hy=> ?_]
   ·refine rU fun j hj=> ?_
    have:=gN.1 hj
    have e:=p.aHf (j:=i+(1+j)) aa aa
    rw [show i+(1+j)+1=i+(2+j)by omega]at e
    exact e
   ·obtain⟨j,hj,rfl⟩:=cB.1 hy
    have:=gN.1 hj
    exact hf (i+(1+j)) aa aa
theorem ajL(p:PartOf c l ss P i a b k h):aq l P i∈bu l P:=by
 have h1:=(cL (p.t.kids p.mem) p.h0).1
 rw [h1]
 exact cB.2 ⟨i,gN.2 p.hi,rfl⟩
theorem abB(p:PartOf c l ss P i a b k h)(hx:x∈ss)(n1:x.n.slot≠P.n.slot):(ft (dX l P.n i a b k) x).isSome=true∧bu (dX l P.n i a b k) x=(bu l x).flatMap (fP l P i a b k):=by
 by_cases h0:x.n.level=0
 ·rw [uQ h0,fN h0,fN h0];exact⟨rfl,rfl⟩
 ·obtain⟨h1,h2,h3,h4⟩:=cL (p.t.kids hx) h0
  have key:∀j,j<x.n.kids.length→fP l P i a b k (aq l x j)=[aq (dX l P.n i a b k) x j]∧oK (dX l P.n i a b k) x j=true:=fun j hj=>by
   have e:=p.t.at hx h0 hj
   have gH:aq l x j∈bu l x:=by rw [h1];exact cB.2 ⟨j,gN.2 hj,rfl⟩
   have nk:(aq l x j).n.slot≠(aq l P i).n.slot:=fun e2=>n1 (by rw [p.t.parent hx p.mem gH p.ajL e2])
   by_cases c1:(aq l x j).n.slot=P.n.slot
   ·have eP:=p.t.rj e.1 p.mem c1
    have ef:cE (dX l P.n i a b k) (x.n.kids.getD j 0)=(gA P.n i k l.length,true):=by rw [p.kJ hx h0 hj,c1,p.ajH]
    have ek:aq (dX l P.n i a b k) x j=⟨gA P.n i k l.length,(aq l x j).s,(aq l x j).ms⟩:=by
     show(⟨(cE _ _).1,_,_⟩:aw)=_
     rw [ef];rfl
    refine⟨?_,?_⟩
    ·rw [ek,eP,p.f_p];rfl
    ·unfold oK
     rw [ef]
     simp only [vw,fJ]
     have:=e.2.2.2
     rw [eP]at this
     exact this
   ·have ef:cE (dX l P.n i a b k) (x.n.kids.getD j 0)=cE l (x.n.kids.getD j 0):=by rw [p.kJ hx h0 hj,p.A2 e.1 c1 nk]
    refine⟨?_,?_⟩
    ·rw [f_x c1 nk,uc (l:=l) (l':=dX l P.n i a b k) (x:=x) (y:=x) (i:=j) (j:=j) (by rw [ef]) (fun _=>rfl) (fun _ _=>rfl)]
    ·rw [ue (l':=l) (y:=x) (j:=j) ef rfl];exact h4 j hj
  obtain⟨g1,g2⟩:=uS (l:=dX l P.n i a b k) (x:=x) h2 h3 fun j hj=>(key j hj).2
  refine⟨g1,?_⟩
  rw [g2,h1]
  unfold l8
  rw [List.flatMap_map]
  have:∀(L:List Nat),(∀j∈L,j<x.n.kids.length)→L.map (aq (dX l P.n i a b k) x)=L.flatMap fun j=>fP l P i a b k (aq l x j):=by
   intro L
   induction L with
   |nil=>intro _;rfl
   |cons j L ih=>
    intro hL
    rw [cA,cI,(key j (hL j (by simp))).1,ih fun z hz=>hL z (dk _ hz)];rfl
  exact this _ fun j hj=>gN.1 hj
theorem Q5(p:PartOf c l ss P i a b k h):fP l P i a b k (bC l 0)=[bC (dX l P.n i a b k) 0]:=by
 have n2:(bC l 0).n.slot≠(aq l P i).n.slot:=(p.t.Ez p.mem p.ajL).symm
 have e0:=p.t.oN
 by_cases c1:(bC l 0).n.slot=P.n.slot
 ·have eP:=p.t.rj p.t.root p.mem c1
  have e:bC (dX l P.n i a b k) 0=⟨gA P.n i k l.length,(bC l 0).s,(bC l 0).ms⟩:=by
   show(⟨(cE _ _).1,_,_⟩:aw)=_
   have:=p.ajH
   rw [←c1,e0]at this
   rw [this];rfl
  rw [e,eP,p.f_p];rfl
 ·rw [f_x c1 n2]
  have:=p.A2 p.t.root c1 n2
  rw [e0]at this
  show [(⟨(cE l 0).1,_,_⟩:aw)]=[⟨(cE _ 0).1,_,_⟩]
  rw [this]
theorem each(p:PartOf c l ss P i a b k h)(hx:x∈ss):(∀z∈fP l P i a b k x,(ft (dX l P.n i a b k) z).isSome=true)∧(fP l P i a b k x).flatMap (bu (dX l P.n i a b k))=(bu l x).flatMap (fP l P i a b k):=by
 by_cases c1:x.n.slot=(aq l P i).n.slot
 ·rw [p.t.rj hx p.km.1 c1,f_k]
  obtain⟨g1,g2,g3⟩:=p.abA
  refine⟨fun z hz=> ?_,?_⟩
  ·simp only [dK,ww,Ek]at hz
   rcases hz with rfl|rfl
   ·exact g1
   ·exact g2
  ·rw [IX (L:=bu l (aq l P i)) fun y hy=> ?_]
   ·simpa using g3
   ·have e:=p.t.xw p.km.1 hy
    have g:=p.km.2
    exact f_x (p.ne e.1 p.mem aa) (p.ne e.1 p.km.1 aa)
 ·by_cases c2:x.n.slot=P.n.slot
  ·rw [p.t.rj hx p.mem c2,p.f_p]
   refine⟨fun z hz=> ?_,?_⟩
   ·rw [gh]at hz;rw [hz];exact p.aAz.1
   ·rw [←p.aAz.2];simp
  ·rw [f_x c2 c1]
   refine⟨fun z hz=> ?_,?_⟩
   ·rw [gh]at hz;rw [hz];exact(p.abB hx c2).1
   ·rw [←(p.abB hx c2).2];simp
theorem fix(p:PartOf c l ss P i a b k h):ss.flatMap (fP l P i a b k)=bC (dX l P.n i a b k) 0::(ss.flatMap (fP l P i a b k)).flatMap (bu (dX l P.n i a b k)):=by
 rw [Vg fun x hx=>(p.each hx).2]
 conv=>lhs;rw [p.t.fix]
 rw [cI,p.Q5];rfl
theorem Lb(p:PartOf c l ss P i a b k h):∀(L:List aw),(∀x∈L,x∈ss∧x.n.slot≠(aq l P i).n.slot)→(L.flatMap (fP l P i a b k)).map aw.key=L.map aw.key
 |[],_=>rfl
 |x::L,hL=>by
  rw [cI,bU,p.Lb L fun z hz=>hL z (dk _ hz),cA]
  have g:=hL x (by simp)
  by_cases c2:x.n.slot=P.n.slot
  ·rw [p.t.rj g.1 p.mem c2,p.f_p];rfl
  ·rw [f_x c2 g.2];rfl
theorem keys(p:PartOf c l ss P i a b k h):∃S1 S2:List UM,ss.map aw.key=S1++((aq l P i).n.slot,(aq l P i).n.level,(aq l P i).n.right)::S2∧
  (ss.flatMap (fP l P i a b k)).map aw.key=S1++((aq l P i).n.slot,(aq l P i).n.level,(l.length:Int))::((l.length:Int),(aq l P i).n.level,(aq l P i).n.right)::S2:=by
 obtain⟨A,B,e⟩:=List.append_of_mem p.km.1
 have iR:=p.t.zN
 have hA:∀x∈A,x∈ss∧x.n.slot≠(aq l P i).n.slot:=fun x hx=>by
  refine⟨by rw [e];exact fK _ hx,fun e2=> ?_⟩
  rw [e,bU,kX]at iR
  exact iR.2.2 _ (cB.2 ⟨x,hx,rfl⟩) _ (cB.2 ⟨aq l P i,by simp,rfl⟩) e2
 have hB:∀x∈B,x∈ss∧x.n.slot≠(aq l P i).n.slot:=fun x hx=>by
  refine⟨by rw [e];exact ib _ (dk _ hx),fun e2=> ?_⟩
  rw [e,bU,kX,cA,nN]at iR
  exact iR.2.1.1 (cB.2 ⟨x,hx,e2⟩)
 refine⟨A.map aw.key,B.map aw.key,?_,?_⟩
 ·conv=>lhs;rw [e]
  rw [bU,cA];rfl
 ·conv=>lhs;rw [e]
  rw [dT,cI,bU,bU,p.Lb A hA,p.Lb B hB,f_k]
  congr 1
  show [aw.key (nA l P i a b k),aw.key (nB l P i a b k)]++_=_
  have k1:aw.key (nA l P i a b k)=((aq l P i).n.slot,(aq l P i).n.level,(l.length:Int)):=by
   unfold aw.key;rw [p.an,p.sa,p.hv.la,p.hv.XR,p.sb]
  have k2:aw.key (nB l P i a b k)=((l.length:Int),(aq l P i).n.level,(aq l P i).n.right):=by
   unfold aw.key;rw [p.bn,p.sb,p.hv.lb,p.hv.abz.2.2]
  rw [k1,k2];rfl
theorem perm(p:PartOf c l ss P i a b k h):((ss.flatMap (fP l P i a b k)).map fun x:aw=>x.n.slot).Perm ((dX l P.n i a b k).map fun n:Nd=>n.slot):=by
 obtain⟨S1,S2,e1,e2⟩:=p.keys
 have h1:(ss.flatMap (fP l P i a b k)).map (fun x:aw=>x.n.slot)=((ss.flatMap (fP l P i a b k)).map aw.key).map (·.1):=by rw [lS];rfl
 have h2:ss.map (fun x:aw=>x.n.slot)=(ss.map aw.key).map (·.1):=by rw [lS];rfl
 have h3:((ss.flatMap (fP l P i a b k)).map fun x:aw=>x.n.slot).Perm ((ss.map fun x:aw=>x.n.slot)++[(l.length:Int)]):=by
  rw [h1,h2,e1,e2,bU,bU,ci]
  refine bO _ ?_
  simp only [cA,pC]
  exact List.Perm.cons _ (yl _ _).symm
 refine h3.trans ?_
 have h4:((dX l P.n i a b k).map fun n:Nd=>n.slot)=(l.map fun n:Nd=>n.slot)++[(l.length:Int)]:=by
  rw [lx p.bp,lx p.t.slot,p.len,uz,bU];rfl
 rw [h4]
 exact pD _ p.t.IB
end PartOf
namespace PartOf
variable {c:aX} {l:List Nd} {ss:List aw} {P:aw} {i:Nat} {a b:Nd} {k:af} {h:Nat}
theorem msA(p:PartOf c l ss P i a b k h):∀m∈(nA l P i a b k).n.aj,∃m'∈(aq l P i).n.aj,(m'.clip ⟨af.nil,k,false⟩).2=true∧(m'.clip ⟨af.nil,k,false⟩).1=m:=fun m hm=>by
 rw [p.an]at hm
 by_cases h0:(aq l P i).n.level=0
 ·rw [(p.m0 h0).1,p.t.sE p.km.1 h0]at hm;cases hm
 ·rw [(p.m1 h0).1]at hm;exact mS hm
theorem msB(p:PartOf c l ss P i a b k h):∀m∈(nB l P i a b k).n.aj,∃m'∈(aq l P i).n.aj,(m'.clip ⟨k,af.nil,true⟩).2=true∧(m'.clip ⟨k,af.nil,true⟩).1=m:=fun m hm=>by
 rw [p.bn]at hm
 by_cases h0:(aq l P i).n.level=0
 ·rw [(p.m0 h0).2,p.t.sE p.km.1 h0]at hm;cases hm
 ·rw [(p.m1 h0).2]at hm;exact mS hm
theorem aHg(p:PartOf c l ss P i a b k h):(aq l P i).s.has k=true∧k≠(aq l P i).s.lo:=p.t.ajC p.km.1 p.hv p.nk
theorem aAA(p:PartOf c l ss P i a b k h):P.s.has k=true∧k≠P.s.lo:=by
 obtain⟨k1,k2⟩:=p.aHg
 have h1:P.s.has k=true:=C4 (l:=l) (j:=i) k k1
 refine⟨h1,fun e=> ?_⟩
 have he:(aq l P i).s.empty=false:=by
  cases e9:(aq l P i).s.empty
  ·rfl
  ·have:=dv.1 e9 k;rw [k1]at this;cases this
 have h2:=C4 (l:=l) (j:=i) _ (aCM he)
 have h3:=(cO.1 h2).1
 have h4:=(cO.1 k1).1
 rw [←e]at h3
 exact k2 (af.iw h4 h3)
theorem pR(p:PartOf c l ss P i a b k h):(gA P.n i k l.length).R c.fan c.leaf c.aT:=by
 obtain⟨q1,q4,q5,q6⟩:=(p.t.gz p.mem).1
 rw [if_neg p.h0]at q6
 obtain⟨⟨r1,r2,r3⟩,r4,r5,r6,r7,r8,r9⟩:=q6
 obtain⟨⟨p1,p2⟩,_⟩:=(p.t.gz p.mem).2.1
 refine⟨q1,q4,q5,?_⟩
 rw [if_neg (show ¬(gA P.n i k l.length).level=0 from p.h0)]
 have o9:=p.ar4
 have hl:(gA P.n i k l.length).kids.length=P.n.kids.length+1:=o9
 have hf:=p.full
 refine⟨⟨r1,aa,aa⟩,p.rt',r5,r6,fun j hj=> ?_,fun j hj=> ?_,r9⟩
 ·have hm:(gA P.n i k l.length).kids[j]∈(P.n.kids.take (i+1)++[(l.length:Int)])++P.n.kids.drop (i+1):=bN hj
  have all:∀z∈P.n.kids,0≤z:=fun z hz=>by obtain⟨q,hq,rfl⟩:=cj hz;exact r7 q hq
  rcases cP.1 hm with hm|hm
  ·rcases cP.1 hm with hm|hm
   ·exact all _ (gu hm)
   ·rw [gh]at hm;rw [hm];omega
  ·exact all _ (pE hm)
 ·have hm:(gA P.n i k l.length).ab[j]∈(P.n.ab.take i++[k])++P.n.ab.drop i:=bN hj
  have all:∀z∈P.n.ab,P.n.parts z:=fun z hz=>by obtain⟨q,hq,rfl⟩:=cj hz;exact r8 q hq
  rcases cP.1 hm with hm|hm
  ·rcases cP.1 hm with hm|hm
   ·exact all _ (gu hm)
   ·rw [gh]at hm;rw [hm]
    refine⟨p.hv.size.1,p.hv.size.2,?_⟩
    show(P.n.fp||k.lt P.n.high)=true
    rw [p1,p2,kU]
    exact(cO.1 p.aAA.1).2
  ·exact all _ (pE hm)
theorem pP(p:PartOf c l ss P i a b k h):xu (nP l P i k):=by
 obtain⟨p0,p3,p4,p5⟩:=(p.t.gz p.mem).2.1
 refine⟨p0,p3,fun j hj=> ?_,p5⟩
 have hm:(nP l P i k).n.ab[j]∈(P.n.ab.take i++[k])++P.n.ab.drop i:=bN hj
 have all:∀z∈P.n.ab,P.s.has z=true∧z≠P.s.lo:=fun z hz=>by obtain⟨q,hq,rfl⟩:=cj hz;exact p4 q hq
 rcases cP.1 hm with hm|hm
 ·rcases cP.1 hm with hm|hm
  ·exact all _ (gu hm)
  ·rw [gh]at hm;rw [hm];exact p.aAA
 ·exact all _ (pE hm)
theorem IY(p:PartOf c l ss P i a b k h):∀z∈ss.flatMap (fP l P i a b k),yV c z:=fun z hz=>by
 obtain⟨x,hx,hz⟩:=kl.1 hz
 have sK:=p.t.gz p.km.1
 have room:=p.room
 by_cases c1:x.n.slot=(aq l P i).n.slot
 ·rw [p.t.rj hx p.km.1 c1,f_k]at hz
  simp only [dK,ww,Ek]at hz
  have st:∀ {s:Span} {ms:List aD},ms=aB s (aq l P i).ms→∀j (hj:j<ms.length),(aq l P i).n.seen<ms[j].aW:=fun e j hj=>by
   subst e
   obtain⟨m0,hm0,e⟩:=gX (bN hj)
   rw [e]
   obtain⟨q,hq,rfl⟩:=cj hm0
   exact sK.2.2.2 q hq
  rcases hz with rfl|rfl
  ·refine⟨by rw [p.an];exact p.aR,nT.abC p.t p.km.1 p.hs (gm _ _) p.nk p.msA,by rw [p.an,p.sa];exact sK.2.2.1,fun j hj=> ?_⟩
   rw [p.an,p.ea];exact st p.ams j hj
  ·refine⟨by rw [p.bn];exact p.bR,nT.abD p.t p.km.1 p.hs (gm _ _) p.nk p.msB,by rw [p.bn,p.sb];exact room,fun j hj=> ?_⟩
   rw [p.bn,p.eb];exact st p.bms j hj
 ·by_cases c2:x.n.slot=P.n.slot
  ·rw [p.t.rj hx p.mem c2,p.f_p,gh]at hz
   rw [hz]
   have sP:=p.t.gz p.mem
   exact⟨p.pR,p.pP,sP.2.2.1,sP.2.2.2⟩
  ·rw [f_x c2 c1,gh]at hz
   rw [hz];exact p.t.gz hx
theorem tree(p:PartOf c l ss P i a b k h):Tree c (dX l P.n i a b k) (ss.flatMap (fP l P i a b k)):=by
 have arF:=p.Qz
 have gn:=p.room
 refine IC p.t.kd (by rw [p.len];omega) (XT p.t.kd (by rw [p.len];omega) fun n hn=> ?_) p.bp p.fix (fun z hz=> ?_) p.perm ?_ (by rw [p.len];omega) p.IY
 ·have uT:∀n∈l,n.R c.fan c.leaf c.aT:=fun n hn=>by
   have:=(p.t.perm.mem_iff).2 hn
   obtain⟨x,hx,rfl⟩:=cB.1 this
   exact(p.t.gz hx).1
  unfold dX at hn
  rcases cP.1 hn with hn|hn
  ·rcases qI hn with hn|rfl
   ·rcases qI hn with hn|rfl
    ·exact uT n hn
    ·exact p.aR
   ·exact p.pR
  ·rw [gh]at hn;rw [hn];exact p.bR
 ·obtain⟨x,hx,hz⟩:=kl.1 hz
  exact(p.each hx).1 z hz
 ·obtain⟨S1,S2,e1,e2⟩:=p.keys
  rw [e2]
  have:=(rn ss).1 p.t.q.1.2.1
  rw [e1]at this
  exact Qw S1 S2 this
theorem map(p:PartOf c l ss P i a b k h):bM (dX l P.n i a b k)=bM l:=by
 rw [qD p.tree.KK,qD p.t.KK]
 refine Bd fun x hx=> ?_
 by_cases c1:x.n.slot=(aq l P i).n.slot
 ·rw [p.t.rj hx p.km.1 c1,f_k]
  exact nT.view p.t p.km.1 p.hs (fun _=>by rw [p.ams,eL fun _ h=>h]) fun _=>by rw [p.bms,eL fun _ h=>h]
 ·by_cases c2:x.n.slot=P.n.slot
  ·rw [p.t.rj hx p.mem c2,p.f_p]
   have e1:¬P.n.level=0:=p.h0
   have e2:¬(nP l P i k).n.level=0:=p.h0
   simp [ck,lF,e1,e2]
  ·rw [f_x c2 c1]
end PartOf
theorem arH{c:aX}{l:List Nd}{ss:List aw}(t:Tree c l ss){P:aw}{i:Nat}(hP:P∈ss)(h0:¬P.n.level=0)(hi:i<P.n.kids.length)(full:(P.n.kids.length:Int)<c.fan)(room:(l.length:Int)<c.bp)(Qz:l.length<4096)
  (hc:(aS (aq l P i).n l.length).2.2.2=true)(ha:(jg P.n i (aS (aq l P i).n l.length).2.2.1 l.length).2=true):
  (jg P.n i (aS (aq l P i).n l.length).2.2.1 l.length).1=gA P.n i (aS (aq l P i).n l.length).2.2.1 l.length∧
  ∃h,PartOf c l ss P i (aS (aq l P i).n l.length).1 (aS (aq l P i).n l.length).2.1 (aS (aq l P i).n l.length).2.2.1 h:=by
 have hK:=(t.at hP h0 hi).1
 have hR:=(t.gz hK).1
 have hRR:=Un (slot:=(l.length:Int)) hR aa hc
 obtain⟨a,b,k,h,e,hv,g1,g2,g3,g4,g5,g6,g7⟩:=sM (y:=(l.length:Int)) hR hc
 rw [e]at ha hRR⊢
 have hb:(qS P.n.ab P.n.kids i k l.length).2.length≠0:=fun e0=>by
  rw [KP (.inr e0)]at ha;cases ha
 have h3:(aA P.n.ab (i:Int)).has k=true:=by
  cases h3:(aA P.n.ab (i:Int)).has k
  ·exact absurd (XP (.inr (.inl h3))) hb
  ·rfl
 have h4:¬k=(aA P.n.ab (i:Int)).lo:=fun h4=>absurd (XP (.inr (.inr h4))) hb
 refine⟨?_,h,⟨t,hP,h0,hi,hv,g1,g2,g3,g4,g5,g6,g7,hRR.1,hRR.2.1,h3,h4,full,room,Qz⟩⟩
 rw [amI h0 aa h3 h4];rfl
structure PourOf (c:aX) (l:List Nd) (ss:List aw) (P:aw) (i:Nat) (a b:Nd) (T:List aD):Prop where
 t:Tree c l ss
 mem:P∈ss
 h0:¬P.n.level=0
 hi:i<P.n.kids.length
 po:sY c P.n (aq l P i).n i a b T
def dP (l:List Nd) (a b:Nd):List Nd:=(l.set a.slot.toNat a).set b.slot.toNat b
namespace PourOf
variable {c:aX} {l:List Nd} {ss:List aw} {P:aw} {i:Nat} {a b:Nd} {T:List aD}
theorem km(p:PourOf c l ss P i a b T):aq l P i∈ss∧(aq l P i).n.level=P.n.level-1:=by
 have:=p.t.at p.mem p.h0 p.hi
 exact⟨this.1,this.2.2.2⟩
variable {x:aw}
theorem ne(p:PourOf c l ss P i a b T){y:aw}(hx:x∈ss)(hy:y∈ss)(hl:x.n.level≠y.n.level):x.n.slot≠y.n.slot:=fun e=>hl (by rw [p.t.rj hx hy e])
theorem KV(p:PourOf c l ss P i a b T):(aq l P i).n.slot≠P.n.slot:=p.ne p.km.1 p.mem (by have:=p.km.2;omega)
theorem sin(p:PourOf c l ss P i a b T)(hx:x∈ss):0≤x.n.slot∧x.n.slot<l.length:=(p.t.nd hx).1
theorem K9(p:PourOf c l ss P i a b T)(hx:x∈ss):x.n.seen≤1099511627776:=by
 obtain⟨j,hj,e⟩:=cj (p.t.nd hx).2.2
 rw [←e];exact(p.t.slot j hj).2
theorem al(p:PourOf c l ss P i a b T):a.slot=P.n.slot∧a.level=P.n.level∧a.ab=P.n.ab∧a.kids=P.n.kids∧a.high=P.n.high∧a.fp=P.n.fp∧a.right=P.n.right∧a.seen=P.n.seen∧a.rows=P.n.rows∧a.aj=dC P.n.ab i T P.n.aj:=by
 rw [p.po.ea];exact⟨rfl,rfl,rfl,rfl,rfl,rfl,rfl,rfl,rfl,rfl⟩
theorem bl(p:PourOf c l ss P i a b T):b.slot=(aq l P i).n.slot∧b.level=(aq l P i).n.level∧b.ab=(aq l P i).n.ab∧b.kids=(aq l P i).n.kids∧b.high=(aq l P i).n.high∧b.fp=(aq l P i).n.fp∧b.right=(aq l P i).n.right:=by
 rw [p.po.eb];exact⟨rfl,rfl,rfl,rfl,rfl,rfl,rfl⟩
theorem rt(p:PourOf c l ss P i a b T):rising P.n.ab=true∧P.n.kids.length=P.n.ab.length+1:=dp (cL (p.t.kids p.mem) p.h0).2.2.1
theorem QL(p:PourOf c l ss P i a b T):P.n.pe c.fan c.aT:=p.t.inner p.mem p.h0
theorem kne(p:PourOf c l ss P i a b T):(aq l P i).s.empty=false:=by
 cases h:(aq l P i).s.empty
 ·rfl
 ·exfalso
  have hz:(aq l P i).s=Span.zero:=by
   have:=gm P.s (aA P.n.ab (i:Int))
   have e:(aq l P i).s=(aq l P i).s.norm:=this.symm
   rw [e];unfold Span.norm;rw [if_pos h]
  have sK:=p.t.gz p.km.1
  obtain⟨⟨p1,p2⟩,_⟩:=sK.2.1
  rw [hz]at p1 p2
  exact(sK.1.2.2.1 p1).1 p2
theorem sps(p:PourOf c l ss P i a b T):(lM P.n i).bQ=(aq l P i).s.bQ∧(lM P.n i).hi=(aq l P i).s.hi∧∀q,(aq l P i).s.has q=true→(lM P.n i).has q=true:=by
 have ig:=p.kne
 obtain⟨⟨p1,p2⟩,_⟩:=(p.t.gz p.mem).2.1
 have hP:∀q,P.s.has q=(P.n.has q&& !q.lt P.s.lo):=fun q=>by
  unfold Nd.has Span.has
  rw [p1,p2,Hv]
 have hA:∀q,(aq l P i).s.has q=((lM P.n i).has q&& !q.lt P.s.lo):=fun q=>by
  show(P.s.bH (aA P.n.ab (i:Int))).has q=_
  rw [bL,EJ,hP]
  cases P.n.has q<;>cases (aA P.n.ab (i:Int)).has q<;>simp
 have eG:(aq l P i).s.has (aq l P i).s.lo=true:=by have:=Span.empty_eq (aq l P i).s;rw [ig]at this;simpa using this
 have aAB:(lM P.n i).has (aq l P i).s.lo=true:=by rw [hA,cm]at eG;exact eG.1
 have e:=C6 (s:=lM P.n i) (a:=(aq l P i).s) (k:=(aq l P i).s.lo) (gm _ _) (gm _ _) aAB fun q=>by
  cases h1:(aq l P i).s.has q
  ·symm
   cases h2:(lM P.n i).has q
   ·rfl
   ·cases h3:q.lt (aq l P i).s.lo
    ·exfalso
     have h4:=eG
     rw [hA,cm]at h4
     have h5:q.lt P.s.lo=false:=af.le_trans (by simpa using h4.2) h3
     rw [hA,h2,h5]at h1;cases h1
    ·rfl
  ·have h2:=h1
   rw [hA,cm]at h2
   rw [h2.1,(cO.1 h1).1];rfl
 exact⟨by rw [e],by rw [e],fun q hq=>by rw [hA,cm]at hq;exact hq.1⟩
theorem agG(p:PourOf c l ss P i a b T):∀m∈P.n.aj,∀q,m.span.has q=true→P.s.has q=true:=fun m hm q hq=>by
 obtain⟨_,_,_,p5⟩:=(p.t.gz p.mem).2.1
 obtain⟨j,hj,rfl⟩:=cj hm
 have:=ax (fun s:Span=>s.has q) (p5 j hj)
 rw [bL,ld,hq,vw]at this
 exact this
theorem MI(p:PourOf c l ss P i a b T)(q:af):(aq l P i).s.has q=(P.s.has q&&(aA P.n.ab (i:Int)).has q):=by
 show(P.s.bH (aA P.n.ab (i:Int))).has q=_
 rw [bL]
theorem mv(p:PourOf c l ss P i a b T):A5 P.n.ab i P.n.aj T:=by
 obtain⟨n,_,_,rfl⟩:=p.po.take
 exact Va p.rt.1 (by have:=p.rt.2;have:=p.hi;omega) p.QL.2.2.1 n
theorem qc(p:PourOf c l ss P i a b T):aB (aq l P i).s P.n.aj=T++aB (aq l P i).s a.aj:=by
 rw [p.al.2.2.2.2.2.2.2.2.2]
 refine p.mv.Vb p.rt.1 (by have:=p.rt.2;have:=p.hi;omega) p.QL.2.2.1 (fun q hq=> ?_) fun m hm q h1 h2=> ?_
 ·rw [p.MI,cm]at hq;exact hq.2
 ·rw [p.MI,p.agG m hm q h1,h2];rfl
theorem Iu(p:PourOf c l ss P i a b T){t:Span}(ht:∀k,t.has k=true→(aA P.n.ab (i:Int)).has k=false):aB t a.aj=aB t P.n.aj:=by
 rw [p.al.2.2.2.2.2.2.2.2.2]
 exact p.mv.agD p.rt.1 (by have:=p.rt.2;have:=p.hi;omega) p.QL.2.2.1 ht
theorem may(p:PourOf c l ss P i a b T):Vd c P.n (aq l P i).n i:=by
 have sK:=p.t.gz p.km.1
 obtain⟨⟨p1,p2⟩,_⟩:=sK.2.1
 have hl:=p.t.lvl p.mem
 have h0:=p.h0
 have hi:=p.hi
 obtain⟨s1,s2,s3⟩:=p.sps
 refine⟨⟨(p.t.gz p.mem).1,sK.1,aa,p.km.2,aa,aa⟩,⟨by rw [s1];exact p1,by rw [s2];exact p2⟩,fun j hj he=> ?_⟩
 have hm:=bN hj
 have K8:(P.n.aj[j].span.bH (aq l P i).s).empty=false:=by
  cases h1:(P.n.aj[j].span.bH (aq l P i).s).empty
  ·rfl
  ·have h2:(P.n.aj[j].span.bH (lM P.n i)).empty=true:=dv.2 fun q=>by
    have h3:=dv.1 h1 q
    rw [bL]at h3⊢
    cases h4:P.n.aj[j].span.has q
    ·rfl
    ·rw [h4,vw]at h3
     rw [vw]
     cases h5:(lM P.n i).has q
     ·rfl
     ·rw [EJ,cm]at h5
      rw [p.MI,p.agG _ hm q h4,h5.2]at h3;cases h3
   rw [h2]at he;cases he
 have hc:(P.n.aj[j].clip (aq l P i).s).2=true:=by
  cases h1:(P.n.aj[j].clip (aq l P i).s).2
  ·rw [qa.1 h1]at K8;cases K8
  ·rfl
 have u4:(P.n.aj[j].clip (aq l P i).s).1∈(aq l P i).ms:=by
  rw [(p.t.sF p.mem (p.t.ub P p.mem) i).1]
  exact fK _ (wl.2 ⟨_,hm,if_pos hc⟩)
 obtain⟨q,hq,e⟩:=cj u4
 have:=sK.2.2.2 q hq
 rw [e,gM hc]at this
 exact this
noncomputable def nP (P:aw) (a:Nd):aw:=⟨a,P.s,P.ms⟩
noncomputable def nK (l:List Nd) (P:aw) (i:Nat) (a b:Nd):aw:=⟨b,(aq l P i).s,aB (aq l P i).s a.aj++aB (aq l P i).s P.ms⟩
noncomputable def gP (l:List Nd) (P:aw) (i:Nat) (a b:Nd) (x:aw):aw:=if x.n.slot=(aq l P i).n.slot then nK l P i a b else if x.n.slot=P.n.slot then nP P a else x
theorem g_k:gP l P i a b (aq l P i)=nK l P i a b:=if_pos rfl
theorem g_p(p:PourOf c l ss P i a b T):gP l P i a b P=nP P a:=by unfold gP;rw [if_neg p.KV.symm,if_pos rfl]
theorem Dj(h1:x.n.slot≠P.n.slot)(h2:x.n.slot≠(aq l P i).n.slot):gP l P i a b x=x:=by unfold gP;rw [if_neg h2,if_neg h1]
theorem three(p:PourOf c l ss P i a b T){Q:aw→Prop}(hk:Q (aq l P i))(hp:Q P)(hx:∀x∈ss,x.n.slot≠P.n.slot→x.n.slot≠(aq l P i).n.slot→Q x):∀x∈ss,Q x:=fun x hm=>by
 by_cases c1:x.n.slot=(aq l P i).n.slot
 ·rw [p.t.rj hm p.km.1 c1];exact hk
 ·by_cases c2:x.n.slot=P.n.slot
  ·rw [p.t.rj hm p.mem c2];exact hp
  ·exact hx x hm c2 c1
theorem og(p:PourOf c l ss P i a b T):∀x∈ss,(gP l P i a b x).n.slot=x.n.slot∧(gP l P i a b x).n.level=x.n.level∧(gP l P i a b x).n.right=x.n.right∧(gP l P i a b x).n.ab=x.n.ab∧(gP l P i a b x).n.kids=x.n.kids∧(gP l P i a b x).s=x.s:=by
 obtain⟨a1,a2,a3,a4,a5,a6,a7,_⟩:=p.al
 obtain⟨b1,b2,b3,b4,b5,b6,b7⟩:=p.bl
 refine p.three ?_ ?_ fun x hx h1 h2=> ?_
 ·rw [g_k];exact⟨b1,b2,b7,b3,b4,rfl⟩
 ·rw [p.g_p];exact⟨a1,a2,a7,a3,a4,rfl⟩
 ·rw [Dj h1 h2];exact⟨rfl,rfl,rfl,rfl,rfl,rfl⟩
theorem bp(p:PourOf c l ss P i a b T):jf (dP l a b):=by
 have hk:=p.sin p.km.1
 have hp:=p.sin p.mem
 have tk:=zV p.may p.po
 obtain⟨⟨xl,zS,exl⟩,_⟩:=IU tk.ub p.po.ne
 have h1:=uf p.t.slot (x:=a) (by rw [p.al.1];exact hp) (by rw [p.al.2.2.2.2.2.2.2.1];exact p.K9 p.mem)
 refine uf h1 (x:=b) (by rw [cg,p.bl.1];exact hk) ?_
 rw [p.po.seen,exl]
 have hm:xl∈aB (aq l P i).s P.n.aj:=by rw [p.qc];exact fK _ zS
 obtain⟨m,hm,e⟩:=gX hm
 obtain⟨j,hj,rfl⟩:=cj hm
 have:=(p.QL.2.2.2.2.2.2 j hj).1
 have:=p.K9 p.mem
 omega
theorem len(p:PourOf c l ss P i a b T):(dP l a b).length=l.length:=by unfold dP;rw [cg,cg]
theorem find(p:PourOf c l ss P i a b T)(s:Int):cE (dP l a b) s=(if s=(aq l P i).n.slot then b else if s=P.n.slot then a else ai l s,decide (0≤s∧s<(l.length:Int))):=by
 have hk:=p.sin p.km.1
 have hp:=p.sin p.mem
 rw [sy p.bp,p.len]
 congr 1
 unfold dP
 rw [pg (by rw [cg,p.bl.1];exact hk),p.bl.1,pg (by rw [p.al.1];exact hp),p.al.1]
theorem Be(p:PourOf c l ss P i a b T)(hx:x∈ss):cE (dP l a b) x.n.slot=((gP l P i a b x).n,true):=by
 have hs:=p.sin hx
 rw [p.find,dB ⟨hs.1,hs.2⟩]
 congr 1
 revert hs
 refine p.three (Q:=fun x=>0≤x.n.slot∧x.n.slot<(l.length:Int)→(if x.n.slot=(aq l P i).n.slot then b else if x.n.slot=P.n.slot then a else ai l x.n.slot)=(gP l P i a b x).n) (fun hs=> ?_) (fun hs=> ?_) (fun x hx h1 h2 hs=> ?_) x hx
 ·rw [if_pos rfl,g_k];rfl
 ·rw [if_neg p.KV.symm,if_pos rfl,p.g_p];rfl
 ·rw [if_neg h2,if_neg h1,Dj h1 h2];exact(p.t.nd hx).2.1.symm
variable {j:Nat}
theorem kJ(p:PourOf c l ss P i a b T)(hx:x∈ss)(h0:¬x.n.level=0)(hj:j<x.n.kids.length):x.n.kids.getD j 0=(aq l x j).n.slot:=by
 have e:=(p.t.at hx h0 hj)
 rw [fc,eY hj,e.2.2.1,(cZ p.t.slot e.2.1).1];rfl
theorem kms(p:PourOf c l ss P i a b T):(aq l P i).ms=T++(aB (aq l P i).s a.aj++aB (aq l P i).s P.ms):=by
 rw [(p.t.sF p.mem (p.t.ub P p.mem) i).1,p.qc,ci]
theorem agH(p:PourOf c l ss P i a b T)(hx:x∈ss)(h0:¬x.n.level=0)(hj:j<x.n.kids.length):aq (dP l a b) (gP l P i a b x) j=gP l P i a b (aq l x j):=by
 have hy:=(p.t.at hx h0 hj).1
 obtain⟨s1,s2,s3,s4,s5,s6⟩:=p.og x hx
 obtain⟨y1,y2,y3,y4,y5,y6⟩:=p.og _ hy
 have en:(aq (dP l a b) (gP l P i a b x) j).n=(gP l P i a b (aq l x j)).n:=by
  show(cE _ ((gP l P i a b x).n.kids.getD j 0)).1=_
  rw [s5,p.kJ hx h0 hj,p.Be hy]
 have es:(aq (dP l a b) (gP l P i a b x) j).s=(aq l x j).s:=by
  show(gP l P i a b x).s.bH (aA (gP l P i a b x).n.ab (j:Int))=_
  rw [s4,s6];rfl
 have em:dg [aB (aq l x j).s (gP l P i a b x).n.aj,aB (aq l x j).s (gP l P i a b x).ms]=(gP l P i a b (aq l x j)).ms:=by
  have uT:dg [aB (aq l x j).s x.n.aj,aB (aq l x j).s x.ms]=(aq l x j).ms:=rfl
  by_cases c1:x.n.slot=(aq l P i).n.slot
  ·have ex:=p.t.rj hx p.km.1 c1
   have n1:(aq l x j).n.slot≠P.n.slot:=p.ne hy p.mem (by have:=(p.t.at hx h0 hj).2.2.2;have:=p.km.2;rw [ex]at*;omega)
   have n2:(aq l x j).n.slot≠(aq l P i).n.slot:=p.ne hy p.km.1 (by have:=(p.t.at hx h0 hj).2.2.2;rw [ex]at*;omega)
   rw [Dj n1 n2,←uT,ex,g_k]
   have hI:=p.po.inner (by rw [←ex];exact h0)
   show dg [aB _ b.aj,aB _ (aB (aq l P i).s a.aj++aB (aq l P i).s P.ms)]=_
   have h2:=(p.t.two p.km.1 (aq l (aq l P i) j).s)
   rw [h2.1]
   have h3:=h2.2
   have e1:aB (aq l (aq l P i) j).s (aq l P i).ms=aB (aq l (aq l P i) j).s T++aB (aq l (aq l P i) j).s (aB (aq l P i).s a.aj++aB (aq l P i).s P.ms):=by rw [p.kms];exact fi _ _ _
   have e2:aB (aq l (aq l P i) j).s b.aj=aB (aq l (aq l P i) j).s (aq l P i).n.aj++aB (aq l (aq l P i) j).s T:=by rw [hI.2.1];exact fi _ _ _
   rw [e1,←ci,←e2]at h3⊢
   obtain⟨r1,r2,r3⟩:=uZ h3
   exact(oM r1 r2 r3).1
  ·by_cases c2:x.n.slot=P.n.slot
   ·have ex:=p.t.rj hx p.mem c2
    subst ex
    rw [p.g_p]
    show dg [aB _ a.aj,aB _ x.ms]=_
    by_cases e:j=i
    ·subst e
     rw [g_k]
     have h3:=(p.t.two p.mem (aq l x j).s).2
     rw [p.qc,ci]at h3
     obtain⟨r1,r2,r3⟩:=uZ (uZ h3).2.1
     exact(oM r1 r2 r3).1
    ·have ig:(aq l x j).n.slot≠(aq l x i).n.slot:=fun e2=>e (by
      have o9:=(cL (p.t.kids p.mem) p.h0)
      exact p.t.Od p.mem (i:=j) (j:=i) (by rw [o9.1,lK];exact hj) (by rw [o9.1,lK];exact p.hi) (by rw [(p.t.rm p.mem p.h0).2,(p.t.rm p.mem p.h0).2];exact e2))
     have n1:(aq l x j).n.slot≠x.n.slot:=p.ne hy hx (by have:=(p.t.at hx h0 hj).2.2.2;omega)
     rw [Dj n1 ig,←uT,p.Iu fun q hq=> ?_]
     have h1:=qR (l:=l) (cL (p.t.kids p.mem) p.h0).2.2.1 hj q
     rw [hq]at h1
     have h2:=h1.symm
     rw [cm,fJ]at h2
     rw [eR p.rt.1 q (by have:=p.rt.2;have:=p.hi;omega),gr aa]
   ·rw [Dj c2 c1,uT]
    have gH:aq l x j∈bu l x:=by rw [(cL (p.t.kids hx) h0).1];exact cB.2 ⟨j,gN.2 hj,rfl⟩
    have ar5:aq l P i∈bu l P:=by rw [(cL (p.t.kids p.mem) p.h0).1];exact cB.2 ⟨i,gN.2 p.hi,rfl⟩
    have n2:(aq l x j).n.slot≠(aq l P i).n.slot:=fun e=>c2 (by rw [p.t.parent hx p.mem gH ar5 e])
    by_cases c3:(aq l x j).n.slot=P.n.slot
    ·rw [p.t.rj hy p.mem c3,p.g_p];rfl
    ·rw [Dj c3 n2]
 have e3:(aq (dP l a b) (gP l P i a b x) j).ms=dg [aB (aq (dP l a b) (gP l P i a b x) j).s (gP l P i a b x).n.aj,aB (aq (dP l a b) (gP l P i a b x) j).s (gP l P i a b x).ms]:=rfl
 rw [es,em]at e3
 cases hA:aq (dP l a b) (gP l P i a b x) j
 cases hB:gP l P i a b (aq l x j)
 rw [hA]at en es e3
 rw [hB]at en e3 y6
 simp only at en es e3 y6
 rw [en,es,e3,y6]
theorem each(p:PourOf c l ss P i a b T)(hx:x∈ss):(ft (dP l a b) (gP l P i a b x)).isSome=true∧bu (dP l a b) (gP l P i a b x)=(bu l x).map (gP l P i a b):=by
 obtain⟨s1,s2,s3,s4,s5,s6⟩:=p.og x hx
 by_cases h0:x.n.level=0
 ·rw [uQ (by rw [s2];exact h0),fN (by rw [s2];exact h0),fN h0];exact⟨rfl,rfl⟩
 ·obtain⟨h1,h2,h3,h4⟩:=cL (p.t.kids hx) h0
  obtain⟨g1,g2⟩:=uS (l:=dP l a b) (x:=gP l P i a b x) (by rw [s2];exact h2) (by rw [s4,s5];exact h3) fun j hj=>by
   rw [s5]at hj
   have e:=p.t.at hx h0 hj
   unfold oK
   rw [s5,p.kJ hx h0 hj,p.Be e.1]
   simp only [vw,fJ]
   rw [(p.og _ e.1).2.1,s2];exact e.2.2.2
  refine⟨g1,?_⟩
  rw [g2,h1,s5]
  unfold l8
  rw [lS]
  exact rU fun j hj=>p.agH hx h0 (gN.1 hj)
theorem Q5(p:PourOf c l ss P i a b T):gP l P i a b (bC l 0)=bC (dP l a b) 0:=by
 have e0:=p.t.oN
 have ar5:aq l P i∈bu l P:=by rw [(cL (p.t.kids p.mem) p.h0).1];exact cB.2 ⟨i,gN.2 p.hi,rfl⟩
 have n2:(bC l 0).n.slot≠(aq l P i).n.slot:=(p.t.Ez p.mem ar5).symm
 have hf:=p.Be p.t.root
 rw [e0]at hf
 by_cases c1:(bC l 0).n.slot=P.n.slot
 ·have eP:=p.t.rj p.t.root p.mem c1
  have:bC (dP l a b) 0=⟨(gP l P i a b (bC l 0)).n,Span.all,[]⟩:=by unfold bC at hf⊢;rw [hf]
  rw [this,eP,p.g_p,←eP];rfl
 ·rw [Dj c1 n2]at hf⊢
  show(⟨(cE l 0).1,_,_⟩:aw)=⟨(cE _ 0).1,_,_⟩
  rw [hf];rfl
theorem Lc{g:aw→aw}{K K':aw→List aw} :∀ {L:List aw},(∀x∈L,K' (g x)=(K x).map g)→(L.map g).flatMap K'=(L.flatMap K).map g
 |[],_=>rfl
 |x::L,h=>by
  rw [cA,cI,cI,bU,h x (by simp),Lc fun z hz=>h z (dk _ hz)]
theorem fix(p:PourOf c l ss P i a b T):ss.map (gP l P i a b)=bC (dP l a b) 0::(ss.map (gP l P i a b)).flatMap (bu (dP l a b)):=by
 rw [Lc fun x hx=>(p.each hx).2]
 conv=>lhs;rw [p.t.fix]
 rw [cA,p.Q5]
theorem keys(p:PourOf c l ss P i a b T):(ss.map (gP l P i a b)).map aw.key=ss.map aw.key:=by
 rw [lS]
 refine rU fun x hx=> ?_
 obtain⟨s1,s2,s3,_⟩:=p.og x hx
 show((gP l P i a b x).n.slot,(gP l P i a b x).n.level,(gP l P i a b x).n.right)=_
 rw [s1,s2,s3];rfl
theorem perm(p:PourOf c l ss P i a b T):((ss.map (gP l P i a b)).map fun x:aw=>x.n.slot).Perm ((dP l a b).map fun n:Nd=>n.slot):=by
 have h1:(ss.map (gP l P i a b)).map (fun x:aw=>x.n.slot)=ss.map (fun x:aw=>x.n.slot):=by
  rw [lS]
  exact rU fun x hx=>(p.og x hx).1
 rw [h1]
 have h4:((dP l a b).map fun n:Nd=>n.slot)=(l.map fun n:Nd=>n.slot):=by rw [lx p.bp,lx p.t.slot,p.len]
 rw [h4];exact p.t.IB
theorem tin(p:PourOf c l ss P i a b T):∀m∈T,∀q,m.span.has q=true→(aq l P i).s.has q=true:=fun m hm q hq=>by
 have uW:=(fq.iff.1 p.QL.2.2.1).1
 obtain⟨x,hx,h1,rfl⟩:=mS (show m∈aB (aq l P i).s P.n.aj by rw [p.qc];exact fK _ hm)
 exact(C7 (uW x hx) h1 hq).2
theorem Q6{m:aD}{s:Span}(h:∀q,m.span.has q=true→s.has q=true):m.span.bH s=m.span.norm:=by
 rw [←gm]
 exact rk fun q=>by
  rw [bL]
  cases hq:m.span.has q
  ·rfl
  ·rw [h q hq];rfl
theorem IY(p:PourOf c l ss P i a b T):∀x∈ss,yV c (gP l P i a b x):=by
 have hm:=(K4 p.may p.po).1
 have sK:=p.t.gz p.km.1
 have sP:=p.t.gz p.mem
 have tk:=zV p.may p.po
 obtain⟨⟨xl,zS,exl⟩,_⟩:=IU tk.ub p.po.ne
 obtain⟨a1,a2,a3,a4,a5,a6,a7,a8,a9,a10⟩:=p.al
 obtain⟨b1,b2,b3,b4,b5,b6,b7⟩:=p.bl
 have K7:=(fq.iff.1 p.QL.2.2.1).1
 refine p.three ?_ ?_ fun x hx h1 h2=> ?_
 ·rw [g_k]
  refine⟨hm.1.2.1,⟨⟨by show b.fp=_;rw [b6];exact sK.2.1.1.1,by show b.high=_;rw [b5];exact sK.2.1.1.2⟩,fun j hj=> ?_,fun j hj=> ?_,fun j hj=> ?_⟩,by show b.slot<_;rw [b1];exact sK.2.2.1,fun j hj=> ?_⟩
  ·have u4:=bN hj
   have all:∀y∈b.rows,(aq l P i).s.has y.key=true:=by
    have uT:∀y∈(aq l P i).n.rows,(aq l P i).s.has y.key=true:=fun y hy=>by obtain⟨q,hq,rfl⟩:=cj hy;exact sK.2.1.2.1 q hq
    by_cases h0:(aq l P i).n.level=0
    ·rw [(p.po.leaf h0).2.1]
     exact abZ (p.t.leaf p.km.1 h0).2.2.1 tk.R uT p.tin
    ·rw [(p.po.inner h0).1];exact uT
   exact all _ u4
  ·have all:∀y∈b.ab,(aq l P i).s.has y=true∧y≠(aq l P i).s.lo:=fun y hy=>by
    rw [b3]at hy
    obtain⟨q,hq,rfl⟩:=cj hy
    exact sK.2.1.2.2.1 q hq
   exact all _ (bN hj)
  ·have uT:∀y∈(aq l P i).n.aj,y.span.bH (aq l P i).s=y.span.norm:=fun y hy=>by obtain⟨q,hq,rfl⟩:=cj hy;exact sK.2.1.2.2.2 q hq
   have all:∀y∈b.aj,y.span.bH (aq l P i).s=y.span.norm:=fun y hy=>by
    by_cases h0:(aq l P i).n.level=0
    ·rw [(p.po.leaf h0).1]at hy;exact uT y hy
    ·rw [(p.po.inner h0).2.1]at hy
     rcases cP.1 hy with hy|hy
     ·exact uT y hy
     ·exact Q6 (p.tin y hy)
   exact all _ (bN hj)
  ·show b.seen<_
   rw [p.po.seen,exl]
   have hr:=p.t.ub _ p.km.1
   rw [p.kms]at hr
   exact(uZ hr).2.2 xl zS _ (bN hj)
 ·rw [p.g_p]
  refine⟨hm.1.1,⟨⟨by show a.fp=_;rw [a6];exact sP.2.1.1.1,by show a.high=_;rw [a5];exact sP.2.1.1.2⟩,fun j hj=> ?_,fun j hj=> ?_,fun j hj=> ?_⟩,by show a.slot<_;rw [a1];exact sP.2.2.1,fun j hj=> ?_⟩
  ·have all:∀y∈a.rows,P.s.has y.key=true:=fun y hy=>by
    rw [a9]at hy
    obtain⟨q,hq,rfl⟩:=cj hy
    exact sP.2.1.2.1 q hq
   exact all _ (bN hj)
  ·have all:∀y∈a.ab,P.s.has y=true∧y≠P.s.lo:=fun y hy=>by
    rw [a3]at hy
    obtain⟨q,hq,rfl⟩:=cj hy
    exact sP.2.1.2.2.1 q hq
   exact all _ (bN hj)
  ·have all:∀y∈a.aj,y.span.bH P.s=y.span.norm:=fun y hy=>by
    rw [a10]at hy
    obtain⟨_,m,hm,_,h3⟩:=Yc (ui sP.1) K7 hy
    exact Q6 fun q hq=>p.agG m hm q (h3 q hq)
   exact all _ (bN hj)
  ·show a.seen<_
   rw [a8];exact sP.2.2.2 j hj
 ·rw [Dj h1 h2];exact p.t.gz hx
theorem tree(p:PourOf c l ss P i a b T):Tree c (dP l a b) (ss.map (gP l P i a b)):=by
 have hsm:=p.t.C2
 have hm:=(K4 p.may p.po).1
 refine IC p.t.kd (by rw [p.len];exact p.t.pos) (XT p.t.kd (by rw [p.len];exact hsm.1) fun n hn=> ?_) p.bp p.fix (fun z hz=> ?_) p.perm ?_ (by rw [p.len];exact p.t.q.1.2.2) fun z hz=> ?_
 ·have uT:∀n∈l,n.R c.fan c.leaf c.aT:=fun n hn=>by
   have:=(p.t.perm.mem_iff).2 hn
   obtain⟨x,hx,rfl⟩:=cB.1 this
   exact(p.t.gz hx).1
  unfold dP at hn
  rcases qI hn with hn|rfl
  ·rcases qI hn with hn|rfl
   ·exact uT n hn
   ·exact hm.1.1
  ·exact hm.1.2.1
 ·obtain⟨x,hx,rfl⟩:=cB.1 hz
  exact(p.each hx).1
 ·rw [p.keys];exact(rn ss).1 p.t.q.1.2.1
 ·obtain⟨x,hx,rfl⟩:=cB.1 hz
  exact p.IY x hx
theorem view(p:PourOf c l ss P i a b T)(h0:(aq l P i).n.level=0):iZ (nK l P i a b)=iZ (aq l P i):=by
 have hR:=p.t.rows p.km.1
 have tk:=zV p.may p.po
 unfold iZ
 show cq (b.rows.filter fun p=>(aq l P i).s.has p.key) (aB (aq l P i).s (aB (aq l P i).s a.aj++aB (aq l P i).s P.ms))=_
 rw [(p.po.leaf h0).2.1,←qQ hR.o8 fun m hm=>by have:=(tk.R m hm).1.2.1;omega]
 conv=>rhs;rw [p.kms,fi]
 unfold cq
 rw [Eh]
theorem map(p:PourOf c l ss P i a b T):bM (dP l a b)=bM l:=by
 rw [qD p.tree.KK,qD p.t.KK]
 rw [show ss.map (gP l P i a b)=ss.flatMap fun x=>[gP l P i a b x]from List.map_eq_flatMap]
 refine Bd (p.three ?_ ?_ fun x hx h1 h2=> ?_)
 ·rw [g_k]
  by_cases h0:(aq l P i).n.level=0
  ·have h1:(nK l P i a b).n.level=0:=by show b.level=0;rw [p.bl.2.1];exact h0
   simp [ck,lF,h0,h1,p.view h0]
  ·have h1:¬(nK l P i a b).n.level=0:=by show ¬b.level=0;rw [p.bl.2.1];exact h0
   simp [ck,lF,h0,h1]
 ·rw [p.g_p]
  have h0:=p.h0
  have h1:¬(nP P a).n.level=0:=by show ¬a.level=0;rw [p.al.2.1];exact h0
  simp [ck,lF,h0,h1]
 ·rw [Dj h1 h2]
end PourOf
structure bx where
 kind:Int
 key:af
 hi:af
 bQ:Bool
 val:af
 lim:Int
 deriving DecidableEq
instance : Inhabited bx := ⟨⟨0, af.nil, af.nil, false, af.nil, 0⟩⟩
def bx.Ok (o:bx):Prop:=i64 o.kind∧i64 o.lim
def eOp:fB bx where
 k:=6
 w:=72
 R:=fun _ cs o=>cs=[.int .i64 o.kind,.string o.key.b,.string o.hi.b,.bool o.bQ,.string o.val.b,.int .i64 o.lim]∧o.Ok
 mono:=fun _ h=>h
 len:=fun h=>by rw [h.1];rfl
 one:=fun h u hu=>by rw [h.1]at hu;simp at hu;rcases hu with rfl|rfl|rfl|rfl|rfl|rfl<;>rfl
instance : EqP eOp (fun o => [.int .i64 o.kind, .string o.key.b, .string o.hi.b, .bool o.bQ, .string o.val.b, .int .i64 o.lim]) bx.Ok := ⟨fun _ _ _ h => h⟩
theorem ayd{P:Program}{t i s b:TypeId}(ht:xE P t=some [(i,0,1),(s,1,1),(s,2,1),(b,3,1),(s,4,1),(i,5,1)])(hi:P.underlying i=some (.int .i64))(hs:P.underlying s=some .string)(hb:P.underlying b=some .bool)(hc:P.cellsOf t=6):Ya P t eOp:=by
 intro H enc w dS cs x h hw
 obtain⟨hl,hf⟩:=K5 ht h hw
 obtain⟨y0,n0,t0,w0⟩:=hf 0 _ _ _ rfl
 obtain⟨y1,n1,t1,w1⟩:=hf 1 _ _ _ rfl
 obtain⟨y2,n2,t2,w2⟩:=hf 2 _ _ _ rfl
 obtain⟨y3,n3,t3,w3⟩:=hf 3 _ _ _ rfl
 obtain⟨y4,n4,t4,w4⟩:=hf 4 _ _ _ rfl
 obtain⟨y5,n5,t5,w5⟩:=hf 5 _ _ _ rfl
 obtain⟨a0,e0,q0⟩:=uY hi t0 w0
 obtain⟨a1,e1⟩:=Q7 hs t1 w1
 obtain⟨a2,e2⟩:=Q7 hs t2 w2
 obtain⟨a3,e3⟩:=anc hb t3
 obtain⟨a4,e4⟩:=Q7 hs t4 w4
 obtain⟨a5,e5,q5⟩:=uY hi t5 w5
 rw [hc]at hl
 match cs,hl with
 |[_,_,_,_,_,_],_=>
  simp at e0 e1 e2 e3 e4 e5
  subst e0 e1 e2 e3 e4 e5
  exact⟨⟨a0,a1,a2,a3,a4,a5⟩,rfl,q0,q5⟩
def bx.span (o:bx):Span:=if o.kind=4∨o.kind=6 then⟨o.key,o.hi,o.bQ⟩else⟨o.key,o.key.next,false⟩
def bx.R (o:bx):Prop:=(1≤o.kind∧o.kind≤6∧o.key.b.size≤16∧o.hi.b.size≤16∧o.val.b.size≤16)∧
 (2<o.kind→o.val=af.nil)∧(o.kind≠6→o.lim=0)∧(o.kind=6→1≤o.lim∧o.lim≤64)∧
 if o.kind=4∨o.kind=6 then o.span.empty=false∧(o.bQ=false∨o.hi=af.nil)else o.hi=af.nil∧o.bQ=false
instance (o : bx) : Decidable o.R := by unfold bx.R; infer_instance
def bx.msg (o:bx) (s:Int):aD:=⟨s,o.kind,o.key,o.hi,o.bQ,o.val⟩
variable {o:bx}
theorem bx.R.fit(h:o.R)(s:Int):(o.msg s).fit:=It ⟨h.1.2.2.1,h.1.2.2.2.2⟩
structure X7 where
 err:Int
 has:Bool
 val:af
 rows:List aG
 deriving DecidableEq
instance : Inhabited X7 := ⟨⟨0, false, af.nil, []⟩⟩
def xF (G:GH) (cs:List Value) (a:X7):Prop:=
 ∃p c,cs=[.int .i64 a.err,.bool a.has,.string a.val.b,.slice p a.rows.length c]∧az aU G (.slice p a.rows.length c) a.rows∧i64 a.err
structure aHh where
 key:af
 a:af
 b:af
 inA:Bool
 inB:Bool
 deriving DecidableEq
instance : Inhabited aHh := ⟨⟨af.nil, af.nil, af.nil, false, false⟩⟩
def qU (l:List aG) (o:bx):List aG×X7:=
 if ¬o.R then(l,⟨3,false,af.nil,[]⟩)
 else if o.kind=5 then(l,⟨0,(bz l o.key).isSome,(bz l o.key).getD af.nil,[]⟩)
 else if o.kind=6 then(l,⟨0,false,af.nil,fe l o.span o.lim⟩)
 else(takeN l (o.msg 1),⟨0,false,af.nil,[]⟩)
theorem arV{l:List aG}(h:¬o.R):qU l o=(l,⟨3,false,af.nil,[]⟩):=if_pos h
theorem arW{l:List aG}(h:o.R)(h5:o.kind=5):qU l o=(l,⟨0,(bz l o.key).isSome,(bz l o.key).getD af.nil,[]⟩):=by rw [qU,if_neg (by simpa using h),if_pos h5]
theorem arX{l:List aG}(h:o.R)(h6:o.kind=6):qU l o=(l,⟨0,false,af.nil,fe l o.span o.lim⟩):=by rw [qU,if_neg (by simpa using h),if_neg aa,if_pos h6]
theorem agA{l:List aG}(h:o.R)(h5:¬o.kind=5)(h6:¬o.kind=6):qU l o=(takeN l (o.msg 1),⟨0,false,af.nil,[]⟩):=by rw [qU,if_neg (by simpa using h),if_neg h5,if_neg h6]
theorem aCX{l:List aG}(h:bc l):bc (qU l o).1∧(qU l o).1.length≤l.length+1:=by
 unfold qU
 split
 ·exact⟨h,by show l.length≤_;omega⟩
 ·split
  ·exact⟨h,by show l.length≤_;omega⟩
  ·split
   ·exact⟨h,by show l.length≤_;omega⟩
   ·rename_i h1 h2 h3
    have hR:o.R:=by simpa using h1
    have:=h.wR (o.msg 1)
    exact⟨h.XL (hR.fit 1),this⟩
theorem Q8{l:List aG}{k:af}(h:∀p∈l,p.key≠k):bz l k=none:=by
 induction l with
 |nil=>rfl
 |cons p l ih=>rw [fM,if_neg (h p (by simp))];exact ih fun p hp=>h p (by simp [hp])
end Go.Fw

namespace Go.Fw
theorem Fx{l:List aG}{k:af} :(bz l k).isSome=true↔k∈l.map (·.key):=by
 induction l with
 |nil=>simp [bz]
 |cons p l ih=>
  rw [fM]
  by_cases h:p.key=k
  ·rw [if_pos h];simp [h]
  ·rw [if_neg h,ih];simp [Ne.symm h]
theorem ab0:∀ {a b:List aG},gW a→gW b→(∀k,bz a k=bz b k)→a=b
 |[],[],_,_,_=>rfl
 |[],y::b,_,_,h=>by have:=h y.key;rw [fM,if_pos rfl]at this;cases this
 |x::a,[],_,_,h=>by have:=h x.key;rw [fM,if_pos rfl]at this;cases this
 |x::a,y::b,ha,hb,h=>by
  obtain⟨ha1,ha2⟩:=rN.1 ha
  obtain⟨hb1,hb2⟩:=rN.1 hb
  have mx:y.key∈(x::a).map (·.key):=Fx.1 (by rw [h,fM,if_pos rfl];rfl)
  have my:x.key∈(y::b).map (·.key):=Fx.1 (by rw [←h,fM,if_pos rfl];rfl)
  have hk:x.key=y.key:=by
   rw [cA]at mx my
   rcases dK.1 mx with e|mx
   ·exact e.symm
   ·rcases dK.1 my with e|my
    ·exact e
    ·obtain⟨p,hp,ep⟩:=cB.1 mx
     obtain⟨q,hq,eq⟩:=cB.1 my
     have h1:=ha1 p hp
     have h2:=hb1 q hq
     rw [ep]at h1;rw [eq]at h2
     have:=af.lt_trans h1 h2
     rw [af.lt_irrefl]at this;cases this
  have hv:x.val=y.val:=by
   have:=h x.key
   rw [fM,if_pos rfl,fM,if_pos hk.symm]at this
   exact Hx this
  have hxy:x=y:=by cases x;cases y;simp_all
  subst hxy
  refine ax (x:: ·) (ab0 ha2 hb2 fun k=> ?_)
  have h3:=h k
  rw [fM,fM]at h3
  by_cases hkx:x.key=k
  ·rw [Q8 fun p hp e=> ?_,Q8 fun p hp e=> ?_]
   ·have:=hb1 p hp;rw [hkx,e,af.lt_irrefl]at this;cases this
   ·have:=ha1 p hp;rw [hkx,e,af.lt_irrefl]at this;cases this
  ·rwa [if_neg hkx,if_neg hkx]at h3
end Go.Fw

namespace Go.Fw
open Go Go.RowKit
def jl (n:Nd) (m:aD):Nd:={ n with aj:=n.aj++[m],seen:=m.aW }
structure InjOf (c:aX) (l:List Nd) (ss:List aw) (m:aD):Prop where
 t:Tree c l ss
 h0:¬(ai l 0).level=0
 mR:m.R
 st:m.aW=(ai l 0).seen+1
 le:m.aW≤1099511627776
 sn:∀n∈l,n.seen≤(ai l 0).seen
 fit:m.size≤c.aT-bX (ai l 0).aj
def iC (l:List Nd) (r:Nd):List Nd:=l.set 0 r
namespace InjOf
variable {c:aX} {l:List Nd} {ss:List aw} {m:aD}
theorem pos(p:InjOf c l ss m):0<l.length:=p.t.pos
theorem gx(p:InjOf c l ss m):(bC l 0).n=ai l 0:=p.t.pK
theorem rsl(p:InjOf c l ss m):(ai l 0).slot=0∧ai l 0∈l:=cZ p.t.slot ⟨eI _,by have:=p.pos;omega⟩
theorem agI(p:InjOf c l ss m):yV c (bC l 0):=p.t.gz p.t.root
theorem rR(p:InjOf c l ss m):(ai l 0).R c.fan c.leaf c.aT:=by have:=p.agI.1;rwa [p.gx]at this
theorem rin(p:InjOf c l ss m):(ai l 0).pe c.fan c.aT:=by have h:=p.rR.2.2.2;rwa [if_neg p.h0]at h
theorem aHi(p:InjOf c l ss m):(ai l 0).fp=true:=by
 have:=p.agI.2.1.1.1
 rw [p.gx]at this
 exact this
theorem uT(p:InjOf c l ss m):∀x∈ss,∀y∈x.ms,y.aW<m.aW:=by
 have m7:∀y∈(ai l 0).aj,y.aW<m.aW:=fun y hy=>by
  obtain⟨j,hj,rfl⟩:=cj hy
  have:=(p.rin.2.2.2.2.2.2 j hj).1
  have:=p.st
  omega
 have key:∀x∈ss,(∀y∈x.ms,y.aW<m.aW)∧∀y∈x.n.aj,y.aW<m.aW:=by
  refine p.t.ind ⟨fun y hy=>(by cases hy),fun y hy=>m7 y (by rw [p.gx]at hy;exact hy)⟩ fun x hx h0 ⟨h1,h2⟩ j hj=> ?_
  have hk:=p.t.sF hx (p.t.ub x hx) j
  have Iy:∀y∈(aq l x j).ms,y.aW<m.aW:=fun y hy=>by
   rw [hk.1]at hy
   rcases cP.1 hy with hy|hy
   ·obtain⟨z,hz,e⟩:=gX hy;rw [e];exact h2 z hz
   ·obtain⟨z,hz,e⟩:=gX hy;rw [e];exact h1 z hz
  refine⟨Iy,fun y hy=> ?_⟩
  have hK:=p.t.at hx h0 hj
  by_cases hl:(aq l x j).n.level=0
  ·rw [p.t.sE hK.1 hl]at hy;cases hy
  ·have hI:=(p.t.aj hK.1).2.2 y hy
   have hs:=p.sn _ (p.t.nd hK.1).2.2
   have:=p.st
   omega
 exact fun x hx=>(key x hx).1
noncomputable def gI (l:List Nd) (m:aD) (x:aw):aw:=if x.n.slot=0 then⟨jl (ai l 0) m,Span.all,[]⟩else⟨x.n,x.s,x.ms++aB x.s [m]⟩
variable {x:aw}
theorem Q9(p:InjOf c l ss m)(hx:x∈ss)(e:x.n.slot=0):x=bC l 0:=p.t.rj hx p.t.root (by rw [e];exact p.t.oN.symm)
theorem g_r(p:InjOf c l ss m):gI l m (bC l 0)=⟨jl (ai l 0) m,Span.all,[]⟩:=if_pos p.t.oN
theorem Dj(h:x.n.slot≠0):gI l m x=⟨x.n,x.s,x.ms++aB x.s [m]⟩:=if_neg h
theorem two(p:InjOf c l ss m){Q:aw→Prop}(hr:Q (bC l 0))(hx:∀x∈ss,x.n.slot≠0→Q x):∀x∈ss,Q x:=fun x hm=>by
 by_cases e:x.n.slot=0
 ·rw [p.Q9 hm e];exact hr
 ·exact hx x hm e
theorem og(p:InjOf c l ss m):∀x∈ss,(gI l m x).n.slot=x.n.slot∧(gI l m x).n.level=x.n.level∧(gI l m x).n.right=x.n.right∧(gI l m x).n.ab=x.n.ab∧(gI l m x).n.kids=x.n.kids∧(gI l m x).s=x.s∧(gI l m x).n.rows=x.n.rows:=by
 refine p.two ?_ fun x hx h=> ?_
 ·rw [p.g_r,p.gx];exact⟨rfl,rfl,rfl,rfl,rfl,rfl,rfl⟩
 ·rw [Dj h];exact⟨rfl,rfl,rfl,rfl,rfl,rfl,rfl⟩
theorem bp(p:InjOf c l ss m):jf (iC l (jl (ai l 0) m)):=by
 have h:=uf p.t.slot (x:=jl (ai l 0) m) (by show 0≤(ai l 0).slot∧(ai l 0).slot<_;rw [p.rsl.1];have:=p.pos;omega) p.le
 have e:(jl (ai l 0) m).slot.toNat=0:=by show(ai l 0).slot.toNat=0;rw [p.rsl.1];rfl
 rw [e]at h;exact h
theorem len(p:InjOf c l ss m):(iC l (jl (ai l 0) m)).length=l.length:=by unfold iC;rw [cg]
theorem find(p:InjOf c l ss m)(s:Int):cE (iC l (jl (ai l 0) m)) s=(if s=0 then jl (ai l 0) m else ai l s,decide (0≤s∧s<(l.length:Int))):=by
 rw [sy p.bp,p.len]
 congr 1
 have e:(jl (ai l 0) m).slot=0:=p.rsl.1
 have h:=pg (l:=l) (x:=jl (ai l 0) m) (by rw [e];have:=p.pos;omega) (i:=s)
 rw [e]at h
 exact h
theorem Be(p:InjOf c l ss m)(hx:x∈ss):cE (iC l (jl (ai l 0) m)) x.n.slot=((gI l m x).n,true):=by
 have hs:=(p.t.nd hx).1
 rw [p.find,dB ⟨hs.1,hs.2⟩]
 congr 1
 revert hs
 refine p.two (Q:=fun x=>0≤x.n.slot∧x.n.slot<(l.length:Int)→(if x.n.slot=0 then jl (ai l 0) m else ai l x.n.slot)=(gI l m x).n) (fun hs=> ?_) (fun x hx h hs=> ?_) x hx
 ·rw [if_pos p.t.oN,p.g_r]
 ·rw [if_neg h,Dj h];exact(p.t.nd hx).2.1.symm
variable {j:Nat}
theorem kJ(p:InjOf c l ss m)(hx:x∈ss)(h0:¬x.n.level=0)(hj:j<x.n.kids.length):x.n.kids.getD j 0=(aq l x j).n.slot:=by
 have e:=(p.t.at hx h0 hj)
 rw [fc,eY hj,e.2.2.1,(cZ p.t.slot e.2.1).1];rfl
theorem ayx(p:InjOf c l ss m)(hx:x∈ss)(h0:¬x.n.level=0)(hj:j<x.n.kids.length):(aq l x j).n.slot≠0:=by
 have gH:aq l x j∈bu l x:=by rw [(cL (p.t.kids hx) h0).1];exact cB.2 ⟨j,gN.2 hj,rfl⟩
 have:=p.t.Ez hx gH
 rwa [p.t.oN]at this
theorem aHj(p:InjOf c l ss m)(hx:x∈ss)(s:Span):rz (x.ms++aB s [m]):=by
 refine wo.2 ⟨p.t.ub x hx,ju (by simp [rz]),fun a ha b hb=> ?_⟩
 obtain⟨z,hz,e⟩:=gX hb
 simp at hz
 subst hz
 rw [e];exact p.uT x hx a ha
theorem agH(p:InjOf c l ss m)(hx:x∈ss)(h0:¬x.n.level=0)(hj:j<x.n.kids.length):aq (iC l (jl (ai l 0) m)) (gI l m x) j=gI l m (aq l x j):=by
 have hy:=(p.t.at hx h0 hj).1
 have AO:=p.ayx hx h0 hj
 obtain⟨s1,s2,s3,s4,s5,s6,s7⟩:=p.og x hx
 have en:(aq (iC l (jl (ai l 0) m)) (gI l m x) j).n=(aq l x j).n:=by
  show(cE _ ((gI l m x).n.kids.getD j 0)).1=_
  rw [s5,p.kJ hx h0 hj,p.Be hy,Dj AO]
 have es:(aq (iC l (jl (ai l 0) m)) (gI l m x) j).s=(aq l x j).s:=by
  show(gI l m x).s.bH (aA (gI l m x).n.ab (j:Int))=_
  rw [s4,s6];rfl
 have hr:=p.aHj hy (aq l x j).s
 have em:dg [aB (aq l x j).s (gI l m x).n.aj,aB (aq l x j).s (gI l m x).ms]=(aq l x j).ms++aB (aq l x j).s [m]:=by
  have hk:=(p.t.sF hx (p.t.ub x hx) j).1
  by_cases e:x.n.slot=0
  ·obtain rfl:=p.Q9 hx e
   rw [p.g_r]
   show dg [aB _ ((ai l 0).aj++[m]),aB _ []]=_
   have e0:aB (aq l (bC l 0) j).s (bC l 0).ms=[]:=rfl
   rw [e0,cx,p.gx]at hk
   rw [fi,←hk]
   exact(oM hr List.Pairwise.nil fun a ha b hb=>by cases hb).1.trans (cx _)
  ·rw [Dj e]
   show dg [aB _ x.n.aj,aB _ (x.ms++aB x.s [m])]=_
   rw [fi,eL fun k hk=>C4 k hk]
   rw [hk]at hr⊢
   rw [ci]at hr⊢
   obtain⟨r1,r2,r3⟩:=uZ hr
   exact(oM r1 r2 r3).1
 have e3:(aq (iC l (jl (ai l 0) m)) (gI l m x) j).ms=dg [aB (aq (iC l (jl (ai l 0) m)) (gI l m x) j).s (gI l m x).n.aj,aB (aq (iC l (jl (ai l 0) m)) (gI l m x) j).s (gI l m x).ms]:=rfl
 rw [es,em]at e3
 rw [Dj AO]
 cases hA:aq (iC l (jl (ai l 0) m)) (gI l m x) j
 rw [hA]at en es e3
 simp only at en es e3
 rw [en,es,e3]
theorem each(p:InjOf c l ss m)(hx:x∈ss):(ft (iC l (jl (ai l 0) m)) (gI l m x)).isSome=true∧bu (iC l (jl (ai l 0) m)) (gI l m x)=(bu l x).map (gI l m):=by
 obtain⟨s1,s2,s3,s4,s5,s6,s7⟩:=p.og x hx
 by_cases h0:x.n.level=0
 ·rw [uQ (by rw [s2];exact h0),fN (by rw [s2];exact h0),fN h0];exact⟨rfl,rfl⟩
 ·obtain⟨h1,h2,h3,h4⟩:=cL (p.t.kids hx) h0
  obtain⟨g1,g2⟩:=uS (l:=iC l (jl (ai l 0) m)) (x:=gI l m x) (by rw [s2];exact h2) (by rw [s4,s5];exact h3) fun j hj=>by
   rw [s5]at hj
   have e:=p.t.at hx h0 hj
   unfold oK
   rw [s5,p.kJ hx h0 hj,p.Be e.1]
   simp only [vw,fJ]
   rw [(p.og _ e.1).2.1,s2];exact e.2.2.2
  refine⟨g1,?_⟩
  rw [g2,h1,s5]
  unfold l8
  rw [lS]
  exact rU fun j hj=>p.agH hx h0 (gN.1 hj)
theorem Q5(p:InjOf c l ss m):gI l m (bC l 0)=bC (iC l (jl (ai l 0) m)) 0:=by
 have hf:=p.Be p.t.root
 rw [p.t.oN,p.g_r]at hf
 rw [p.g_r]
 unfold bC
 rw [hf]
theorem fix(p:InjOf c l ss m):ss.map (gI l m)=bC (iC l (jl (ai l 0) m)) 0::(ss.map (gI l m)).flatMap (bu (iC l (jl (ai l 0) m))):=by
 rw [PourOf.Lc fun x hx=>(p.each hx).2]
 conv=>lhs;rw [p.t.fix]
 rw [cA,p.Q5]
theorem keys(p:InjOf c l ss m):(ss.map (gI l m)).map aw.key=ss.map aw.key:=by
 rw [lS]
 refine rU fun x hx=> ?_
 obtain⟨s1,s2,s3,_⟩:=p.og x hx
 show((gI l m x).n.slot,(gI l m x).n.level,(gI l m x).n.right)=_
 rw [s1,s2,s3];rfl
theorem perm(p:InjOf c l ss m):((ss.map (gI l m)).map fun x:aw=>x.n.slot).Perm ((iC l (jl (ai l 0) m)).map fun n:Nd=>n.slot):=by
 have h1:(ss.map (gI l m)).map (fun x:aw=>x.n.slot)=ss.map (fun x:aw=>x.n.slot):=by
  rw [lS]
  exact rU fun x hx=>(p.og x hx).1
 rw [h1]
 have h4:((iC l (jl (ai l 0) m)).map fun n:Nd=>n.slot)=(l.map fun n:Nd=>n.slot):=by rw [lx p.bp,lx p.t.slot,p.len]
 rw [h4];exact p.t.IB
theorem nR(p:InjOf c l ss m):(jl (ai l 0) m).R c.fan c.leaf c.aT:=by
 obtain⟨⟨r1,r2,r3⟩,r4,r5,_⟩:=p.rR
 obtain⟨i1,i2,i3,i4,i5,i6,i7⟩:=p.rin
 have kq:=p.st
 have Vf:=p.fit
 refine⟨⟨r1,r2,by show 0≤m.aW;omega⟩,r4,r5,?_⟩
 rw [if_neg (show ¬(jl (ai l 0) m).level=0 from p.h0)]
 refine⟨i1,i2,?_,?_,i5,i6,fun j hj=> ?_⟩
 ·refine fq.iff.2 ⟨fun x hx=> ?_,?_⟩
  ·rcases cP.1 hx with hx|hx
   ·exact(fq.iff.1 i3).1 x hx
   ·simp at hx;subst hx;exact p.mR
  ·refine wo.2 ⟨(fq.iff.1 i3).2,by simp,fun a ha b hb=> ?_⟩
   simp at hb;subst hb
   obtain⟨q,hq,rfl⟩:=cj ha
   have:=(i7 q hq).1
   omega
 ·show bX ((ai l 0).aj++[m])≤_
  rw [A3]
  have:bX [m]=m.size:=by simp [bX]
  omega
 ·refine⟨?_,.inl p.aHi⟩
  have hj2:j<((ai l 0).aj++[m]).length:=hj
  show(((ai l 0).aj++[m])[j]).aW≤m.aW
  rw [List.getElem_append]
  split
  ·rename_i h
   have:=(i7 j h).1
   omega
  ·simp
theorem IY(p:InjOf c l ss m):∀x∈ss,yV c (gI l m x):=by
 refine p.two ?_ fun x hx h=> ?_
 ·rw [p.g_r]
  have sR:=p.agI
  have e:=p.gx
  obtain⟨q1,⟨⟨q2,q3⟩,q4,q5,q6⟩,q7,q8⟩:=sR
  rw [e]at q2 q3 q7
  refine⟨p.nR,⟨⟨q2,q3⟩,fun j hj=>(sC _),fun j hj=> ?_,fun j hj=> ?_⟩,q7,fun j hj=>absurd hj (qJ j)⟩
  ·have:=q5 j (by rw [e];exact hj)
   simp only [e]at this
   exact this
  ·refine PourOf.Q6 fun q _=>sC q
 ·rw [Dj h]
  obtain⟨q1,q2,q7,q8⟩:=p.t.gz hx
  refine⟨q1,q2,q7,fun j hj=> ?_⟩
  have u4:(x.ms++aB x.s [m])[j]∈x.ms++aB x.s [m]:=bN hj
  show x.n.seen<((x.ms++aB x.s [m])[j]).aW
  rcases cP.1 u4 with hm|hm
  ·obtain⟨q,hq,e⟩:=cj hm
   rw [←e];exact q8 q hq
  ·obtain⟨z,hz,e⟩:=gX hm
   simp at hz;subst hz
   rw [e]
   have:=p.sn _ (p.t.nd hx).2.2
   have:=p.st
   omega
theorem tree(p:InjOf c l ss m):Tree c (iC l (jl (ai l 0) m)) (ss.map (gI l m)):=by
 have hsm:=p.t.C2
 refine IC p.t.kd (by rw [p.len];exact p.t.pos) (XT p.t.kd (by rw [p.len];exact hsm.1) fun n hn=> ?_) p.bp p.fix (fun z hz=> ?_) p.perm ?_ (by rw [p.len];exact p.t.q.1.2.2) fun z hz=> ?_
 ·have uT:∀n∈l,n.R c.fan c.leaf c.aT:=fun n hn=>by
   have:=(p.t.perm.mem_iff).2 hn
   obtain⟨x,hx,rfl⟩:=cB.1 this
   exact(p.t.gz hx).1
  rcases qI hn with hn|rfl
  ·exact uT n hn
  ·exact p.nR
 ·obtain⟨x,hx,rfl⟩:=cB.1 hz
  exact(p.each hx).1
 ·rw [p.keys];exact(rn ss).1 p.t.q.1.2.1
 ·obtain⟨x,hx,rfl⟩:=cB.1 hz
  exact p.IY x hx
theorem map(p:InjOf c l ss m):bM (iC l (jl (ai l 0) m))=takeN (bM l) m:=by
 have t':=p.tree
 have hk:m.key.b.size<140737488355328:=by have:=p.mR.1.2.1;omega
 have hkd:1≤m.kind∧m.kind≤4:=by
  have h:=p.mR.2
  split at h
  ·omega
  ·rcases h.2.2 with h|h|h<;>omega
 refine ab0 t'.o8 (dr.1 (p.t.arv.KA p.mR.1.2.1 p.mR.1.2.2.1)).2 fun k=> ?_
 rw [PT hk hkd.1 hkd.2,←p.t.lookup k,←t'.lookup k]
 have hL:=p.t.qC k
 have ig:(cG l k).n.slot≠0:=fun e=>p.h0 (by rw [←p.gx,←p.Q9 hL.mem e];exact hL.lvl)
 have e:gI l m (cG l k)=cG (iC l (jl (ai l 0) m)) k:=by
  refine t'.arq (cB.2 ⟨_,hL.mem,rfl⟩) ?_ ?_
  ·rw [(p.og _ hL.mem).2.2.2.2.2.1];exact hL.has
  ·rw [(p.og _ hL.mem).2.1];exact hL.lvl
 rw [←e,Dj ig]
 show bG.apply (ln ((cG l k).ms++aB (cG l k).s [m]) k) _=_
 rw [CX,CX,Eh,Gu hL.has]
 rfl
end InjOf
variable {l:List aD} {m:aD}
theorem A4(h:m∈aM l):m∈l:=by
 unfold aM at h
 split at h
 ·exact h
 ·split at h
  ·exact gu h
  ·exact gu h
theorem Gv(l:List aD):(aM l).length≤l.length:=by
 unfold aM
 split
 ·exact bZ _
 ·split
  ·rw [bV];omega
  ·rw [bV];omega
theorem agJ(h:kz xi l= -1):l=aM l:=by unfold aM;rw [if_pos h]
theorem agK(h:¬kz xi l= -1)(h2:kz xi l=0):(l.take 1).drop 0=aM l:=by unfold aM;rw [if_neg h,if_pos h2,yk]
theorem ab1(h:¬kz xi l= -1)(h2:¬kz xi l=0):(l.take (kz xi l).toNat).drop 0=aM l:=by unfold aM;rw [if_neg h,if_neg h2,yk]
variable {k:Nat} {α:Type} {β:Type}
theorem ab2{f:α→Option β}{l:List α}(hk:k<l.length):(l.take (k+1)).filterMap f=(l.take k).filterMap f++(f l[k]).toList:=by
 rw [iA hk,Hk]
 cases h:f l[k]<;>simp [h]
theorem ajM{f:α→Option β}{l:List α}{b:β}(hk:k<l.length)(h:f l[k]=some b):(l.take (k+1)).filterMap f=(l.take k).filterMap f++[b]:=by rw [ab2 hk,h];rfl
theorem ar6{f:α→Option β}{l:List α}(hk:k<l.length)(h:f l[k]=none):(l.take (k+1)).filterMap f=(l.take k).filterMap f:=by rw [ab2 hk,h];simp
theorem ajN(f:α→Option β)(l:List α)(k:Nat):((l.take k).filterMap f).length≤k:=by
 have:=WK f (l.take k)
 rw [bV]at this
 omega
variable {F:List aD} {P:List af} {i:Int}
theorem aCY(hk:k<F.length)(h1:((ae P F[k].key:Nat):Int)=i)(h2:(F[k].clip (aA P i)).2=true):(F.take (k+1)).filterMap (uU P i)=(F.take k).filterMap (uU P i)++[(F[k].clip (aA P i)).1]:=ajM hk (if_pos ⟨h1,h2⟩)
theorem ar7(hk:k<F.length)(h:¬(((ae P F[k].key:Nat):Int)=i∧(F[k].clip (aA P i)).2=true)):(F.take (k+1)).filterMap (uU P i)=(F.take k).filterMap (uU P i):=ar6 hk (if_neg h)
def B1 (aT:Int) (ms:List aD) (m:aD):List aD×Bool:=if fX aT ms m=true then(ms++[m],true)else([],false)
variable {aT:Int} {ms:List aD}
theorem EH(h:fX aT ms m=true):B1 aT ms m=(ms++[m],true):=if_pos h
theorem ajO(h:fX aT ms m=false):B1 aT ms m=([],false):=if_neg (by simp [h])
theorem wW:fX aT ms m=true↔m.size≤aT-bX ms∧∀h:0<ms.length,(ms[ms.length-1]'aa).aW<m.aW:=by
 unfold fX
 rw [cm,fJ]
 refine and_congr Iff.rfl ?_
 cases h:ms.getLast? with
 |none=>
  rw [List.getLast?_eq_none_iff]at h
  subst h
  simp
 |some x=>
  rw [WV]at h
  obtain⟨h1,h2⟩:=vz.1 h
  simp only [Option.all_some,fJ]
  exact⟨fun h3 _=>by rw [h2];exact h3,fun h3=>by have:=h3 aa;rw [h2]at this;exact this⟩
theorem ar8(h:¬m.size≤aT-bX ms):fX aT ms m=false:=by
 cases hr:fX aT ms m
 ·rfl
 ·exact absurd (wW.1 hr).1 h
theorem ar9(h:0<ms.length)(h2:m.aW≤(ms[ms.length-1]'aa).aW):fX aT ms m=false:=by
 cases hr:fX aT ms m
 ·rfl
 ·have:=(wW.1 hr).2 h;omega
theorem agL(hk:k<l.length)(h:fX aT ms l[k]=false):mf aT ms (l.drop k)=0:=by
 rw [iW hk]
 unfold mf
 rw [if_neg (by simp [h])]
theorem agM(hk:k<l.length)(h:fX aT ms l[k]=true):mf aT ms (l.drop k)=mf aT (ms++[l[k]]) (l.drop (k+1))+1:=by
 rw [iW hk]
 conv=>lhs;unfold mf
 rw [if_pos h]
def m8 (aT:Int) (ms l:List aD) (k:Nat):Prop:=mf aT ms l=k+mf aT (ms++l.take k) (l.drop k)
theorem m8.zero(aT:Int)(ms l:List aD):m8 aT ms l 0:=by unfold m8;simp
theorem m8.succ(h:m8 aT ms l k)(hk:k<l.length)(hr:fX aT (ms++l.take k) l[k]=true):m8 aT ms l (k+1):=by
 unfold m8 at h⊢
 rw [h,agM hk hr,iA hk,ci]
 omega
theorem m8.stop(h:m8 aT ms l k)(hk:k<l.length)(hr:fX aT (ms++l.take k) l[k]=false):mf aT ms l=k:=by
 unfold m8 at h
 rw [h,agL hk hr]
 omega
theorem m8.all(h:m8 aT ms l k)(hk:l.length≤k):mf aT ms l=k:=by
 unfold m8 at h
 rw [h,yj hk]
 rfl
variable {k:Nd}
theorem QN{leaf:Int}(h:k.level=0):bF leaf aT k l=({ k with rows:=(ed leaf k.rows l).1 },(ed leaf k.rows l).2):=if_pos h
theorem QO{leaf:Int}{j:Nat}(h:¬k.level=0)(hj:mf aT k.aj l=j):bF leaf aT k l=({ k with aj:=k.aj++l.take j },j):=by unfold bF;rw [if_neg h,hj]
variable {p:Nd}
theorem xA{leaf:Int}(h:ku p k i):c9 leaf aT p k i=(bF leaf aT k (aJ p.ab p.aj i)).2:=if_pos h
theorem ab3{leaf:Int}(h:¬ku p k i):c9 leaf aT p k i=0:=if_neg h
theorem wG:∀ {l:List aD},(∀m∈l,m.key.b.size≤16∧m.val.b.size≤16)→0≤bX l∧bX l≤36*l.length
 |[],_=>⟨by simp [bX],by simp [bX]⟩
 |m::l,h=>by
  have ih:=wG (l:=l) fun x hx=>h x (dk _ hx)
  have:=Ik (h m (by simp))
  have e:bX (m::l)=m.size+bX l:=by simp [bX]
  rw [e]
  simp only [jo]
  omega
def Ld (T:List aD):List (Int×Bool):=T.foldl (fun m x=>yA m x.aW true) []
variable {T:List aD}
theorem agN{k:Nat}(hk:k<T.length):Ld (T.take (k+1))=yA (Ld (T.take k)) T[k].aW true:=by
 unfold Ld
 rw [iA hk,Eh];rfl
theorem Vh(s:Int):∀(T:List aD) (m:List (Int×Bool)),(getM (T.foldl (fun m x=>yA m x.aW true) m) s).getD false=(decide (s∈T.map aD.aW)||(getM m s).getD false)
 |[],m=>by simp
 |x::T,m=>by
  rw [wm,Vh s T,Uw]
  by_cases h:s=x.aW
  ·rw [if_pos h]
   simp [h]
  ·rw [if_neg h]
   simp [h]
theorem Vi(T:List aD)(s:Int):(getM (Ld T) s).getD false=decide (s∈T.map aD.aW):=by
 unfold Ld
 rw [Vh]
 simp [getM]
theorem Q0(aT:Int)(ms:List aD)(m:aD):(B1 aT ms m).2=fX aT ms m:=by
 unfold B1
 cases h:fX aT ms m
 ·rw [if_neg (by simp)]
 ·rw [if_pos rfl]
theorem Gw(leaf aT:Int)(k:Nd)(L:List aD):(L.take (bF leaf aT k L).2).length=(bF leaf aT k L).2:=by
 have:=Vc leaf aT k L
 rw [bV];omega
theorem asa{leaf:Int}(h:¬ku p k i):eC leaf aT p k i=(p,k,0):=by unfold eC;rw [if_pos (ab3 h)]
theorem asb{leaf:Int}(hk:ku p k i)(h:((aJ p.ab p.aj i).take (bF leaf aT k (aJ p.ab p.aj i)).2).length=0):eC leaf aT p k i=(p,k,0):=by
 rw [Gw]at h
 unfold eC;rw [if_pos ((xA hk).trans h)]
theorem ane(h:0<T.length):T.getLast?.getD aD.zero=T[T.length-1]'aa:=by
 rw [WV,eY aa];rfl
theorem ayy{leaf:Int}(hk:ku p k i)(hT:T=(aJ p.ab p.aj i).take (bF leaf aT k (aJ p.ab p.aj i)).2)(h:0<T.length):
  eC leaf aT p k i=({ p with aj:=dC p.ab i T p.aj },{ (bF leaf aT k (aJ p.ab p.aj i)).1 with seen:=(T[T.length-1]'aa).aW },T.length):=by
 have e:T.length=c9 leaf aT p k i:=by rw [hT,Gw,xA hk]
 unfold eC
 rw [if_neg aa,xA hk,←hT,ane h,←xA hk,←e]
theorem asc(h:¬m.aW∈T.map aD.aW):kY P i T m=some m:=if_neg h
theorem ajP(h:m.aW∈T.map aD.aW)(h4:m.kind=4)(hw:(bw m (aA P i)).2=true):kY P i T m=some (bw m (aA P i)).1:=(if_pos h).trans (if_pos ⟨h4,hw⟩)
theorem Yd(h:m.aW∈T.map aD.aW)(hw:¬(m.kind=4∧(bw m (aA P i)).2=true)):kY P i T m=none:=(if_pos h).trans (if_neg hw)
theorem Rc{k:Nat}{x:aD}{n:Nd}(hk:k<l.length)(h:kY P i T l[k]=some x):({ n with aj:=dC P i T (l.take k)++[x] } :Nd)={ n with aj:=dC P i T (l.take (k+1)) } :=by unfold dC;rw [ajM hk h]
theorem Rd{k:Nat}{n:Nd}(hk:k<l.length)(h:kY P i T l[k]=none):({ n with aj:=dC P i T (l.take k) } :Nd)={ n with aj:=dC P i T (l.take (k+1)) } :=by unfold dC;rw [ar6 hk h]
theorem MJ{s:Span}(h:m.Ok):(bw m s).1.Ok:=by
 unfold bw
 split
 ·exact⟨⟨by decide,by decide⟩,⟨by decide,by decide⟩⟩
 ·exact PH h
theorem QP(hP:∀k∈P,k.b.size≤16)(hl:∀m∈l,m.R):∀m∈aJ P l i,m.R:=fun m hm=>by
 obtain⟨a,ha,h2,rfl⟩:=abX hm
 have hr:=sw (p:=P) (i:=i) (n:=16) hP
 exact AP (hl a ha) hr.1 hr.2 h2
theorem ab4(P:List af)(l:List aD)(i:Int):(aJ P l i).length≤l.length:=gg (WK _ _) (Gv l)
theorem anf(P:List af)(i:Int)(T l:List aD)(k:Nat):(dC P i T (l.take k)).length≤k:=ajN _ _ _
def Fe (TN tm:TypeId) (b:Nat) (G:GH) (n:Nd) (M:MH):Prop:=
 ∃(pa:Option Addr) (pc:Nat) (ka:Option Addr) (kc:Nat) (vm:Value) (ra:Option Addr) (rc:Nat) (Mm:MH),
  M=(b,.cells (List.toArray [.int .i64 n.slot,.int .i64 n.level,.slice pa n.ab.length pc,.slice ka n.kids.length kc,.string n.high.b,.bool n.fp,.int .i64 n.right,.int .i64 n.seen,vm,.slice ra n.rows.length rc]) TN (0,0))::Mm∧
  az cy G (.slice pa n.ab.length pc) n.ab∧az bE G (.slice ka n.kids.length kc) n.kids∧aE dy tm G vm n.aj Mm∧az aU G (.slice ra n.rows.length rc) n.rows∧n.Ok
theorem Fe.cast{TN tm:TypeId}{b:Nat}{G:GH}{n n':Nd}{M:MH}(h:Fe TN tm b G n M)(e:n=n'):Fe TN tm b G n' M:=e▸h
structure Re (cb:Int) (p k:Nd):Prop where
 hb:0≤cb∧cb≤9223372036854775807
 hr:rising p.ab=true
 uj:∀q∈p.ab,q.b.size≤16
 pM:∀m∈p.aj,m.R
 ox:∀m∈k.aj,m.key.b.size≤16∧m.val.b.size≤16
 uk:bc k.rows
 kr:k.aj.length+p.aj.length≤100000∧k.rows.length≤100000
theorem ab5:bc []:=fun i h=>absurd h (qJ i)
theorem KU{c:aX}{n:Nd}(h:n.R c.fan c.leaf c.aT):∀m∈n.aj,m.R:=fun m hm=>by
 have h4:=h.2.2.2
 by_cases h0:n.level=0
 ·rw [if_pos h0]at h4
  have e:n.aj=[]:=kj (by have:=h4.1;omega)
  rw [e]at hm;cases hm
 ·rw [if_neg h0]at h4
  exact(fq.iff.1 h4.2.2.1).1 m hm
theorem ang{c:aX}{n:Nd}(h:n.R c.fan c.leaf c.aT):bc n.rows:=by
 have h4:=h.2.2.2
 by_cases h0:n.level=0
 ·rw [if_pos h0]at h4;exact h4.2.2.1
 ·rw [if_neg h0]at h4
  have e:n.rows=[]:=kj h4.1.1
  rw [e];exact ab5
theorem ayz{c:aX}(hp:p.R c.fan c.leaf c.aT)(hk:k.R c.fan c.leaf c.aT)(h1:¬p.level=0)(sp:XK p)(sk:XK k)(hb:c.aT≤9223372036854775807):Re c.aT p k:=by
 have gH:p.pe c.fan c.aT:=by have h4:=hp.2.2.2;rwa [if_neg h1]at h4
 have hm:=KU hp
 have hs:=wG fun m h=>fg (hm m h)
 have si:=gH.2.2.2.1
 obtain⟨_,_,s3,s4,_⟩:=sp
 obtain⟨_,_,k3,k4,_⟩:=sk
 exact⟨⟨aa,hb⟩,(dp gH.2.1).1,ui hp,hm,fun m h=>fg (KU hk m h),ang hk,aa,aa⟩
end Go.Fw
