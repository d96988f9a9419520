/- A row more in a tree of rows behind slots: which slots are taken, and where the nodes lie. Plain Lean; nothing of the program is named here. No condition. -/
import Derived.Test.YthhpfadbojfdnaaGreatQiVq
set_option linter.unusedVariables false
set_option linter.unusedSimpArgs false
set_option linter.unnecessarySimpa false
set_option maxRecDepth 100000
set_option maxHeartbeats 1600000

namespace Go.Fw
open Go Go.RowKit
theorem xG:∀ {u:List Bool} (h:aF u<u.length),u[aF u]=false
 |[],h=>by simp at h
 |true::l,h=>by
  have h1:aF l<l.length:=by simp [aF]at h;omega
  have:=xG h1
  simpa [aF]using this
 |false::l,h=>rfl
theorem Dk:∀ {u:List Bool},aF u=u.length→∀j (hj:j<u.length),u[j]=true
 |[],_,j,hj=>by simp at hj
 |true::l,h,j,hj=>by
  have h1:aF l=l.length:=by simp [aF]at h;omega
  cases j with
  |zero=>rfl
  |succ j=>exact Dk h1 j (by simpa using hj)
 |false::l,h,j,hj=>by simp [aF]at h
variable {u:List Bool}
theorem fO(h:0<(de u).length):aF u<u.length:=by
 have h1:=F6 u
 have h2:aF u≠u.length:=fun e=>by
  obtain⟨a,ha⟩:=List.exists_mem_of_length_pos h
  obtain⟨i,hi,_,h3⟩:=jS.1 ha
  rw [Dk e i hi]at h3;cases h3
 omega
theorem Vj{i:Nat}(hi:i<u.length)(h:u[i]=false):(de (u.set i true)).length+1=(de u).length:=by
 have hp:(de u).Perm ((i:Int)::de (u.set i true)):=by
  refine wE (ri u) ?_ fun x=> ?_
  ·refine nN.2 ⟨fun hm=> ?_,ri _⟩
   obtain⟨j,hj,e,h2⟩:=jS.1 hm
   have e:i=j:=aa
   subst e
   simp at h2
  ·rw [dK,jS,jS]
   constructor
   ·rintro⟨j,hj,rfl,h2⟩
    by_cases e:i=j
    ·left;omega
    ·exact .inr ⟨j,by rw [cg];exact hj,rfl,by rw [qH e];exact h2⟩
   ·rintro(rfl|⟨j,hj,rfl,h2⟩)
    ·exact⟨i,hi,rfl,h⟩
    ·rw [cg]at hj
     by_cases e:i=j
     ·subst e;simp at h2
     ·rw [qH e]at h2;exact⟨j,hj,rfl,h2⟩
 rw [hp.length_eq];rfl
structure tD (u u':List Bool) (new:List Int):Prop where
 len:u'.length=u.length
 nd:new.Nodup
 no:∀s∈new,da u s=false
 iff:∀s,da u' s=true↔da u s=true∨s∈new
theorem tD.ab6:tD u u []:=⟨rfl,HA,fun s hs=>(by cases hs),fun s=>by simp⟩
theorem tD.s9{u':List Bool}{new:List Int}(h:tD u u' new){s:Int}(hs:da u s=true):da u' s=true:=(h.iff s).2 (.inl hs)
theorem tD.trans{u u' u'':List Bool}{a b:List Int}(h:tD u u' a)(k:tD u' u'' b):tD u u'' (a++b):=by
 refine⟨k.len.trans h.len,kX.2 ⟨h.nd,k.nd,fun x hx y hy e=> ?_⟩,fun s hs=> ?_,fun s=> ?_⟩
 ·subst e
  have:=k.no x hy
  rw [(h.iff x).2 (.inr hx)]at this;cases this
 ·rcases cP.1 hs with hs|hs
  ·exact h.no s hs
  ·cases h2:da u s
   ·rfl
   ·have:=k.no s hs
    rw [h.s9 h2]at this;cases this
 ·rw [k.iff,h.iff,cP,or_assoc]
theorem IZ(h:aF u<u.length):tD u (u.set (aF u) true) [(aF u:Int)]:=by
 have h0:=xG h
 refine⟨cg,nN.2 ⟨ww,HA⟩,fun s hs=> ?_,fun s=> ?_⟩
 ·rw [gh.1 hs,aq7 h,h0]
 ·rw [gh,lX,lX]
  constructor
  ·rintro⟨j,hj,rfl,h2⟩
   rw [cg]at hj
   by_cases e:aF u=j
   ·right;omega
   ·rw [qH e]at h2;exact .inl ⟨j,hj,rfl,h2⟩
  ·rintro(⟨j,hj,rfl,h2⟩|rfl)
   ·refine⟨j,by rw [cg];exact hj,rfl,?_⟩
    by_cases e:aF u=j
    ·subst e;simp
    ·rw [qH e];exact h2
   ·exact⟨aF u,by rw [cg];exact h,rfl,by simp⟩
def fQ {k:Nat} (r:Option (af×BT k)):af:=match r with|none=>af.nil|some w=>w.1
def gJ {k:Nat} (r:Option (af×BT k)):Int:=match r with|none=> -1|some w=>w.2.slot
def mB {k:Nat} (r:BT k×Option (af×BT k)):List c6:=bf k r.1++(match r.2 with|none=>[]|some w=>bf k w.2)
section
variable {fan leaf:Int} {key:af} {e:bG}
theorem Vk:∀ {k:Nat} {y:BT k} {u:List Bool},(gq fan leaf key e k y u).1.1.slot=y.slot
 |0,y,u=>by
  by_cases h:((bW (di y) key e).length:Int)≤leaf
  ·rw [xH h];rfl
  ·rw [xI h];rfl
 |k+1,y,u=>by
  show(zW fan y (ae (au y) key) _).1.1.slot=_
  unfold zW
  split
  ·rfl
  ·unfold u5;split<;>rfl
def oy (fan leaf:Int) (key:af) (e:bG):(k:Nat)→BT k→Nat
 |0,y=>if((bW (di y) key e).length:Int)≤leaf then 0 else 1
 |k+1,y=>if oy fan leaf key e k ((ay y).getD (ae (au y) key) default)=k+1 then(if((ay y).length:Int)+1≤fan then k+1 else k+2)else oy fan leaf key e k ((ay y).getD (ae (au y) key) default)
theorem ajQ:∀ {k:Nat} {y:BT k},oy fan leaf key e k y≤k+1
 |0,y=>by unfold oy;split<;>omega
 |k+1,y=>by
  have:=ajQ (k:=k) (y:=(ay y).getD (ae (au y) key) default)
  unfold oy
  split
  ·split<;>omega
  ·omega
variable {k:Nat} {u:List Bool}
theorem Rf{y:BT (k+1)}(h:ae (au y) key<(ay y).length):gq fan leaf key e (k+1) y u=zW fan y (ae (au y) key) (gq fan leaf key e k (ay y)[ae (au y) key] u):=by
 show zW _ _ _ (gq fan leaf key e k ((ay y).getD _ _) u)=_
 rw [fw h]
theorem I0{y:BT (k+1)}(h:ae (au y) key<(ay y).length):oy fan leaf key e (k+1) y=if oy fan leaf key e k (ay y)[ae (au y) key]=k+1 then(if((ay y).length:Int)+1≤fan then k+1 else k+2)else oy fan leaf key e k (ay y)[ae (au y) key]:=by
 show(if oy fan leaf key e k ((ay y).getD _ _)=k+1 then _ else oy fan leaf key e k ((ay y).getD _ _))=_
 rw [fw h]
theorem EK{y:BT (k+1)}{i:Nat}(hi:i<(ay y).length)(a w:BT k):((ay y).take i++([a,w]++(ay y).drop (i+1))).length=(ay y).length+1:=by
 simp [bV,cv];omega
variable {P:List af}
theorem asd{s:Int}{K:List (BT k)} :(u5 fan s P K u).1.2.isSome=decide (¬((K.length:Int)≤fan)):=by
 unfold u5
 split
 ·rename_i h;simp [h]
 ·rename_i h;simp [h]
theorem zX:∀ {k:Nat} {y:BT k} {u:List Bool} {lo hi:Int} {s:Span},s.norm=s→BT.ok fan leaf k lo hi s y→((gq fan leaf key e k y u).1.2.isSome=true↔oy fan leaf key e k y=k+1)
 |0,y,u,_,_,_,_,_=>by
  unfold oy
  by_cases h:((bW (di y) key e).length:Int)≤leaf
  ·rw [xH h,if_pos h];simp
  ·rw [xI h,if_neg h];simp
 |k+1,y,u,lo,hi,s,hs,h=>by
  have hl:=lz hs h key
  obtain⟨v,_,hv,_,hP,_⟩:=h.2.at hs (i:=ae (au y) key) (fy _ _)
  have ih:=zX (u:=u) hv hP
  have nU:=ajQ (fan:=fan) (leaf:=leaf) (key:=key) (e:=e) (k:=k) (y:=(ay y)[ae (au y) key])
  rw [Rf hl,I0 hl]
  unfold zW
  cases hr:(gq fan leaf key e k (ay y)[ae (au y) key] u).1.2 with
  |none=>
   have h1:¬oy fan leaf key e k (ay y)[ae (au y) key]=k+1:=fun h9=>by have:=ih.2 h9;rw [hr]at this;cases this
   rw [if_neg h1]
   simp;omega
  |some w=>
   rw [if_pos (ih.1 (by rw [hr];rfl))]
   dsimp only
   rw [asd,EK hl]
   by_cases h2:((ay y).length:Int)+1≤fan
   ·rw [if_pos h2]
    simp;omega
   ·rw [if_neg h2]
    simp;omega
theorem uF{s:Int}{K:List (BT k)} :(bf (k+1) (mg s P K)).map c6.slot=s::(K.flatMap (bf k)).map c6.slot:=by
 rw [kD,cA,bg];rfl
theorem Lf{s:Int}{K:List (BT k)}(h:(K.length:Int)≤fan):u5 fan s P K u=((mg s P K,none),u):=if_pos h
theorem Lg{s:Int}{K:List (BT k)}(h:¬(K.length:Int)≤fan):u5 fan s P K u=((mg s (P.take ((K.length+1) / 2-1)) (K.take ((K.length+1) / 2)),some (P.getD ((K.length+1) / 2-1) af.nil,mg (aF u:Int) (P.drop ((K.length+1) / 2)) (K.drop ((K.length+1) / 2)))),u.set (aF u) true):=if_neg h
theorem ase{s:Int}{K:List (BT k)}(h:(K.length:Int)≤fan∨0<(de u).length):
  ∃new,tD u (u5 fan s P K u).2 new∧((mB (u5 fan s P K u).1).map c6.slot).Perm (s::(K.flatMap (bf k)).map c6.slot++new)∧new.length=(if(K.length:Int)≤fan then 0 else 1)∧(de (u5 fan s P K u).2).length+new.length=(de u).length:=by
 by_cases hK:(K.length:Int)≤fan
 ·rw [Lf hK]
  refine⟨[],tD.ab6,?_,by rw [if_pos hK];rfl,rfl⟩
  show(((bf (k+1) (mg s P K))++[]).map c6.slot).Perm _
  rw [cx,cx,uF]
 ·rw [Lg hK]
  have hf:=fO (h.resolve_left hK)
  refine⟨[(aF u:Int)],IZ hf,?_,by rw [if_neg hK];rfl,Vj hf (xG hf)⟩
  show(((bf (k+1) (mg s _ (K.take ((K.length+1) / 2))))++bf (k+1) (mg (aF u:Int) _ (K.drop ((K.length+1) / 2)))).map c6.slot).Perm _
  rw [bU,uF,uF]
  have e1:K.flatMap (bf k)=(K.take ((K.length+1) / 2)).flatMap (bf k)++(K.drop ((K.length+1) / 2)).flatMap (bf k):=by rw [←dT,fo]
  rw [e1,bU]
  exact List.Perm.cons _ (tL.trans (yl _ _).symm)
theorem I1(hf:4≤fan):∀ {k:Nat} {y:BT k} {u:List Bool} {lo hi:Int} {s:Span},s.norm=s→BT.ok fan leaf k lo hi s y→oy fan leaf key e k y≤(de u).length→
  ∃new,tD u (gq fan leaf key e k y u).2 new∧((mB (gq fan leaf key e k y u).1).map c6.slot).Perm ((bf k y).map c6.slot++new)∧new.length=oy fan leaf key e k y∧(de (gq fan leaf key e k y u).2).length+new.length=(de u).length
 |0,y,u,_,_,_,_,_,lW=>by
  unfold oy at lW⊢
  by_cases h:((bW (di y) key e).length:Int)≤leaf
  ·rw [xH h]
   exact⟨[],tD.ab6,by simp [mB,bf,fY,TO,zY,BT.slot],by rw [if_pos h];rfl,rfl⟩
  ·rw [if_neg h]at lW
   have hl:=fO (u:=u) aa
   rw [xI h]
   exact⟨[(aF u:Int)],IZ hl,by simp [mB,bf,fY,TO,zY,BT.slot],by rw [if_neg h];rfl,Vj hl (xG hl)⟩
 |k+1,y,u,lo,hi,s,hs,h,lW=>by
  have hl:=lz hs h key
  obtain⟨v,_,hv,_,hP,_⟩:=h.2.at hs (i:=ae (au y) key) (fy _ _)
  have hso:=zX (key:=key) (e:=e) (u:=u) hv hP
  rw [I0 hl]at lW⊢
  have hle:oy fan leaf key e k (ay y)[ae (au y) key]≤(de u).length:=by
   revert lW
   split
   ·rename_i h9;rw [h9];split<;>omega
   ·exact id
  obtain⟨n1,a1,a2,a3,a4⟩:=I1 hf hv hP hle
  rw [Rf hl]
  generalize hr:gq fan leaf key e k (ay y)[ae (au y) key] u=r at*
  generalize ae (au y) key=i at*
  have hK:(bf (k+1) y).map c6.slot=y.slot::(((ay y).take i).flatMap (bf k)++(bf k (ay y)[i]++((ay y).drop (i+1)).flatMap (bf k))).map c6.slot:=by
   rw [kD,cA,bg]
   congr 2
   conv=>lhs;rw [←fo i (ay y),iW hl]
   rw [dT,cI]
  have mid:∀ {A B C D:List Int},B.Perm (C++n1)→(A++(B++D)).Perm ((A++(C++D))++n1):=fun {A B C D} hB=>by
   rw [ci,ci]
   refine bO _ ((pD _ hB).trans ?_)
   rw [ci]
   exact bO _ tN
  unfold zW
  cases Fa:r.1.2 with
  |none=>
   have h1:¬oy fan leaf key e k (ay y)[i]=k+1:=fun h9=>by have:=hso.2 h9;rw [Fa]at this;cases this
   rw [if_neg h1]
   refine⟨n1,a1,?_,a3,a4⟩
   dsimp only
   show(((bf (k+1) (mg y.slot (au y) ((ay y).set i r.1.1)))++[]).map c6.slot).Perm _
   rw [cx,uF,hK,pC,wX hl,dT,cI,bU,bU,bU,bU]
   refine List.Perm.cons _ (mid ?_)
   have:mB r.1=bf k r.1.1:=by unfold mB;rw [Fa,cx]
   rw [this]at a2;exact a2
  |some w=>
   have h1:=hso.1 (by rw [Fa];rfl)
   rw [if_pos h1]at lW⊢
   dsimp only
   have Xh:=EK hl r.1.1 w.2
   obtain⟨n2,b1,b2,b3,b4⟩:=ase (fan:=fan) (s:=y.slot) (P:=(au y).take i++([w.1]++(au y).drop i)) (K:=(ay y).take i++([r.1.1,w.2]++(ay y).drop (i+1))) (u:=r.2) (by
    rw [Xh]
    by_cases h2:((ay y).length:Int)+1≤fan
    ·left;omega
    ·right;rw [if_neg h2]at lW;omega)
   refine⟨n1++n2,a1.trans b1,?_,?_,?_⟩
   ·refine b2.trans ?_
    rw [hK]
    have e1:(mB r.1).map c6.slot=(bf k r.1.1++bf k w.2).map c6.slot:=by unfold mB;rw [Fa]
    rw [e1]at a2
    have e2:(((ay y).take i++([r.1.1,w.2]++(ay y).drop (i+1))).flatMap (bf k)).map c6.slot=(((ay y).take i).flatMap (bf k)).map c6.slot++((bf k r.1.1++bf k w.2).map c6.slot++(((ay y).drop (i+1)).flatMap (bf k)).map c6.slot):=by
     rw [dT,dT,cI,cI,iB,cx,bU,bU]
    have key:=List.Perm.cons y.slot (mid (A:=(((ay y).take i).flatMap (bf k)).map c6.slot) (D:=(((ay y).drop (i+1)).flatMap (bf k)).map c6.slot) a2)
    rw [←e2]at key
    have k2:=pD n2 key
    rw [bU,bU]
    refine k2.trans (nJ ?_)
    simp only [pC,ci]
   ·rw [bP,b3,a3,Xh,h1]
    by_cases h2:((ay y).length:Int)+1≤fan
    ·rw [if_pos h2,if_pos aa]
    ·rw [if_neg h2,if_neg aa]
   ·rw [bP];omega
end
section
variable {Tn Ts:TypeId} {cells gY:List (Option Nat)} {G:GH}
variable {Ms:MH}
theorem bD.Ye{y:BT 0}(h:bD Tn Ts cells (bf 0 y) G Ms):∃b vp vk vr Mp,Ms=(b,.cells (List.toArray [.int .i64 0,vp,vk,vr]) Tn (0,0))::Mp∧jm cells y.slot b∧aE cy Ts G vp [] Mp∧az bE G vk []∧az aU G vr (di y):=by
 obtain⟨A,B,rfl,⟨b,hb,vp,vk,vr,Mp,rfl,h1,h2,h3⟩,h4⟩:=h
 have h4:B=[]:=h4
 subst h4
 exact⟨b,vp,vk,vr,Mp,cx _,hb,h1,h2,h3⟩
variable {k:Nat}
theorem bD.Rg{y:BT (k+1)}(h:bD Tn Ts cells (bf (k+1) y) G Ms):∃b vp vk vr Mp B,Ms=(b,.cells (List.toArray [.int .i64 ((k+1:Nat):Int),vp,vk,vr]) Tn (0,0))::(Mp++B)∧jm cells y.slot b∧aE cy Ts G vp (au y) Mp∧az bE G vk ((ay y).map BT.slot)∧az aU G vr []∧bD Tn Ts cells ((ay y).flatMap (bf k)) G B:=by
 obtain⟨A,B,rfl,⟨b,hb,vp,vk,vr,Mp,rfl,h1,h2,h3⟩,h4⟩:=h
 exact⟨b,vp,vk,vr,Mp,B,rfl,hb,h1,h2,h3,h4⟩
variable {Mp:MH} {b:Nat} {vk:Value} {vp:Value} {vr:Value}
theorem bD.Dl{s:Int}{R:List aG}(hb:jm cells s b)(h1:aE cy Ts G vp [] Mp)(h2:az bE G vk [])(h3:az aU G vr R):bD Tn Ts cells (bf 0 (zY s R)) G ((b,.cells (List.toArray [.int .i64 0,vp,vk,vr]) Tn (0,0))::Mp):=
 ⟨_,[],(cx _).symm,⟨b,hb,vp,vk,vr,Mp,rfl,h1,h2,h3⟩,rfl⟩
variable {B:MH}
theorem bD.kv{s:Int}{P:List af}{K:List (BT k)}(hb:jm cells s b)(h1:aE cy Ts G vp P Mp)(h2:az bE G vk (K.map BT.slot))(h3:az aU G vr [])(h4:bD Tn Ts cells (K.flatMap (bf k)) G B):
  bD Tn Ts cells (bf (k+1) (mg s P K)) G (((b,.cells (List.toArray [.int .i64 ((k+1:Nat):Int),vp,vk,vr]) Tn (0,0))::Mp)++B):=
 ⟨_,B,rfl,⟨b,hb,vp,vk,vr,Mp,rfl,h1,h2,h3⟩,h4⟩
variable {j:Nat}
theorem zZ{l:List (BT k)}(hj:j<l.length):l.flatMap (bf k)=(l.take j).flatMap (bf k)++(bf k l[j]++(l.drop (j+1)).flatMap (bf k)):=by
 conv=>lhs;rw [←fo j l,iW hj]
 rw [dT,cI]
theorem bD.Iw{l:List (BT k)}(hj:j<l.length)(h:bD Tn Ts cells (l.flatMap (bf k)) G Ms):∃A B C,Ms=A++(B++C)∧bD Tn Ts cells ((l.take j).flatMap (bf k)) G A∧bD Tn Ts cells (bf k l[j]) G B∧bD Tn Ts cells ((l.drop (j+1)).flatMap (bf k)) G C:=by
 rw [zZ hj]at h
 obtain⟨A,D,rfl,h1,h2⟩:=bD.app.1 h
 obtain⟨B,C,rfl,h3,h4⟩:=bD.app.1 h2
 exact⟨A,B,C,rfl,h1,h3,h4⟩
variable {A:MH} {C:MH}
theorem bD.Rh{l:List (BT k)}{a:BT k}(hj:j<l.length)(h1:bD Tn Ts cells ((l.take j).flatMap (bf k)) G A)(h2:bD Tn Ts cells (bf k a) G B)(h3:bD Tn Ts cells ((l.drop (j+1)).flatMap (bf k)) G C):bD Tn Ts cells ((l.set j a).flatMap (bf k)) G (A++(B++C)):=by
 rw [wX hj,dT,cI]
 exact h1.two (h2.two h3)
theorem bD.wY{l:List (BT k)}{a w:BT k}(h1:bD Tn Ts cells ((l.take j).flatMap (bf k)) G A)(h2:bD Tn Ts cells (bf k a++bf k w) G B)(h3:bD Tn Ts cells ((l.drop (j+1)).flatMap (bf k)) G C):bD Tn Ts cells ((l.take j++([a,w]++l.drop (j+1))).flatMap (bf k)) G (A++(B++C)):=by
 rw [dT,dT,cI,cI,iB,cx]
 exact h1.two (h2.two h3)
end
variable {Ma:MH} {Mp:MH} {X:MH} {t:Nat×Obj}
theorem u6{n:Nat×Obj} :(t::n::(Ma++(Mp++X))).Perm (t::(Ma++((n::Mp)++X))):=List.Perm.cons _ tL.symm
theorem asf{n m:Nat×Obj}{Mq Y Z:MH}(e:Z=X++Y):(t::n::m::(Ma++(Mp++(Mq++Z)))).Perm (t::(Ma++(((n::Mp)++X)++((m::Mq)++Y)))):=by
 subst e
 refine List.Perm.cons _ ?_
 have h1:(Ma++(((n::Mp)++X)++((m::Mq)++Y))).Perm (n::(Ma++(Mp++(X++(m::(Mq++Y)))))):=by
  rw [pC,pC,pC,ci]
  exact tL
 refine List.Perm.trans (List.Perm.cons _ ?_) h1.symm
 have h2:(Ma++(Mp++(X++(m::(Mq++Y))))).Perm (m::(Ma++(Mp++(X++(Mq++Y))))):=by
  rw [←ci,←ci]
  refine tL.trans (List.Perm.cons _ (nJ ?_))
  simp only [ci]
 refine List.Perm.trans (List.Perm.cons _ ?_) h2.symm
 exact bO _ (bO _ (by
  rw [←ci,←ci]
  exact pD _ tN))
variable {u:List Bool}
theorem Yf{s:Int}(h:da u s=true):u[s.toNat]?=some true:=by
 obtain⟨j,hj,rfl,h2⟩:=lX.1 h
 rw [qG,eY hj,h2]
theorem aCZ{s:Int}(h0:0≤s)(h:u[s.toNat]?=some true):da u s=true:=by
 obtain⟨h1,h2⟩:=vz.1 h
 exact lX.2 ⟨s.toNat,h1,aa,h2⟩
variable {new:List Int} {u':List Bool}
theorem tD.us{l l':List c6}(h:tD u u' new)(hu:kE u l)(hp:(l'.map c6.slot).Perm (l.map c6.slot++new)):kE u' l':=fun n hn=>by
 have:=hp.mem_iff.1 (kn (f:=c6.slot) hn)
 rcases cP.1 this with h2|h2
 ·obtain⟨m,hm,e⟩:=cB.1 h2
  rw [←e];exact h.s9 (hu m hm)
 ·exact(h.iff _).2 (.inr h2)
variable {j:Nat}
theorem tD.get(h:tD u u' new)(hj:u[j]?=some true):u'[j]?=some true:=by
 have:=h.s9 (aCZ (u:=u) (s:=(j:Int)) aa (by rw [qG];exact hj))
 have:=Yf this
 rwa [qG]at this
theorem anh(hf:aF u<u.length)(hj:u[j]?=some true):aF u≠j:=fun e=>by
 subst e
 rw [eY hf,xG hf]at hj;cases hj
theorem gK{cells:List (Option Nat)}{x:Option Nat}(hf:aF u<u.length)(hj:u[j]?=some true):(cells.set (aF u) x)[j]?=cells[j]?:=Hz (anh hf hj)
section
variable {fan leaf:Int} {key:af} {e:bG}
variable {v:Span}
theorem ayA{q:af}(h:v.has q=true):v.has v.lo=true:=by
 obtain⟨h1,h2⟩:=cO.1 h
 refine cO.2 ⟨af.lt_irrefl _,?_⟩
 rcases h2 with h2|h2
 ·exact .inl h2
 ·exact .inr (af.lt_of_le_of_lt h1 h2)
variable {j:Nat}
theorem agO{P:List af}(hr:rising P=true)(hj:j≤P.length){s:Span}(hv:∀q,v.has q=(s.has q&&decide (j=ae P q))){w:af}(h1:v.has w=true)(h2:w≠v.lo):(aA P (j:Int)).has w=true∧w≠(aA P (j:Int)).lo:=by
 have hh:∀q,v.has q=true→(aA P (j:Int)).has q=true:=fun q hq=>by
  rw [hv,cm]at hq
  rw [eR hr q hj];exact hq.2
 refine⟨hh w h1,fun e=>h2 ?_⟩
 have h3:w.lt v.lo=false:=lo_le h1
 have h4:v.lo.lt w=false:=by rw [e];exact lo_le (hh _ (ayA h1))
 exact af.iw h3 h4
variable {k:Nat}
theorem ab7(hf:4≤fan)(vK:2≤leaf)(he:xJ e)(ee:key.b.size≤16)(HY:e.val.b.size≤16){lo hi:Int}{s:Span}{y:BT (k+1)}(hs:s.norm=s)(hk:s.has key=true)(h:BT.ok fan leaf (k+1) lo hi s y){u:List Bool}(hl:ae (au y) key<(ay y).length){w:af×BT k}
  (hw:(gq fan leaf key e k (ay y)[ae (au y) key] u).1.2=some w):(aA (au y) (ae (au y) key:Int)).has w.1=true∧w.1≠(aA (au y) (ae (au y) key:Int)).lo:=by
 have hi:ae (au y) key≤(au y).length:=fy _ _
 obtain⟨v,_,v1,v2,v3,_⟩:=h.2.at hs hi
 have hv:v.has key=true:=by rw [v2,hk,dB rfl];rfl
 have g1:=(Yg hf vK he ee HY k u v1 hv v3).1
 unfold Gx at g1
 rw [hw]at g1
 exact agO (h.2.Yh hs).1 hi v2 g1.1 g1.2.1
theorem Lh{r:Option (af×BT k)}(h:gJ r= -1)(h0:∀w,r=some w→0≤w.2.slot):r=none:=by
 cases r with
 |none=>rfl
 |some w=>have:=h0 w rfl;have h:w.2.slot= -1:=h;omega
theorem asg{l:List (BT k)}{a:BT k}(hj:j<l.length)(h:a.slot=l[j].slot):(l.set j a).map BT.slot=l.map BT.slot:=by
 rw [List.map_set,h]
 refine Av (by simp) fun i h1 h2=> ?_
 rw [Hr]
 split
 ·rename_i e;subst e;rw [jX]
 ·rfl
theorem Yi{l:List (BT k)}{a w:BT k}(hj:j<l.length)(h:a.slot=l[j].slot):(l.take j++([a,w]++l.drop (j+1))).map BT.slot=(l.map BT.slot).take (j+1)++([w.slot]++(l.map BT.slot).drop (j+1)):=by
 rw [bU,bU,cA,cA,lG,h,iA (by simpa using hj),El,HB,jX,ci]
 rfl
end
variable {Ma:MH} {Mp:MH} {t:Nat×Obj}
theorem aAC{n:Nat×Obj} :(t::n::(Ma++Mp)).Perm (t::(Ma++(n::Mp))):=List.Perm.cons _ tL.symm
theorem aHk{n m:Nat×Obj} :(t::n::m::(Ma++Mp)).Perm (t::(Ma++((n::Mp)++[m]))):=by
 have:=asf (t:=t) (n:=n) (m:=m) (Ma:=Ma) (Mp:=Mp) (Mq:=[]) (X:=[]) (Y:=[]) (Z:=[]) rfl
 simpa using this
variable {b:Nat} {u:List Bool}
theorem kf{cells:List (Option Nat)}(hf:aF u<cells.length):jm (cells.set (aF u) (some b)) (aF u:Int) b:=⟨aa,by rw [qG];exact List.getElem?_set_self hf⟩
theorem jm.lt{cells:List (Option Nat)}{s:Int}(h:jm cells s b):0≤s∧s.toNat<cells.length:=⟨h.1,(vz.1 h.2).1⟩
variable {G:GH} {Ms:MH} {Tn:TypeId} {Ts:TypeId} {gY:List (Option Nat)} {l:List c6}
theorem bD.eB{cells:List (Option Nat)}(h:bD Tn Ts cells l G Ms)(hu:kE u l)(ha:∀j:Nat,u[j]?=some true→gY[j]?=cells[j]?):bD Tn Ts gY l G Ms:=h.um fun n hn=>ha _ (Yf (hu n hn))
theorem jm.eB{cells:List (Option Nat)}{s:Int}(h:jm cells s b)(hu:da u s=true)(ha:∀j:Nat,u[j]?=some true→gY[j]?=cells[j]?):jm gY s b:=h.um (ha _ (Yf hu))
variable {k:Nat}
theorem oS{y:BT (k+1)}(h:kE u (bf (k+1) y))(j:Nat):kE u (((ay y).take j).flatMap (bf k)):=fun n hn=>by
 obtain⟨c,hc,hn⟩:=kl.1 hn
 exact h n (oT (gu hc) hn)
theorem oU{y:BT (k+1)}(h:kE u (bf (k+1) y))(j:Nat):kE u (((ay y).drop j).flatMap (bf k)):=fun n hn=>by
 obtain⟨c,hc,hn⟩:=kl.1 hn
 exact h n (oT (pE hc) hn)
theorem uG{y:BT (k+1)}(h:kE u (bf (k+1) y)){c:BT k}(hc:c∈ay y):kE u (bf k c):=fun n hn=>h n (oT hc hn)
theorem Ri{r:BT k×Option (af×BT k)}(h:r.2=none):mB r=bf k r.1:=by unfold mB;rw [h,cx]
theorem jx{r:BT k×Option (af×BT k)}{w:af×BT k}(h:r.2=some w):mB r=bf k r.1++bf k w.2:=by unfold mB;rw [h]
theorem bD.bn{cells:List (Option Nat)}{a:BT k}(h:bD Tn Ts cells (bf k a) G Ms):bD Tn Ts cells (mB ((a,none):BT k×Option (af×BT k))) G Ms:=by rw [Ri rfl];exact h
theorem bD.to{cells:List (Option Nat)}{l':List c6}(h:bD Tn Ts cells l G Ms)(e:l=l'):bD Tn Ts cells l' G Ms:=e▸h
variable {v:Value}
theorem aE.to{α:Type}{e:fB α}{T:TypeId}{l l':List α}(h:aE e T G v l Ms)(q:l=l'):aE e T G v l' Ms:=q▸h
abbrev z1 (AR:GH→List (Option Nat)×List Bool→MH→Prop) (Tn Ts:TypeId) (tb:Nat×Obj) (st:List (Option Nat)×List Bool) {k:Nat} (r:Fy k) (v:Value) (G':GH) (M':MH):Prop:=
 ∃gY yY Mn',M'.Perm (tb::(yY++Mn'))∧AR G' (gY,r.2) yY∧bD Tn Ts gY (mB r.1) G' Mn'∧(∀j:Nat,st.2[j]?=some true→gY[j]?=st.1[j]?)∧v=.tuple #[.string (fQ r.1.2).b,.int .i64 (gJ r.1.2)]
variable {AR:GH→List (Option Nat)×List Bool→MH→Prop} {G':GH} {M':MH} {tb:Nat×Obj}
theorem z1.of{st:List (Option Nat)×List Bool}{r r':Fy k}(e:r=r')(h:z1 AR Tn Ts tb st r' v G' M'):z1 AR Tn Ts tb st r v G' M':=e▸h
variable {fan:Int}
theorem ayB{leaf:Int}{key:af}{e:bG}{y:BT (k+1)}(h:ae (au y) key<(ay y).length){n:Nat}(lW:oy fan leaf key e (k+1) y≤n):oy fan leaf key e k (ay y)[ae (au y) key]≤n∧(oy fan leaf key e k (ay y)[ae (au y) key]=k+1→¬((ay y).length:Int)+1≤fan→oy fan leaf key e k (ay y)[ae (au y) key]+1≤n):=by
 rw [I0 h]at lW
 constructor
 ·revert lW
  split
  ·rename_i h9;rw [h9];split<;>omega
  ·exact id
 ·intro h9 h8
  rw [if_pos h9,if_neg h8]at lW
  omega
abbrev MQ:=Quotient (List.isSetoid (Nat×Obj))
def mq (M:MH):MQ:=Quotient.mk _ M
def mqA (a b:MQ):MQ:=Quotient.liftOn₂ a b (fun x y=>mq (x++y)) fun _ _ _ _ h k=>Quotient.sound (List.Perm.append h k)
theorem gZ(a b:MH):mq (a++b)=mqA (mq a) (mq b):=rfl
def mo (x:Nat×Obj):MQ:=mq [x]
theorem fD(x:Nat×Obj)(b:MH):mq (x::b)=mqA (mo x) (mq b):=rfl
theorem fE(a:MQ):mqA a (mq [])=a:=by
 induction a using En with
 |h a=>exact ax mq (cx a)
instance : Std.Associative mqA := ⟨fun a b c => by
 induction a using En with
 |h a=>
  induction b using En with
  |h b=>
   induction c using En with
   |h c=>exact ax mq (ci a b c)⟩
instance : Std.Commutative mqA := ⟨fun a b => by
 induction a using En with
 |h a=>
  induction b using En with
  |h b=>exact Quotient.sound tN⟩
theorem pN{a b:MH}(h:mq a=mq b):a.Perm b:=Quotient.exact h
theorem Fc.perm{P:Program}{g:FuncId}{vs:List Value}{G:GH}{M M':MH}{Q:Value→GH→MH→Prop}(hp:M'.Perm M)(h:Fc P g vs G M' Q):Fc P g vs G M Q:=by
 refine⟨h.1,fun w hw=> ?_⟩
 have ho:∀b,b∈M'.map (·.1)↔b∈M.map (·.1):=fun b=>(hp.map _).mem_iff
 have e:(fun b=>b∈M'.map (·.1))=fun b=>b∈M.map (·.1):=funext fun b=>propext (ho b)
 have Nt:Real w (fun b=>b∈M'.map (·.1)) G M' w:=by rw [e];exact hw.perm hp
 refine(h.2 w Nt).mono ?_
 rintro x w' ⟨v,G',M1,a1,a2,a3,a4,a5⟩
 rw [e]at a2
 exact⟨v,G',M1,a1,a2,a3,fun b h1 h2=>(a4 b h1 h2).imp id (ho b).1,a5⟩
variable {M:MH} {Mr:MH} {P:Program} {Q:Value→GH→MH→Prop} {g:FuncId} {vs:List Value}
theorem Fc.frame(h:Fc P g vs G M Q):Fc P g vs G (M++Mr) (fun v G' M'=>∃M1,M'=M1++Mr∧Q v G' M1):=by
 refine⟨h.1,fun w hw=> ?_⟩
 have hs:=hw.sub (M':=M) (aI _ _)
 have Nt:Real w (fun b=>b∈M.map (·.1)) G M w:=⟨rfl,rfl,rfl,bZ _,fun _ _ _=>rfl,hs.ro,hs.mu,hs.wJ,hs.nd,fun p hp=>.inr (kn hp)⟩
 refine(h.2 w Nt).mono ?_
 rintro x w' ⟨v,G',M1,a1,a2,a3,a4,a5⟩
 exact⟨v,G',M1++Mr,a1,Real.call hw a2 a4,a3,fun b h1 h2=>(a4 b h1 h2).imp id fun h9=>by rw [bU];exact fK _ h9,M1,rfl,a5⟩
theorem Fc.ab8(h:Fc P g vs G M' Q)(hp:(M'++Mr).Perm M):Fc P g vs G M (fun v G' M1=>∃M2,M1=M2++Mr∧Q v G' M2):=Fc.perm hp h.frame
def mP {k:Nat} (P:List af) (i:Nat):Option (af×BT k)→List af
 |none=>P.take (i+1-1)++P.drop (i+1)
 |some w=>P.set i w.1
def mK {k:Nat} (K:List Int) (i:Nat):Option (af×BT k)→List Int
 |none=>K.take (i+1)++K.drop (i+1+1)
 |some _=>K
def mT {k:Nat} (K:List (BT k)) (i:Nat) (r:BT k×Option (af×BT k)):List (BT k):=
 match r.2 with
 |none=>K.take i++([r.1]++K.drop (i+1+1))
 |some w=>K.take i++([r.1,w.2]++K.drop (i+1+1))
def mU {k:Nat} (u:List Bool) (s:Int):Option (af×BT k)→List Bool
 |none=>u.set s.toNat false
 |some _=>u
variable {i:Nat}
theorem ani{l:List af}(h:i<l.length)(a:af):l.set i a=l.take i++([a]++l.drop (i+1)):=wX h a
theorem Vl{leaf:Int}{s:Int}{P:List af}{K:List (BT k)}(hi:i+1<K.length)(hP:i<P.length):
  vN fan leaf s P K i u=(mg s (mP P i (ii fan leaf k (K[i]'aa) P[i] K[i+1]).2) (mT K i (ii fan leaf k (K[i]'aa) P[i] K[i+1])),mU u (K[i+1]).slot (ii fan leaf k (K[i]'aa) P[i] K[i+1]).2):=by
 unfold vN
 rw [fw hi,fw (show i<K.length by omega),fw hP]
 generalize ii fan leaf k (K[i]'aa) P[i] K[i+1]=r
 obtain⟨a,r⟩:=r
 cases r with
 |none=>rfl
 |some w=>
  show(mg s (P.take i++([w.1]++P.drop (i+1))) _,_)=(mg s (P.set i w.1) _,_)
  rw [ani hP];rfl
theorem anj{K:List (BT k)}{r:BT k×Option (af×BT k)}(hi:i+1<K.length)(h1:r.1.slot=(K[i]'aa).slot)(h2:∀w,r.2=some w→w.2.slot=K[i+1].slot):(mT K i r).map BT.slot=mK (K.map BT.slot) i r.2:=by
 obtain⟨a,r⟩:=r
 cases r with
 |none=>
  show(K.take i++([a]++K.drop (i+1+1))).map BT.slot=(K.map BT.slot).take (i+1)++(K.map BT.slot).drop (i+1+1)
  rw [bU,bU,cA,lG,h1,iA (by simp;omega),El,HB,jX,ci]
 |some w=>
  show(K.take i++([a,w.2]++K.drop (i+1+1))).map BT.slot=K.map BT.slot
  have e:K=K.take i++([K[i]'aa,K[i+1]]++K.drop (i+1+1)):=by
   conv=>lhs;rw [←fo i K,iW (by omega:i<K.length),iW hi]
   rfl
  conv=>rhs;rw [e]
  rw [bU,bU,bU,bU,cA,cA,cA,cA,h1,h2 w rfl]
theorem ab9{K:List (BT k)}{r:BT k×Option (af×BT k)} :(mT K i r).flatMap (bf k)=(K.take i).flatMap (bf k)++(mB r++(K.drop (i+1+1)).flatMap (bf k)):=by
 obtain⟨a,r⟩:=r
 cases r with
 |none=>simp [mT,mB]
 |some w=>simp [mT,mB]
theorem Li{K:List (BT k)}(hi:i+1<K.length):K.flatMap (bf k)=(K.take i).flatMap (bf k)++(bf k (K[i]'aa)++(bf k K[i+1]++(K.drop (i+1+1)).flatMap (bf k))):=by
 conv=>lhs;rw [←fo i K,iW (by omega:i<K.length),iW hi]
 rw [dT,cI,cI]
abbrev yZ (AR:GH→List (Option Nat)×List Bool→MH→Prop) (Tn Ts:TypeId) (tb:Nat×Obj) (dM:Nat) (lv:Int) (vR:Value) (st:List (Option Nat)×List Bool) (Pn:List af) (Kn:List Int) (i:Nat) {k:Nat} (r:BT k×Option (af×BT k)) (bs:Int) (v:Value) (G':GH) (M':MH):Prop:=
 ∃gY yY vp vk vO Mx,M'.Perm (tb::(dM,.cells (List.toArray [.int .i64 lv,vp,vk,vR]) Tn (0,0))::(yY++(vO++Mx)))∧AR G' (gY,mU st.2 bs r.2) yY∧aE cy Ts G' vp (mP Pn i r.2) vO∧az bE G' vk (mK Kn i r.2)∧bD Tn Ts gY (mB r) G' Mx∧(∀j:Nat,j≠bs.toNat→gY[j]?=st.1[j]?)∧v=.tuple #[]
theorem bD.ne{cells:List (Option Nat)}{s:Nat}{x:Option Nat}(h:bD Tn Ts cells l G Ms)(ig:∀n∈l,n.slot.toNat≠s):bD Tn Ts (cells.set s x) l G Ms:=h.um fun n hn=>Hz (ig n hn).symm
theorem yZ.of{dM:Nat}{lv:Int}{vR:Value}{st:List (Option Nat)×List Bool}{Pn:List af}{Kn:List Int}{r r':BT k×Option (af×BT k)}{bs:Int}(e:r=r')(h:yZ AR Tn Ts tb dM lv vR st Pn Kn i r' bs v G' M'):yZ AR Tn Ts tb dM lv vR st Pn Kn i r bs v G' M':=e▸h
structure B2 (u u':List Bool) (gone:List Int):Prop where
 len:u'.length=u.length
 iff:∀s,da u' s=true↔da u s=true∧s∉gone
theorem B2.ab6:B2 u u []:=⟨rfl,fun s=>by simp⟩
theorem B2.trans{u u' u'':List Bool}{a b:List Int}(h:B2 u u' a)(k:B2 u' u'' b):B2 u u'' (a++b):=
 ⟨k.len.trans h.len,fun s=>by rw [k.iff,h.iff,cP,not_or,and_assoc]⟩
theorem aca{s:Int}(hs:da u s=true):B2 u (u.set s.toNat false) [s]:=by
 obtain⟨h0,h1,h2⟩:=j9 hs
 refine⟨cg,fun x=> ?_⟩
 rw [gh,lX,lX]
 constructor
 ·rintro⟨j,hj,rfl,h3⟩
  rw [cg]at hj
  by_cases e:s.toNat=j
  ·subst e;simp at h3
  ·rw [qH e]at h3
   exact⟨⟨j,hj,rfl,h3⟩,fun e2=>e aa⟩
 ·rintro⟨⟨j,hj,rfl,h3⟩,h4⟩
  refine⟨j,by rw [cg];exact hj,rfl,?_⟩
  rw [qH fun e=>h4 aa];exact h3
theorem agP(h:kE u l){n:c6}(hn:n∈l):0≤n.slot:=(j9 (h n hn)).1
theorem mh:kE u l↔∀s∈l.map c6.slot,da u s=true:=⟨fun h s hs=>by
 obtain⟨n,hn,rfl⟩:=cB.1 hs
 exact h n hn,fun h n hn=>h _ (kn hn)⟩
theorem acb{l1 l2:List c6}{u':List Bool}(hn:((l1++l2).map c6.slot).Nodup)(h1:kE u l1)(h2:kE u' l2):∀n∈l1,∀m∈l2,n.slot.toNat≠m.slot.toNat:=fun n dW m o7 e=>by
 rw [bU,kX]at hn
 have a:=agP h1 dW
 have b:=agP h2 o7
 exact hn.2.2 _ (kn dW) _ (kn o7) aa
section
variable {fan leaf:Int} {key:af}
variable {k:Nat} {u:List Bool}
theorem Vm{y:BT (k+1)}{u2:List Bool}{gone:List Int}(iR:((bf (k+1) y).map c6.slot).Nodup)(eV:kE u (bf (k+1) y)){j:Nat}(hj:j<(ay y).length){c:BT k}(hd:B2 u u2 gone)(hp:((bf k (ay y)[j]).map c6.slot).Perm ((bf k c).map c6.slot++gone)):
  kE u2 (((ay y).set j c).flatMap (bf k))∧((((ay y).set j c).flatMap (bf k)).map c6.slot).Nodup∧((bf (k+1) y).map c6.slot).Perm (y.slot::((((ay y).set j c).flatMap (bf k)).map c6.slot++gone))∧da u2 y.slot=true∧y.slot∉(((ay y).set j c).flatMap (bf k)).map c6.slot:=by
 have hP:((bf (k+1) y).map c6.slot).Perm (y.slot::((((ay y).set j c).flatMap (bf k)).map c6.slot++gone)):=by
  rw [kD,cA,bg]
  refine List.Perm.cons _ ?_
  rw [zZ hj,wX hj,dT,cI,bU,bU,bU,bU,ci,ci]
  refine bO _ ((pD _ hp).trans ?_)
  rw [ci]
  exact bO _ tN
 have Ip:=hP.nodup_iff.1 iR
 rw [nN,kX]at Ip
 obtain⟨n1,n2,n3,n4⟩:=Ip
 have hu:=mh.1 eV
 have gH:∀s,s∈y.slot::((((ay y).set j c).flatMap (bf k)).map c6.slot++gone)→da u s=true:=fun s hs=>hu s (hP.mem_iff.2 hs)
 refine⟨mh.2 fun s hs=>(hd.iff s).2 ⟨gH s (dk _ (fK _ hs)),fun h=>n4 s hs s h rfl⟩,n2,hP,(hd.iff _).2 ⟨gH _ (tO ..),fun h=>n1 (ib _ h)⟩,fun h=>n1 (fK _ h)⟩
def mG {k:Nat} (bs:Int):Option (af×BT k)→List Int
 |none=>[bs]
 |some _=>[]
theorem acd:∀ {k:Nat} {a b:BT k} {p:af},((bf k a).map c6.slot++(bf k b).map c6.slot).Perm ((mB (ii fan leaf k a p b)).map c6.slot++mG b.slot (ii fan leaf k a p b).2)
 |0,a,b,p=>by
  show List.Perm _ ((mB (y7 leaf a.slot b.slot (di a++di b))).map c6.slot++mG b.slot (y7 leaf a.slot b.slot (di a++di b)).2)
  unfold y7
  split<;>exact tJ _
 |k+1,a,b,p=>by
  show List.Perm _ ((mB (vP fan a.slot b.slot (au a++p::au b) (ay a++ay b))).map c6.slot++mG b.slot (vP fan a.slot b.slot (au a++p::au b) (ay a++ay b)).2)
  have hl:(bf (k+1) a).map c6.slot++(bf (k+1) b).map c6.slot=(a.slot::((ay a).flatMap (bf k)).map c6.slot)++(b.slot::((ay b).flatMap (bf k)).map c6.slot):=by
   rw [kD,kD,cA,cA,bg,bg]
  rw [hl]
  unfold vP
  split
  ·show List.Perm _ ((bf (k+1) (mg a.slot (au a++p::au b) (ay a++ay b))++[]).map c6.slot++[b.slot])
   rw [cx,uF,dT,bU]
   exact List.Perm.cons _ (tL.trans (yl _ _).symm)
  ·show List.Perm _ ((bf (k+1) (mg a.slot _ _)++bf (k+1) (mg b.slot _ _)).map c6.slot++[])
   rw [cx,bU,uF,uF]
   have e1:((ay a).flatMap (bf k)).map c6.slot++((ay b).flatMap (bf k)).map c6.slot=(((ay a++ay b).take (((ay a++ay b).length+1) / 2)).flatMap (bf k)).map c6.slot++(((ay a++ay b).drop (((ay a++ay b).length+1) / 2)).flatMap (bf k)).map c6.slot:=by
    rw [←bU,←bU,←dT,←dT,fo]
   refine List.Perm.cons _ (tL.trans ?_)
   rw [e1]
   exact tL.symm
variable {i:Nat}
theorem ace{K:List (BT k)}(hi:i+1<K.length){p:af} :
  ((K.flatMap (bf k)).map c6.slot).Perm (((mT K i (ii fan leaf k (K[i]'aa) p K[i+1])).flatMap (bf k)).map c6.slot++mG K[i+1].slot (ii fan leaf k (K[i]'aa) p K[i+1]).2):=by
 have hj:=acd (fan:=fan) (leaf:=leaf) (a:=K[i]'aa) (b:=K[i+1]) (p:=p)
 rw [ab9,Li hi]
 simp only [bU,ci]
 refine bO _ ?_
 rw [←ci]
 refine(pD _ hj).trans ?_
 rw [ci]
 exact bO _ tN
theorem agQ{K:List (BT k)}(hi:i+1<K.length){r:Option (af×BT k)}(hu:kE u (K.flatMap (bf k))):B2 u (mU u K[i+1].slot r) (mG K[i+1].slot r):=by
 cases r with
 |none=>
  have:da u K[i+1].slot=true:=by
   have h:=hu (fY k K[i+1]) (kl.2 ⟨K[i+1],bN hi,cD⟩)
   rwa [bg]at h
  exact aca this
 |some w=>exact B2.ab6
theorem Dm(hf:4≤fan)(vK:2≤leaf)(ee:key.b.size≤16):∀(k:Nat) {lo:Int} {s:Span} {y:BT k} (u:List Bool),(k=0∨2≤lo)→s.norm=s→s.has key=true→BT.ok fan leaf k lo (oV fan leaf k) s y→kE u (bf k y)→((bf k y).map c6.slot).Nodup→
  ∃gone,B2 u (jU fan leaf key k y u).2 gone∧((bf k y).map c6.slot).Perm ((bf k (jU fan leaf key k y u).1).map c6.slot++gone)
 |0,lo,s,y,u,_,_,_,_,_,_=>⟨[],B2.ab6,by rw [cx];exact tJ _⟩
 |k+1,lo,s,y,u,eG,hs,hk,h,hu,iR=>by
  have eG:2≤lo:=aa
  have hl:=lz hs h key
  have hc:=h.2
  obtain⟨v,_,v1,v2,v3,_⟩:=hc.at hs (i:=ae (au y) key) (fy _ _)
  have hv:v.has key=true:=by rw [v2,hk,dB rfl];rfl
  have hmn:k=0∨2≤vQ fan leaf k:=by
   by_cases e:k=0
   ·exact .inl e
   ·right;unfold vQ;rw [if_neg e];omega
  have hlen:=hc.len
  have qc:lo≤((ay y).length:Int):=h.1.1
  have Xm:((bf k (ay y)[ae (au y) key]).map c6.slot).Nodup:=by
   rw [kD,cA,nN,zZ hl,bU,bU,kX,kX]at iR
   exact iR.2.2.1.1
  obtain⟨g1,d1,p1⟩:=Dm hf vK ee k u hmn v1 hv v3 (uG hu (bN hl)) Xm
  have hIt:=Yj (fan:=fan) (leaf:=leaf) (u:=u) hl
  have hIf:=Yk (fan:=fan) (leaf:=leaf) (u:=u) hl
  generalize jU fan leaf key k (ay y)[ae (au y) key] u=r at*
  obtain⟨c,u2⟩:=r
  dsimp only at*
  obtain⟨k1,k2,k3,k4,k5⟩:=Vm iR hu hl d1 p1
  have Mg:((ay y).set (ae (au y) key) c).length=(ay y).length:=cg
  cases Yl:I2 fan leaf k c
  ·rw [hIf Yl]
   exact⟨g1,d1,by rw [uF];exact k3⟩
  ·rw [hIt Yl]
   have hi:ae (au y) key-1+1<((ay y).set (ae (au y) key) c).length:=aa
   rw [Vl hi aa]
   refine⟨g1++mG _ _,d1.trans (agQ hi k1),?_⟩
   rw [uF]
   refine k3.trans (List.Perm.cons _ ?_)
   have ms:=ace (fan:=fan) (leaf:=leaf) hi (p:=(au y)[ae (au y) key-1]'aa)
   refine(pD g1 ms).trans ?_
   rw [ci]
   exact bO _ tN
theorem ajR{x:Int}{Q:List af}{L:List Int}{R:List aG}{s:Int}{P:List af}{K:List (BT k)}(h:L.length=K.length):acf fan leaf ⟨x,((k+1:Nat):Int),Q,L,R⟩=I2 fan leaf (k+1) (mg s P K):=by
 unfold acf I2 vQ
 rw [if_neg (show ¬((k+1:Nat):Int)=0 by omega),if_neg aa]
 show decide ((L.length:Int)<fan / 2)=decide ((K.length:Int)<fan / 2)
 rw [h]
end
variable {fan:Int}
theorem agR{leaf:Int} :∀ {k:Nat} {a b:BT k} {p:af},(ii fan leaf k a p b).1.slot=a.slot∧∀w,(ii fan leaf k a p b).2=some w→w.2.slot=b.slot
 |0,a,b,p=>by
  rw [show ii fan leaf 0 a p b=y7 leaf a.slot b.slot (di a++di b)from rfl]
  unfold y7
  split
  ·exact⟨rfl,fun w hw=>by cases hw⟩
  ·exact⟨rfl,fun w hw=>by cases hw;rfl⟩
 |k+1,a,b,p=>by
  rw [show ii fan leaf (k+1) a p b=vP fan a.slot b.slot (au a++p::au b) (ay a++ay b)from rfl]
  unfold vP
  split
  ·exact⟨rfl,fun w hw=>by cases hw⟩
  ·exact⟨rfl,fun w hw=>by cases hw;rfl⟩
variable {k:Nat} {u:List Bool}
theorem ash{K:List (BT k)}{i:Nat}(hi:i+1<K.length)(hu:kE u (K.flatMap (bf k)))(hn:((K.flatMap (bf k)).map c6.slot).Nodup):
  (∀n∈bf k (K[i]'aa)++TO k K[i+1],n.slot.toNat≠(K[i+1]).slot.toNat)∧(∀n∈(K.take i).flatMap (bf k),n.slot.toNat≠(K[i+1]).slot.toNat)∧∀n∈(K.drop (i+1+1)).flatMap (bf k),n.slot.toNat≠(K[i+1]).slot.toNat:=by
 rw [Li hi]at hu hn
 have hp:((K.take i).flatMap (bf k)++(bf k (K[i]'aa)++(bf k K[i+1]++(K.drop (i+1+1)).flatMap (bf k)))).Perm (((K.take i).flatMap (bf k)++(bf k (K[i]'aa)++(TO k K[i+1]++(K.drop (i+1+1)).flatMap (bf k))))++[fY k K[i+1]]):=by
  rw [ci,ci]
  refine bO _ (bO _ ?_)
  exact(yl _ _).symm
 have Ip:=(hp.map c6.slot).nodup_iff.1 hn
 have hu1:kE u ((K.take i).flatMap (bf k)++(bf k (K[i]'aa)++(TO k K[i+1]++(K.drop (i+1+1)).flatMap (bf k)))):=fun n h=>hu n (hp.mem_iff.2 (fK _ h))
 have hu2:kE u [fY k K[i+1]]:=fun n h=>hu n (hp.mem_iff.2 (ib _ h))
 have hs:=fun n h=>acb Ip hu1 hu2 n h (fY k K[i+1]) (gh.2 rfl)
 rw [bg]at hs
 refine⟨fun n h=>hs n (ib _ ?_),fun n h=>hs n (fK _ h),fun n h=>hs n (ib _ (ib _ (ib _ h)))⟩
 rcases cP.1 h with h|h
 ·exact fK _ h
 ·exact ib _ (fK _ h)
abbrev MK (AR:GH→List (Option Nat)×List Bool→MH→Prop) (Tn Ts:TypeId) (tb:Nat×Obj) (fan leaf:Int) (st:List (Option Nat)×List Bool) {k:Nat} (y:BT k) (r:BT k×List Bool) (v:Value) (G':GH) (M':MH):Prop:=
 ∃gY yY Mn',M'.Perm (tb::(yY++Mn'))∧AR G' (gY,r.2) yY∧bD Tn Ts gY (bf k r.1) G' Mn'∧(∀j:Nat,(∀s∈(bf k y).map c6.slot,s.toNat≠j)→gY[j]?=st.1[j]?)∧v=.bool (I2 fan leaf k r.1)
variable {Tn:TypeId} {Ts:TypeId}
theorem MK.of{AR:GH→List (Option Nat)×List Bool→MH→Prop}{tb:Nat×Obj}{leaf:Int}{st:List (Option Nat)×List Bool}{y:BT k}{r r':BT k×List Bool}{v:Value}{G':GH}{M':MH}(e:r=r')(h:MK AR Tn Ts tb fan leaf st y r' v G' M'):MK AR Tn Ts tb fan leaf st y r v G' M':=e▸h
theorem bD.sib{cells gY:List (Option Nat)}{G:GH}{l lk:List c6}{Ms:MH}(h:bD Tn Ts cells l G Ms)(hl:kE u l)(hk:kE u lk)(hn:((l++lk).map c6.slot).Nodup)(ha:∀j:Nat,(∀s∈lk.map c6.slot,s.toNat≠j)→gY[j]?=cells[j]?):bD Tn Ts gY l G Ms:=h.um fun n dW=>ha _ fun s hs=>by
 obtain⟨m,hm,rfl⟩:=cB.1 hs
 exact(acb hn hl hk n dW m hm).symm
theorem agS{y:BT (k+1)}(iR:((bf (k+1) y).map c6.slot).Nodup){j:Nat}(hj:j<(ay y).length):((bf k (ay y)[j]).map c6.slot).Nodup∧((((ay y).take j).flatMap (bf k)++bf k (ay y)[j]).map c6.slot).Nodup∧((((ay y).drop (j+1)).flatMap (bf k)++bf k (ay y)[j]).map c6.slot).Nodup∧y.slot∉(bf k (ay y)[j]).map c6.slot:=by
 rw [kD,cA,nN,bg,zZ hj,bU,bU,kX,kX]at iR
 obtain⟨h0,h1,⟨h2,h3,h4⟩,h5⟩:=iR
 refine⟨h2,?_,?_,fun h=>h0 (ib _ (fK _ h))⟩
 ·rw [bU,kX]
  exact⟨h1,h2,fun a ha b hb=>h5 a ha b (fK _ hb)⟩
 ·rw [bU,kX]
  exact⟨h3,h2,fun a ha b hb e=>h4 b hb a ha e.symm⟩
end Go.Fw
namespace Go.Proofs.YthhpfadbojfdnaaGreat
open Go Go.Fw Go.RowKit
attribute [local irreducible] Ok W WC
def aAD (kk:Nat):Prop:=∀ {G:GH} {aP ba:Nat} {st:List (Option Nat)×List Bool} {Ma:MH} (cJ:bY fu 60 4 3 106 ba G st Ma) {root fan leaf:Int} (i:Int) (k:af) (ek:Int) (ev:af) {y:BT kk} {Mn:MH} (lA:bD 67 9 st.1 (bf kk y) G Mn) (lo:Int) (sp:Span) (hs:sp.norm=sp) (hk:sp.has k=true) (dI:BT.ok fan leaf kk lo (oV fan leaf kk) sp y) (eV:kE st.2 (bf kk y)) (jK:i=y.slot) (jn:4≤fan∧fan≤64∧2≤leaf∧leaf≤64) (ee:k.b.size≤16) (rq:ev.b.size≤16) (Dn:xJ ⟨ek,ev⟩) (gn:oy fan leaf k ⟨ek,ev⟩ kk y≤(de st.2).length),
    Fc Tryz.prog 70 [aC aP,iV i,sV k.b,.agg (List.toArray [iV ek,sV ev.b])] G ((aP,Obj.cells (List.toArray [aC ba,iV root,iV fan,iV leaf]) 62 (0,0))::(Ma++Mn)) (fun v G' M'=>z1 (bY fu 60 4 3 106 ba) 67 9 (aP,Obj.cells (List.toArray [aC ba,iV root,iV fan,iV leaf]) 62 (0,0)) st (gq fan leaf k (⟨ek,ev⟩:bG) kk y st.2) v G' M')
variable {G:GH} {Ma:MH} {Mn:MH} {aP:Nat} {ba:Nat} {fan:Int}
theorem Ym{st:List (Option Nat)×List Bool}(cJ:bY fu 60 4 3 106 ba G st Ma){root:Int}{leaf:Int}(i:Int)(k:af)(ek:Int)(ev:af){y:BT 0}(lA:bD 67 9 st.1 (bf 0 y) G Mn)(lo:Int)(sp:Span)(hs:sp.norm=sp)(hk:sp.has k=true)(dI:BT.ok fan leaf 0 lo (oV fan leaf 0) sp y)(eV:kE st.2 (bf 0 y))(jK:i=y.slot)(jn:4≤fan∧fan≤64∧2≤leaf∧leaf≤64)(ee:k.b.size≤16)(rq:ev.b.size≤16)(Dn:xJ ⟨ek,ev⟩)(gn:oy fan leaf k ⟨ek,ev⟩ 0 y≤(de st.2).length):
    Fc Tryz.prog 70 [aC aP,iV i,sV k.b,.agg #[iV ek,sV ev.b]] G ((aP,ar 62 [aC ba,iV root,iV fan,iV leaf])::(Ma++(Mn))) (fun v G' M'=>z1 (bY fu 60 4 3 106 ba) 67 9 (aP,Obj.cells (List.toArray [aC ba,iV root,iV fan,iV leaf]) 62 (0,0)) st (gq fan leaf k (⟨ek,ev⟩:bG) 0 y st.2) v G' M'):=by
 have asi:(di y).length≤64:=by have h9:((di y).length:Int)≤leaf:=dI.1.2;omega
 have aHl:=dI.2.1.o8.wQ k (⟨ek,ev⟩:bG)
 have aQi:=acg dI.2.1.o8 (k:=k) Dn
 refine Fc.go [.tmp 8,.tmp 9] Tryz.func70 Tryz.ntmps70 rfl (fun w0=>(WC.perm (M':=((aP,ar 62 [aC ba,iV root,iV fan,iV leaf])::(Ma++(Mn++[])))) (by simp) (WC.seq ?_)))
 refine match (bD.Ye lA)with|⟨dM,Dp,Dq,Dr,jV,uo,z2,fk,eX,fH⟩=> ?_
 subst uo
 refine WC.perm (M':=((dM,ar 67 [iV 0,Dp,Dq,Dr])::((aP,ar 62 [aC ba,iV root,iV fan,iV leaf])::(Ma++(jV++[]))))) (nV (pmB ah)).symm ?_
 refine match fk.form with|⟨lN,lO,dO⟩=> ?_
 subst dO
 refine match eX.form with|⟨lP,lQ,dO⟩=> ?_
 subst dO
 refine match fH.form with|⟨_,_,dO⟩=> ?_
 subst dO
 have hbi:jm st.1 i dM:=by rw [jK];exact z2
 have vd:da st.2 y.slot=true:=by have h9:=eV _ cD;rw [bg]at h9;exact h9
 have hui:da st.2 i=true:=by rw [jK];exact vd
 refine g9 1 ?_
 refine W.box (L:=[iV _,sV _]) rfl rfl (fun b1=>(g9 8 ?_))
 refine W.jy (fun G1 fC dW=>iz (bY.fV cJ fC (eU ((((aI _ _).cons _).cons _).cons _) dW) (iI (i:=2) dW rfl)) _ dM hbi hui) qX rfl (g9 15 ?_)
 refine WC.dw ((iD.k9.cons _).k9) (d9 [0,1,2,3,5,6] ?_)
 refine WD.a1 4 rfl (g9 1 ?_)
 refine W.nn (WD.a1 7 rfl (W.cS (Kq fH k ek ev dI.2.1 aa aa) rfl (fun Of Og G2 lJ Yn=>(W.nn (d9 [8,9,10] ?_)))))
 refine g9 17 ?_
 refine WC.cd (fun h52 p52=> ?_) (fun h52 p52=> ?_)
 ·refine g9 6 ?_
  refine WC.sub (M':=((dM,ar 67 [iV 0,lV lN ([]).length lO,lV lP ([]).length lQ,lV Of ((bW (di y) k (⟨ek,ev⟩:bG))).length Og])::((aP,ar 62 [aC ba,iV root,iV fan,iV leaf])::(Ma++(jV++[]))))) ((((bi (bi bB _) _).k9).k9).cons _) (WC.perm (M':=((aP,ar 62 [aC ba,iV root,iV fan,iV leaf])::((dM,ar 67 [iV 0,lV lN ([]).length lO,lV lP ([]).length lQ,lV Of ((bW (di y) k (⟨ek,ev⟩:bG))).length Og])::(Ma++(jV++[]))))) ((((ah.cons _).trans ah).cons _).trans ((List.Perm.swap _ _ _).trans (ah.cons _))) (g9 3 ?_))
  refine⟨.inr rfl,[_,_],⟨rfl,rfl,trivial⟩,_,((bi (aI _ _) _).k9).k9,?_⟩
  exact z1.of (xH p52) ⟨_,_,_,aAC,(bY.mono lJ cJ),(bD.Dl z2 (fk.mono lJ) (eX.mono lJ) Yn).bn,fun j _=>rfl,rfl⟩
 refine g9 8 ?_
 refine W.call (Mp:=[]) (Lj Yn) rfl ah ?_
 intro _ G9 _ Nu q12
 refine match q12 with|⟨z3,_,Rj,_,_,z4,Ds,BQ⟩=> ?_
 subst z3
 subst Rj
 subst z4
 have q17:=Ds.form
 refine match q17 with|⟨xK,xL,I3⟩=> ?_
 subst I3
 have q19:=BQ.form
 refine match q19 with|⟨I4,I5,CJ⟩=> ?_
 subst CJ
 refine g9 27 ?_
 refine W.ok (aY (L:=[iV _,lV _ _ _,lV _ _ _,lV _ _ _]) vX vW rfl rfl rfl) (W.box (L:=[iV _,lV _ _ _,lV _ _ _,lV _ _ _]) rfl rfl (fun Ff=> ?_))
 have Lk:=fO (u:=(st).2) (by unfold oy at gn;rw [if_neg p52]at gn;omega)
 refine W.call (Mp:=Ma) (kg (bY.mono aO cJ) Ff) rfl (ag (ag (ag (ag ah)))) ?_
 intro v25 G22 ach I6 Yo
 refine match Yo with|⟨aci,asj⟩=> ?_
 refine W.perm (ag (ag (ag (ag ah)))).symm ?_
 rw [iF Lk]at aci asj
 subst aci
 try dsimp only at asj
 refine g9 15 ?_
 refine WC.sub (M':=((Ff,ar 67 [iV 0,lV none 0 0,lV none 0 0,lV I4 ((iY ((bW (di y) k (⟨ek,ev⟩:bG)))).2.1).length I5])::((dM,ar 67 [iV 0,lV lN ([]).length lO,lV lP ([]).length lQ,lV xK ((iY ((bW (di y) k (⟨ek,ev⟩:bG)))).1).length xL])::((aP,ar 62 [aC ba,iV root,iV fan,iV leaf])::(ach++(jV++[])))))) (((((bi (bi bB _) _).k9).k9).cons _).k9) (WC.perm (M':=((aP,ar 62 [aC ba,iV root,iV fan,iV leaf])::((dM,ar 67 [iV 0,lV lN ([]).length lO,lV lP ([]).length lQ,lV xK ((iY ((bW (di y) k (⟨ek,ev⟩:bG)))).1).length xL])::((Ff,ar 67 [iV 0,lV none 0 0,lV none 0 0,lV I4 ((iY ((bW (di y) k (⟨ek,ev⟩:bG)))).2.1).length I5])::(ach++(jV++[])))))) ((((((ah.cons _).trans ah).cons _).trans ((List.Perm.swap _ _ _).trans (ah.cons _))).cons _).trans ((List.Perm.swap _ _ _).trans (((List.Perm.swap _ _ _).trans (ah.cons _)).cons _))) (g9 2 ?_))
 refine⟨.inr rfl,[_,_],⟨rfl,rfl,trivial⟩,_,(((bi (aI _ _) _).k9).k9).k9,?_⟩
 have aAE:st.1.length=st.2.length:=by obtain⟨_,_,h9,_⟩:=cJ;exact h9
 have aAF:=sg (l:=(bW (di y) k (⟨ek,ev⟩:bG))) aa
 have KR:az aU _ _ (z5 (bW (di y) k (⟨ek,ev⟩:bG))):=az.cast (Ds.mono I6) (by rw [aAF];rfl)
 have hrb:az aU _ _ (z6 (bW (di y) k (⟨ek,ev⟩:bG))):=az.cast (BQ.mono I6) (by rw [aAF];rfl)
 exact z1.of (xI p52) ⟨_,_,_,aHk,asj,(bD.Dl (z2.eB vd fun j hj=>gK Lk hj) (fk.mono aO) (eX.mono aO) KR).two (bD.Dl (kf aa) aE.nil az.nil hrb),fun j hj=>gK Lk hj,rfl⟩

theorem Yp{st:List (Option Nat)×List Bool}(cJ:bY fu 60 4 3 106 ba G st Ma){root:Int}{leaf:Int}(i:Int)(k:af)(ek:Int)(ev:af){kk:Nat}{y:BT (kk+1)}(lA:bD 67 9 st.1 (bf (kk+1) y) G Mn)(lo:Int)(sp:Span)(hs:sp.norm=sp)(hk:sp.has k=true)(dI:BT.ok fan leaf (kk+1) lo (oV fan leaf (kk+1)) sp y)(eV:kE st.2 (bf (kk+1) y))(jK:i=y.slot)(jn:4≤fan∧fan≤64∧2≤leaf∧leaf≤64)(ee:k.b.size≤16)(rq:ev.b.size≤16)(Dn:xJ ⟨ek,ev⟩)(gn:oy fan leaf k ⟨ek,ev⟩ (kk+1) y≤(de st.2).length)(ih:aAD kk):
    Fc Tryz.prog 70 [aC aP,iV i,sV k.b,.agg #[iV ek,sV ev.b]] G ((aP,ar 62 [aC ba,iV root,iV fan,iV leaf])::(Ma++(Mn))) (fun v G' M'=>z1 (bY fu 60 4 3 106 ba) 67 9 (aP,Obj.cells (List.toArray [aC ba,iV root,iV fan,iV leaf]) 62 (0,0)) st (gq fan leaf k (⟨ek,ev⟩:bG) (kk+1) y st.2) v G' M'):=by
 have kZ:=lz hs dI k
 have ML:=dI.2
 obtain⟨v9,I7,v1,v2,v3,v4⟩:=ML.at hs (i:=ae (au y) k) (fy _ _)
 have Xk:v9.has k=true:=by rw [v2,hk,dB rfl];rfl
 have asl:=ML.len
 have aHm:((ay y).length:Int)≤64:=by have h9:((ay y).length:Int)≤fan:=dI.1.2;omega
 have asm:=(ML.Yh hs).1
 have aAG:((ay y).map BT.slot).length=(ay y).length:=dt ..
 have aAE:st.1.length=st.2.length:=by obtain⟨_,_,h9,_⟩:=cJ;exact h9
 have Fz:st.2.length≤4096:=by obtain⟨_,_,_,h9,_⟩:=cJ;exact h9
 obtain⟨aAH,aAI⟩:=ayB kZ gn
 have hnw:=I1 (key:=k) (e:=⟨ek,ev⟩) jn.1 v1 v3 aAH
 have Vn:=zX (key:=k) (e:=⟨ek,ev⟩) (u:=st.2) v1 v3
 have aAJ:=fun w=>ab7 (key:=k) (e:=⟨ek,ev⟩) aa aa Dn ee rq hs hk dI (u:=st.2) kZ (w:=w)
 have I8:(gq fan leaf k ⟨ek,ev⟩ kk ((ay y)[ae (au y) k]'kZ) st.2).1.1.slot=((ay y)[ae (au y) k]'kZ).slot:=Vk
 have hIB:gq fan leaf k ⟨ek,ev⟩ (kk+1) y st.2=zW fan y (ae (au y) k) (gq fan leaf k ⟨ek,ev⟩ kk ((ay y)[ae (au y) k]'kZ) st.2):=Rf kZ
 generalize m9:gq fan leaf k ⟨ek,ev⟩ kk ((ay y)[ae (au y) k]'kZ) st.2=R9 at hnw Vn aAJ I8 hIB
 obtain⟨nw9,w1,w2,w3,w4⟩:=hnw
 have kL:kE R9.2 (mB R9.1):=w1.us (uG eV (bN kZ)) w2
 have aQj:((au y).take (ae (au y) k)++([fQ R9.1.2]++(au y).drop (ae (au y) k))).length=(au y).length+1:=by simp only [bP,jo,Em,bV,cv];omega
 have aQk:(((ay y).map BT.slot).take ((ae (au y) k)+1)++([gJ R9.1.2]++((ay y).map BT.slot).drop ((ae (au y) k)+1))).length=(ay y).length+1:=by simp only [bP,jo,Em,bV,cv];omega
 refine Fc.go [.tmp 8,.tmp 9] Tryz.func70 Tryz.ntmps70 rfl (fun w0=>(WC.perm (M':=((aP,ar 62 [aC ba,iV root,iV fan,iV leaf])::(Ma++(Mn++[])))) (by simp) (WC.seq ?_)))
 refine match (bD.Rg lA)with|⟨dM,Dp,Dq,Dr,jV,B_n,uo,z2,fk,eX,fH,acj⟩=> ?_
 subst uo
 refine WC.perm (M':=((dM,ar 67 [aK (kk+1),Dp,Dq,Dr])::((aP,ar 62 [aC ba,iV root,iV fan,iV leaf])::(Ma++(jV++(B_n++[])))))) (nV (pmB ((gB ah).cons _))).symm ?_
 refine match fk.form with|⟨lN,lO,dO⟩=> ?_
 subst dO
 refine match eX.form with|⟨lP,lQ,dO⟩=> ?_
 subst dO
 refine match fH.form with|⟨iJ,iK,dO⟩=> ?_
 subst dO
 have hbi:jm st.1 i dM:=by rw [jK];exact z2
 have vd:da st.2 y.slot=true:=by have h9:=eV _ cD;rw [bg]at h9;exact h9
 have hui:da st.2 i=true:=by rw [jK];exact vd
 refine match bD.Iw kZ acj with|⟨rA,D_n,rB,asn,FA,aso,FB⟩=> ?_
 subst asn
 refine WC.perm (M':=((dM,ar 67 [aK (kk+1),lV lN ((au y)).length lO,lV lP (((ay y).map BT.slot)).length lQ,lV iJ ([]).length iK])::((aP,ar 62 [aC ba,iV root,iV fan,iV leaf])::(Ma++(jV++(rA++(D_n++(rB++[])))))))) (nJ (by first|(simp only [ci];done)|(simp only [ci];rfl))) (g9 1 ?_)
 refine W.box (L:=[iV _,sV _]) rfl rfl (fun b27=>(g9 8 ?_))
 refine W.jy (fun G1 fC dW=>iz (bY.fV cJ fC (eU ((((aI _ _).cons _).cons _).cons _) dW) (iI (i:=2) dW rfl)) _ dM hbi hui) qX rfl (g9 13 ?_)
 refine WC.cd (fun yf TP=> ?_) (fun yf TP=> ?_)
 ·exact absurd TP aa
 refine g9 9 ?_
 refine W.jy (fun G1 fC dW=>mL (fk.fV fC (eU (((((aI _ _).trans (cH _ _)).cons _).cons _).cons _) dW)) k asm) az6 rfl (g9 4 ?_)
 refine WC.dw ((iD.k9.k9).k9) (d9 [0,1,2,3,4,5] ?_)
 refine eX.a2 (i:=(ae (au y) k)) aa (fun ai7 aQl=>(WD.tk 6 rfl (bd (i:=(ae (au y) k)) dG cV eX rfl rfl ⟨aa,aa⟩) (d9 [7,8,9] ?_)))
 refine WD.a1 10 rfl (W.call (Mp:=((aP,ar 62 [aC ba,iV root,iV fan,iV leaf])::(Ma++D_n))) (Mr:=((b27,ar 86 [iV ek,sV ev.b])::((dM,ar 67 [aK (kk+1),lV lN ((au y)).length lO,lV lP (((ay y).map BT.slot)).length lQ,lV iJ ([]).length iK])::(jV++(rA++(rB++[])))))) (ih cJ _ k ek ev aso _ v9 v1 Xk v3 (uG eV (bN kZ)) (jX ..) jn ee rq Dn aAH) rfl (((ag (ag ((gB (bJ (bJ ah))).trans ah))).cons _).trans ((List.Perm.swap _ _ _).trans (((List.Perm.swap _ _ _).trans (ah.cons _)).cons _))) ?_)
 intro v36 G33 aGK lq q34
 rw [m9]at q34
 refine match q34 with|⟨jz,nc,kx,ayC,Bf,yG,ix,Dt⟩=> ?_
 subst Dt
 refine W.perm (M':=((aP,ar 62 [aC ba,iV root,iV fan,iV leaf])::(nc++kx))++((b27,ar 86 [iV ek,sV ev.b])::((dM,ar 67 [aK (kk+1),lV lN ((au y)).length lO,lV lP (((ay y).map BT.slot)).length lQ,lV iJ ([]).length iK])::(jV++(rA++(rB++[])))))) (pD _ ayC.symm) ?_
 have pO:jz.length=R9.2.length:=by obtain⟨_,_,h9,_⟩:=Bf;exact h9
 have asp:R9.2.length≤4096:=by obtain⟨_,_,_,h9,_⟩:=Bf;exact h9
 have Du:=yG.Cr
 have Dv:=z2.eB vd ix
 refine W.perm (M':=((b27,ar 86 [iV ek,sV ev.b])::((dM,ar 67 [aK (kk+1),lV lN ((au y)).length lO,lV lP (((ay y).map BT.slot)).length lQ,lV iJ ([]).length iK])::((aP,ar 62 [aC ba,iV root,iV fan,iV leaf])::(nc++(kx++(jV++(rA++(rB++[]))))))))) (((ag (ag ((gB ah).trans ah))).cons _).trans ((List.Perm.swap _ _ _).trans (((List.Perm.swap _ _ _).trans (ah.cons _)).cons _))).symm (W.nn (d9 [11,12,13,14,15] ?_))
 refine g9 9 ?_
 refine WC.cd (fun aHn ajS=> ?_) (fun aHn ajS=> ?_)
 ·have z7:R9.1.2=none:=Lh ajS fun w hw=>by
    obtain⟨b9,h9⟩:=Du (fY kk w.2) (by rw [jx hw];exact ib _ cD)
    rw [bg]at h9;exact h9.1
  refine g9 6 ?_
  refine WC.sub (M':=((dM,ar 67 [aK (kk+1),lV lN ((au y)).length lO,lV lP (((ay y).map BT.slot)).length lQ,lV iJ ([]).length iK])::((aP,ar 62 [aC ba,iV root,iV fan,iV leaf])::(nc++(kx++(jV++(rA++(rB++[])))))))) ((((bi (bi (bi (bi (bi bB _) _) _) _) _).k9).k9).cons _) (WC.perm (M':=((aP,ar 62 [aC ba,iV root,iV fan,iV leaf])::((dM,ar 67 [aK (kk+1),lV lN ((au y)).length lO,lV lP (((ay y).map BT.slot)).length lQ,lV iJ ([]).length iK])::(nc++(kx++(jV++(rA++(rB++[])))))))) ((((ah.cons _).trans ah).cons _).trans ((List.Perm.swap _ _ _).trans (ah.cons _))) (WC.perm (M':=((aP,ar 62 [aC ba,iV root,iV fan,iV leaf])::((dM,ar 67 [aK (kk+1),lV lN ((au y)).length lO,lV lP (((ay y).map BT.slot)).length lQ,lV iJ ([]).length iK])::(nc++(jV++(rA++(kx++(rB++[])))))))) ((((bO _ ((bO _ ((bO _ ((bO _ ((bO _ ah).trans ah)).trans ah)).trans (bJ ah))).trans (bJ ah))).trans ah).cons _).cons _) (g9 2 ?_)))
  refine⟨.inr rfl,[_,_],⟨rfl,rfl,trivial⟩,_,((bi (bi (bi (bi (aI _ _) _) _) _) _).k9).k9,?_⟩
  have hE:gq fan leaf k ⟨ek,ev⟩ (kk+1) y st.2=((mg y.slot (au y) ((ay y).set (ae (au y) k) R9.1.1),none),R9.2):=by rw [hIB];unfold zW;rw [z7]
  have hX:=bD.Rh kZ (((bD.mono lq FA)).eB (oS eV _) ix) ((yG).to (Ri z7)) (((bD.mono lq FB)).eB (oU eV _) ix)
  have pQ:=az.cast (eX.mono lq) (asg kZ I8).symm
  exact z1.of hE ⟨_,_,_,u6,Bf,(bD.kv Dv (fk.mono lq) pQ (fH.mono lq) hX).bn,ix,rfl⟩
 obtain⟨w9,j5⟩:∃w,R9.1.2=some w:=by
   cases h9:R9.1.2 with
   |none=>rw [h9]at ajS;exact absurd rfl ajS
   |some w=>exact⟨w,rfl⟩
 have Bg:fQ R9.1.2=w9.1:=by rw [j5];rfl
 have xM:gJ R9.1.2=w9.2.slot:=by rw [j5];rfl
 obtain⟨b8,Nv⟩:=Du (fY kk w9.2) (by rw [jx j5];exact ib _ cD)
 rw [bg]at Nv
 obtain⟨hb7,hb6⟩:=Nv.lt
 have qd:i64 (gJ R9.1.2):=by rw [xM];exact⟨aa,aa⟩
 obtain⟨hh9,hl8⟩:=aAJ w9 j5
 rw [←Bg]at hh9 hl8
 have wc:=Vn.1 (by rw [j5];rfl)
 refine g9 3 ?_
 refine WC.dw ((iD.k9.cons _).k9) (d9 [0,1,2,3,4,6,7,8,10,11,12] ?_)
 refine WD.any [5,9] (by kernel_rfl) rfl ⟨WD.ap ?_,WD.ap ?_,trivial⟩
 ·refine g9 1 ?_
  refine W.nn (WD.a1 9 rfl (g9 1 ?_))
  refine W.nn (WD.a1 13 rfl (W.du (fk.mono lq) (ag (ag (ag (bJ (bJ ah))))) (fun G38 oD aqy=>(W.call (Mp:=[]) (Vo aqy (eX.mono aO) (ae (au y) k) (fQ R9.1.2) (gJ R9.1.2) aa aa aa hh9 hl8 qd) rfl ah ?_))))
  intro v42 G39 asq jL q40
  refine match q40 with|⟨aNq,aNr,Dw,Yq,Yr⟩=> ?_
  subst Dw
  refine W.perm (ag (ag (ag ah))).symm ?_
  have PE:=Yq.form
  refine match PE with|⟨CO,CP,zC⟩=> ?_
  subst zC
  have q52:=Yr.form
  refine match q52 with|⟨ajT,ajU,ack⟩=> ?_
  subst ack
  refine W.nn (d9 [14,15,16,17,18,19,20,21,22] ?_)
  refine g9 17 ?_
  refine WC.cd (fun asr ass=> ?_) (fun asr ass=> ?_)
  ·refine g9 6 ?_
   refine WC.sub (M':=((dM,ar 67 [aK (kk+1),lV CO (((au y).take (ae (au y) k)++([fQ R9.1.2]++(au y).drop (ae (au y) k)))).length CP,lV ajT ((((ay y).map BT.slot).take ((ae (au y) k)+1)++([gJ R9.1.2]++((ay y).map BT.slot).drop ((ae (au y) k)+1)))).length ajU,lV iJ ([]).length iK])::((aP,ar 62 [aC ba,iV root,iV fan,iV leaf])::(asq++(nc++(kx++(rA++(rB++[])))))))) ((((bi (bi (bi (bi (bi bB _) _) _) _) _).k9).k9).cons _) (WC.perm (M':=((aP,ar 62 [aC ba,iV root,iV fan,iV leaf])::((dM,ar 67 [aK (kk+1),lV CO (((au y).take (ae (au y) k)++([fQ R9.1.2]++(au y).drop (ae (au y) k)))).length CP,lV ajT ((((ay y).map BT.slot).take ((ae (au y) k)+1)++([gJ R9.1.2]++((ay y).map BT.slot).drop ((ae (au y) k)+1)))).length ajU,lV iJ ([]).length iK])::(asq++(nc++(kx++(rA++(rB++[])))))))) ((((ah.cons _).trans ah).cons _).trans ((List.Perm.swap _ _ _).trans (ah.cons _))) (WC.perm (M':=((aP,ar 62 [aC ba,iV root,iV fan,iV leaf])::((dM,ar 67 [aK (kk+1),lV CO (((au y).take (ae (au y) k)++([fQ R9.1.2]++(au y).drop (ae (au y) k)))).length CP,lV ajT ((((ay y).map BT.slot).take ((ae (au y) k)+1)++([gJ R9.1.2]++((ay y).map BT.slot).drop ((ae (au y) k)+1)))).length ajU,lV iJ ([]).length iK])::(nc++(asq++(rA++(kx++(rB++[])))))))) ((((bO _ ((bO _ ((bO _ ((bO _ ((bO _ ah).trans ah)).trans ah)).trans (bJ ah))).trans ah)).trans (bJ ah)).cons _).cons _) (g9 2 ?_)))
   refine⟨.inr rfl,[_,_],⟨rfl,rfl,trivial⟩,_,((bi (bi (bi (bi (aI _ _) _) _) _) _).k9).k9,?_⟩
   have Ll:=Yi (w:=w9.2) kZ I8
   rw [←xM]at Ll
   have hup:=EK kZ R9.1.1 w9.2
   have hX:=bD.wY (((bD.mono ((lq.trans oD).trans jL) FA)).eB (oS eV _) ix) (((bD.mono (oD.trans jL) yG)).to (jx j5)) (((bD.mono ((lq.trans oD).trans jL) FB)).eB (oU eV _) ix)
   have hE:gq fan leaf k ⟨ek,ev⟩ (kk+1) y st.2=((mg y.slot ((au y).take (ae (au y) k)++([fQ R9.1.2]++(au y).drop (ae (au y) k))) ((ay y).take (ae (au y) k)++([R9.1.1,w9.2]++(ay y).drop ((ae (au y) k)+1))),none),R9.2):=by rw [hIB,Bg];unfold zW;rw [j5];exact Lf aa
   have pQ:=az.cast Yr Ll.symm
   exact z1.of hE ⟨_,_,_,u6,(bY.mono aO Bf),(bD.kv Dv Yq pQ (fH.mono aO) hX).bn,ix,rfl⟩
  refine g9 3 ?_
  refine WC.dw ((iD.k9.k9).k9) (d9 [0,1,2,3,4,5,6,7] ?_)
  refine WD.a1 8 rfl (W.du Yq (ag (ag (ag ah))) (fun G53 zD FC=>(W.call (Mp:=[]) (Dx FC (Yr.mono zD) ⟨aa,aa⟩) rfl ah ?_)))
  intro v57 G54 aAK z8 Ys
  refine match Ys with|⟨aNs,_,aNt,aNu,Bh,Bi,aC0,I9,ast,ayD,ajV,acm,ajW,acn⟩=> ?_
  subst I9
  subst ast
  refine W.perm (M':=((b27,ar 86 [iV ek,sV ev.b])::((dM,ar 67 [aK (kk+1),lV CO (((au y).take (ae (au y) k)++([fQ R9.1.2]++(au y).drop (ae (au y) k)))).length CP,lV ajT ((((ay y).map BT.slot).take ((ae (au y) k)+1)++([gJ R9.1.2]++((ay y).map BT.slot).drop ((ae (au y) k)+1)))).length ajU,lV iJ ([]).length iK])::((aP,ar 62 [aC ba,iV root,iV fan,iV leaf])::(Bh++(Bi++(nc++(kx++(rA++(rB++[])))))))))) (ag (Ms:=Bh++Bi) (ag (Ms:=Bh++Bi) (ag (Ms:=Bh++Bi) (nJ (ci _ _ _))))).symm ?_
  have Yt:=ajV.form
  refine match Yt with|⟨asu,asv,Ib⟩=> ?_
  subst Ib
  have q68:=acm.form
  refine match q68 with|⟨Rk,Rl,Ja⟩=> ?_
  subst Ja
  have q72:=ajW.form
  refine match q72 with|⟨Rm,Ro,Jb⟩=> ?_
  subst Jb
  have q76:=acn.form
  refine match q76 with|⟨asw,asx,Rp⟩=> ?_
  subst Rp
  refine W.nn (d9 [9,10,11,12,13,14,15,16,17,18,19,20,21] ?_)
  refine g9 17 ?_
  refine WC.dw ((iD.k9.k9).k9) (d9 [0,1,2,3,4,5,6,7,8,9] ?_)
  refine WD.tk 10 rfl (aY (L:=[iV _,lV _ _ _,lV _ _ _,lV _ _ _]) vX vW rfl rfl rfl) (WD.a1 11 rfl (W.box (L:=[iV _,lV _ _ _,lV _ _ _,lV _ _ _]) rfl rfl (fun b77=>(W.nn (WD.a1 12 rfl ?_)))))
  have Lm:=fO (u:=(((jz,R9.2):List (Option Nat)×List Bool)).2) (by show 0<(de R9.2).length;have h9:=aAI wc aa;omega)
  refine W.call (Mp:=nc) (kg (bY.mono aO Bf) b77) rfl (ag (ag (ag (ag (bJ (bJ ah)))))) ?_
  intro v82 G79 aco Dy q80
  refine match q80 with|⟨acp,acq⟩=> ?_
  refine W.perm (ag (ag (ag (ag ah)))).symm ?_
  rw [iF Lm]at acp acq
  subst acp
  try dsimp only at acq
  refine W.nn (d9 [13,14,15,16] ?_)
  refine g9 10 ?_
  refine WC.sub (M':=((b77,ar 67 [aK (kk+1),lV Rm ((((au y).take (ae (au y) k)++([fQ R9.1.2]++(au y).drop (ae (au y) k))).drop (((((ay y).map BT.slot).take ((ae (au y) k)+1)++([gJ R9.1.2]++((ay y).map BT.slot).drop ((ae (au y) k)+1))).length+1) / 2))).length Ro,lV asw (((((ay y).map BT.slot).take ((ae (au y) k)+1)++([gJ R9.1.2]++((ay y).map BT.slot).drop ((ae (au y) k)+1))).drop (((((ay y).map BT.slot).take ((ae (au y) k)+1)++([gJ R9.1.2]++((ay y).map BT.slot).drop ((ae (au y) k)+1))).length+1) / 2))).length asx,lV none 0 0])::((dM,ar 67 [aK (kk+1),lV asu ((((au y).take (ae (au y) k)++([fQ R9.1.2]++(au y).drop (ae (au y) k))).take ((((((ay y).map BT.slot).take ((ae (au y) k)+1)++([gJ R9.1.2]++((ay y).map BT.slot).drop ((ae (au y) k)+1))).length+1) / 2)-1))).length asv,lV Rk (((((ay y).map BT.slot).take ((ae (au y) k)+1)++([gJ R9.1.2]++((ay y).map BT.slot).drop ((ae (au y) k)+1))).take (((((ay y).map BT.slot).take ((ae (au y) k)+1)++([gJ R9.1.2]++((ay y).map BT.slot).drop ((ae (au y) k)+1))).length+1) / 2))).length Rl,lV iJ ([]).length iK])::((aP,ar 62 [aC ba,iV root,iV fan,iV leaf])::(aco++(Bh++(Bi++(kx++(rA++(rB++[])))))))))) (((((bi (bi (bi (bi (bi (bi bB _) _) _) _) _) _).k9).k9).cons _).k9) (WC.perm (M':=((aP,ar 62 [aC ba,iV root,iV fan,iV leaf])::((dM,ar 67 [aK (kk+1),lV asu ((((au y).take (ae (au y) k)++([fQ R9.1.2]++(au y).drop (ae (au y) k))).take ((((((ay y).map BT.slot).take ((ae (au y) k)+1)++([gJ R9.1.2]++((ay y).map BT.slot).drop ((ae (au y) k)+1))).length+1) / 2)-1))).length asv,lV Rk (((((ay y).map BT.slot).take ((ae (au y) k)+1)++([gJ R9.1.2]++((ay y).map BT.slot).drop ((ae (au y) k)+1))).take (((((ay y).map BT.slot).take ((ae (au y) k)+1)++([gJ R9.1.2]++((ay y).map BT.slot).drop ((ae (au y) k)+1))).length+1) / 2))).length Rl,lV iJ ([]).length iK])::((b77,ar 67 [aK (kk+1),lV Rm ((((au y).take (ae (au y) k)++([fQ R9.1.2]++(au y).drop (ae (au y) k))).drop (((((ay y).map BT.slot).take ((ae (au y) k)+1)++([gJ R9.1.2]++((ay y).map BT.slot).drop ((ae (au y) k)+1))).length+1) / 2))).length Ro,lV asw (((((ay y).map BT.slot).take ((ae (au y) k)+1)++([gJ R9.1.2]++((ay y).map BT.slot).drop ((ae (au y) k)+1))).drop (((((ay y).map BT.slot).take ((ae (au y) k)+1)++([gJ R9.1.2]++((ay y).map BT.slot).drop ((ae (au y) k)+1))).length+1) / 2))).length asx,lV none 0 0])::(aco++(Bh++(Bi++(kx++(rA++(rB++[])))))))))) ((((((ah.cons _).trans ah).cons _).trans ((List.Perm.swap _ _ _).trans (ah.cons _))).cons _).trans ((List.Perm.swap _ _ _).trans (((List.Perm.swap _ _ _).trans (ah.cons _)).cons _))) (WC.perm (M':=((aP,ar 62 [aC ba,iV root,iV fan,iV leaf])::((dM,ar 67 [aK (kk+1),lV asu ((((au y).take (ae (au y) k)++([fQ R9.1.2]++(au y).drop (ae (au y) k))).take ((((((ay y).map BT.slot).take ((ae (au y) k)+1)++([gJ R9.1.2]++((ay y).map BT.slot).drop ((ae (au y) k)+1))).length+1) / 2)-1))).length asv,lV Rk (((((ay y).map BT.slot).take ((ae (au y) k)+1)++([gJ R9.1.2]++((ay y).map BT.slot).drop ((ae (au y) k)+1))).take (((((ay y).map BT.slot).take ((ae (au y) k)+1)++([gJ R9.1.2]++((ay y).map BT.slot).drop ((ae (au y) k)+1))).length+1) / 2))).length Rl,lV iJ ([]).length iK])::((b77,ar 67 [aK (kk+1),lV Rm ((((au y).take (ae (au y) k)++([fQ R9.1.2]++(au y).drop (ae (au y) k))).drop (((((ay y).map BT.slot).take ((ae (au y) k)+1)++([gJ R9.1.2]++((ay y).map BT.slot).drop ((ae (au y) k)+1))).length+1) / 2))).length Ro,lV asw (((((ay y).map BT.slot).take ((ae (au y) k)+1)++([gJ R9.1.2]++((ay y).map BT.slot).drop ((ae (au y) k)+1))).drop (((((ay y).map BT.slot).take ((ae (au y) k)+1)++([gJ R9.1.2]++((ay y).map BT.slot).drop ((ae (au y) k)+1))).length+1) / 2))).length asx,lV none 0 0])::(aco++(Bh++(Bi++(rA++(kx++(rB++[])))))))))) (((((bO _ ((bO _ ((bO _ ((bO _ ((bO _ ((bO _ ah).trans ah)).trans ah)).trans (bJ ah))).trans ah)).trans ah)).trans ah).cons _).cons _).cons _) (WC.ret ?_)))
  refine⟨.inr rfl,[_,_],⟨rfl,rfl,trivial⟩,_,(((bi (bi (bi (bi (bi (aI _ _) _) _) _) _) _).k9).k9).k9,?_⟩
  have Ll:=Yi (w:=w9.2) kZ I8
  rw [←xM]at Ll
  have hup:=EK kZ R9.1.1 w9.2
  have hX:=bD.wY (((bD.mono (((((lq.trans oD).trans jL).trans zD).trans z8).trans Dy) FA)).eB (oS eV _) ix) (((bD.mono ((((oD.trans jL).trans zD).trans z8).trans Dy) yG)).to (jx j5)) (((bD.mono (((((lq.trans oD).trans jL).trans zD).trans z8).trans Dy) FB)).eB (oU eV _) ix)
  have vS:(((ay y).map BT.slot).take ((ae (au y) k)+1)++([gJ R9.1.2]++((ay y).map BT.slot).drop ((ae (au y) k)+1))).length=((ay y).take (ae (au y) k)++([R9.1.1,w9.2]++(ay y).drop ((ae (au y) k)+1))).length:=by omega
  have hE:gq fan leaf k ⟨ek,ev⟩ (kk+1) y st.2=((mg y.slot (((au y).take (ae (au y) k)++([fQ R9.1.2]++(au y).drop (ae (au y) k))).take (((((ay y).take (ae (au y) k)++([R9.1.1,w9.2]++(ay y).drop ((ae (au y) k)+1))).length+1) / 2)-1)) (((ay y).take (ae (au y) k)++([R9.1.1,w9.2]++(ay y).drop ((ae (au y) k)+1))).take ((((ay y).take (ae (au y) k)++([R9.1.1,w9.2]++(ay y).drop ((ae (au y) k)+1))).length+1) / 2)),some (((au y).take (ae (au y) k)++([fQ R9.1.2]++(au y).drop (ae (au y) k))).getD (((((ay y).take (ae (au y) k)++([R9.1.1,w9.2]++(ay y).drop ((ae (au y) k)+1))).length+1) / 2)-1) af.nil,mg (aF R9.2:Int) (((au y).take (ae (au y) k)++([fQ R9.1.2]++(au y).drop (ae (au y) k))).drop ((((ay y).take (ae (au y) k)++([R9.1.1,w9.2]++(ay y).drop ((ae (au y) k)+1))).length+1) / 2)) (((ay y).take (ae (au y) k)++([R9.1.1,w9.2]++(ay y).drop ((ae (au y) k)+1))).drop ((((ay y).take (ae (au y) k)++([R9.1.1,w9.2]++(ay y).drop ((ae (au y) k)+1))).length+1) / 2)))),R9.2.set (aF R9.2) true):=by rw [hIB,Bg];unfold zW;rw [j5];exact Lg aa
  have kM:∀j:Nat,R9.2[j]?=some true→(jz.set (aF R9.2) (some b77))[j]?=jz[j]?:=fun j hj=>gK Lm hj
  have Rq:∀j:Nat,st.2[j]?=some true→(jz.set (aF R9.2) (some b77))[j]?=jz[j]?:=fun j hj=>kM j (w1.get hj)
  have hY:=(bD.wY ((((bD.mono (((((lq.trans oD).trans jL).trans zD).trans z8).trans Dy) FA)).eB (oS eV _) ix).eB (oS eV _) Rq) ((((bD.mono ((((oD.trans jL).trans zD).trans z8).trans Dy) yG)).to (jx j5)).eB (by rw [←jx j5];exact kL) kM) ((((bD.mono (((((lq.trans oD).trans jL).trans zD).trans z8).trans Dy) FB)).eB (oU eV _) ix).eB (oU eV _) Rq))
  have hL9:(((ay y).take (ae (au y) k)++([R9.1.1,w9.2]++(ay y).drop ((ae (au y) k)+1)))).flatMap (bf kk)=(((ay y).take (ae (au y) k)++([R9.1.1,w9.2]++(ay y).drop ((ae (au y) k)+1))).take ((((ay y).take (ae (au y) k)++([R9.1.1,w9.2]++(ay y).drop ((ae (au y) k)+1))).length+1) / 2)).flatMap (bf kk)++(((ay y).take (ae (au y) k)++([R9.1.1,w9.2]++(ay y).drop ((ae (au y) k)+1))).drop ((((ay y).take (ae (au y) k)++([R9.1.1,w9.2]++(ay y).drop ((ae (au y) k)+1))).length+1) / 2)).flatMap (bf kk):=by rw [←dT,fo]
  have hq9:=bD.app.1 (hY.to hL9)
  refine match hq9 with|⟨X9,Y9,hXY,hx9,hy9⟩=> ?_
  have hp1:=aE.to (ajV.mono Dy) (ax (fun n=>((au y).take (ae (au y) k)++([fQ R9.1.2]++(au y).drop (ae (au y) k))).take ((n+1) / 2-1)) vS)
  have Cs:=aE.to (ajW.mono Dy) (ax (fun n=>((au y).take (ae (au y) k)++([fQ R9.1.2]++(au y).drop (ae (au y) k))).drop ((n+1) / 2)) vS)
  have wD:=az.cast (acm.mono Dy) (show _=(((ay y).take (ae (au y) k)++([R9.1.1,w9.2]++(ay y).drop ((ae (au y) k)+1))).take ((((ay y).take (ae (au y) k)++([R9.1.1,w9.2]++(ay y).drop ((ae (au y) k)+1))).length+1) / 2)).map BT.slot by rw [vS,←Ll,El])
  have zA:=az.cast (acn.mono Dy) (show _=(((ay y).take (ae (au y) k)++([R9.1.1,w9.2]++(ay y).drop ((ae (au y) k)+1))).drop ((((ay y).take (ae (au y) k)++([R9.1.1,w9.2]++(ay y).drop ((ae (au y) k)+1))).length+1) / 2)).map BT.slot by rw [vS,←Ll,HB])
  have hK8:aC0=((au y).take (ae (au y) k)++([fQ R9.1.2]++(au y).drop (ae (au y) k))).getD (((((ay y).take (ae (au y) k)++([R9.1.1,w9.2]++(ay y).drop ((ae (au y) k)+1))).length+1) / 2)-1) af.nil:=by rw [ayD,vS]
  subst hK8
  exact z1.of hE ⟨_,_,_,asf hXY,acq,(bD.kv (Dv.eB (w1.s9 vd) kM) hp1 wD (fH.mono aO) hx9).two (bD.kv (kf (show aF R9.2<jz.length by rw [pO];exact Lm)) Cs zA az.nil hy9),fun j hj=>(Rq j hj).trans (ix j hj),rfl⟩
 refine g9 1 ?_
 refine W.nn (WD.a1 5 rfl (g9 1 ?_))
 refine W.nn (WD.a1 13 rfl (W.du (fk.mono lq) (ag (ag (ag (bJ (bJ ah))))) (fun G84 B3 aHo=>(W.call (Mp:=[]) (Vo aHo (eX.mono aO) (ae (au y) k) (fQ R9.1.2) (gJ R9.1.2) aa aa aa hh9 hl8 qd) rfl ah ?_))))
 intro v88 G85 acr B4 q86
 refine match q86 with|⟨aNv,aNw,asy,Yu,Yv⟩=> ?_
 subst asy
 refine W.perm (ag (ag (ag ah))).symm ?_
 have q94:=Yu.form
 refine match q94 with|⟨ajX,ajY,acs⟩=> ?_
 subst acs
 have q98:=Yv.form
 refine match q98 with|⟨Vp,Vq,asz⟩=> ?_
 subst asz
 refine W.nn (d9 [14,15,16,17,18,19,20,21,22] ?_)
 refine g9 17 ?_
 refine WC.cd (fun asr ass=> ?_) (fun asr ass=> ?_)
 ·refine g9 6 ?_
  refine WC.sub (M':=((dM,ar 67 [aK (kk+1),lV ajX (((au y).take (ae (au y) k)++([fQ R9.1.2]++(au y).drop (ae (au y) k)))).length ajY,lV Vp ((((ay y).map BT.slot).take ((ae (au y) k)+1)++([gJ R9.1.2]++((ay y).map BT.slot).drop ((ae (au y) k)+1)))).length Vq,lV iJ ([]).length iK])::((aP,ar 62 [aC ba,iV root,iV fan,iV leaf])::(acr++(nc++(kx++(rA++(rB++[])))))))) ((((bi (bi (bi (bi (bi bB _) _) _) _) _).k9).k9).cons _) (WC.perm (M':=((aP,ar 62 [aC ba,iV root,iV fan,iV leaf])::((dM,ar 67 [aK (kk+1),lV ajX (((au y).take (ae (au y) k)++([fQ R9.1.2]++(au y).drop (ae (au y) k)))).length ajY,lV Vp ((((ay y).map BT.slot).take ((ae (au y) k)+1)++([gJ R9.1.2]++((ay y).map BT.slot).drop ((ae (au y) k)+1)))).length Vq,lV iJ ([]).length iK])::(acr++(nc++(kx++(rA++(rB++[])))))))) ((((ah.cons _).trans ah).cons _).trans ((List.Perm.swap _ _ _).trans (ah.cons _))) (WC.perm (M':=((aP,ar 62 [aC ba,iV root,iV fan,iV leaf])::((dM,ar 67 [aK (kk+1),lV ajX (((au y).take (ae (au y) k)++([fQ R9.1.2]++(au y).drop (ae (au y) k)))).length ajY,lV Vp ((((ay y).map BT.slot).take ((ae (au y) k)+1)++([gJ R9.1.2]++((ay y).map BT.slot).drop ((ae (au y) k)+1)))).length Vq,lV iJ ([]).length iK])::(nc++(acr++(rA++(kx++(rB++[])))))))) ((((bO _ ((bO _ ((bO _ ((bO _ ((bO _ ah).trans ah)).trans ah)).trans (bJ ah))).trans ah)).trans (bJ ah)).cons _).cons _) (g9 2 ?_)))
  refine⟨.inr rfl,[_,_],⟨rfl,rfl,trivial⟩,_,((bi (bi (bi (bi (aI _ _) _) _) _) _).k9).k9,?_⟩
  have Ll:=Yi (w:=w9.2) kZ I8
  rw [←xM]at Ll
  have hup:=EK kZ R9.1.1 w9.2
  have hX:=bD.wY (((bD.mono ((lq.trans B3).trans B4) FA)).eB (oS eV _) ix) (((bD.mono (B3.trans B4) yG)).to (jx j5)) (((bD.mono ((lq.trans B3).trans B4) FB)).eB (oU eV _) ix)
  have hE:gq fan leaf k ⟨ek,ev⟩ (kk+1) y st.2=((mg y.slot ((au y).take (ae (au y) k)++([fQ R9.1.2]++(au y).drop (ae (au y) k))) ((ay y).take (ae (au y) k)++([R9.1.1,w9.2]++(ay y).drop ((ae (au y) k)+1))),none),R9.2):=by rw [hIB,Bg];unfold zW;rw [j5];exact Lf aa
  have pQ:=az.cast Yv Ll.symm
  exact z1.of hE ⟨_,_,_,u6,(bY.mono aO Bf),(bD.kv Dv Yu pQ (fH.mono aO) hX).bn,ix,rfl⟩
 refine g9 3 ?_
 refine WC.dw ((iD.k9.k9).k9) (d9 [0,1,2,3,4,5,6,7] ?_)
 refine WD.a1 8 rfl (W.du Yu (ag (ag (ag ah))) (fun G99 B5 aHp=>(W.call (Mp:=[]) (Dx aHp (Yv.mono B5) ⟨aa,aa⟩) rfl ah ?_)))
 intro aQm aHq Yw y8 asA
 refine match asA with|⟨aHr,_,aHs,aHt,xN,xO,ayE,agT,aC1,asB,acu,Vr,acv,Vs⟩=> ?_
 subst agT
 subst aC1
 refine W.perm (M':=((b27,ar 86 [iV ek,sV ev.b])::((dM,ar 67 [aK (kk+1),lV ajX (((au y).take (ae (au y) k)++([fQ R9.1.2]++(au y).drop (ae (au y) k)))).length ajY,lV Vp ((((ay y).map BT.slot).take ((ae (au y) k)+1)++([gJ R9.1.2]++((ay y).map BT.slot).drop ((ae (au y) k)+1)))).length Vq,lV iJ ([]).length iK])::((aP,ar 62 [aC ba,iV root,iV fan,iV leaf])::(xN++(xO++(nc++(kx++(rA++(rB++[])))))))))) (ag (Ms:=xN++xO) (ag (Ms:=xN++xO) (ag (Ms:=xN++xO) (nJ (ci _ _ _))))).symm ?_
 have asC:=acu.form
 refine match asC with|⟨Rr,Rs,Gy⟩=> ?_
 subst Gy
 have aHu:=Vr.form
 refine match aHu with|⟨agU,agV,agW⟩=> ?_
 subst agW
 have asD:=acv.form
 refine match asD with|⟨Gz,GA,agX⟩=> ?_
 subst agX
 have asE:=Vs.form
 refine match asE with|⟨agY,agZ,aC2⟩=> ?_
 subst aC2
 refine W.nn (d9 [9,10,11,12,13,14,15,16,17,18,19,20,21] ?_)
 refine g9 17 ?_
 refine WC.dw ((iD.k9.k9).k9) (d9 [0,1,2,3,4,5,6,7,8,9] ?_)
 refine WD.tk 10 rfl (aY (L:=[iV _,lV _ _ _,lV _ _ _,lV _ _ _]) vX vW rfl rfl rfl) (WD.a1 11 rfl (W.box (L:=[iV _,lV _ _ _,lV _ _ _,lV _ _ _]) rfl rfl (fun Vt=>(W.nn (WD.a1 12 rfl ?_)))))
 have GB:=fO (u:=(((jz,R9.2):List (Option Nat)×List Bool)).2) (by show 0<(de R9.2).length;have h9:=aAI wc aa;omega)
 refine W.call (Mp:=nc) (kg (bY.mono aO Bf) Vt) rfl (ag (ag (ag (ag (bJ (bJ ah)))))) ?_
 intro aHv aHw Rt vT asF
 refine match asF with|⟨Vu,Ru⟩=> ?_
 refine W.perm (ag (ag (ag (ag ah)))).symm ?_
 rw [iF GB]at Vu Ru
 subst Vu
 try dsimp only at Ru
 refine W.nn (d9 [13,14,15,16] ?_)
 refine g9 10 ?_
 refine WC.sub (M':=((Vt,ar 67 [aK (kk+1),lV Gz ((((au y).take (ae (au y) k)++([fQ R9.1.2]++(au y).drop (ae (au y) k))).drop (((((ay y).map BT.slot).take ((ae (au y) k)+1)++([gJ R9.1.2]++((ay y).map BT.slot).drop ((ae (au y) k)+1))).length+1) / 2))).length GA,lV agY (((((ay y).map BT.slot).take ((ae (au y) k)+1)++([gJ R9.1.2]++((ay y).map BT.slot).drop ((ae (au y) k)+1))).drop (((((ay y).map BT.slot).take ((ae (au y) k)+1)++([gJ R9.1.2]++((ay y).map BT.slot).drop ((ae (au y) k)+1))).length+1) / 2))).length agZ,lV none 0 0])::((dM,ar 67 [aK (kk+1),lV Rr ((((au y).take (ae (au y) k)++([fQ R9.1.2]++(au y).drop (ae (au y) k))).take ((((((ay y).map BT.slot).take ((ae (au y) k)+1)++([gJ R9.1.2]++((ay y).map BT.slot).drop ((ae (au y) k)+1))).length+1) / 2)-1))).length Rs,lV agU (((((ay y).map BT.slot).take ((ae (au y) k)+1)++([gJ R9.1.2]++((ay y).map BT.slot).drop ((ae (au y) k)+1))).take (((((ay y).map BT.slot).take ((ae (au y) k)+1)++([gJ R9.1.2]++((ay y).map BT.slot).drop ((ae (au y) k)+1))).length+1) / 2))).length agV,lV iJ ([]).length iK])::((aP,ar 62 [aC ba,iV root,iV fan,iV leaf])::(Rt++(xN++(xO++(kx++(rA++(rB++[])))))))))) (((((bi (bi (bi (bi (bi (bi bB _) _) _) _) _) _).k9).k9).cons _).k9) (WC.perm (M':=((aP,ar 62 [aC ba,iV root,iV fan,iV leaf])::((dM,ar 67 [aK (kk+1),lV Rr ((((au y).take (ae (au y) k)++([fQ R9.1.2]++(au y).drop (ae (au y) k))).take ((((((ay y).map BT.slot).take ((ae (au y) k)+1)++([gJ R9.1.2]++((ay y).map BT.slot).drop ((ae (au y) k)+1))).length+1) / 2)-1))).length Rs,lV agU (((((ay y).map BT.slot).take ((ae (au y) k)+1)++([gJ R9.1.2]++((ay y).map BT.slot).drop ((ae (au y) k)+1))).take (((((ay y).map BT.slot).take ((ae (au y) k)+1)++([gJ R9.1.2]++((ay y).map BT.slot).drop ((ae (au y) k)+1))).length+1) / 2))).length agV,lV iJ ([]).length iK])::((Vt,ar 67 [aK (kk+1),lV Gz ((((au y).take (ae (au y) k)++([fQ R9.1.2]++(au y).drop (ae (au y) k))).drop (((((ay y).map BT.slot).take ((ae (au y) k)+1)++([gJ R9.1.2]++((ay y).map BT.slot).drop ((ae (au y) k)+1))).length+1) / 2))).length GA,lV agY (((((ay y).map BT.slot).take ((ae (au y) k)+1)++([gJ R9.1.2]++((ay y).map BT.slot).drop ((ae (au y) k)+1))).drop (((((ay y).map BT.slot).take ((ae (au y) k)+1)++([gJ R9.1.2]++((ay y).map BT.slot).drop ((ae (au y) k)+1))).length+1) / 2))).length agZ,lV none 0 0])::(Rt++(xN++(xO++(kx++(rA++(rB++[])))))))))) ((((((ah.cons _).trans ah).cons _).trans ((List.Perm.swap _ _ _).trans (ah.cons _))).cons _).trans ((List.Perm.swap _ _ _).trans (((List.Perm.swap _ _ _).trans (ah.cons _)).cons _))) (WC.perm (M':=((aP,ar 62 [aC ba,iV root,iV fan,iV leaf])::((dM,ar 67 [aK (kk+1),lV Rr ((((au y).take (ae (au y) k)++([fQ R9.1.2]++(au y).drop (ae (au y) k))).take ((((((ay y).map BT.slot).take ((ae (au y) k)+1)++([gJ R9.1.2]++((ay y).map BT.slot).drop ((ae (au y) k)+1))).length+1) / 2)-1))).length Rs,lV agU (((((ay y).map BT.slot).take ((ae (au y) k)+1)++([gJ R9.1.2]++((ay y).map BT.slot).drop ((ae (au y) k)+1))).take (((((ay y).map BT.slot).take ((ae (au y) k)+1)++([gJ R9.1.2]++((ay y).map BT.slot).drop ((ae (au y) k)+1))).length+1) / 2))).length agV,lV iJ ([]).length iK])::((Vt,ar 67 [aK (kk+1),lV Gz ((((au y).take (ae (au y) k)++([fQ R9.1.2]++(au y).drop (ae (au y) k))).drop (((((ay y).map BT.slot).take ((ae (au y) k)+1)++([gJ R9.1.2]++((ay y).map BT.slot).drop ((ae (au y) k)+1))).length+1) / 2))).length GA,lV agY (((((ay y).map BT.slot).take ((ae (au y) k)+1)++([gJ R9.1.2]++((ay y).map BT.slot).drop ((ae (au y) k)+1))).drop (((((ay y).map BT.slot).take ((ae (au y) k)+1)++([gJ R9.1.2]++((ay y).map BT.slot).drop ((ae (au y) k)+1))).length+1) / 2))).length agZ,lV none 0 0])::(Rt++(xN++(xO++(rA++(kx++(rB++[])))))))))) (((((bO _ ((bO _ ((bO _ ((bO _ ((bO _ ((bO _ ah).trans ah)).trans ah)).trans (bJ ah))).trans ah)).trans ah)).trans ah).cons _).cons _).cons _) (WC.ret ?_)))
 refine⟨.inr rfl,[_,_],⟨rfl,rfl,trivial⟩,_,(((bi (bi (bi (bi (bi (aI _ _) _) _) _) _) _).k9).k9).k9,?_⟩
 have Ll:=Yi (w:=w9.2) kZ I8
 rw [←xM]at Ll
 have hup:=EK kZ R9.1.1 w9.2
 have hX:=bD.wY (((bD.mono (((((lq.trans B3).trans B4).trans B5).trans y8).trans vT) FA)).eB (oS eV _) ix) (((bD.mono ((((B3.trans B4).trans B5).trans y8).trans vT) yG)).to (jx j5)) (((bD.mono (((((lq.trans B3).trans B4).trans B5).trans y8).trans vT) FB)).eB (oU eV _) ix)
 have vS:(((ay y).map BT.slot).take ((ae (au y) k)+1)++([gJ R9.1.2]++((ay y).map BT.slot).drop ((ae (au y) k)+1))).length=((ay y).take (ae (au y) k)++([R9.1.1,w9.2]++(ay y).drop ((ae (au y) k)+1))).length:=by omega
 have hE:gq fan leaf k ⟨ek,ev⟩ (kk+1) y st.2=((mg y.slot (((au y).take (ae (au y) k)++([fQ R9.1.2]++(au y).drop (ae (au y) k))).take (((((ay y).take (ae (au y) k)++([R9.1.1,w9.2]++(ay y).drop ((ae (au y) k)+1))).length+1) / 2)-1)) (((ay y).take (ae (au y) k)++([R9.1.1,w9.2]++(ay y).drop ((ae (au y) k)+1))).take ((((ay y).take (ae (au y) k)++([R9.1.1,w9.2]++(ay y).drop ((ae (au y) k)+1))).length+1) / 2)),some (((au y).take (ae (au y) k)++([fQ R9.1.2]++(au y).drop (ae (au y) k))).getD (((((ay y).take (ae (au y) k)++([R9.1.1,w9.2]++(ay y).drop ((ae (au y) k)+1))).length+1) / 2)-1) af.nil,mg (aF R9.2:Int) (((au y).take (ae (au y) k)++([fQ R9.1.2]++(au y).drop (ae (au y) k))).drop ((((ay y).take (ae (au y) k)++([R9.1.1,w9.2]++(ay y).drop ((ae (au y) k)+1))).length+1) / 2)) (((ay y).take (ae (au y) k)++([R9.1.1,w9.2]++(ay y).drop ((ae (au y) k)+1))).drop ((((ay y).take (ae (au y) k)++([R9.1.1,w9.2]++(ay y).drop ((ae (au y) k)+1))).length+1) / 2)))),R9.2.set (aF R9.2) true):=by rw [hIB,Bg];unfold zW;rw [j5];exact Lg aa
 have kM:∀j:Nat,R9.2[j]?=some true→(jz.set (aF R9.2) (some Vt))[j]?=jz[j]?:=fun j hj=>gK GB hj
 have Rq:∀j:Nat,st.2[j]?=some true→(jz.set (aF R9.2) (some Vt))[j]?=jz[j]?:=fun j hj=>kM j (w1.get hj)
 have hY:=(bD.wY ((((bD.mono (((((lq.trans B3).trans B4).trans B5).trans y8).trans vT) FA)).eB (oS eV _) ix).eB (oS eV _) Rq) ((((bD.mono ((((B3.trans B4).trans B5).trans y8).trans vT) yG)).to (jx j5)).eB (by rw [←jx j5];exact kL) kM) ((((bD.mono (((((lq.trans B3).trans B4).trans B5).trans y8).trans vT) FB)).eB (oU eV _) ix).eB (oU eV _) Rq))
 have hL9:(((ay y).take (ae (au y) k)++([R9.1.1,w9.2]++(ay y).drop ((ae (au y) k)+1)))).flatMap (bf kk)=(((ay y).take (ae (au y) k)++([R9.1.1,w9.2]++(ay y).drop ((ae (au y) k)+1))).take ((((ay y).take (ae (au y) k)++([R9.1.1,w9.2]++(ay y).drop ((ae (au y) k)+1))).length+1) / 2)).flatMap (bf kk)++(((ay y).take (ae (au y) k)++([R9.1.1,w9.2]++(ay y).drop ((ae (au y) k)+1))).drop ((((ay y).take (ae (au y) k)++([R9.1.1,w9.2]++(ay y).drop ((ae (au y) k)+1))).length+1) / 2)).flatMap (bf kk):=by rw [←dT,fo]
 have hq9:=bD.app.1 (hY.to hL9)
 refine match hq9 with|⟨X9,Y9,hXY,hx9,hy9⟩=> ?_
 have hp1:=aE.to (acu.mono vT) (ax (fun n=>((au y).take (ae (au y) k)++([fQ R9.1.2]++(au y).drop (ae (au y) k))).take ((n+1) / 2-1)) vS)
 have Cs:=aE.to (acv.mono vT) (ax (fun n=>((au y).take (ae (au y) k)++([fQ R9.1.2]++(au y).drop (ae (au y) k))).drop ((n+1) / 2)) vS)
 have wD:=az.cast (Vr.mono vT) (show _=(((ay y).take (ae (au y) k)++([R9.1.1,w9.2]++(ay y).drop ((ae (au y) k)+1))).take ((((ay y).take (ae (au y) k)++([R9.1.1,w9.2]++(ay y).drop ((ae (au y) k)+1))).length+1) / 2)).map BT.slot by rw [vS,←Ll,El])
 have zA:=az.cast (Vs.mono vT) (show _=(((ay y).take (ae (au y) k)++([R9.1.1,w9.2]++(ay y).drop ((ae (au y) k)+1))).drop ((((ay y).take (ae (au y) k)++([R9.1.1,w9.2]++(ay y).drop ((ae (au y) k)+1))).length+1) / 2)).map BT.slot by rw [vS,←Ll,HB])
 have hK8:ayE=((au y).take (ae (au y) k)++([fQ R9.1.2]++(au y).drop (ae (au y) k))).getD (((((ay y).take (ae (au y) k)++([R9.1.1,w9.2]++(ay y).drop ((ae (au y) k)+1))).length+1) / 2)-1) af.nil:=by rw [asB,vS]
 subst hK8
 exact z1.of hE ⟨_,_,_,asf hXY,Ru,(bD.kv (Dv.eB (w1.s9 vd) kM) hp1 wD (fH.mono aO) hx9).two (bD.kv (kf (show aF R9.2<jz.length by rw [pO];exact GB)) Cs zA az.nil hy9),fun j hj=>(Rq j hj).trans (ix j hj),rfl⟩

theorem Bj:∀kk,aAD kk
  |0=>fun cJ _ _ _ i k ek ev _ _ lA lo sp hs hk dI eV jK jn ee rq Dn gn=>Ym cJ i k ek ev lA lo sp hs hk dI eV jK jn ee rq Dn gn
  |kk+1=>fun cJ _ _ _ i k ek ev _ _ lA lo sp hs hk dI eV jK jn ee rq Dn gn=>Yp cJ i k ek ev lA lo sp hs hk dI eV jK jn ee rq Dn gn (Bj kk)
end Go.Proofs.YthhpfadbojfdnaaGreat
