/- A cycle of a flusher, from its beginning to its end. Plain Lean; nothing of the program is named here. No condition. -/
import Derived.Test.YtfhnamngaofccaaGreatQiVp
set_option linter.unusedVariables false
set_option linter.unusedSimpArgs false
set_option linter.unnecessarySimpa false
set_option maxRecDepth 100000
set_option maxHeartbeats 1600000

namespace Go.Fw
open Go Go.RowKit
section
variable {W:ew} {th s f h:Int} {p:List Int×Int}
theorem Gc(h0:0≤th)(hs:lU W s)(h:oj W s=([],0)):cH W th s true=(true,W.set s.toNat ([th],2)):=by
 have h1:W[s.toNat]'(dN hs)=([],0):=by rw [←lO hs (dN hs),h]
 have h2:eO W th s=false:=by rw [(C2 hs).1,h1];simp
 rw [lJ (by intro h9;rw [h2]at h9;exact absurd h9.1 (by decide)),if_pos rfl,R7 aa hs (by rw [h1];simp) (by rw [h1];simp),h1]
 rfl
theorem KO(hW:∀p∈W,p=([],0)∨p=([th],h)):∀k,k≤W.length→u4 th (FV W th k) W=List.replicate k ([],0)++W.drop k
 |0,_=>rfl
 |k+1,hk=>by
  have ih:=KO hW k aa
  have j6:k<W.length:=aa
  have hl:(List.replicate k (([]:List Int),(0:Int))).length=k:=List.length_replicate
  have e:List.replicate (k+1) (([]:List Int),(0:Int))++W.drop (k+1)=List.replicate k ([],0)++(([],0)::W.drop (k+1)):=by
   rw [List.replicate_succ',List.append_assoc];rfl
  rw [Bj j6,e]
  unfold u4 at ih⊢
  rw [List.foldl_append,ih,List.drop_eq_getElem_cons j6]
  rcases hW _ (List.getElem_mem j6)with h9|h9
  ·rw [h9,ahq List.not_mem_nil];rfl
  ·rw [h9,VU]
   show(hU _ th (k:Int)).2=_
   have hi:lU (List.replicate k ([],0)++(([th],h)::W.drop (k+1))) (k:Int):=⟨aa,by rw [List.length_append,hl,List.length_cons];omega⟩
   rw [Jp (h:=h) hi (by
    rw [lO hi (dN hi)]
    rw [List.getElem_append_right (by rw [hl];omega)]
    simp),Int.toNat_natCast,List.set_append_right _ _ (by rw [hl];omega),hl,Nat.sub_self]
   rfl
theorem O7(hW:∀p∈W,p=([],0)∨p=([th],h)):lM W th=List.replicate W.length ([],0):=by
 have:=KO hW W.length (Nat.le_refl _)
 rw [List.drop_length,List.append_nil]at this
 exact this
end
def lK (n:Nat) (th a:Int):ew:=(List.replicate n ([],0)).set a.toNat ([th],2)
def wO (n:Nat) (th a b:Int):ew:=(lK n th a).set b.toNat ([th],2)
section
variable {n:Nat} {th a b:Int}
theorem YI(ha:0≤a∧a<n):lU (List.replicate n (([]:List Int),(0:Int))) a:=by unfold lU;rw [List.length_replicate];omega
theorem rJ(ha:0≤a∧a<n):lU (lK n th b) a:=Jo.2 (YI ha)
theorem YJ:∀p∈lK n th a,p=([],0)∨p=([th],2):=fun p hp=>by
 rcases List.mem_or_eq_of_mem_set hp with h|h
 ·exact .inl (List.mem_replicate.1 h).2
 ·exact .inr h
theorem arn:∀p∈wO n th a b,p=([],0)∨p=([th],2):=fun p hp=>by
 rcases List.mem_or_eq_of_mem_set hp with h|h
 ·exact YJ p h
 ·exact .inr h
theorem KP:lM (lK n th a) th=List.replicate n ([],0):=by rw [O7 YJ];unfold lK;simp
theorem KQ:lM (wO n th a b) th=List.replicate n ([],0):=by rw [O7 arn];unfold wO lK;simp
theorem KR:(kT (lK n th a) th).length≤1:=by
 have:=VW (W:=List.replicate n ([],0)) (th:=th) (h:=2) (i:=a.toNat)
 have h2:kT (List.replicate n (([]:List Int),(0:Int))) th=[]:=Bk
 rw [h2]at this
 exact this
theorem aro:(kT (wO n th a b) th).length≤2:=by
 have:=VW (W:=lK n th a) (th:=th) (h:=2) (i:=b.toNat)
 have h2:=KR (n:=n) (th:=th) (a:=a)
 unfold wO
 omega
theorem EZ(h0:0≤th)(ha:0≤a∧a<n):cH (List.replicate n ([],0)) th a true=(true,lK n th a):=Gc h0 (YI ha) C3
theorem ai0(h0:0≤th)(ha:0≤a)(hb:0≤b∧b<n)(hn:b≠a):cH (lK n th a) th b true=(true,wO n th a b):=
 Gc h0 (rJ hb) (by unfold lK;rw [QD hb.1 ha hn];exact C3)
theorem O8(ha:0≤a)(hb:0≤b∧b<n)(hn:b≠a):(hU (wO n th a b) th b).2=lK n th a:=by
 unfold wO
 rw [Jp (Jo.2 (rJ hb)) (VS (rJ hb)),List.set_set]
 exact Nj (rJ hb) (by unfold lK;rw [QD hb.1 ha hn];exact C3)
theorem ai1(ha:0≤a∧a<n)(hb:0≤b∧b<n)(hn:b≠a):(hU (wO n th a b) th a).2=lK n th b:=by
 have e:wO n th a b=(lK n th b).set a.toNat ([th],2):=by unfold wO lK;rw [List.set_comm _ _ aa]
 rw [e,Jp (Jo.2 (rJ ha)) (VS (rJ ha)),List.set_set]
 exact Nj (rJ ha) (by unfold lK;rw [QD ha.1 hb.1 hn.symm];exact C3)
end
section
variable {c:aQ} {l:List Nd} {ss:List aC} {k:ah} {a i:Int}
def Ends (l l':List Nd):Prop:=∀z∈l,∃z'∈l',z'.high=z.high
theorem Ends.rfl':Ends l l:=fun z hz=>⟨z,hz,rfl⟩
theorem E0{x:Nd}{q:Int}(hx:x.high=(ag l q).high)(hq:0≤q∧q<l.length):Ends l (l.set q.toNat x):=fun z hz=>by
 obtain⟨j,hj,rfl⟩:=List.getElem_of_mem hz
 by_cases e:j=q.toNat
 ·refine⟨x,List.mem_iff_getElem.2 ⟨j,by rw [List.length_set];exact hj,by rw [List.getElem_set,if_pos e.symm]⟩,?_⟩
  rw [hx,rk hq]
  congr 2;exact e.symm
 ·exact⟨_,List.mem_iff_getElem.2 ⟨j,by rw [List.length_set];exact hj,by rw [List.getElem_set,if_neg (Ne.symm e)]⟩,rfl⟩
theorem Ends.trans{l1 l2 l3:List Nd}(h:Ends l1 l2)(h2:Ends l2 l3):Ends l1 l3:=fun z hz=>by
 obtain⟨z1,Sa,e1⟩:=h z hz
 obtain⟨z2,hz2,e2⟩:=h2 z1 Sa
 exact⟨z2,hz2,e2.trans e1⟩
theorem ai2{l2:List Nd} :Ends l (l++l2):=fun z hz=>⟨z,List.mem_append_left _ hz,rfl⟩
theorem ac2(t:Tree c l ss):Ends l (cG c l).2:=by
 by_cases hk:(cP (ag l 0) l.length ((l.length:Int)+1)).2.2.2=true
 ·by_cases hr:c.aL.toNat-l.length<2
  ·rw [py hk hr];exact .rfl'
  ·rw [pz hk hr]
   have hc:(aB (ag l 0) ((l.length:Int)+1)).2.2.2=true:=by rw [←pw _ (l.length:Int)];exact hk
   rw [pr hc]
   exact(E0 (q:=0) (x:=kY (ag l 0) _ _ _) rfl ⟨Int.le_refl _,by have:=t.pos;omega⟩).trans ai2
 ·rw [px (by simpa using hk)];exact .rfl'
variable {P:aC}
theorem ac3(t:Tree c l ss)(s:vR c l ss a i P):Ends l (cz c l a i).2:=by
 have ha:0≤a∧a<l.length:=by have:=t.nd s.mem;rw [s.slot]at this;exact this.1
 unfold cz
 split
 ·exact .rfl'
 ·by_cases h2:(ag l a).kids.length≤i.toNat
  ·rw [jl (.inr (.inl h2))];exact .rfl'
  ·have h3:0≤cK l a i.toNat∧cK l a i.toNat<l.length:=s.x3
   cases h4:cw c (ag l a)
   ·by_cases h5:(fQ l a i.toNat).2.2.2=true
    ·by_cases h6:(np l a i.toNat).2=true
     ·by_cases h7:(l.length:Int)<c.aL
      ·rw [tS ha h2 h3 h4 h5 h6 h7]
       have hk:ag l (cK l a i.toNat)=(au l P i.toNat).n:=s.Ba.symm
       have hm:=(t.at s.mem s.h0 (j:=i.toNat) (by have:=s.hi;omega)).1
       have h5':=h5
       unfold fQ at h5'
       rw [hk]at h5'
       obtain⟨x,y,q,hh,e,hv,esl,_⟩:=nm (t.fo hm).1 h5'
       have e2:fQ l a i.toNat=(x,y,q,true):=by unfold fQ;rw [hk];exact e
       unfold yc
       rw [e2]
       dsimp only
       have CI:x.slot=cK l a i.toNat:=by rw [esl,s.Ba];exact s.x9
       have KH:(np l a i.toNat).1.high=(ag l a).high:=by rw [show(np l a i.toNat).1=_ from(ON (n:=ag l a) h6).1];rfl
       intro z hz
       obtain⟨j,hj,rfl⟩:=List.getElem_of_mem hz
       have iB:j<((l.set x.slot.toNat x).set a.toNat (np l a i.toNat).1).length:=by rw [List.length_set,List.length_set];exact hj
       by_cases ea:j=a.toNat
       ·refine⟨(np l a i.toNat).1,List.mem_append_left _ (List.mem_iff_getElem.2 ⟨j,iB,by rw [List.getElem_set,if_pos ea.symm]⟩),?_⟩
        rw [KH,rk ha]
        congr 2;exact ea.symm
       ·by_cases ek:j=x.slot.toNat
        ·refine⟨y,List.mem_append_right _ (by simp),?_⟩
         rw [hv.MP.1,←hk,rk h3]
         congr 2;rw [ek,CI]
        ·exact⟨l[j],List.mem_append_left _ (List.mem_iff_getElem.2 ⟨j,iB,by rw [List.getElem_set,if_neg (Ne.symm ea),List.getElem_set,if_neg (Ne.symm ek)]⟩),rfl⟩
      ·rw [ye ha h2 h3 h4 h5 h6 h7];exact .rfl'
     ·rw [lm ha h2 h3 h4 (.inr (by simpa using h6))];exact .rfl'
    ·rw [lm ha h2 h3 h4 (.inl (by simpa using h5))];exact .rfl'
   ·rw [yd ha h2 h3 h4];exact .rfl'
theorem ac4(t:Tree c l ss)(s:vR c l ss a i P)(h:0<bW c.leaf c.bud (ag l a) (aw l a i) i):Ends l (cA l (bj c.leaf c.bud (ag l a) (aw l a i) i).1 (bj c.leaf c.bud (ag l a) (aw l a i) i).2.1):=by
 obtain⟨T,p⟩:=s.Nl t h
 have hx:=p.sin p.mem
 have hy:=p.sin p.km.1
 have a5:=p.al.2.2.2.2.1
 have b5:=p.bl.2.2.2.2.1
 have vB:0≤(bj c.leaf c.bud (ag l a) (aw l a i) i).1.slot∧(bj c.leaf c.bud (ag l a) (aw l a i) i).1.slot<l.length:=by rw [p.al.1];exact hx
 unfold cA
 refine(E0 (q:=(bj c.leaf c.bud (ag l a) (aw l a i) i).1.slot) ?_ vB).trans (E0 (q:=(bj c.leaf c.bud (ag l a) (aw l a i) i).2.1.slot) ?_ (by rw [List.length_set,p.bl.1];exact hy))
 ·rw [p.al.1];exact a5.trans (congrArg Nd.high (t.nd p.mem).2.1)
 ·rw [kR vB,p.bl.1,if_neg (by rw [p.al.1];exact p.x9)]
  exact b5.trans (congrArg Nd.high (t.nd p.km.1).2.1)
end
structure FI (c:aQ) (k:ah) (th:Int) (n:Nat) (r:Int×Int×List Nd) (s:ed) (m:Nat):Prop where
 tr:∃T,Tree c s.l T
 dn:s.dn=false
 pos:0≤s.a∧s.a<(s.l.length:Int)
 cyc:∃N:Nat,sw c k N s.l s.a s.bH=some r∧0≤s.bH∧s.bH+N≤100000∧3*N+1≤m+s.g
 Al:s.most≤2
 hi:s.fin=ah.nil∨∃z∈s.l,z.high=s.fin
 st:(s.g=0∧s.W=List.replicate n ([],0))∨(s.g=1∧s.W=lK n th s.a)∨(((s.g=2∧s.W=lK n th s.a)∨(s.g=3∧s.W=wO n th s.a s.kd))∧(ak c (ag s.l s.a) k).1=2∧s.i=(ak c (ag s.l s.a) k).2∧s.kd=(ag s.l s.a).kids.getD s.i.toNat 0)
structure FD (c:aQ) (n:Nat) (r:Int×Int×List Nd) (s:ed):Prop where
 tr:∃T,Tree c s.l T
 dn:s.dn=true
 bH:s.bH=r.1
 e:s.e=r.2.1
 l:s.l=r.2.2
 W:s.W=List.replicate n ([],0)
 Al:s.most≤2
 hi:s.fin=ah.nil∨∃z∈s.l,z.high=s.fin
section
variable {c:aQ} {k:ah} {th:Int} {n m:Nat} {r:Int×Int×List Nd} {s:ed}
theorem BH{W:ew}{most:Int}(h:most≤2)(h2:(kT W th).length≤2):fh W th most≤2:=by unfold fh;omega
theorem zi{l l':List Nd}{f:ah}(h:Ends l l')(h2:f=ah.nil∨∃z∈l,z.high=f):f=ah.nil∨∃z∈l',z.high=f:=h2.imp id fun⟨z,hz,e⟩=>by
 obtain⟨z',hz',e'⟩:=h z hz
 exact⟨z',hz',e'.trans e⟩
theorem FI.ok(h:FI c k th n r s m):FOk s:=by
 obtain⟨⟨ss,t⟩,hd,ha,⟨N,hc,d0,d1,hm⟩,hf,hi,hs⟩:=h
 refine⟨?_,ha,⟨d0,aa⟩,fun h3=> ?_⟩
 ·rcases hs with h|h|⟨h|h,_⟩
  ·exact .inl h.1
  ·exact .inr (.inl h.1)
  ·exact .inr (.inr (.inl h.1))
  ·exact .inr (.inr (.inr h.1))
 ·rcases hs with h|h|⟨_,h1,h2,h4⟩
  ·exact absurd h3 (by rw [h.1];decide)
  ·exact absurd h3 (by rw [h.1];decide)
  ·obtain⟨g1,g2⟩:=kD t ha h1
   rw [h2]at h4⊢
   exact⟨g1,g2,h4⟩
theorem FI.step(h:FI c k th n r s m)(hn:s.l.length≤n)(h0:0≤th):(gH c k th s).1=true∧(FI c k th n r (gH c k th s).2 (m-1)∨FD c n r (gH c k th s).2)∧1≤m:=by
 obtain⟨a,kd,i,g,bH,fin,e,dn,most,W,l⟩:=s
 obtain⟨⟨ss,t⟩,hd,ha,⟨N,hc,d0,d1,hm⟩,hf,hi,hs⟩:=h
 dsimp only at t hd ha hc d0 d1 hm hf hi hs hn
 subst hd
 obtain⟨N,rfl⟩:∃N',N=N'+1:=by
  cases N with
  |zero=>cases hc
  |succ N=>exact⟨N,rfl⟩
 have ha2:0≤a∧a<(n:Int):=⟨ha.1,aa⟩
 rcases hs with⟨rfl,rfl⟩|⟨rfl,rfl⟩|⟨hs,h2,rfl,rfl⟩
 ·rw [Js (EZ h0 ha2)]
  exact⟨rfl,.inl ⟨⟨ss,t⟩,rfl,ha,⟨N+1,hc,d0,d1,by dsimp only;omega⟩,BH hf (Nat.le_trans KR aa),hi,.inr (.inl ⟨rfl,rfl⟩)⟩,aa⟩
 ·obtain⟨T,hT,_⟩:=rm t ha k
  have kZ:=rn t ha k
  have hen:=ac2 t
  rcases gj c (ag l a) k with h|h|⟨h,_,_⟩
  ·have e2:=sv (c:=c) (l:=l) (a:=a) (k:=k) h
   rw [QI h]
   rw [jm (by rw [e2]),e2]at hc
   cases hc
   exact⟨rfl,.inr ⟨⟨ss,t⟩,rfl,rfl,rfl,rfl,KP,hf,hi⟩,aa⟩
  ·by_cases h3:(cG c l).1=0
   ·have e2:=zT (c:=c) (l:=l) (a:=a) (k:=k) h h3
    rw [VY h h3]
    rw [ny (by rw [e2];simp) (by rw [e2];simp)]at hc
    rw [e2]at hT kZ hc
    exact⟨rfl,.inl ⟨⟨T,hT⟩,rfl,kZ,⟨N,hc,by dsimp only;omega,by dsimp only;omega,by dsimp only;omega⟩,hf,zi hen hi,.inr (.inl ⟨rfl,rfl⟩)⟩,aa⟩
   ·have e2:=zU (c:=c) (l:=l) (a:=a) (k:=k) h h3
    rw [Nn h h3]
    rw [jm (by rw [e2]),e2]at hc
    rw [e2]at hT
    cases hc
    exact⟨rfl,.inr ⟨⟨T,hT⟩,rfl,rfl,rfl,rfl,KP,hf,zi hen hi⟩,aa⟩
  ·rw [aeT h]
   exact⟨rfl,.inl ⟨⟨ss,t⟩,rfl,ha,⟨N+1,hc,d0,d1,by dsimp only;omega⟩,hf,hi,.inr (.inr ⟨.inl ⟨rfl,rfl⟩,h,rfl,rfl⟩)⟩,aa⟩
 ·obtain⟨g1,g2⟩:=kD t ha h2
  obtain⟨P,sa⟩:=nu t ha g1 g2
  obtain⟨k1,k2,k3,k4⟩:=yO t sa
  rw [sa.x9]at k3 k4
  have lR:(ag l a).kids.getD (ak c (ag l a) k).2.toNat 0≠a:=fun e9=>by rw [e9]at k3;rw [←k3]at k2;omega
  have j6:0≤(ag l a).kids.getD (ak c (ag l a) k).2.toNat 0∧(ag l a).kids.getD (ak c (ag l a) k).2.toNat 0<(n:Int):=⟨k4.1,aa⟩
  rcases hs with⟨rfl,rfl⟩|⟨rfl,rfl⟩
  ·rw [Nm (ai0 h0 ha.1 j6 lR)]
   exact⟨rfl,.inl ⟨⟨ss,t⟩,rfl,ha,⟨N+1,hc,d0,d1,by dsimp only;omega⟩,BH hf aro,hi,.inr (.inr ⟨.inr ⟨rfl,rfl⟩,h2,rfl,rfl⟩)⟩,aa⟩
  ·obtain⟨T,hT,_⟩:=rm t ha k
   have kZ:=rn t ha k
   have ii:=je (c:=c) (l:=l) (a:=a) (k:=k) h2
   have hkh:∃z∈l,z.high=(aw l a (ak c (ag l a) k).2).high:=⟨_,by unfold aw;rw [rk sa.x3];exact List.getElem_mem _,rfl⟩
   have hpe:=ac3 t sa
   rcases fz c (ag l a) (aw l a (ak c (ag l a) k).2) (ak c (ag l a) k).2 with hd|hd|⟨hd,hd2⟩|hd
   ·have e2:=ii.trans (Bo hd)
    rw [V1 hd]
    rw [jm (by rw [e2]),e2]at hc
    cases hc
    exact⟨rfl,.inr ⟨⟨ss,t⟩,rfl,rfl,rfl,rfl,KQ,hf,.inr hkh⟩,aa⟩
   ·by_cases h3:(cz c l a (ak c (ag l a) k).2).1=0
    ·have e2:=ii.trans (Bl hd h3)
     rw [VZ hd h3]
     rw [ny (by rw [e2];simp) (by rw [e2];simp)]at hc
     rw [e2]at hT kZ hc
     exact⟨rfl,.inl ⟨⟨T,hT⟩,rfl,kZ,⟨N,hc,by dsimp only;omega,by dsimp only;omega,by dsimp only;omega⟩,hf,zi hpe (.inr hkh),.inr (.inl ⟨rfl,O8 ha.1 j6 lR⟩)⟩,aa⟩
    ·have e2:=ii.trans (Bm hd h3)
     rw [No hd h3]
     rw [jm (by rw [e2]),e2]at hc
     rw [e2]at hT
     cases hc
     exact⟨rfl,.inr ⟨⟨T,hT⟩,rfl,rfl,rfl,rfl,KQ,hf,zi hpe (.inr hkh)⟩,aa⟩
   ·have e2:=ii.trans (pZ hd)
    rw [rq hd]
    rw [ny (by rw [e2];simp) (by rw [e2];simp)]at hc
    rw [e2]at hT kZ hc
    exact⟨rfl,.inl ⟨⟨T,hT⟩,rfl,kZ,⟨N,hc,by dsimp only;omega,by dsimp only;omega,by dsimp only;omega⟩,hf,zi (ac4 t sa hd2) (.inr hkh),.inr (.inl ⟨rfl,O8 ha.1 j6 lR⟩)⟩,aa⟩
   ·have e2:=ii.trans (Bn hd)
    rw [V0 hd]
    rw [zV (by rw [e2]),e2]at hc
    dsimp only at hc
    rw [sa.x9]at hc
    exact⟨rfl,.inl ⟨⟨ss,t⟩,rfl,k4,⟨N,hc,d0,by dsimp only;omega,by dsimp only;omega⟩,hf,.inr hkh,.inr (.inl ⟨rfl,ai1 ha2 j6 lR⟩)⟩,aa⟩
end
section
variable {c:aQ} {l:List Nd} {ss:List aC} {k:ah} {th:Int} {B:ew} {i:Nat} {st:RSt}
structure aQc (l:List Nd) (th:Int) (B:ew):Prop where
 len:l.length≤B.length
 pos:0≤th
 no:∀p∈B,th∉p.1
 one:∀s:Int,0≤s→s<l.length→oj B s=([],0)∨((oj B s).2=2∧th∉(oj B s).1)
structure aXT (l:List Nd) (ss:List aC) (k:ah) (th:Int) (B:ew) (i:Nat) (st:RSt):Prop where
 dn:st.dn=false
 most:st.most≤2
 rp:Rp l ss k st.x st.L
 ix:i=2*st.L.length+if st.look=true then 1 else 0
 way:∃P lv,At l ss k st.x P lv∧∀y∈P,oj B y.n.slot=([],0)
 hold:if st.look=true then st.W=B.set st.x.n.slot.toNat ([th],1)∧oj B st.x.n.slot=([],0)
  else(st.fr= -1∧st.L=[]∧st.W=B)∨((0≤st.fr∧st.fr<l.length∧st.fr≠st.x.n.slot)∧oj B st.fr=([],0)∧st.W=B.set st.fr.toNat ([th],1)∧st.L≠[])
structure aSJ (l:List Nd) (k:ah) (B:ew) (st:RSt):Prop where
 dn:st.dn=true
 most:st.most≤2
 W:st.W=B
 way:∀y∈UQ l k,oj B y.n.slot=([],0)
end
def LG (TT TO TI TC te tB ti tb TS:TypeId) (Th:List Int) (c:aQ) (l:List Nd) (bc bs bt bm:Nat) (wt:Int) (mp:List (Int×Option Nat)) (G:GH) (W:ew) (Ms:MH):Prop:=
 ∃Mt Mm gZ,Ms.Perm ((bc,.cells (List.toArray [.pointer (some ⟨bs,0,none⟩),.pointer (some ⟨bt,0,none⟩),.map (some bm),.int .i64 wt,.int .i64 0]) TC (0,0))::(Mt++(Mm++gZ)))
  ∧dC TT TO TI Th bt G W Mt∧lf ib bm G mp Mm∧eJ te tB ti tb TS bs c G l gZ
theorem LG.mono{TT TO TI TC te tB ti tb TS:TypeId}{Th:List Int}{c:aQ}{l:List Nd}{bc bs bt bm:Nat}{wt:Int}{mp:List (Int×Option Nat)}{G G':GH}{W:ew}{Ms:MH}(hl:Le G G')
  (h:LG TT TO TI TC te tB ti tb TS Th c l bc bs bt bm wt mp G W Ms):LG TT TO TI TC te tB ti tb TS Th c l bc bs bt bm wt mp G' W Ms:=by
 obtain⟨Mt,Mm,gZ,hp,hT,hM,hS⟩:=h
 exact⟨Mt,Mm,gZ,hp,hT.mono hl,hM.mono hl,hS.mono hl⟩
variable {Mm:MH} {Ms:MH} {Mt:MH}
theorem agc{c:Nat×Obj} :(c::(Ms++(Mt++Mm))).Perm (c::(Mt++(Mm++Ms))):=rj (by simp only [lN,jR];ac_rfl)
theorem awJ{c:Nat×Obj} :((c::Mm)++(Mt++Ms)).Perm (c::(Mt++(Mm++Ms))):=rj (by simp only [lN,jR];ac_rfl)
end Go.Fw
namespace Go.Proofs.YtfhnamngaofccaaGreat
open Go Go.Fw Go.RowKit
attribute [local irreducible] Ok W WC
variable {G:GH} {ck:Nat} {bH:Int} {e0:Int} {fin:ah} {v0:Value} {v1:Value} {v2:Value} {v3:Value} {v4:Value} {v5:Value} {v6:Value}
theorem Gd{dn:Bool} :
    Fc Tryz.prog 12 [aq ck] G [(ck,aj 75 [v0,v1,v2,v3,v4,v5,v6,iV bH,sV fin.b,iV e0,.bool dn])] (fun v G' M'=>v=.bool dn∧M'=(ck,aj 75 [v0,v1,v2,v3,v4,v5,v6,iV bH,sV fin.b,iV e0,.bool dn])::[]):=by
 refine Fc.go [.tmp 2] Tryz.func12 Tryz.ntmps12 rfl (fun w0=>(g9 8 ?_))
 refine W.ok (gB qR rfl rfl) (g9 14 ?_)
 refine⟨.inr rfl,[_],⟨rfl,trivial⟩,[(ck,aj 75 [v0,v1,v2,v3,v4,v5,v6,iV bH,sV fin.b,iV e0,.bool dn])],bi,?_⟩
 exact⟨rfl,by simp⟩

theorem ac5{dn:Bool} :
    Fc Tryz.prog 18 [aq ck] G [(ck,aj 75 [v0,v1,v2,v3,v4,v5,v6,iV bH,sV fin.b,iV e0,.bool dn])] (fun v G' M'=>v=iV bH∧M'=(ck,aj 75 [v0,v1,v2,v3,v4,v5,v6,iV bH,sV fin.b,iV e0,.bool dn])::[]):=by
 refine Fc.go [.tmp 2] Tryz.func18 Tryz.ntmps18 rfl (fun w0=>(g9 9 ?_))
 refine W.ok (bV qR rfl rfl) (g9 15 ?_)
 refine⟨.inr rfl,[_],⟨rfl,trivial⟩,[(ck,aj 75 [v0,v1,v2,v3,v4,v5,v6,iV bH,sV fin.b,iV e0,.bool dn])],bi,?_⟩
 exact⟨rfl,by simp⟩

theorem ac6{dn:Bool} :
    Fc Tryz.prog 19 [aq ck] G [(ck,aj 75 [v0,v1,v2,v3,v4,v5,v6,iV bH,sV fin.b,iV e0,.bool dn])] (fun v G' M'=>v=iV e0∧M'=(ck,aj 75 [v0,v1,v2,v3,v4,v5,v6,iV bH,sV fin.b,iV e0,.bool dn])::[]):=by
 refine Fc.go [.tmp 2] Tryz.func19 Tryz.ntmps19 rfl (fun w0=>(g9 9 ?_))
 refine W.ok (bV qR rfl rfl) (g9 15 ?_)
 refine⟨.inr rfl,[_],⟨rfl,trivial⟩,[(ck,aj 75 [v0,v1,v2,v3,v4,v5,v6,iV bH,sV fin.b,iV e0,.bool dn])],bi,?_⟩
 exact⟨rfl,by simp⟩

theorem YK{dn:Bool}(hd:dn=true):
    Fc Tryz.prog 24 [aq ck] G [(ck,aj 75 [v0,v1,v2,v3,v4,v5,v6,iV bH,sV fin.b,iV e0,.bool dn])] (fun v G' M'=>v=sV fin.b∧M'=(ck,aj 75 [v0,v1,v2,v3,v4,v5,v6,iV bH,sV fin.b,iV e0,.bool dn])::[]):=by
 refine Fc.go [.tmp 2] Tryz.func24 Tryz.ntmps24 rfl (fun w0=>(g9 9 ?_))
 refine W.call (Mp:=((ck,aj 75 [v0,v1,v2,v3,v4,v5,v6,iV bH,sV fin.b,iV e0,.bool dn])::[])) (Mr:=[]) (Gd) rfl ((ai.cons _).trans ai) ?_
 intro v4 G1 Bu fL q2
 refine match q2 with|⟨e_5,rD⟩=> ?_
 subst e_5
 subst rD
 refine W.perm (M':=[(ck,aj 75 [v0,v1,v2,v3,v4,v5,v6,iV bH,sV fin.b,iV e0,.bool dn])]) ((ai.cons _).trans ai).symm (g9 3 ?_)
 refine WC.cond rfl (fun h5=> ?_) (fun h5=> ?_)
 ·exact absurd h5 (by rw [hd];decide)
 refine g9 12 ?_
 refine⟨.inr rfl,[_],⟨rfl,trivial⟩,[(ck,aj 75 [v0,v1,v2,v3,v4,v5,v6,iV bH,sV fin.b,iV e0,.bool dn])],bi,?_⟩
 exact⟨rfl,by simp⟩

theorem YL{dn:Bool}(hd:dn=true):
    Fc Tryz.prog 13 [aq ck] G [(ck,aj 75 [v0,v1,v2,v3,v4,v5,v6,iV bH,sV fin.b,iV e0,.bool dn])] (fun v G' M'=>v=.bool false∧M'=(ck,aj 75 [v0,v1,v2,v3,v4,v5,v6,iV bH,sV fin.b,iV e0,.bool dn])::[]):=by
 refine Fc.go [.tmp 2] Tryz.func13 Tryz.ntmps13 rfl (fun w0=>(g9 9 ?_))
 refine W.ok (bV qR rfl rfl) (g9 12 ?_)
 refine WC.cond rfl (fun arp=> ?_) (fun arp=> ?_)
 ·refine g9 7 ?_
  refine⟨.inr rfl,[_],⟨rfl,trivial⟩,[(ck,aj 75 [v0,v1,v2,v3,v4,v5,v6,iV bH,sV fin.b,iV e0,.bool dn])],bi,?_⟩
  exact⟨rfl,by simp⟩
 exact absurd arp (by rw [hd];decide)

theorem wc{g:Nat}{v7:Value}{v8:Value}{v9:Value}(Mx:MH)(Q:Value→GH→MH→Prop)(hF:Fc Tryz.prog g [aq ck] G ((ck,aj 75 [v0,v1,v2,v3,v4,v5,.func (.func g) #[] #[],v7,v8,v9,.bool false])::Mx) Q):
    Fc Tryz.prog 13 [aq ck] G ((ck,aj 75 [v0,v1,v2,v3,v4,v5,.func (.func g) #[] #[],v7,v8,v9,.bool false])::(Mx)) Q:=by
 refine Fc.go [.tmp 2] Tryz.func13 Tryz.ntmps13 rfl (fun w0=>(WC.perm (M':=((ck,aj 75 [v0,v1,v2,v3,v4,v5,.func (.func g) #[] #[],v7,v8,v9,.bool false])::(Mx++[]))) (by simp) (g9 9 ?_)))
 refine W.ok (bV qR rfl rfl) (g9 22 ?_)
 refine W.P6 (g:=g) (fst:=[]) (caps:=[]) (Mp:=(ck,aj 75 [v0,v1,v2,v3,v4,v5,.func (.func g) #[] #[],v7,v8,v9,.bool false])::Mx) (Mr:=[]) rfl hF rfl ai ?_
 intro v10 G7 wW DW q8
 refine g9 4 ?_
 refine⟨.inr rfl,[_],⟨rfl,trivial⟩,wW,List.sublist_append_left _ _,?_⟩
 exact q8

variable {gM:MH} {aG:Nat} {dI:Nat} {ch:Int} {mp:List (Int×Option Nat)} {vS:Option Addr} {vT:Option Addr} {wt:Int}
theorem ac7(xc:lf ib dI G mp gM)(th:Int)(key:ah)(ly:¬th<0)(vd:getM mp th=none):
    Fc Tryz.prog 8 [aq aG,iV th,sV key.b] G ((aG,aj 70 [.pointer vS,.pointer vT,.map (some dI),iV wt,iV ch])::(gM)) (fun v G' M'=>∃ck bz Mm,v=aq ck∧M'=(ck,aj 75 [iV 0,iV 0,iV 0,aq aG,aq bz,sV key.b,.func (.func 34) #[] #[],iV 0,sV ah.nil.b,iV 0,.bool false])::((bz,aj 78 [aq aG,iV th,.pointer none,iV 0])::((aG,aj 70 [.pointer vS,.pointer vT,.map (some dI),iV wt,iV ch])::Mm))∧lf ib dI G' (kA mp th (some bz)) Mm):=by
 refine Fc.go [.tmp 6] Tryz.func8 Tryz.ntmps8 rfl (fun w0=>(WC.perm (M':=((aG,aj 70 [.pointer vS,.pointer vT,.map (some dI),iV wt,iV ch])::(gM++[]))) (by simp) (g9 9 ?_)))
 refine W.call (Mp:=((aG,aj 70 [.pointer vS,.pointer vT,.map (some dI),iV wt,iV ch])::gM)) (Mr:=[]) (Ni xc th ly vd) rfl ((ai.cons _).trans ai) ?_
 intro v15 G12 aXU FT q13
 refine match q13 with|⟨bz,SA,VF,aMX,awK⟩=> ?_
 subst VF
 subst aMX
 refine W.perm (M':=((aG,aj 70 [.pointer vS,.pointer vT,.map (some dI),iV wt,iV ch])::((bz,aj 78 [aq aG,iV th,.pointer none,iV 0])::(SA++[])))) ((((ai.cons _).trans ai).cons _).trans ((List.Perm.swap _ _ _).trans (ai.cons _))).symm (g9 7 ?_)
 refine W.ok (bV wx rfl rfl) (g9 7 ?_)
 refine W.ok (aM (L:=[iV _,iV _,iV _]) aw5 aw4 rfl rfl rfl) (g9 3 ?_)
 refine W.ok (aM (L:=[iV _,iV _,iV _,.pointer _,.pointer _,sV _,_,iV _,sV _,iV _,.bool _]) aw7 aw6 rfl rfl rfl) (W.box (L:=[iV _,iV _,iV _,.pointer _,.pointer _,sV _,_,iV _,sV _,iV _,.bool _]) rfl rfl (fun Py=>(g9 3 ?_)))
 refine WC.perm (M':=((Py,aj 75 [iV 0,iV 0,iV 0,aq aG,aq bz,sV key.b,.func (.func 34) #[] #[],iV 0,sV ⟨#[]⟩,iV 0,.bool false])::((bz,aj 78 [aq aG,iV th,.pointer none,iV 0])::((aG,aj 70 [.pointer vS,.pointer vT,.map (some dI),iV wt,iV ch])::(SA++[]))))) ((((((ai.cons _).trans ai).cons _).trans ((List.Perm.swap _ _ _).trans (ai.cons _))).cons _).trans ai) (WC.ret ?_)
 refine⟨.inr rfl,[_],⟨rfl,trivial⟩,((Py,aj 75 [iV 0,iV 0,iV 0,aq aG,aq bz,sV key.b,.func (.func 34) #[] #[],iV 0,sV ⟨#[]⟩,iV 0,.bool false])::((bz,aj 78 [aq aG,iV th,.pointer none,iV 0])::((aG,aj 70 [.pointer vS,.pointer vT,.map (some dI),iV wt,iV ch])::SA))),(((List.sublist_append_left _ _).k9).k9).k9,?_⟩
 exact⟨Py,bz,_,rfl,congrArg _ (congrArg _ (congrArg _ (by simp))),awK⟩

theorem ac8(xc:lf ib dI G mp gM)(th:Int)(key:ah)(bz:Nat)(ly:¬th<0)(vd:getM mp th=some (some bz)):
    Fc Tryz.prog 8 [aq aG,iV th,sV key.b] G ((aG,aj 70 [.pointer vS,.pointer vT,.map (some dI),iV wt,iV ch])::(gM)) (fun v G' M'=>∃ck Mm,v=aq ck∧M'=(ck,aj 75 [iV 0,iV 0,iV 0,aq aG,aq bz,sV key.b,.func (.func 34) #[] #[],iV 0,sV ah.nil.b,iV 0,.bool false])::((aG,aj 70 [.pointer vS,.pointer vT,.map (some dI),iV wt,iV ch])::Mm)∧lf ib dI G' mp Mm):=by
 refine Fc.go [.tmp 6] Tryz.func8 Tryz.ntmps8 rfl (fun w0=>(WC.perm (M':=((aG,aj 70 [.pointer vS,.pointer vT,.map (some dI),iV wt,iV ch])::(gM++[]))) (by simp) (g9 9 ?_)))
 refine W.call (Mp:=((aG,aj 70 [.pointer vS,.pointer vT,.map (some dI),iV wt,iV ch])::gM)) (Mr:=[]) (Nh xc th bz ly vd) rfl ((ai.cons _).trans ai) ?_
 intro v23 G20 al0 Au q21
 refine match q21 with|⟨rA,agd,pB,awL⟩=> ?_
 subst rA
 subst pB
 refine W.perm (M':=((aG,aj 70 [.pointer vS,.pointer vT,.map (some dI),iV wt,iV ch])::(agd++[]))) ((ai.cons _).trans ai).symm (g9 7 ?_)
 refine W.ok (bV wx rfl rfl) (g9 7 ?_)
 refine W.ok (aM (L:=[iV _,iV _,iV _]) aw5 aw4 rfl rfl rfl) (g9 3 ?_)
 refine W.ok (aM (L:=[iV _,iV _,iV _,.pointer _,.pointer _,sV _,_,iV _,sV _,iV _,.bool _]) aw7 aw6 rfl rfl rfl) (W.box (L:=[iV _,iV _,iV _,.pointer _,.pointer _,sV _,_,iV _,sV _,iV _,.bool _]) rfl rfl (fun Hx=>(g9 4 ?_)))
 refine⟨.inr rfl,[_],⟨rfl,trivial⟩,((Hx,aj 75 [iV 0,iV 0,iV 0,aq aG,aq bz,sV key.b,.func (.func 34) #[] #[],iV 0,sV ⟨#[]⟩,iV 0,.bool false])::((aG,aj 70 [.pointer vS,.pointer vT,.map (some dI),iV wt,iV ch])::agd)),((List.sublist_append_left _ _).k9).k9,?_⟩
 exact⟨Hx,_,rfl,congrArg _ (congrArg _ (by simp)),awL⟩

theorem ac9(xc:lf ib dI G mp gM)(th:Int)(key:ah)(ly:th<0):
    Fc Tryz.prog 8 [aq aG,iV th,sV key.b] G ((aG,aj 70 [.pointer vS,.pointer vT,.map (some dI),iV wt,iV ch])::(gM)) (fun v G' M'=>v=.pointer none∧∃Mm,M'=(aG,aj 70 [.pointer vS,.pointer vT,.map (some dI),iV wt,iV ch])::Mm∧lf ib dI G' mp Mm):=by
 refine Fc.go [.tmp 6] Tryz.func8 Tryz.ntmps8 rfl (fun w0=>(WC.perm (M':=((aG,aj 70 [.pointer vS,.pointer vT,.map (some dI),iV wt,iV ch])::(gM++[]))) (by simp) (g9 9 ?_)))
 refine W.call (Mp:=((aG,aj 70 [.pointer vS,.pointer vT,.map (some dI),iV wt,iV ch])::gM)) (Mr:=[]) (ahp xc th ly) rfl ((ai.cons _).trans ai) ?_
 intro v31 G28 Nb HL q29
 refine match q29 with|⟨Xm,age,aMY,awM⟩=> ?_
 subst Xm
 subst aMY
 refine W.perm (M':=((aG,aj 70 [.pointer vS,.pointer vT,.map (some dI),iV wt,iV ch])::(age++[]))) ((ai.cons _).trans ai).symm (g9 7 ?_)
 refine W.ok (bV wx rfl rfl) (g9 10 ?_)
 refine⟨.inr rfl,[_],⟨rfl,trivial⟩,((aG,aj 70 [.pointer vS,.pointer vT,.map (some dI),iV wt,iV ch])::age),(List.sublist_append_left _ _).k9,?_⟩
 exact⟨rfl,_,congrArg _ (by simp),awM⟩

theorem ai3(xc:lf ib dI G mp gM)(th:Int)(key:ah)(bz:Nat)(ly:¬th<0)(vd:getM mp th=some (some bz)):
    Fc Tryz.prog 11 [aq aG,iV th,sV key.b] G ((aG,aj 70 [.pointer vS,.pointer vT,.map (some dI),iV wt,iV ch])::(gM)) (fun v G' M'=>∃ck Mm,v=aq ck∧M'=(ck,aj 75 [iV 0,iV 0,iV 0,aq aG,aq bz,sV key.b,.func (.func 39) #[] #[],iV 0,sV ah.nil.b,iV 0,.bool false])::((aG,aj 70 [.pointer vS,.pointer vT,.map (some dI),iV wt,iV ch])::Mm)∧lf ib dI G' mp Mm):=by
 refine Fc.go [.tmp 6] Tryz.func11 Tryz.ntmps11 rfl (fun w0=>(WC.perm (M':=((aG,aj 70 [.pointer vS,.pointer vT,.map (some dI),iV wt,iV ch])::(gM++[]))) (by simp) (g9 10 ?_)))
 refine W.call (Mp:=((aG,aj 70 [.pointer vS,.pointer vT,.map (some dI),iV wt,iV ch])::gM)) (Mr:=[]) (ac8 xc th key bz ly vd) rfl ((ai.cons _).trans ai) ?_
 intro v38 G35 aeU Ap q36
 refine match q36 with|⟨ck,SB,aMZ,VB,awN⟩=> ?_
 subst aMZ
 subst VB
 refine W.perm (M':=((aG,aj 70 [.pointer vS,.pointer vT,.map (some dI),iV wt,iV ch])::((ck,aj 75 [iV 0,iV 0,iV 0,aq aG,aq bz,sV key.b,.func (.func 34) #[] #[],iV 0,sV ah.nil.b,iV 0,.bool false])::(SB++[])))) ((((ai.cons _).trans ai).cons _).trans ((List.Perm.swap _ _ _).trans (ai.cons _))).symm (g9 7 ?_)
 refine W.ok (gB qR rfl rfl) (g9 7 ?_)
 refine W.st 1 [.func _ _ _] [_,_,_,_,_,_,.func _ _ _,_,_,_,_] L8 rfl (g9 8 ?_)
 refine WC.perm (M':=((ck,aj 75 [iV 0,iV 0,iV 0,aq aG,aq bz,sV key.b,.func (.func 39) #[] #[],iV 0,sV ah.nil.b,iV 0,.bool false])::((aG,aj 70 [.pointer vS,.pointer vT,.map (some dI),iV wt,iV ch])::(SB++[])))) ((((ai.cons _).trans ai).cons _).trans ((List.Perm.swap _ _ _).trans (ai.cons _))) (WC.ret ?_)
 refine⟨.inr rfl,[_],⟨rfl,trivial⟩,((ck,aj 75 [iV 0,iV 0,iV 0,aq aG,aq bz,sV key.b,.func (.func 39) #[] #[],iV 0,sV ah.nil.b,iV 0,.bool false])::((aG,aj 70 [.pointer vS,.pointer vT,.map (some dI),iV wt,iV ch])::SB)),((List.sublist_append_left _ _).k9).k9,?_⟩
 exact⟨ck,_,rfl,congrArg _ (congrArg _ (by simp)),awN⟩

theorem YM(th:Int):
    Fc Tryz.prog 9 [.pointer none,iV th] G [] (fun v G' M'=>v=.pointer none∧M'=[]):=by
 refine Fc.go [.tmp 4] Tryz.func9 Tryz.ntmps9 rfl (fun w0=>(g9 9 ?_))
 refine W.ok (bV Cl rfl rfl) (g9 15 ?_)
 exact⟨rfl,rfl⟩

theorem SC(th:Int)(key:ah):
    Fc Tryz.prog 8 [.pointer none,iV th,sV key.b] G [] (fun v G' M'=>v=.pointer none∧M'=[]):=by
 refine Fc.go [.tmp 6] Tryz.func8 Tryz.ntmps8 rfl (fun w0=>(g9 9 ?_))
 refine W.ay ((YM th).mono fun v _ _ _ hv=>hv.1) rfl (g9 7 ?_)
 refine W.ok (bV wx rfl rfl) (g9 11 ?_)
 exact⟨rfl,rfl⟩

theorem Ge(th:Int)(key:ah):
    Fc Tryz.prog 11 [.pointer none,iV th,sV key.b] G [] (fun v G' M'=>v=.pointer none∧M'=[]):=by
 refine Fc.go [.tmp 6] Tryz.func11 Tryz.ntmps11 rfl (fun w0=>(g9 10 ?_))
 refine W.ay ((SC th key).mono fun v _ _ _ hv=>hv.1) rfl (g9 7 ?_)
 refine W.ok (gB qR rfl rfl) (g9 13 ?_)
 exact⟨rfl,rfl⟩

section
variable {G:GH} {Th:List Int} {c:aQ} {k:ah} {th:Int} {bf bh bc bs bt bm:Nat} {mp:List (Int×Option Nat)} {w0:Int} {s:ed} {Ms:MH}
theorem BJ(h:gu 119 123 3 78 70 57 4 3 145 99 75 34 39 67 109 Th c k th bf bh bc bs bt bm mp w0 G s Ms):Fc Tryz.prog 12 [aq bf] G Ms (fun v G' M'=>v=.bool s.dn∧gu 119 123 3 78 70 57 4 3 145 99 75 34 39 67 109 Th c k th bf bh bc bs bt bm mp w0 G' s M'):=by
  obtain⟨My,Mm,Mx,hp,⟨Mk,rfl,hK⟩,hM⟩:=h
  refine(Fc.sub (M1:=[_]) (R:=Mk++(Mm++Mx)) hp.symm Gd).mono ?_
  rintro v G' M' hl ⟨M2,rfl,rfl,rfl⟩
  exact⟨rfl,_,Mm,Mx,ai,⟨Mk,rfl,hK.mono hl⟩,hM.mono hl⟩
theorem E1(h:gu 119 123 3 78 70 57 4 3 145 99 75 34 39 67 109 Th c k th bf bh bc bs bt bm mp w0 G s Ms):Fc Tryz.prog 18 [aq bf] G Ms (fun v G' M'=>v=iV s.bH∧gu 119 123 3 78 70 57 4 3 145 99 75 34 39 67 109 Th c k th bf bh bc bs bt bm mp w0 G' s M'):=by
  obtain⟨My,Mm,Mx,hp,⟨Mk,rfl,hK⟩,hM⟩:=h
  refine(Fc.sub (M1:=[_]) (R:=Mk++(Mm++Mx)) hp.symm ac5).mono ?_
  rintro v G' M' hl ⟨M2,rfl,rfl,rfl⟩
  exact⟨rfl,_,Mm,Mx,ai,⟨Mk,rfl,hK.mono hl⟩,hM.mono hl⟩
theorem E2(h:gu 119 123 3 78 70 57 4 3 145 99 75 34 39 67 109 Th c k th bf bh bc bs bt bm mp w0 G s Ms):Fc Tryz.prog 19 [aq bf] G Ms (fun v G' M'=>v=iV s.e∧gu 119 123 3 78 70 57 4 3 145 99 75 34 39 67 109 Th c k th bf bh bc bs bt bm mp w0 G' s M'):=by
  obtain⟨My,Mm,Mx,hp,⟨Mk,rfl,hK⟩,hM⟩:=h
  refine(Fc.sub (M1:=[_]) (R:=Mk++(Mm++Mx)) hp.symm ac6).mono ?_
  rintro v G' M' hl ⟨M2,rfl,rfl,rfl⟩
  exact⟨rfl,_,Mm,Mx,ai,⟨Mk,rfl,hK.mono hl⟩,hM.mono hl⟩
theorem we(h:gu 119 123 3 78 70 57 4 3 145 99 75 34 39 67 109 Th c k th bf bh bc bs bt bm mp w0 G s Ms)(hd:s.dn=true):Fc Tryz.prog 24 [aq bf] G Ms (fun v G' M'=>v=sV s.fin.b∧gu 119 123 3 78 70 57 4 3 145 99 75 34 39 67 109 Th c k th bf bh bc bs bt bm mp w0 G' s M'):=by
  obtain⟨My,Mm,Mx,hp,⟨Mk,rfl,hK⟩,hM⟩:=h
  refine(Fc.sub (M1:=[_]) (R:=Mk++(Mm++Mx)) hp.symm (YK hd)).mono ?_
  rintro v G' M' hl ⟨M2,rfl,rfl,rfl⟩
  exact⟨rfl,_,Mm,Mx,ai,⟨Mk,rfl,hK.mono hl⟩,hM.mono hl⟩
theorem oX(h:gu 119 123 3 78 70 57 4 3 145 99 75 34 39 67 109 Th c k th bf bh bc bs bt bm mp w0 G s Ms){ss:List aC}(t:Tree c s.l ss)(oS:th∈Th)(ok:s.dn=false→FOk s):Fc Tryz.prog 13 [aq bf] G Ms (fun v G' M'=>v=.bool (gH c k th s).1∧gu 119 123 3 78 70 57 4 3 145 99 75 34 39 67 109 Th c k th bf bh bc bs bt bm mp w0 G' (gH c k th s).2 M'):=by
  obtain⟨My,Mm,Mx,hp,⟨Mk,rfl,hK⟩,hM⟩:=h
  cases hd:s.dn with
  | true=>
    rw [Jr hd]
    refine(Fc.sub (M1:=[_]) (R:=Mk++(Mm++Mx)) hp.symm (YL hd)).mono ?_
    rintro v G' M' hl ⟨M2,rfl,rfl,rfl⟩
    exact⟨rfl,_,Mm,Mx,ai,⟨Mk,rfl,hK.mono hl⟩,hM.mono hl⟩
  | false=>
    obtain⟨hg,ha,hdd,hk⟩:=ok hd
    obtain⟨a,kd,i,g,bH,fin,e,dn,mo,W,l⟩:=s
    dsimp only at t hd hg ha hdd hk
    subst hd
    rcases hg with rfl|rfl|rfl|rfl
    · refine(Fc.sub (R:=Mm++Mx) hp.symm (wc _ _ (ab1 hK oS))).mono ?_
      rintro v G' M' hl ⟨M2,rfl,hv,hY⟩
      exact⟨hv,M2,Mm,Mx,ai,hY,hM.mono hl⟩
    · refine(Fc.sub (R:=Mm++Mx) hp.symm (wc _ _ (RB hK t ha hdd))).mono ?_
      rintro v G' M' hl ⟨M2,rfl,hv,hY⟩
      exact⟨hv,M2,Mm,Mx,ai,hY,hM.mono hl⟩
    · refine(Fc.sub (R:=Mm++Mx) hp.symm (wc _ _ (Xg hK oS))).mono ?_
      rintro v G' M' hl ⟨M2,rfl,hv,hY⟩
      exact⟨hv,M2,Mm,Mx,ai,hY,hM.mono hl⟩
    obtain⟨k0,ki,kk⟩:=hk rfl
    subst kk
    refine(Fc.sub (R:=Mm++Mx) hp.symm (wc _ _ (ah7 hK t ha hdd k0 ki))).mono ?_
    rintro v G' M' hl ⟨M2,rfl,hv,hY⟩
    exact⟨hv,M2,Mm,Mx,ai,hY,hM.mono hl⟩
theorem mP(h:gu 119 123 3 78 70 57 4 3 145 99 75 34 39 67 109 Th c k th bf bh bc bs bt bm mp w0 G s Ms):Fc Tryz.prog 15 [aq bc] G Ms (fun v G' M'=>v=aq bs∧gu 119 123 3 78 70 57 4 3 145 99 75 34 39 67 109 Th c k th bf bh bc bs bt bm mp w0 G' s M'):=by
  obtain⟨My,Mm,Mx,hp,⟨Mk,rfl,hK⟩,hM⟩:=h
  refine(Fc.sub (lQ.trans hp.symm) (Bv hK)).mono ?_
  rintro v G' M' hl ⟨M2,rfl,rfl,eA⟩
  exact⟨rfl,_::_,Mm,Mx,lQ,⟨_,rfl,eA⟩,hM.mono hl⟩
theorem mQ(h:gu 119 123 3 78 70 57 4 3 145 99 75 34 39 67 109 Th c k th bf bh bc bs bt bm mp w0 G s Ms):Fc Tryz.prog 16 [aq bs] G Ms (fun v G' M'=>ax bU G' v s.l∧gu 119 123 3 78 70 57 4 3 145 99 75 34 39 67 109 Th c k th bf bh bc bs bt bm mp w0 G' s M'):=by
  obtain⟨My,Mm,Mx,hp,⟨Mk,rfl,hK⟩,hM⟩:=h
  refine(Fc.sub (lQ.trans hp.symm) (abJ hK)).mono ?_
  rintro v G' M' hl ⟨M2,rfl,hv,eA⟩
  exact⟨hv,_::_,Mm,Mx,lQ,⟨_,rfl,eA⟩,hM.mono hl⟩
theorem Gf(h:gu 119 123 3 78 70 57 4 3 145 99 75 34 39 67 109 Th c k th bf bh bc bs bt bm mp w0 G s Ms):Fc Tryz.prog 22 [aq bc] G Ms (fun v G' M'=>ax pD G' v (qj (fun _=>true) s.W)∧gu 119 123 3 78 70 57 4 3 145 99 75 34 39 67 109 Th c k th bf bh bc bs bt bm mp w0 G' s M'):=by
  obtain⟨My,Mm,Mx,hp,⟨Mk,rfl,hK⟩,hM⟩:=h
  refine(Fc.sub (lQ.trans hp.symm) (abI hK)).mono ?_
  rintro v G' M' hl ⟨M2,rfl,hv,eA⟩
  exact⟨hv,_::_,Mm,Mx,lQ,⟨_,rfl,eA⟩,hM.mono hl⟩
theorem O9(h:gu 119 123 3 78 70 57 4 3 145 99 75 34 39 67 109 Th c k th bf bh bc bs bt bm mp w0 G s Ms):Fc Tryz.prog 21 [aq bc] G Ms (fun v G' M'=>v=iV s.bH∧gu 119 123 3 78 70 57 4 3 145 99 75 34 39 67 109 Th c k th bf bh bc bs bt bm mp w0 G' s M'):=by
  obtain⟨My,Mm,Mx,hp,⟨Mk,rfl,hK⟩,hM⟩:=h
  refine(Fc.sub (lQ.trans hp.symm) (anu hK)).mono ?_
  rintro v G' M' hl ⟨M2,rfl,rfl,eA⟩
  exact⟨rfl,_::_,Mm,Mx,lQ,⟨_,rfl,eA⟩,hM.mono hl⟩
theorem KS(h:gu 119 123 3 78 70 57 4 3 145 99 75 34 39 67 109 Th c k th bf bh bc bs bt bm mp w0 G s Ms):Fc Tryz.prog 23 [aq bh] G Ms (fun v G' M'=>v=iV s.most∧gu 119 123 3 78 70 57 4 3 145 99 75 34 39 67 109 Th c k th bf bh bc bs bt bm mp w0 G' s M'):=by
  obtain⟨My,Mm,Mx,hp,⟨Mk,rfl,hK⟩,hM⟩:=h
  refine(Fc.sub (lQ.trans hp.symm) (ah0 hK)).mono ?_
  rintro v G' M' hl ⟨M2,rfl,rfl,eA⟩
  exact⟨rfl,_::_,Mm,Mx,lQ,⟨_,rfl,eA⟩,hM.mono hl⟩
theorem arq(h:gu 119 123 3 78 70 57 4 3 145 99 75 34 39 67 109 Th c k th bf bh bc bs bt bm mp w0 G s Ms)(x:Int)(wr:Bool)(oS:th∈Th):Fc Tryz.prog 10 [aq bh,iV x,.bool wr] G Ms (fun v G' M'=>v=.bool (cH s.W th x wr).1∧gu 119 123 3 78 70 57 4 3 145 99 75 34 39 67 109 Th c k th bf bh bc bs bt bm mp w0 G' ⟨s.a,s.kd,s.i,s.g,s.bH,s.fin,s.e,s.dn,if(cH s.W th x wr).1=true then fh (cH s.W th x wr).2 th s.most else s.most,(cH s.W th x wr).2,s.l⟩ M'):=by
  obtain⟨My,Mm,Mx,hp,⟨Mk,rfl,hK⟩,hM⟩:=h
  refine(Fc.sub (lQ.trans hp.symm) (EN hK x wr oS)).mono ?_
  rintro v G' M' hl ⟨M2,rfl,rfl,eA⟩
  exact⟨rfl,_::_,Mm,Mx,lQ,⟨_,rfl,eA⟩,hM.mono hl⟩
theorem BK(h:gu 119 123 3 78 70 57 4 3 145 99 75 34 39 67 109 Th c k th bf bh bc bs bt bm mp w0 G s Ms)(t1:Int)(b9:Nat)(ly:¬t1<0)(vd:getM mp t1=some (some b9)):Fc Tryz.prog 9 [aq bc,iV t1] G Ms (fun v G' M'=>v=aq b9∧gu 119 123 3 78 70 57 4 3 145 99 75 34 39 67 109 Th c k th bf bh bc bs bt bm mp w0 G' s M'):=by
  obtain⟨My,Mm,Mx,hp,⟨Mk,rfl,hK⟩,hM⟩:=h
  obtain⟨vw,wt,Mt,gZ,hw,qt,hT,hS⟩:=hK
  refine(Fc.sub (sy.trans (((qt.symm.cons _).append_right _).trans hp.symm)) (Nh hM t1 b9 ly vd)).mono ?_
  rintro v G' M' hl ⟨M2,rfl,rfl,SD,rfl,SE⟩
  exact⟨rfl,_,SD,Mx,sy,⟨_,rfl,vw,wt,Mt,gZ,hw,ai,hT.mono hl,hS.mono hl⟩,SE⟩
theorem Pa(h:gu 119 123 3 78 70 57 4 3 145 99 75 34 39 67 109 Th c k th bf bh bc bs bt bm mp w0 G s Ms)(t1:Int)(k1:ah)(ly:t1<0):Fc Tryz.prog 8 [aq bc,iV t1,sV k1.b] G Ms (fun v G' M'=>v=.pointer none∧gu 119 123 3 78 70 57 4 3 145 99 75 34 39 67 109 Th c k th bf bh bc bs bt bm mp w0 G' s M'):=by
  obtain⟨My,Mm,Mx,hp,⟨Mk,rfl,hK⟩,hM⟩:=h
  obtain⟨vw,wt,Mt,gZ,hw,qt,hT,hS⟩:=hK
  refine(Fc.sub (sy.trans (((qt.symm.cons _).append_right _).trans hp.symm)) (ac9 hM t1 k1 ly)).mono ?_
  rintro v G' M' hl ⟨M2,rfl,rfl,SD,rfl,SE⟩
  exact⟨rfl,_,SD,Mx,sy,⟨_,rfl,vw,wt,Mt,gZ,hw,ai,hT.mono hl,hS.mono hl⟩,SE⟩
theorem arr(h:gu 119 123 3 78 70 57 4 3 145 99 75 34 39 67 109 Th c k th bf bh bc bs bt bm mp w0 G s Ms)(h0:s.bH=0)(ly:¬th<0)(vd:getM mp th=some (some bh)):Fc Tryz.prog 11 [aq bc,iV th,sV k.b] G Ms (fun v G' M'=>∃b2,v=aq b2∧gu 119 123 3 78 70 57 4 3 145 99 75 34 39 67 109 Th c k th b2 bh bc bs bt bm mp w0 G' ⟨0,0,0,1,0,ah.nil,0,false,s.most,s.W,s.l⟩ M'):=by
  obtain⟨My,Mm,Mx,hp,⟨Mk,rfl,hK⟩,hM⟩:=h
  obtain⟨vw,wt,Mt,gZ,hw,qt,hT,hS⟩:=hK
  refine(Fc.sub (sy.trans (((qt.symm.cons _).append_right _).trans hp.symm)) (ai3 hM th k bh ly vd)).mono ?_
  rintro v G' M' hl ⟨M2,rfl,b2,SD,rfl,rfl,SE⟩
  exact⟨b2,rfl,_,SD,_::Mx,au7,⟨_,rfl,vw,wt,Mt,gZ,(fun _=>hw h0),(by dsimp only;rw [h0]),hT.mono hl,hS.mono hl⟩,SE⟩
end
theorem Pb{G:GH}{Th:List Int}{c:aQ}{l:List Nd}{bc bs bt bm:Nat}{wt:Int}{mp:List (Int×Option Nat)}{W:ew}{Ms:MH}(h:LG 119 123 3 70 57 4 3 145 99 Th c l bc bs bt bm wt mp G W Ms)(th:Int)(k:ah)(h0:¬th<0)(hm:getM mp th=none):Fc Tryz.prog 8 [aq bc,iV th,sV k.b] G Ms (fun v G' M'=>∃bf bh,v=aq bf∧gu 119 123 3 78 70 57 4 3 145 99 75 34 39 67 109 Th c k th bf bh bc bs bt bm (kA mp th (some bh)) wt G' ⟨0,0,0,0,0,ah.nil,0,false,0,W,l⟩ M'):=by
  obtain⟨Mt,Mm,gZ,hp,hT,hM,hS⟩:=h
  refine(Fc.sub (awJ.trans hp.symm) (ac7 hM th k h0 hm)).mono ?_
  rintro v G' M' hl ⟨M2,rfl,bf,bh,SD,rfl,rfl,SE⟩
  exact⟨bf,bh,rfl,_,SD,[],au6,⟨_,rfl,none,wt,Mt,gZ,(fun _=>rfl),ai,hT.mono hl,hS.mono hl⟩,SE⟩
end Go.Proofs.YtfhnamngaofccaaGreat

namespace Go.Fw
open Go Go.RowKit
theorem LG.Al{TT TO TI TC te tB ti tb TS:TypeId}{Th:List Int}{c:aQ}{l:List Nd}{bc bs bt bm:Nat}{wt:Int}{mp:List (Int×Option Nat)}{G:GH}{W:ew}{Ms:MH}
  (h:LG TT TO TI TC te tB ti tb TS Th c l bc bs bt bm wt mp G W Ms):l.length≤c.aL.toNat:=by
 obtain⟨_,_,_,_,_,_,hS⟩:=h
 exact hS.2.1
section
variable {c:aQ} {l:List Nd} {ss:List aC} {k:ah} {th:Int} {B:ew} {i:Nat} {st:RSt}
end
end Go.Fw
namespace Go.Proofs.YtfhnamngaofccaaGreat
open Go Go.Fw Go.RowKit
attribute [local irreducible] Ok W WC
theorem ai4{G:GH}(bJ aU bK aI aV:Int){bN:Value}{l:List Nd}(az:ax bU G bN l)(ss:List aC)(t:Tree (⟨bJ,aU,bK,aI,aV⟩:aQ) l ss)(Th:List Int)(Jk:(∀x∈Th,i64 x)∧Th.length≤1000):Fc Tryz.prog 6 [.agg #[iV bJ,iV aU,iV bK,iV aI,iV aV],bN] G [] (fun v G' M'=>∃bc bs bt bm wt,v=.tuple #[aq bc,iV 0]∧LG 119 123 3 70 57 4 3 145 99 Th (⟨bJ,aU,bK,aI,aV⟩:aQ) l bc bs bt bm wt ([]:List (Int×Option Nat)) G' (List.replicate aI.toNat ([],0)) M'):=
  (aho bJ aU bK aI aV az ss t Th Jk).mono fun v G' M' _ h=>by
    obtain⟨bc,bs,bt,bm,wt,Ms,Mt,Mm,e,rfl,hS,hT,hM⟩:=h
    exact⟨bc,bs,bt,bm,wt,e,Mt,Mm,Ms,agc,hT,hM,hS⟩
end Go.Proofs.YtfhnamngaofccaaGreat

namespace Go.Fw
open Go Go.RowKit
theorem BL{c:aQ}(hc:fe c):Tree c [iN 0] [Cx (iN 0)]:=by
 have hR:(iN 0).R c.bu c.leaf c.bud:=by
  obtain⟨_,⟨h1,_⟩,_⟩:=hc
  refine⟨⟨by decide,by decide,by decide⟩,fun _=>⟨rfl,rfl⟩,fun h=>(by cases h),?_⟩
  rw [if_pos (show(iN 0).level=0 from rfl)]
  refine⟨rfl,by show(0:Int)≤_;omega,(fun i h=>absurd h (Nat.not_lt_zero i)),fun i hi=>absurd hi (Nat.not_lt_zero i)⟩
 exact ag0 hc rfl rfl (by decide) hR rfl (x8 hc hR)
theorem gu.Al{TT TO TI TH TC te tB ti tb TS TY:TypeId}{f0 f1 f2 f3:FuncId}{Th:List Int}{c:aQ}{k:ah}{th:Int}{bf bh bc bs bt bm:Nat}{mp:List (Int×Option Nat)}{w0:Int}{G:GH}{s:ed}{Ms:MH}
  (h:gu TT TO TI TH TC te tB ti tb TS TY f0 f1 f2 f3 Th c k th bf bh bc bs bt bm mp w0 G s Ms):s.l.length≤c.aL.toNat:=by
 obtain⟨_,_,_,_,⟨_,_,_,_,_,_,_,_,_,hS⟩,_⟩:=h
 exact hS.2.1
section
variable {c:aQ} {k:ah} {th:Int} {n m N:Nat} {r:Int×Int×List Nd} {s:ed} {l:List Nd} {ss:List aC}
theorem FI.new(t:Tree c l ss)(hr:sw c k N l 0 0=some r)(hN:N≤33000):FI c k th n r ⟨0,0,0,0,0,ah.nil,0,false,0,List.replicate n ([],0),l⟩ 99001:=
 ⟨⟨ss,t⟩,rfl,⟨Int.le_refl _,by have:=t.pos;dsimp only;omega⟩,⟨N,hr,Int.le_refl _,by dsimp only;omega,by dsimp only;omega⟩,(by decide:(0:Int)≤2),.inl rfl,.inl ⟨rfl,rfl⟩⟩
theorem FI.go(t:Tree c l ss)(hr:sw c k N l 0 0=some r)(hN:N≤33000)(h0:0≤th)(hn:l.length≤n):
  FI c k th n r ⟨0,0,0,1,0,ah.nil,0,false,if(cH (List.replicate n ([],0)) th 0 true).1=true then fh (cH (List.replicate n ([],0)) th 0 true).2 th 0 else 0,(cH (List.replicate n ([],0)) th 0 true).2,l⟩ 99001:=by
 have hp:=t.pos
 rw [EZ h0 ⟨Int.le_refl _,aa⟩]
 exact⟨⟨ss,t⟩,rfl,⟨Int.le_refl _,by dsimp only;omega⟩,⟨N,hr,Int.le_refl _,by dsimp only;omega,by dsimp only;omega⟩,(show(if true=true then _ else(0:Int))≤2 by rw [if_pos rfl];exact BH (most:=0) (by decide) (Nat.le_trans KR aa)),.inl rfl,.inr (.inl ⟨rfl,rfl⟩)⟩
theorem any_succ{f:Nd→Bool}{j:Nat}(h:j<l.length):(l.take (j+1)).any f=((l.take j).any f||f l[j]):=by
 rw [List.take_succ_eq_append_getElem h,List.any_append];simp
theorem FD.high(h:FD c n r s):(decide (s.fin.b=⟨#[]⟩)||s.l.any fun z=>decide (z.high.b=s.fin.b))=true:=by
 rcases h.hi with h|⟨z,hz,e⟩
 ·rw [decide_eq_true (show s.fin.b=⟨#[]⟩by rw [h];rfl)];rfl
 ·rw [List.any_eq_true.2 ⟨z,hz,decide_eq_true (congrArg ah.b e)⟩,Bool.or_true]
theorem ai5:FOk ⟨0,0,0,0,0,ah.nil,0,false,0,List.replicate 3 ([],0),[iN 0]⟩:=⟨.inl rfl,⟨by decide,by decide⟩,⟨by decide,by decide⟩,fun h=>absurd h (by decide)⟩
theorem ai6{mo:Int}{W:ew} :FOk ⟨0,0,0,1,0,ah.nil,0,false,mo,W,[iN 0]⟩:=⟨.inr (.inl rfl),⟨Int.le_refl _,(by decide:(0:Int)<1)⟩,⟨Int.le_refl _,(by decide:(0:Int)<1000000)⟩,fun h=>absurd h (by show ¬(1:Nat)=3;decide)⟩
theorem ai7:gH c k 0 ⟨0,0,0,0,0,ah.nil,0,false,0,List.replicate 3 ([],0),[iN 0]⟩=(true,⟨0,0,0,1,0,ah.nil,0,false,fh (lK 3 0 0) 0 0,lK 3 0 0,[iN 0]⟩):=Js (EZ (Int.le_refl _) ⟨Int.le_refl _,by decide⟩)
theorem ai8{mo:Int}{W:ew} :gH c k 0 ⟨0,0,0,1,0,ah.nil,0,false,mo,W,[iN 0]⟩=(true,⟨0,0,0,1,0,ah.nil,0,true,mo,lM W 0,[iN 0]⟩):=QI (congrArg Prod.fst (zL (n:=iN 0) rfl))
end
end Go.Fw
namespace Go.Proofs.YtfhnamngaofccaaGreat
open Go Go.Fw Go.RowKit
attribute [local irreducible] Ok W WC
variable {G:GH} {aG:Nat} {ch:Int} {mp:List (Int×Option Nat)}
theorem YN{vS vT:Option Addr}{dI:Nat}{gM:MH}(xc:lf ib dI G mp gM){wt:Int}(th:Int)(ly:¬th<0)(vd:getM mp th=none):
    Fc Tryz.prog 28 [aq aG,iV th] G ((aG,aj 70 [.pointer vS,.pointer vT,.map (some dI),iV wt,iV ch])::(gM)) (fun v G' M'=>∃qb bz Mm,v=aq qb∧M'=(qb,aj 111 [aq aG,iV th,.pointer none,sV ah.nil.b,.bool false,iV ch])::((bz,aj 78 [aq aG,iV th,.pointer none,iV 0])::((aG,aj 70 [.pointer vS,.pointer vT,.map (some dI),iV wt,iV ch])::Mm))∧lf ib dI G' (kA mp th (some bz)) Mm):=by
 refine Fc.go [.tmp 4] Tryz.func28 Tryz.ntmps28 rfl (fun w0=>(WC.perm (M':=((aG,aj 70 [.pointer vS,.pointer vT,.map (some dI),iV wt,iV ch])::(gM++[]))) (by simp) (g9 10 ?_)))
 refine W.call (Mp:=((aG,aj 70 [.pointer vS,.pointer vT,.map (some dI),iV wt,iV ch])::gM)) (Mr:=[]) (Ni xc th ly vd) rfl ((ai.cons _).trans ai) ?_
 intro v5 G2 PG j7 q3
 refine match q3 with|⟨bz,KT,rD,Es,aDP⟩=> ?_
 subst rD
 subst Es
 refine W.perm (M':=((aG,aj 70 [.pointer vS,.pointer vT,.map (some dI),iV wt,iV ch])::((bz,aj 78 [aq aG,iV th,.pointer none,iV 0])::(KT++[])))) ((((ai.cons _).trans ai).cons _).trans ((List.Perm.swap _ _ _).trans (ai.cons _))).symm (W.ok (bV wx rfl rfl) (g9 10 ?_))
 refine W.call (Mp:=((aG,aj 70 [.pointer vS,.pointer vT,.map (some dI),iV wt,iV ch])::[])) (Mr:=((bz,aj 78 [aq aG,iV th,.pointer none,iV 0])::(KT++[]))) (Nx) rfl ((ai.cons _).trans ai) ?_
 intro v11 G8 CM xB q9
 refine match q9 with|⟨ri,ym⟩=> ?_
 subst ri
 subst ym
 refine W.perm (M':=((aG,aj 70 [.pointer vS,.pointer vT,.map (some dI),iV wt,iV ch])::((bz,aj 78 [aq aG,iV th,.pointer none,iV 0])::(KT++[])))) ((ai.cons _).trans ai).symm (W.ok (aM (L:=[.pointer _,iV _,.pointer _,sV _,.bool _,iV _]) ayV ayU rfl rfl rfl) (W.box (L:=[.pointer _,iV _,.pointer _,sV _,.bool _,iV _]) rfl rfl (fun gy=>(g9 3 ?_))))
 refine WC.perm (M':=((gy,aj 111 [aq aG,iV th,.pointer none,sV ⟨#[]⟩,.bool false,iV ch])::((bz,aj 78 [aq aG,iV th,.pointer none,iV 0])::((aG,aj 70 [.pointer vS,.pointer vT,.map (some dI),iV wt,iV ch])::(KT++[]))))) ((((((ai.cons _).trans ai).cons _).trans ((List.Perm.swap _ _ _).trans (ai.cons _))).cons _).trans ai) (WC.ret ?_)
 refine⟨.inr rfl,[_],⟨rfl,trivial⟩,((gy,aj 111 [aq aG,iV th,.pointer none,sV ⟨#[]⟩,.bool false,iV ch])::((bz,aj 78 [aq aG,iV th,.pointer none,iV 0])::((aG,aj 70 [.pointer vS,.pointer vT,.map (some dI),iV wt,iV ch])::KT))),(((List.sublist_append_left _ _).k9).k9).k9,?_⟩
 exact⟨gy,bz,_,rfl,congrArg _ (congrArg _ (congrArg _ (by simp))),(lf.mono xB aDP)⟩

variable {E3:Int} {qb:Nat} {th:Int} {v0:Value} {v1:Value} {v2:Value}
theorem YO:
    Fc Tryz.prog 54 [aq qb] G [(qb,aj 111 [aq aG,iV th,.pointer none,sV ah.nil.b,.bool false,iV E3]),(aG,aj 70 [v0,v1,v2,iV 0,iV ch])] (fun v G' M'=>v=.bool true∧M'=(qb,aj 111 [aq aG,iV th,.pointer none,sV ah.nil.b,.bool false,iV E3])::((aG,aj 70 [v0,v1,v2,iV 0,iV ch])::[])):=by
 refine Fc.go [.tmp 2] Tryz.func54 Tryz.ntmps54 rfl (fun w0=>(g9 7 ?_))
 refine WC.dw (bi.k9.k9) (d9 [0,1,2,3,4,5,6,7,8,9,10,11,12,13,14,15] ?_)
 refine g9 21 ?_
 refine W.call (Mp:=((aG,aj 70 [v0,v1,v2,iV 0,iV ch])::[])) (Mr:=((qb,aj 111 [aq aG,iV th,.pointer none,sV ah.nil.b,.bool false,iV E3])::[])) (abH) rfl ((ai.cons _).trans ((List.Perm.swap _ _ _).trans (ai.cons _))) ?_
 intro v18 G15 alI sn q16
 refine match q16 with|⟨WN,tU⟩=> ?_
 subst WN
 subst tU
 refine W.perm (M':=[(qb,aj 111 [aq aG,iV th,.pointer none,sV ah.nil.b,.bool false,iV E3]),(aG,aj 70 [v0,v1,v2,iV 0,iV ch])]) ((ai.cons _).trans ((List.Perm.swap _ _ _).trans (ai.cons _))).symm (g9 7 ?_)
 refine⟨.inr rfl,[_],⟨rfl,trivial⟩,[(qb,aj 111 [aq aG,iV th,.pointer none,sV ah.nil.b,.bool false,iV E3]),(aG,aj 70 [v0,v1,v2,iV 0,iV ch])],bi,?_⟩
 exact⟨rfl,by simp⟩

theorem ada:
    Fc Tryz.prog 29 [aq qb] G [(qb,aj 111 [aq aG,iV th,.pointer none,sV ah.nil.b,.bool false,iV E3]),(aG,aj 70 [v0,v1,v2,iV 0,iV ch])] (fun v G' M'=>v=.bool false∧M'=(qb,aj 111 [aq aG,iV th,.pointer none,sV ah.nil.b,.bool false,iV E3])::((aG,aj 70 [v0,v1,v2,iV 0,iV ch])::[])):=by
 refine Fc.go [.tmp 2] Tryz.func29 Tryz.ntmps29 rfl (fun w0=>(g9 9 ?_))
 refine W.ok (bV axa rfl rfl) (g9 12 ?_)
 refine W.ok (bV qR rfl rfl) (g9 7 ?_)
 refine W.call (Mp:=((qb,aj 111 [aq aG,iV th,.pointer none,sV ah.nil.b,.bool false,iV E3])::((aG,aj 70 [v0,v1,v2,iV 0,iV ch])::[]))) (Mr:=[]) (YO) rfl ((((ai.cons _).trans ai).cons _).trans ai) ?_
 intro v24 G21 akr xM PD
 refine match PD with|⟨pB,yH⟩=> ?_
 subst pB
 subst yH
 refine W.perm (M':=[(qb,aj 111 [aq aG,iV th,.pointer none,sV ah.nil.b,.bool false,iV E3]),(aG,aj 70 [v0,v1,v2,iV 0,iV ch])]) ((((ai.cons _).trans ai).cons _).trans ai).symm (g9 11 ?_)
 refine⟨.inr rfl,[_],⟨rfl,trivial⟩,[(qb,aj 111 [aq aG,iV th,.pointer none,sV ah.nil.b,.bool false,iV E3]),(aG,aj 70 [v0,v1,v2,iV 0,iV ch])],bi,?_⟩
 exact⟨rfl,by simp⟩

theorem adb:
    Fc Tryz.prog 30 [aq qb] G [(qb,aj 111 [aq aG,iV th,.pointer none,sV ah.nil.b,.bool false,iV E3])] (fun v G' M'=>v=.bool false∧M'=(qb,aj 111 [aq aG,iV th,.pointer none,sV ah.nil.b,.bool false,iV E3])::[]):=by
 refine Fc.go [.tmp 2] Tryz.func30 Tryz.ntmps30 rfl (fun w0=>(g9 8 ?_))
 refine W.ok (gB axa rfl rfl) (g9 10 ?_)
 refine W.ok (gB qR rfl rfl) (g9 5 ?_)
 refine⟨.inr rfl,[_],⟨rfl,trivial⟩,[(qb,aj 111 [aq aG,iV th,.pointer none,sV ah.nil.b,.bool false,iV E3])],bi,?_⟩
 exact⟨rfl,by simp⟩

variable {Ms:MH} {Th:List Int} {bc:Nat} {bf:Nat} {bs:Nat} {bt:Nat} {w0:Int}
theorem ade{c:aQ}{k:ah}{bh bm:Nat}{s:ed}(h:gu 119 123 3 78 70 57 4 3 145 99 75 34 39 67 109 Th c k th bf bh bc bs bt bm mp w0 G s Ms)(t1:Int)(h0:¬t1<0)(vd:getM mp t1=none):Fc Tryz.prog 28 [aq bc,iV t1] G Ms (fun v G' M'=>∃bw b1 iw,v=aq bw∧M'=(bw,aj 111 [aq bc,iV t1,.pointer none,sV ah.nil.b,.bool false,iV s.bH])::iw∧gu 119 123 3 78 70 57 4 3 145 99 75 34 39 67 109 Th c k th bf bh bc bs bt bm (kA mp t1 (some b1)) w0 G' s iw):=by
  obtain⟨My,Mm,Mx,hp,⟨Mk,rfl,vw,wt,Mt,gZ,hw,qt,hT,hS⟩,hM⟩:=h
  refine(Fc.sub (sy.trans (((qt.symm.cons _).append_right _).trans hp.symm)) (YN hM t1 h0 vd)).mono ?_
  rintro v G' M' hl ⟨M2,rfl,bw,b1,SD,rfl,rfl,SE⟩
  exact⟨bw,b1,_,rfl,rfl,_,SD,_::Mx,au8,⟨_,rfl,vw,wt,Mt,gZ,hw,ai,hT.mono hl,hS.mono hl⟩,SE⟩
theorem ai9{c:aQ}{k:ah}{bh bm:Nat}{s:ed}(h:gu 119 123 3 78 70 57 4 3 145 99 75 34 39 67 109 Th c k th bf bh bc bs bt bm mp w0 G s Ms){bw:Nat}{t1 a1:Int}(h0:s.bH=0)(hw0:w0=0):Fc Tryz.prog 29 [aq bw] G ((bw,aj 111 [aq bc,iV t1,.pointer none,sV ah.nil.b,.bool false,iV a1])::Ms) (fun v G' M'=>v=.bool false∧∃iw,M'=(bw,aj 111 [aq bc,iV t1,.pointer none,sV ah.nil.b,.bool false,iV a1])::iw∧gu 119 123 3 78 70 57 4 3 145 99 75 34 39 67 109 Th c k th bf bh bc bs bt bm mp w0 G' s iw):=by
  obtain⟨My,Mm,Mx,hp,⟨Mk,rfl,vw,wt,Mt,gZ,hw,qt,hT,hS⟩,hM⟩:=h
  obtain rfl:wt=0:=(hw h0).trans hw0
  refine(Fc.sub (M1:=_::_::[]) (R:=_::_::((Mt++gZ)++(Mm++Mx))) (((sy (Mm:=[])).trans (((qt.symm.cons _).append_right _).trans hp.symm)).cons _) ada).mono ?_
  rintro v G' M' hl ⟨M2,rfl,rfl,rfl⟩
  exact⟨rfl,_,rfl,_,Mm,Mx,sy (Mm:=[]),⟨_,rfl,vw,0,Mt,gZ,hw,ai,hT.mono hl,hS.mono hl⟩,hM.mono hl⟩
theorem aja{b:Nat}{c c2:aQ}{l:List Nd}{ss:List aC}{M:MH}(h:eJ 57 4 3 145 99 b c G l M)(t:Tree c2 l ss)(hC:fe c)(Th:List Int)(Jk:(∀x∈Th,i64 x)∧Th.length≤1000):Fc Tryz.prog 31 [aq b,iV 0] G M (fun v G' M'=>∃bc bs bt bm,v=.tuple #[aq bc,iV 0]∧LG 119 123 3 70 57 4 3 145 99 Th c l bc bs bt bm 0 ([]:List (Int×Option Nat)) G' (List.replicate c.aL.toNat ([],0)) M'):=
  (Nc h t 0 rfl hC Th Jk).mono fun v G' M' _ h=>by
    obtain⟨bc,bt,bm,Ms,Mt,Mm,e,rfl,hS,hT,hM⟩:=h
    exact⟨bc,_,bt,bm,e,Mt,Mm,Ms,agc,hT,hM,hS⟩
theorem ajb(bJ:Int)(aU:Int)(bK:Int)(aI:Int)(aV:Int)(hC9:fe (⟨bJ,aU,bK,aI,aV⟩:aQ))(Th:List Int)(Jk:(∀x∈Th,i64 x)∧Th.length≤1000):
    Fc Tryz.prog 27 [.agg #[iV bJ,iV aU,iV bK,iV aI,iV aV]] G [] (fun v G' M'=>∃bc bs bt bm,v=.tuple #[aq bc,iV 0]∧LG 119 123 3 70 57 4 3 145 99 Th (⟨bJ,aU,bK,aI,aV⟩:aQ) [iN 0] bc bs bt bm 0 ([]:List (Int×Option Nat)) G' (List.replicate aI.toNat ([],0)) M'):=by
 refine Fc.go [.tmp 2,.tmp 3] Tryz.func27 Tryz.ntmps27 rfl (fun w0=>(g9 2 ?_))
 refine W.box (L:=[iV _,iV _,iV _,iV _,iV _]) rfl rfl (fun Tp=>(g9 7 ?_))
 refine W.call (Mp:=[]) (M8 (bJ) (aU) (bK) (aI) (aV)) rfl ai ?_
 intro v31 G28 Nb HL q29
 refine Or.elim q29 (fun Q4=> ?_) (fun q33=> ?_)
 ·refine match Q4 with|⟨hnc,I4,Kg⟩=> ?_
  subst I4
  subst Kg
  exact absurd (hC9) hnc
 refine match q33 with|⟨hC,Ep,WA,hS9⟩=> ?_
 subst WA
 refine W.perm (ae ai).symm (g9 2 ?_)
 refine W.call (Mp:=Nb) (Mr:=((Tp,aj 23 [iV bJ,iV aU,iV bK,iV aI,iV aV])::[])) (aja hS9 (BL hC9) hC9 Th Jk) rfl (ae ai) ?_
 intro v40 G37 sD wq Qr
 refine match Qr with|⟨aG,b_s,bx,dI,tV,hK9⟩=> ?_
 subst tV
 refine W.perm (M':=((Tp,aj 23 [iV bJ,iV aU,iV bK,iV aI,iV aV])::(sD++[]))) (ae ai).symm (g9 7 ?_)
 refine⟨.inr rfl,[_,_],⟨rfl,rfl,trivial⟩,sD,(List.sublist_append_left _ _).cons _,?_⟩
 exact⟨_,_,_,_,rfl,hK9⟩

theorem sG  :
    Fc Tryz.prog 5 [] G [] (fun v _ _=>v=.bool (true)):=by
 have hC9:fe (⟨4,2,36,3,0⟩:aQ):=by decide
 refine Fc.go [.tmp 0] Tryz.func5 Tryz.ntmps5 rfl (fun w0=>(g9 7 ?_))
 refine W.ok (aM (L:=[iV _,iV _,iV _,iV _,iV _]) aHu akN rfl rfl rfl) (W.call (Mp:=[]) (Mr:=[]) (ajb 4 2 36 3 0 hC9 [0,1] ⟨fun x hx=>by simp at hx;rcases hx with rfl|rfl<;>exact⟨by decide,by decide⟩,by simp⟩) rfl ai ?_)
 intro v45 G42 L4 Fq yn
 refine match yn with|⟨aG,b_s,bx,dI,amj,hK9⟩=> ?_
 subst amj
 refine W.perm (M':=(L4++[])) ai.symm (g9 10 ?_)
 refine W.call (Mp:=L4) (Pb hK9 0 ah.nil (by decide) rfl) rfl ai ?_
 intro v50 G47 FW ae7 q48
 refine match q48 with|⟨ck,bz,aqi,LA⟩=> ?_
 subst aqi
 replace LA:=gu.cast (s':=(⟨0,0,0,0,0,ah.nil,0,false,0,List.replicate 3 ([],0),[iN 0]⟩:ed)) rfl LA
 refine g9 6 ?_
 refine W.call (Mp:=FW) (Fc.mono (by have h9:=oX LA (BL hC9) (by simp) (fun _=>ai5);rw [ai7]at h9;exact h9) (fun _ _ _ _ h9=>h9)) rfl ai ?_
 intro v55 G52 As afu q53
 refine match q53 with|⟨WG,aM0⟩=> ?_
 subst WG
 refine W.mv (W.call (Mp:=As) (Fc.mono (by have h9:=oX aM0 (BL hC9) (by simp) (fun _=>ai6);rw [ai8]at h9;exact h9) (fun _ _ _ _ h9=>h9)) rfl ai ?_)
 intro v61 G58 aqq B5 QU
 refine match QU with|⟨aon,aqr⟩=> ?_
 subst aon
 refine g9 7 ?_
 refine W.call (Mp:=aqq) (Mr:=[]) (ade aqr 1 (by decide) (by rw [mB,if_neg (by decide)];rfl)) rfl ai ?_
 intro v68 G65 Yn aeK QV
 refine match QV with|⟨qb,b_1,agf,anh,Wu,awO⟩=> ?_
 subst anh
 subst Wu
 refine W.perm (M':=((qb,aj 111 [aq aG,iV 1,.pointer none,sV ah.nil.b,.bool false,iV 0])::(agf++[]))) ((ai.cons _).trans ai).symm (g9 19 ?_)
 refine W.call (Mp:=agf) (BJ awO) rfl (ae ai) ?_
 intro v74 G71 aoy NE q72
 refine match q72 with|⟨aoz,aoA⟩=> ?_
 subst aoz
 refine W.perm (ae ai).symm (g9 5 ?_)
 refine W.call (Mp:=aoy) (E2 aoA) rfl (ae ai) ?_
 intro v80 G77 adF Tx q78
 refine match q78 with|⟨JX,aoB⟩=> ?_
 subst JX
 refine W.perm (ae ai).symm (g9 7 ?_)
 refine W.call (Mp:=((qb,aj 111 [aq aG,iV 1,.pointer none,sV ah.nil.b,.bool false,iV 0])::adF)) (Mr:=[]) (ai9 aoB rfl rfl) rfl ((ai.cons _).trans ai) ?_
 intro v87 G84 aKT awU q85
 refine match q85 with|⟨aoC,Hb,XG,RI⟩=> ?_
 subst aoC
 subst XG
 refine W.perm (M':=((qb,aj 111 [aq aG,iV 1,.pointer none,sV ah.nil.b,.bool false,iV 0])::(Hb++[]))) ((ai.cons _).trans ai).symm (g9 7 ?_)
 refine W.call (Mp:=((qb,aj 111 [aq aG,iV 1,.pointer none,sV ah.nil.b,.bool false,iV 0])::[])) (Mr:=(Hb++[])) (adb) rfl ((ai.cons _).trans ai) ?_
 intro v93 G90 aoD Ns q91
 refine match q91 with|⟨anF,XH⟩=> ?_
 subst anF
 subst XH
 refine W.perm (M':=((qb,aj 111 [aq aG,iV 1,.pointer none,sV ah.nil.b,.bool false,iV 0])::(Hb++[]))) ((ai.cons _).trans ai).symm (g9 7 ?_)
 refine W.call (Mp:=Hb) (E1 (gu.mono Ns RI)) rfl (ae ai) ?_
 intro v99 G96 aKr NA q97
 refine match q97 with|⟨aDQ,aSK⟩=> ?_
 subst aDQ
 refine W.perm (ae ai).symm (g9 8 ?_)
 rfl

end Go.Proofs.YtfhnamngaofccaaGreat

namespace Go.Fw
open Go Go.RowKit
def fY (te Tb:TypeId) (b:Nat) (c:aQ) (G:GH) (l:List Nd) (M:MH):Prop:=
 ∃(v:Value) (Mo:MH),M=(b,.cells (List.toArray [.int .i64 c.bu,.int .i64 c.leaf,.int .i64 c.bud,.int .i64 c.aL,.int .i64 c.rest,v]) Tb (0,0))::Mo∧aP bU te G v l Mo
variable {l:List Nd}
theorem fY.to{te Tb b:Nat}{c:aQ}{G:GH}{l':List Nd}{M:MH}(h:fY te Tb b c G l M)(e:l=l'):fY te Tb b c G l' M:=e▸h
theorem Pc{p:Int}(h:0≤p∧p<l.length):ag l p=l[p.toNat]'aa:=by
 have:=jN (l:=l) (k:=p.toNat) aa
 rwa [show((p.toNat:Nat):Int)=p by omega]at this
end Go.Fw
namespace Go.Proofs.YtfhnamngaofccaaGreat
open Go Go.Fw Go.RowKit
attribute [local irreducible] Ok W WC
variable {G:GH} {l:List Nd} {bN:Value}
theorem awP(bJ:Int)(aU:Int)(bK:Int)(aI:Int)(aV:Int)(az:ax bU G bN l):
    Fc Tryz.prog 7 [.agg #[iV bJ,iV aU,iV bK,iV aI,iV aV],bN] G [] (fun v G' M'=>∃b,v=aq b∧fY 57 48 b (⟨bJ,aU,bK,aI,aV⟩:aQ) G' l M'):=by
 obtain⟨aW,aX,rfl⟩:=az.form
 have hl:=az.aH
 have uT:l.length*152≤140737488355328:=az.bytes
 refine Fc.go [.tmp 4] Tryz.func7 Tryz.ntmps7 rfl (fun w0=>(g9 2 ?_))
 refine W.box (L:=[iV _,iV _,iV _,iV _,iV _]) rfl rfl (fun b1=>(g9 4 ?_))
 refine WC.dw bi.k9 (d9 [0,2] ?_)
 refine WD.a1 1 rfl (W.mz (e:=bU) eY cU bq rfl (fun v2 Bu ho4=>(W.perm (ae ai).symm ?_)))
 have q8:=ho4.form
 refine match q8 with|⟨sa5,sc6,Es⟩=> ?_
 subst Es
 refine W.nn (WD.a1 3 rfl (W.app (e:=bU) eY cU bq rfl B1 rfl rfl (ho4) (az) (ae ai) (by show(List.length _+List.length _)*152≤_;simp;omega) (fun v9 CM ayo=>(W.perm (ae ai).symm ?_))))
 have q15:=ayo.form
 refine match q15 with|⟨aM1,aM2,Jl⟩=> ?_
 subst Jl
 refine W.nn (WD.tk 4 rfl (aM (L:=[iV _,iV _,iV _,iV _,iV _,lV _ _ _]) aHw aHv rfl rfl rfl) (WD.a1 5 rfl (W.box (L:=[iV _,iV _,iV _,iV _,iV _,lV _ _ _]) rfl rfl (fun b16=>(W.nn (d9 [6] ?_))))))
 refine g9 3 ?_
 refine⟨.inr rfl,[_],⟨rfl,trivial⟩,((b16,aj 48 [iV bJ,iV aU,iV bK,iV aI,iV aV,lV aM1 (([]++l)).length aM2])::(CM++[])),(bi.cons _).k9,?_⟩
 exact⟨_,rfl,⟨_,_,congrArg _ (List.append_nil _),ayo⟩⟩

variable {bS:MH} {b_s:Nat}
theorem YP{c:aQ}(az:aP bU 57 G bN l bS)(hp0:0<l.length∧l.length≤4096)(oQ:i64 ((ag l 0).level+1))(j3:∀m∈(ag l 0).af,m.key.b.size<140737488355328):
    Fc Tryz.prog 82 [aq b_s] G ((b_s,aj 48 [iV c.bu,iV c.leaf,iV c.bud,iV c.aL,iV c.rest,bN])::(bS)) (fun v G' M'=>v=iV (cG c l).1∧fY 57 48 b_s c G' (cG c l).2 M'):=by
 obtain⟨aW,aX,rfl⟩:=az.form
 have hl:=az.aH
 have uT:l.length*152≤140737488355328:=az.bytes
 obtain⟨hp1,hp2⟩:=hp0
 have hg0:ag l 0=l[0]'aa:=jN (k:=0) aa
 rw [hg0]at oQ j3
 have hxi:i64 (l.length:Int):=⟨aa,aa⟩
 have JC:i64 ((l.length:Int)+1):=⟨aa,aa⟩
 refine Fc.go [.tmp 2] Tryz.func82 Tryz.ntmps82 rfl (fun w0=>(WC.perm (M':=((b_s,aj 48 [iV c.bu,iV c.leaf,iV c.bud,iV c.aL,iV c.rest,lV aW l.length aX])::(bS++[]))) (by simp) (g9 28 ?_)))
 refine az.aN (i:=0) aa (fun _ _ _ _ _ _ _ _ Vy Qp aej aek ael Vz=>(W.ok (aE (i:=0) eY cU az rfl rfl ⟨aa,aa⟩) (W.ok (bM (vs:=qn) cU Vy (ae ai) rfl rfl rfl (by simp)) (g9 2 ?_))))
 refine W.call (Mp:=[]) (ahP (cc Qp aej aek ael Vz) (l.length:Int) ((l.length:Int)+1) (by assumption) (by assumption) oQ j3) rfl ai ?_
 intro _ G21 _ xM QT
 refine match QT with|⟨yH,_,CY,_,_,_,Xo,aM3,amo,T1⟩=> ?_
 subst yH
 subst CY
 subst Xo
 refine match aM3 with|⟨_,_,_,_,_,_,_,_,VH,ars,art,aru,arv,ajc⟩=> ?_
 subst VH
 refine match amo with|⟨_,_,_,_,_,_,_,_,Ws,YQ,YR,YS,YT,Pd⟩=> ?_
 subst Ws
 refine match T1 with|⟨_,_,_,_,_,_,_,_,Dh,CN,CO,CP,CQ,zQ⟩=> ?_
 subst Dh
 refine g9 5 ?_
 refine W.alloc bq (fun b32=>(W.alloc bq (fun Ly=>(W.alloc bq (fun b34=>(g9 13 ?_))))))
 refine WC.cond rfl (fun Lx=> ?_) (fun Lx=> ?_)
 ·refine g9 7 ?_
  refine⟨.inr rfl,[_],⟨rfl,trivial⟩,((b_s,aj 48 [iV c.bu,iV c.leaf,iV c.bud,iV c.aL,iV c.rest,lV aW l.length aX])::(bS++[])),((bi.k9.cons _).cons _).cons _,?_⟩
  exact⟨congrArg (fun p:Int×List Nd=>Value.int .i64 p.1) (px (x:=(l.length:Int)) (y:=(l.length:Int)+1) (by rw [hg0];simpa using Lx)).symm,fY.to ⟨_,_,congrArg _ (List.append_nil _),(az.mono xM)⟩ (congrArg Prod.snd (px (x:=(l.length:Int)) (y:=(l.length:Int)+1) (by rw [hg0];simpa using Lx))).symm⟩
 have agh:(cP (ag l 0) (l.length:Int) ((l.length:Int)+1)).2.2.2=true:=by rw [hg0];simpa using Lx
 refine g9 14 ?_
 refine WC.cd (fun PB Qz=> ?_) (fun PB Qz=> ?_)
 ·try dsimp only at Qz
  refine g9 7 ?_
  refine⟨.inr rfl,[_],⟨rfl,trivial⟩,((b_s,aj 48 [iV c.bu,iV c.leaf,iV c.bud,iV c.aL,iV c.rest,lV aW l.length aX])::(bS++[])),((bi.k9.cons _).cons _).cons _,?_⟩
  exact⟨congrArg (fun p:Int×List Nd=>Value.int .i64 p.1) (py agh aa).symm,fY.to ⟨_,_,congrArg _ (List.append_nil _),(az.mono xM)⟩ (congrArg Prod.snd (py agh aa)).symm⟩
 try dsimp only at Qz
 refine g9 3 ?_
 refine WC.dw (((eu.k9.k9).k9).k9) (d9 [0,1,2,3,4] ?_)
 refine(az.mono xM).aN (i:=0) aa (fun _ _ _ _ _ _ _ _ alW aQd aQe aQf aQg aM4=>(WD.tk 5 rfl (aE (i:=0) eY cU (az.mono xM) rfl rfl ⟨aa,aa⟩) (WD.a1 6 rfl (W.dF (i:=0) (o:=0) (vs:=qn) (a':=((cP (l[0]'aa) (l.length:Int) ((l.length:Int)+1))).1) cU rfl rfl rfl rfl rfl ((az.mono xM)) (ae (ae (ae (ae ai)))) aa (by decide) (fun cs h=>by obtain⟨_,_,_,_,_,_,_,_,rfl,_⟩:=h;exact(cc ars art aru arv ajc)) (fun sD AK=>(W.perm (ae (ae (ae (ae ai)))).symm (W.nn (g9 3 ?_))))))))
 refine WC.dw ((((eu.cons _).k9).k9).k9) (d9 [0,1,2,3,5,6] ?_)
 refine WD.any [4,7] (by kernel_rfl) rfl ⟨WD.ap ?_,WD.ap ?_,trivial⟩
 ·refine g9 1 ?_
  refine W.nn (WD.a1 7 rfl (W.lit (e:=bU) (l:=[((cP (l[0]'aa) (l.length:Int) ((l.length:Int)+1))).2.1,((cP (l[0]'aa) (l.length:Int) ((l.length:Int)+1))).2.2.1]) (css:=[[iV _,iV _,lV _ _ _,lV _ _ _,sV _,.bool _,iV _,iV _,lV _ _ _,lV _ _ _],[iV _,iV _,lV _ _ _,lV _ _ _,sV _,.bool _,iV _,iV _,lV _ _ _,lV _ _ _]]) eY cU bq rfl rfl rfl rfl rfl rfl ⟨(cc YQ YR YS YT Pd),(cc CN CO CP CQ zQ),trivial⟩ (fun aXV G41 yG aM5=>(W.nn (WD.a1 8 rfl (W.app (e:=bU) eY cU bq rfl B1 rfl rfl ((AK.mono yG)) (aM5) (ae (ae (ae (ae ai)))) (by show(List.length _+List.length _)*152≤_;rw [List.length_set];simp;omega) (fun v42 ayj ayp=>(W.perm (ae (ae (ae (ae ai)))).symm ?_))))))))
  have q48:=ayp.form
  refine match q48 with|⟨aM6,aM7,Vs⟩=> ?_
  subst Vs
  refine W.nn (d9 [9,10,11] ?_)
  refine g9 8 ?_
  refine⟨.inr rfl,[_],⟨rfl,trivial⟩,((b_s,aj 48 [iV c.bu,iV c.leaf,iV c.bud,iV c.aL,iV c.rest,lV aM6 ((((l).set (0) ((cP (l[0]'aa) (l.length:Int) ((l.length:Int)+1))).1)++[((cP (l[0]'aa) (l.length:Int) ((l.length:Int)+1))).2.1,((cP (l[0]'aa) (l.length:Int) ((l.length:Int)+1))).2.2.1])).length aM7])::(ayj++[])),((bi.k9.cons _).cons _).cons _,?_⟩
  have hE:=pz (c:=c) agh aa
  rw [hg0]at hE
  exact⟨congrArg (fun p:Int×List Nd=>Value.int .i64 p.1) hE.symm,fY.to ⟨_,_,congrArg _ (List.append_nil _),ayp⟩ (congrArg Prod.snd hE).symm⟩
 refine W.lit (e:=bU) (l:=[((cP (l[0]'aa) (l.length:Int) ((l.length:Int)+1))).2.1,((cP (l[0]'aa) (l.length:Int) ((l.length:Int)+1))).2.2.1]) (css:=[[iV _,iV _,lV _ _ _,lV _ _ _,sV _,.bool _,iV _,iV _,lV _ _ _,lV _ _ _],[iV _,iV _,lV _ _ _,lV _ _ _,sV _,.bool _,iV _,iV _,lV _ _ _,lV _ _ _]]) eY cU bq rfl rfl rfl rfl rfl rfl ⟨(cc YQ YR YS YT Pd),(cc CN CO CP CQ zQ),trivial⟩ (fun aKC G49 yt anW=>(W.nn (WD.a1 4 rfl (g9 1 ?_))))
 refine W.nn (WD.a1 8 rfl (W.app (e:=bU) eY cU bq rfl B1 rfl rfl ((AK.mono yt)) (anW) (ae (ae (ae (ae ai)))) (by show(List.length _+List.length _)*152≤_;rw [List.length_set];simp;omega) (fun v50 Fu HT=>(W.perm (ae (ae (ae (ae ai)))).symm ?_))))
 have q56:=HT.form
 refine match q56 with|⟨Xa,Xb,yI⟩=> ?_
 subst yI
 refine W.nn (d9 [9,10,11] ?_)
 refine g9 8 ?_
 refine⟨.inr rfl,[_],⟨rfl,trivial⟩,((b_s,aj 48 [iV c.bu,iV c.leaf,iV c.bud,iV c.aL,iV c.rest,lV Xa ((((l).set (0) ((cP (l[0]'aa) (l.length:Int) ((l.length:Int)+1))).1)++[((cP (l[0]'aa) (l.length:Int) ((l.length:Int)+1))).2.1,((cP (l[0]'aa) (l.length:Int) ((l.length:Int)+1))).2.2.1])).length Xb])::(Fu++[])),((bi.k9.cons _).cons _).cons _,?_⟩
 have hE:=pz (c:=c) agh aa
 rw [hg0]at hE
 exact⟨congrArg (fun p:Int×List Nd=>Value.int .i64 p.1) hE.symm,fY.to ⟨_,_,congrArg _ (List.append_nil _),HT⟩ (congrArg Prod.snd hE).symm⟩

theorem BM{c:aQ}(az:aP bU 57 G bN l bS)(i:Int):
    Fc Tryz.prog 128 [aq b_s,iV i] G ((b_s,aj 48 [iV c.bu,iV c.leaf,iV c.bud,iV c.aL,iV c.rest,bN])::(bS)) (fun v G' M'=>v=.bool (decide (0≤i∧i<(l.length:Int)))∧M'=(b_s,aj 48 [iV c.bu,iV c.leaf,iV c.bud,iV c.aL,iV c.rest,bN])::bS):=by
 obtain⟨aW,aX,rfl⟩:=az.form
 have hl:=az.aH
 refine Fc.go [.tmp 4] Tryz.func128 Tryz.ntmps128 rfl (fun w0=>(WC.perm (M':=((b_s,aj 48 [iV c.bu,iV c.leaf,iV c.bud,iV c.aL,iV c.rest,lV aW l.length aX])::(bS++[]))) (by simp) (g9 10 ?_)))
 refine W.sd 7 (fun h6 p6=> ?_) (fun h6 p6=> ?_)
 ·refine g9 19 ?_
  refine⟨.inr rfl,[_],⟨rfl,trivial⟩,((b_s,aj 48 [iV c.bu,iV c.leaf,iV c.bud,iV c.aL,iV c.rest,lV aW l.length aX])::(bS++[])),bi.k9,?_⟩
  refine⟨congrArg Value.bool ?_,congrArg _ (List.append_nil _)⟩
  first|(simp_all;done)|(simp_all;omega)
 refine g9 12 ?_
 refine⟨.inr rfl,[_],⟨rfl,trivial⟩,((b_s,aj 48 [iV c.bu,iV c.leaf,iV c.bud,iV c.aL,iV c.rest,lV aW l.length aX])::(bS++[])),bi.k9,?_⟩
 refine⟨congrArg Value.bool ?_,congrArg _ (List.append_nil _)⟩
 first|(simp_all;done)|(simp_all;omega)

theorem YU{c:aQ}(az:aP bU 57 G bN l bS)(p:Int)(i:Nat)(mj:i64 ((i:Nat):Int))(hS:sW l)(hSl:eQ l):
    Fc Tryz.prog 84 [aq b_s,iV p,aT i] G ((b_s,aj 48 [iV c.bu,iV c.leaf,iV c.bud,iV c.aL,iV c.rest,bN])::(bS)) (fun v G' M'=>v=iV (mh c l p i).1∧fY 57 48 b_s c G' (mh c l p i).2 M'):=by
 obtain⟨aW,aX,rfl⟩:=az.form
 have hl:=az.aH
 have uT:l.length*152≤140737488355328:=az.bytes
 have Ji:=hS.1
 have pV:=mj.1
 have gS:=mj.2
 have JC:i64 (l.length:Int):=⟨aa,aa⟩
 refine Fc.go [.tmp 6] Tryz.func84 Tryz.ntmps84 rfl (fun w0=>(WC.perm (M':=((b_s,aj 48 [iV c.bu,iV c.leaf,iV c.bud,iV c.aL,iV c.rest,lV aW l.length aX])::(bS++[]))) (by simp) (g9 10 ?_)))
 refine W.call (Mp:=((b_s,aj 48 [iV c.bu,iV c.leaf,iV c.bud,iV c.aL,iV c.rest,lV aW l.length aX])::bS)) (Mr:=[]) (BM (c:=c) az _) rfl ((ai.cons _).trans ai) ?_
 intro v4 G1 Bu fL q2
 refine match q2 with|⟨e_5,rD⟩=> ?_
 subst e_5
 subst rD
 refine W.perm (M':=((b_s,aj 48 [iV c.bu,iV c.leaf,iV c.bud,iV c.aL,iV c.rest,lV aW l.length aX])::(bS++[]))) ((ai.cons _).trans ai).symm (g9 2 ?_)
 refine W.sm 18 (fun iu fM=> ?_) (fun iu fM=> ?_)
 ·try dsimp only at fM
  refine g9 42 ?_
  refine⟨.inr rfl,[_],⟨rfl,trivial⟩,((b_s,aj 48 [iV c.bu,iV c.leaf,iV c.bud,iV c.aL,iV c.rest,lV aW l.length aX])::(bS++[])),bi.k9,?_⟩
  have hE:=jl (c:=c) (l:=l) (p:=p) (i:=i) (.inl (by simp at iu;omega))
  exact⟨congrArg (fun q:Int×List Nd=>Value.int .i64 q.1) hE.symm,fY.to ⟨_,_,congrArg _ (List.append_nil _),(az.mono fL)⟩ (congrArg Prod.snd hE).symm⟩
 try dsimp only at fM
 have h1:0≤p∧p<(l.length:Int):=by simpa using iu
 have LH:ag l p=(l[p.toNat]'aa):=Pc h1
 refine g9 6 ?_
 refine W.sd 22 (fun gD lX=> ?_) (fun gD lX=> ?_)
 ·try dsimp only at lX
  exfalso;omega
 try dsimp only at lX
 refine g9 13 ?_
 refine(az.mono fL).aN (i:=p.toNat) aa (fun _ _ _ _ _ _ _ _ he7 aSL aSM aSN aSO aQh=>(W.ok (aE (i:=p.toNat) eY cU (az.mono fL) rfl rfl ⟨aa,aa⟩) (g9 3 ?_)))
 refine W.ok (bM (vs:=lc9) qS he7 (ae ai) rfl rfl rfl (by simp)) (g9 6 ?_)
 refine W.sd 35 (fun j8 rB=> ?_) (fun j8 rB=> ?_)
 ·try dsimp only at rB
  refine g9 25 ?_
  refine⟨.inr rfl,[_],⟨rfl,trivial⟩,((b_s,aj 48 [iV c.bu,iV c.leaf,iV c.bud,iV c.aL,iV c.rest,lV aW l.length aX])::(bS++[])),bi.k9,?_⟩
  have hE:=jl (c:=c) (l:=l) (p:=p) (i:=i) (.inr (.inl (by rw [LH];omega)))
  exact⟨congrArg (fun q:Int×List Nd=>Value.int .i64 q.1) hE.symm,fY.to ⟨_,_,congrArg _ (List.append_nil _),(az.mono fL)⟩ (congrArg Prod.snd hE).symm⟩
 try dsimp only at rB
 have h2:¬(ag l p).kids.length≤i:=by rw [LH];omega
 have hkd:((l[p.toNat]'aa).kids[i]'aa)=cK l p i:=by unfold cK;rw [LH,List.getD_eq_getElem?_getD,List.getElem?_eq_getElem aa];rfl
 refine g9 13 ?_
 refine(az.mono fL).aN (i:=p.toNat) aa (fun _ _ _ _ _ _ _ _ wk aQi awQ aQj aQk aM8=>(W.ok (aE (i:=p.toNat) eY cU (az.mono fL) rfl rfl ⟨aa,aa⟩) (g9 3 ?_)))
 refine W.ok (bM (vs:=lc9) qS wk (ae ai) rfl rfl rfl (by simp)) (g9 3 ?_)
 refine awQ.a2 (i:=i) aa (fun TR ax8=>(g9 4 ?_))
 refine W.call (Mp:=((b_s,aj 48 [iV c.bu,iV c.leaf,iV c.bud,iV c.aL,iV c.rest,lV aW l.length aX])::bS)) (Mr:=[]) (BM (c:=c) (az.mono fL) _) rfl ((ai.cons _).trans ai) ?_
 intro v22 G19 AG jV RD
 refine match RD with|⟨uf,rA⟩=> ?_
 subst uf
 subst rA
 refine W.perm (M':=((b_s,aj 48 [iV c.bu,iV c.leaf,iV c.bud,iV c.aL,iV c.rest,lV aW l.length aX])::(bS++[]))) ((ai.cons _).trans ai).symm (g9 5 ?_)
 refine WC.cn (fun Qo p49=> ?_) (fun Qo p49=> ?_)
 ·try dsimp only at p49
  refine g9 7 ?_
  refine⟨.inr rfl,[_],⟨rfl,trivial⟩,((b_s,aj 48 [iV c.bu,iV c.leaf,iV c.bud,iV c.aL,iV c.rest,lV aW l.length aX])::(bS++[])),bi.k9,?_⟩
  have hE:=jl (c:=c) (l:=l) (p:=p) (i:=i) (.inr (.inr (by rw [←hkd];simp at Qo;omega)))
  exact⟨congrArg (fun q:Int×List Nd=>Value.int .i64 q.1) hE.symm,fY.to ⟨_,_,congrArg _ (List.append_nil _),(az.mono aS)⟩ (congrArg Prod.snd hE).symm⟩
 try dsimp only at p49
 have h3:0≤cK l p i∧cK l p i<(l.length:Int):=by rw [←hkd];simpa using Qo
 have YV:ag l (cK l p i)=(l[(cK l p i).toNat]'aa):=Pc h3
 have j3:∀m∈(l[(cK l p i).toNat]'aa).af,m.key.b.size<140737488355328:=fun m hm=>by have:=((hS.2 _ (List.getElem_mem _)).2.2.2.2.2.1 m hm).1;omega
 have WO:(l[p.toNat]'aa).ab.length≤1000000∧(l[p.toNat]'aa).kids.length≤1000000:=by have:=hS.2 (l[p.toNat]'aa) (List.getElem_mem _);exact⟨by have:=this.2.1;omega,by have:=this.1;omega⟩
 refine g9 14 ?_
 refine(az.mono (fL.trans jV)).aN (i:=p.toNat) aa (fun _ _ _ _ _ _ _ _ Fp aem aen Qq aeo VA=>(W.ok (aE (i:=p.toNat) eY cU (az.mono aS) rfl rfl ⟨aa,aa⟩) (W.ok (bM (vs:=qn) cU Fp (ae ai) rfl rfl rfl (by simp)) (W.ay (ue _ _ _ _ _ (cc aem aen Qq aeo VA)) rfl (g9 2 ?_)))))
 refine WC.cond rfl (fun I9=> ?_) (fun I9=> ?_)
 ·refine g9 7 ?_
  refine⟨.inr rfl,[_],⟨rfl,trivial⟩,((b_s,aj 48 [iV c.bu,iV c.leaf,iV c.bud,iV c.aL,iV c.rest,lV aW l.length aX])::(bS++[])),bi.k9,?_⟩
  have hE:=yd (c:=c) (l:=l) (p:=p) (i:=i) h1 h2 h3 (by rw [LH];simpa using I9)
  exact⟨congrArg (fun q:Int×List Nd=>Value.int .i64 q.1) hE.symm,fY.to ⟨_,_,congrArg _ (List.append_nil _),(az.mono aS)⟩ (congrArg Prod.snd hE).symm⟩
 have h4:cw c (ag l p)=false:=by rw [LH];simpa using I9
 refine g9 12 ?_
 refine WC.join (X:=(Unit)×Nat×List Value×Nat×List Value) (fun u7=>[(10,sV (aB (l[(cK l p i).toNat]'aa) (l.length:Int)).2.2.1.b),(11,.bool (aB (l[(cK l p i).toNat]'aa) (l.length:Int)).2.2.2),(0,aq b_s),(1,iV p),(2,aT i),(7,aT ((l).length)),(8,.pointer (some ⟨u7.2.1,0,none⟩)),(9,.pointer (some ⟨u7.2.2.2.1,0,none⟩))]) (fun u7 G Ml=>Ml=((u7.2.1,.cells (List.toArray u7.2.2.1) 57 (0,0))::((u7.2.2.2.1,.cells (List.toArray u7.2.2.2.2) 57 (0,0))::((b_s,aj 48 [iV c.bu,iV c.leaf,iV c.bud,iV c.aL,iV c.rest,lV aW l.length aX])::(bS++[]))))∧ba G u7.2.2.1 ((aB (l[(cK l p i).toNat]'aa) (l.length:Int)).1)∧ba G u7.2.2.2.2 ((aB (l[(cK l p i).toNat]'aa) (l.length:Int)).2.1)) ?_ ?_
 ·refine WC.dw bi.k9 (d9 [0,1,2,3,4,5,6,7,8] ?_)
  refine(az.mono (fL.trans jV)).aN (i:=p.toNat) aa (fun _ _ _ _ _ _ _ _ L9 auD aep auE auF alR=>(WD.tk 9 rfl (aE (i:=p.toNat) eY cU (az.mono aS) rfl rfl ⟨aa,aa⟩) (d9 [10] ?_)))
  refine WD.tk 11 rfl (bM (vs:=lc9) qS L9 (ae ai) rfl rfl rfl (by simp)) (d9 [12] ?_)
  refine aep.a2 (i:=i) aa (fun adO aLP=>(d9 [13,14] ?_))
  refine(az.mono (fL.trans jV)).aN (i:=(cK l p i).toNat) aa (fun _ _ _ _ _ _ _ _ aM9 Dw Dx Dy Dz zj=>(WD.tk 15 rfl (aE (i:=(cK l p i).toNat) eY cU (az.mono aS) rfl rfl ⟨aa,aa⟩) (WD.tk 16 rfl (bM (vs:=qn) cU aM9 (ae ai) rfl rfl rfl (by simp)) (d9 [17] ?_))))
  refine WD.any [18,24,25] (by kernel_rfl) rfl ⟨WD.ap ?_,WD.ap ?_,WD.ap ?_,trivial⟩
  ·refine W.cM (mL (cc Dw Dx Dy Dz zj) (l.length:Int) JC j3) rfl (fun KU KV KW KX KY KZ K0 K1 K2 K3 K4 K5 K6 K7 K8 K9 G41 yG YW YX YY YZ Pe Y0 Y1 Y2 Y3 Pf=>(W.nn (d9 [19,20,21,22,23] ?_)))
   refine WD.any [24,25] (by kernel_rfl) rfl ⟨WD.ap ?_,WD.ap ?_,trivial⟩
   ·refine W.alloc bq (fun b50=>(W.nn (WD.a1 25 rfl (W.alloc bq (fun b51=>(W.nn (d9 [26,27,28,29] ?_)))))))
    refine WD.P1 (M':=((b50,aj 57 (cj ((aB (l[(cK l p i).toNat]'aa) (l.length:Int)).1) KU KV KW KX KY KZ K0 K1))::((b51,aj 57 (cj ((aB (l[(cK l p i).toNat]'aa) (l.length:Int)).2.1) K2 K3 K4 K5 K6 K7 K8 K9))::((b_s,aj 48 [iV c.bu,iV c.leaf,iV c.bud,iV c.aL,iV c.rest,lV aW l.length aX])::(bS++[]))))) (by kernel_rfl) bi (List.Perm.swap _ _ _) (nU ?_)
    exact⟨yG,((),b50,(cj ((aB (l[(cK l p i).toNat]'aa) (l.length:Int)).1) KU KV KW KX KY KZ K0 K1),b51,(cj ((aB (l[(cK l p i).toNat]'aa) (l.length:Int)).2.1) K2 K3 K4 K5 K6 K7 K8 K9)),aZ,⟨rfl,(by exact(cc YW YX YY YZ Pe)),(by exact(cc Y0 Y1 Y2 Y3 Pf))⟩⟩
   refine W.alloc bq (fun sZ=>(W.nn (WD.a1 24 rfl (W.alloc bq (fun b53=>(W.nn (d9 [26,27,28,29] ?_)))))))
   refine g9 2 ?_
   exact⟨yG,((),b53,(cj ((aB (l[(cK l p i).toNat]'aa) (l.length:Int)).1) KU KV KW KX KY KZ K0 K1),sZ,(cj ((aB (l[(cK l p i).toNat]'aa) (l.length:Int)).2.1) K2 K3 K4 K5 K6 K7 K8 K9)),aZ,⟨rfl,(by exact(cc YW YX YY YZ Pe)),(by exact(cc Y0 Y1 Y2 Y3 Pf))⟩⟩
  ·refine W.alloc bq (fun VC=>(W.nn ?_))
   refine WD.any [18,25] (by kernel_rfl) rfl ⟨WD.ap ?_,WD.ap ?_,trivial⟩
   ·refine W.cM (mL (cc Dw Dx Dy Dz zj) (l.length:Int) JC j3) rfl (fun Y4 Y5 Y6 Y7 Y8 Y9 Za Zb Zc Zd Ze Zf Zg Zh Zi Zj G55 il JK JL JM JN EM arw arx ary arz ajd=>(W.nn (d9 [19,20,21,22,23] ?_)))
    refine WD.a1 25 rfl (W.alloc bq (fun b64=>(W.nn (d9 [26,27,28,29] ?_))))
    refine WD.P1 (M':=((VC,aj 57 (cj ((aB (l[(cK l p i).toNat]'aa) (l.length:Int)).1) Y4 Y5 Y6 Y7 Y8 Y9 Za Zb))::((b64,aj 57 (cj ((aB (l[(cK l p i).toNat]'aa) (l.length:Int)).2.1) Zc Zd Ze Zf Zg Zh Zi Zj))::((b_s,aj 48 [iV c.bu,iV c.leaf,iV c.bud,iV c.aL,iV c.rest,lV aW l.length aX])::(bS++[]))))) (by kernel_rfl) bi (List.Perm.swap _ _ _) (nU ?_)
    exact⟨il,((),VC,(cj ((aB (l[(cK l p i).toNat]'aa) (l.length:Int)).1) Y4 Y5 Y6 Y7 Y8 Y9 Za Zb),b64,(cj ((aB (l[(cK l p i).toNat]'aa) (l.length:Int)).2.1) Zc Zd Ze Zf Zg Zh Zi Zj)),aZ,⟨rfl,(by exact(cc JK JL JM JN EM)),(by exact(cc arw arx ary arz ajd))⟩⟩
   refine W.alloc bq (fun b65=>(W.nn (WD.a1 18 rfl (W.cM (mL (cc Dw Dx Dy Dz zj) (l.length:Int) JC j3) rfl (fun Zk Zl Zm Zn Zo Zp Zq Zr Zs Zt Zu Zv Zw Zx Zy Zz G66 CZ arA arB arC arD aje arE arF arG arH ajf=>(W.nn (d9 [19,20,21,22,23,26,27,28,29] ?_)))))))
   refine WD.P1 (M':=((VC,aj 57 (cj ((aB (l[(cK l p i).toNat]'aa) (l.length:Int)).1) Zk Zl Zm Zn Zo Zp Zq Zr))::((b65,aj 57 (cj ((aB (l[(cK l p i).toNat]'aa) (l.length:Int)).2.1) Zs Zt Zu Zv Zw Zx Zy Zz))::((b_s,aj 48 [iV c.bu,iV c.leaf,iV c.bud,iV c.aL,iV c.rest,lV aW l.length aX])::(bS++[]))))) (by kernel_rfl) bi (List.Perm.swap _ _ _) (nU ?_)
   exact⟨CZ,((),VC,(cj ((aB (l[(cK l p i).toNat]'aa) (l.length:Int)).1) Zk Zl Zm Zn Zo Zp Zq Zr),b65,(cj ((aB (l[(cK l p i).toNat]'aa) (l.length:Int)).2.1) Zs Zt Zu Zv Zw Zx Zy Zz)),aZ,⟨rfl,(by exact(cc arA arB arC arD aje)),(by exact(cc arE arF arG arH ajf))⟩⟩
  refine W.alloc bq (fun b75=>(W.nn ?_))
  refine WD.any [18,24] (by kernel_rfl) rfl ⟨WD.ap ?_,WD.ap ?_,trivial⟩
  ·refine W.cM (mL (cc Dw Dx Dy Dz zj) (l.length:Int) JC j3) rfl (fun arI arJ arK arL arM arN arO arP arQ arR arS arT arU arV arW arX G76 aqs arY arZ ar0 ar1 ajg ar2 ar3 ar4 ar5 ajh=>(W.nn (d9 [19,20,21,22,23] ?_)))
   refine WD.a1 24 rfl (W.alloc bq (fun b85=>(W.nn (d9 [26,27,28,29] ?_))))
   refine g9 2 ?_
   exact⟨aqs,((),b85,(cj ((aB (l[(cK l p i).toNat]'aa) (l.length:Int)).1) arI arJ arK arL arM arN arO arP),b75,(cj ((aB (l[(cK l p i).toNat]'aa) (l.length:Int)).2.1) arQ arR arS arT arU arV arW arX)),aZ,⟨rfl,(by exact(cc arY arZ ar0 ar1 ajg)),(by exact(cc ar2 ar3 ar4 ar5 ajh))⟩⟩
  refine W.alloc bq (fun b86=>(W.nn (WD.a1 18 rfl (W.cM (mL (cc Dw Dx Dy Dz zj) (l.length:Int) JC j3) rfl (fun ar6 ar7 ar8 ar9 asa asb asc asd ase asf asg ash asi asj asl asm G87 ayn asn aso asp asq aji asr ass ast asu ajj=>(W.nn (d9 [19,20,21,22,23,26,27,28,29] ?_)))))))
  refine g9 2 ?_
  exact⟨ayn,((),b86,(cj ((aB (l[(cK l p i).toNat]'aa) (l.length:Int)).1) ar6 ar7 ar8 ar9 asa asb asc asd),b75,(cj ((aB (l[(cK l p i).toNat]'aa) (l.length:Int)).2.1) ase asf asg ash asi asj asl asm)),aZ,⟨rfl,(by exact(cc asn aso asp asq aji)),(by exact(cc asr ass ast asu ajj))⟩⟩
 rintro⟨u7,B_8,C_8,B_9,C_9⟩ aNa G96 _ NA ⟨rfl,kC,ayq⟩
 try dsimp only at kC ayq
 refine match ayq with|⟨_,_,_,_,_,_,_,_,aNb,ZA,ZB,ZC,ZD,Pg⟩=> ?_
 subst aNb
 refine match kC with|⟨_,_,_,_,_,_,_,_,acA,asv,asw,asx,asy,ajk⟩=> ?_
 subst acA
 refine WC.fr (f:=dO aNa [(10,sV (aB (l[(cK l p i).toNat]'aa) (l.length:Int)).2.2.1.b),(11,.bool (aB (l[(cK l p i).toNat]'aa) (l.length:Int)).2.2.2),(0,aq b_s),(1,iV p),(2,aT i),(7,aT ((l).length)),(8,aq B_8),(9,aq B_9)]) rfl (g9 7 ?_)
 refine WC.cond rfl (fun h93=> ?_) (fun h93=> ?_)
 ·refine g9 7 ?_
  refine⟨.inr rfl,[_],⟨rfl,trivial⟩,((b_s,aj 48 [iV c.bu,iV c.leaf,iV c.bud,iV c.aL,iV c.rest,lV aW l.length aX])::(bS++[])),(bi.k9.cons _).cons _,?_⟩
  have hE:=lm (c:=c) (l:=l) (p:=p) (i:=i) h1 h2 h3 h4 (.inl (by unfold fQ;rw [YV];simpa using h93))
  exact⟨congrArg (fun q:Int×List Nd=>Value.int .i64 q.1) hE.symm,fY.to ⟨_,_,congrArg _ (List.append_nil _),(az.mono aS)⟩ (congrArg Prod.snd hE).symm⟩
 have h5:(fQ l p i).2.2.2=true:=by unfold fQ;rw [YV];simpa using h93
 refine g9 9 ?_
 refine(az.mono ((fL.trans jV).trans NA)).aN (i:=p.toNat) aa (fun _ _ _ _ _ _ _ _ aDR asz asA asB asC ajl=>(W.ok (aE (i:=p.toNat) eY cU (az.mono aS) rfl rfl ⟨aa,aa⟩) (W.ok (bM (vs:=qn) cU aDR (ae (ae (ae ai))) rfl rfl rfl (by simp)) (g9 3 ?_))))
 refine W.call (Mp:=[]) (aiX (cc asz asA asB asC ajl) i (aB (l[(cK l p i).toNat]'aa) (l.length:Int)).2.2.1 (l.length:Int) WO mj JC) rfl ai ?_
 intro _ aKV _ ES Xc
 refine match Xc with|⟨aDS,_,aDT,_,Bw,aDU⟩=> ?_
 subst aDS
 subst aDT
 subst Bw
 refine match aDU with|⟨_,_,_,_,_,_,_,_,aDV,ajm,ajn,ajo,ajp,adf⟩=> ?_
 subst aDV
 refine g9 3 ?_
 refine W.alloc bq (fun aXW=>(g9 11 ?_))
 refine WC.cond rfl (fun asD=> ?_) (fun asD=> ?_)
 ·refine g9 7 ?_
  refine⟨.inr rfl,[_],⟨rfl,trivial⟩,((b_s,aj 48 [iV c.bu,iV c.leaf,iV c.bud,iV c.aL,iV c.rest,lV aW l.length aX])::(bS++[])),((bi.k9.cons _).cons _).cons _,?_⟩
  have hE:=lm (c:=c) (l:=l) (p:=p) (i:=i) h1 h2 h3 h4 (.inr (by unfold np fQ;rw [YV,LH];simpa using asD))
  exact⟨congrArg (fun q:Int×List Nd=>Value.int .i64 q.1) hE.symm,fY.to ⟨_,_,congrArg _ (List.append_nil _),(az.mono aS)⟩ (congrArg Prod.snd hE).symm⟩
 have h6:(np l p i).2=true:=by unfold np fQ;rw [YV,LH];simpa using asD
 have e9:np l p i=(fE (l[p.toNat]'aa) i (aB (l[(cK l p i).toNat]'aa) (l.length:Int)).2.2.1 (l.length:Int)):=by unfold np fQ;rw [YV,LH]
 have e5:fQ l p i=(aB (l[(cK l p i).toNat]'aa) (l.length:Int)):=by unfold fQ;rw [YV]
 have A1:(aB (l[(cK l p i).toNat]'aa) (l.length:Int)).1.slot=cK l p i:=by rw [←e5];exact(I1 h5).1.trans (di hSl h3).1
 have ae6:((l.set (cK l p i).toNat (aB (l[(cK l p i).toNat]'aa) (l.length:Int)).1).set p.toNat (fE (l[p.toNat]'aa) i (aB (l[(cK l p i).toNat]'aa) (l.length:Int)).2.2.1 (l.length:Int)).1)++[(aB (l[(cK l p i).toNat]'aa) (l.length:Int)).2.1]=yc l p i:=by unfold yc;rw [e9,e5,A1]
 have hls:(l.set (cK l p i).toNat (aB (l[(cK l p i).toNat]'aa) (l.length:Int)).1).length=l.length:=List.length_set
 refine g9 14 ?_
 refine WC.cd (fun aNc asE=> ?_) (fun aNc asE=> ?_)
 ·try dsimp only at asE
  refine g9 7 ?_
  refine⟨.inr rfl,[_],⟨rfl,trivial⟩,((b_s,aj 48 [iV c.bu,iV c.leaf,iV c.bud,iV c.aL,iV c.rest,lV aW l.length aX])::(bS++[])),((bi.k9.cons _).cons _).cons _,?_⟩
  have hE:=ye (c:=c) (l:=l) (p:=p) (i:=i) h1 h2 h3 h4 h5 h6 aa
  exact⟨congrArg (fun q:Int×List Nd=>Value.int .i64 q.1) hE.symm,fY.to ⟨_,_,congrArg _ (List.append_nil _),(az.mono aS)⟩ (congrArg Prod.snd hE).symm⟩
 try dsimp only at asE
 refine g9 3 ?_
 refine WC.dw (((eu.k9.k9).k9).k9) (d9 [0,1,2,3,4,5,6] ?_)
 refine(az.mono (((fL.trans jV).trans NA).trans ES)).aN (i:=(cK l p i).toNat) aa (fun _ _ _ _ _ _ _ _ aSP aNd aNe aNf aNg aGt=>(WD.tk 7 rfl (aE (i:=(cK l p i).toNat) eY cU (az.mono aS) rfl rfl ⟨aa,aa⟩) (WD.a1 8 rfl (W.dF (i:=(cK l p i).toNat) (o:=0) (vs:=qn) (a':=((aB (l[(cK l p i).toNat]'aa) (l.length:Int))).1) cU rfl rfl rfl rfl rfl ((az.mono aS)) (ae (ae (ae (ae ai)))) aa (by decide) (fun cs h=>by obtain⟨_,_,_,_,_,_,_,_,rfl,_⟩:=h;exact(fy ES asv asw asx asy ajk)) (fun aSQ adg=>(W.perm (ae (ae (ae (ae ai)))).symm (W.nn (g9 3 ?_))))))))
 refine WC.dw (((eu.k9.k9).k9).k9) (d9 [0,1,2,3,4,5] ?_)
 refine adg.aN (i:=p.toNat) aa (fun _ _ _ _ _ _ _ _ aSR aNh aNi aNj aNk aGu=>(WD.tk 6 rfl (aE (i:=p.toNat) eY cU adg rfl rfl ⟨aa,aa⟩) (WD.a1 7 rfl (W.dF (i:=p.toNat) (o:=0) (vs:=qn) (a':=((fE (l[p.toNat]'aa) i (aB (l[(cK l p i).toNat]'aa) (l.length:Int)).2.2.1 (l.length:Int))).1) cU rfl rfl rfl rfl rfl (adg) (ae (ae (ae (ae ai)))) aa (by decide) (fun cs h=>by obtain⟨_,_,_,_,_,_,_,_,rfl,_⟩:=h;exact(cc ajm ajn ajo ajp adf)) (fun aAz JT=>(W.perm (ae (ae (ae (ae ai)))).symm (W.nn (g9 3 ?_))))))))
 refine WC.dw ((((eu.cons _).k9).k9).k9) (d9 [0,1,2,3,5] ?_)
 refine WD.any [4,6] (by kernel_rfl) rfl ⟨WD.ap ?_,WD.ap ?_,trivial⟩
 ·refine g9 1 ?_
  refine W.nn (WD.a1 6 rfl (W.lit (e:=bU) (l:=[(aB (l[(cK l p i).toNat]'aa) (l.length:Int)).2.1]) (css:=[[iV _,iV _,lV _ _ _,lV _ _ _,sV _,.bool _,iV _,iV _,lV _ _ _,lV _ _ _]]) eY cU bq rfl rfl rfl rfl rfl rfl ⟨(fy ES ZA ZB ZC ZD Pg),trivial⟩ (fun aSS aNl asF aDW=>(W.nn (WD.a1 7 rfl (W.app (e:=bU) eY cU bq rfl B1 rfl rfl ((JT.mono asF)) (aDW) (ae (ae (ae (ae ai)))) (by show(List.length _+List.length _)*152≤_;simp only [List.length_set];simp;omega) (fun aXX adh asG=>(W.perm (ae (ae (ae (ae ai)))).symm ?_))))))))
  have asH:=asG.form
  refine match asH with|⟨aDX,aDY,aDZ⟩=> ?_
  subst aDZ
  refine W.nn (d9 [8,9,10] ?_)
  refine g9 8 ?_
  refine⟨.inr rfl,[_],⟨rfl,trivial⟩,((b_s,aj 48 [iV c.bu,iV c.leaf,iV c.bud,iV c.aL,iV c.rest,lV aDX ((((((l).set ((cK l p i).toNat) ((aB (l[(cK l p i).toNat]'aa) (l.length:Int))).1)).set (p.toNat) ((fE (l[p.toNat]'aa) i (aB (l[(cK l p i).toNat]'aa) (l.length:Int)).2.2.1 (l.length:Int))).1)++[(aB (l[(cK l p i).toNat]'aa) (l.length:Int)).2.1])).length aDY])::(adh++[])),((bi.k9.cons _).cons _).cons _,?_⟩
  have hE:=tS (c:=c) (l:=l) (p:=p) (i:=i) h1 h2 h3 h4 h5 h6 aa
  exact⟨congrArg (fun q:Int×List Nd=>Value.int .i64 q.1) hE.symm,fY.to (⟨_,_,congrArg _ (List.append_nil _),asG⟩:fY 57 48 b_s c _ _ _) (ae6.trans (congrArg Prod.snd hE).symm)⟩
 refine W.lit (e:=bU) (l:=[(aB (l[(cK l p i).toNat]'aa) (l.length:Int)).2.1]) (css:=[[iV _,iV _,lV _ _ _,lV _ _ _,sV _,.bool _,iV _,iV _,lV _ _ _,lV _ _ _]]) eY cU bq rfl rfl rfl rfl rfl rfl ⟨(fy ES ZA ZB ZC ZD Pg),trivial⟩ (fun aST aJi EE aD0=>(W.nn (WD.a1 4 rfl (g9 1 ?_))))
 refine W.nn (WD.a1 7 rfl (W.app (e:=bU) eY cU bq rfl B1 rfl rfl ((JT.mono EE)) (aD0) (ae (ae (ae (ae ai)))) (by show(List.length _+List.length _)*152≤_;simp only [List.length_set];simp;omega) (fun aNm aD1 asI=>(W.perm (ae (ae (ae (ae ai)))).symm ?_))))
 have aNn:=asI.form
 refine match aNn with|⟨aD2,aD3,aD4⟩=> ?_
 subst aD4
 refine W.nn (d9 [8,9,10] ?_)
 refine g9 8 ?_
 refine⟨.inr rfl,[_],⟨rfl,trivial⟩,((b_s,aj 48 [iV c.bu,iV c.leaf,iV c.bud,iV c.aL,iV c.rest,lV aD2 ((((((l).set ((cK l p i).toNat) ((aB (l[(cK l p i).toNat]'aa) (l.length:Int))).1)).set (p.toNat) ((fE (l[p.toNat]'aa) i (aB (l[(cK l p i).toNat]'aa) (l.length:Int)).2.2.1 (l.length:Int))).1)++[(aB (l[(cK l p i).toNat]'aa) (l.length:Int)).2.1])).length aD3])::(aD1++[])),((bi.k9.cons _).cons _).cons _,?_⟩
 have hE:=tS (c:=c) (l:=l) (p:=p) (i:=i) h1 h2 h3 h4 h5 h6 aa
 exact⟨congrArg (fun q:Int×List Nd=>Value.int .i64 q.1) hE.symm,fY.to (⟨_,_,congrArg _ (List.append_nil _),asI⟩:fY 57 48 b_s c _ _ _) (ae6.trans (congrArg Prod.snd hE).symm)⟩

theorem SF{c:aQ}(az:aP bU 57 G bN l bS)(p:Int)(i:Int)(hn9:i<0):
    Fc Tryz.prog 84 [aq b_s,iV p,iV i] G ((b_s,aj 48 [iV c.bu,iV c.leaf,iV c.bud,iV c.aL,iV c.rest,bN])::(bS)) (fun v G' M'=>v=iV 8∧M'=(b_s,aj 48 [iV c.bu,iV c.leaf,iV c.bud,iV c.aL,iV c.rest,bN])::bS):=by
 obtain⟨aW,aX,rfl⟩:=az.form
 have hl:=az.aH
 refine Fc.go [.tmp 6] Tryz.func84 Tryz.ntmps84 rfl (fun w0=>(WC.perm (M':=((b_s,aj 48 [iV c.bu,iV c.leaf,iV c.bud,iV c.aL,iV c.rest,lV aW l.length aX])::(bS++[]))) (by simp) (g9 10 ?_)))
 refine W.call (Mp:=((b_s,aj 48 [iV c.bu,iV c.leaf,iV c.bud,iV c.aL,iV c.rest,lV aW l.length aX])::bS)) (Mr:=[]) (BM (c:=c) az _) rfl ((ai.cons _).trans ai) ?_
 intro v4 G1 Bu fL q2
 refine match q2 with|⟨e_5,rD⟩=> ?_
 subst e_5
 subst rD
 refine W.perm (M':=((b_s,aj 48 [iV c.bu,iV c.leaf,iV c.bud,iV c.aL,iV c.rest,lV aW l.length aX])::(bS++[]))) ((ai.cons _).trans ai).symm (g9 2 ?_)
 refine W.sm 18 (fun iu fM=> ?_) (fun iu fM=> ?_)
 ·refine g9 42 ?_
  refine⟨.inr rfl,[_],⟨rfl,trivial⟩,((b_s,aj 48 [iV c.bu,iV c.leaf,iV c.bud,iV c.aL,iV c.rest,lV aW l.length aX])::(bS++[])),bi.k9,?_⟩
  exact⟨rfl,congrArg _ (List.append_nil _)⟩
 refine g9 6 ?_
 refine W.sd 22 (fun gD lX=> ?_) (fun gD lX=> ?_)
 ·refine g9 38 ?_
  refine⟨.inr rfl,[_],⟨rfl,trivial⟩,((b_s,aj 48 [iV c.bu,iV c.leaf,iV c.bud,iV c.aL,iV c.rest,lV aW l.length aX])::(bS++[])),bi.k9,?_⟩
  exact⟨rfl,congrArg _ (List.append_nil _)⟩
 exfalso;omega

theorem adi{c:aQ}(az:aP bU 57 G bN l bS)(p i:Int)(hi:i64 i)(hS:sW l)(hSl:eQ l):Fc Tryz.prog 84 [aq b_s,iV p,iV i] G ((b_s,aj 48 [iV c.bu,iV c.leaf,iV c.bud,iV c.aL,iV c.rest,bN])::bS) (fun v G' M'=>v=iV (cz c l p i).1∧fY 57 48 b_s c G' (cz c l p i).2 M'):=by
  by_cases hn:i<0
  · refine(SF az p i hn).mono fun v G' M' hle ⟨e1,e2⟩=> ?_
    unfold cz
    rw [if_pos hn]
    exact⟨e1,_,_,e2,az.mono hle⟩
  obtain⟨n,rfl⟩:∃n:Nat,i=(n:Int):=⟨i.toNat,aa⟩
  have h0:=YU (b_s:=b_s) (c:=c) az p n hi hS hSl
  unfold cz
  rw [if_neg hn]
  exact h0
variable {cs:List Value}
theorem adj{c:aQ}{n:Nd}(h:ba G cs n)(k:ah)(hq:mi n):Fc Tryz.prog 81 [.agg #[iV c.bu,iV c.leaf,iV c.bud,iV c.aL,iV c.rest],.agg (List.toArray cs),sV k.b] G [] (fun v _ _=>v=.tuple #[iV (ak c n k).1,iV (ak c n k).2]):=X8 c.bu c.leaf c.bud c.aL c.rest h k hq
theorem adk{c:aQ}{cs2:List Value}{p k:Nd}(h:ba G cs p)(h2:ba G cs2 k)(i:Int)(hq:tQ c.bud p k)(hi:i64 i)(Bx:fk p k i)(oJ:dD p.af)(jj:p.kids.length=p.ab.length+1):Fc Tryz.prog 83 [.agg #[iV c.bu,iV c.leaf,iV c.bud,iV c.aL,iV c.rest],.agg (List.toArray cs),.agg (List.toArray cs2),iV i] G [] (fun v _ _=>v=iV (cg c p k i)):=Xf c.bu c.leaf c.bud c.aL c.rest h h2 i hq hi Bx oJ jj
theorem ajq{c:aQ}(az:aP bU 57 G bN l bS)(a:Int)(k:ah)(ss:List aC)(t:Tree c l ss)(ha:0≤a∧a<(l.length:Int)):
    Fc Tryz.prog 47 [aq b_s,iV a,sV k.b] G ((b_s,aj 48 [iV c.bu,iV c.leaf,iV c.bud,iV c.aL,iV c.rest,bN])::(bS)) (fun v G' M'=>v=.tuple #[iV (dP c l a k).1.1,iV (dP c l a k).1.2.1,iV (dP c l a k).1.2.2]∧fY 57 48 b_s c G' (dP c l a k).2 M'):=by
 obtain⟨aW,aX,rfl⟩:=az.form
 have hl:=az.aH
 have hS:=t.xa
 have LH:l[a.toNat]'aa=ag l a:=(rk ha).symm
 obtain⟨P9,hP9,eP9⟩:=t.rl ha
 have asJ:=(t.fo hP9).1
 rw [eP9]at asJ
 have JW:=x8 t.pX asJ
 have hcp:mi (ag l a):=FQ asJ JW
 have hrn:=t.oD
 have am0:=t.ad1
 have am1:=t.lvl t.root
 rw [hrn]at am0 am1
 have oQ:i64 ((ag l 0).level+1):=⟨aa,aa⟩
 have aNo:∀m∈(ag l 0).af,m.key.b.size<140737488355328:=fun m hm=>by rw [←hrn]at hm;have:=(eR ((t.af t.root).2.1 m hm)).1;omega
 have hlp:=t.pos
 have hl4:=hS.1
 refine Fc.go [.tmp 6,.tmp 7,.tmp 8] Tryz.func47 Tryz.ntmps47 rfl (fun w0=>(WC.perm (M':=((b_s,aj 48 [iV c.bu,iV c.leaf,iV c.bud,iV c.aL,iV c.rest,lV aW l.length aX])::(bS++[]))) (by simp) (g9 14 ?_)))
 have q5:=amm az aa (LH)
 refine match q5 with|⟨_,he1,⟨SG,SH,SI,SJ,SK,SL,SM,SN,e_4,BN,wg,BO,BP,wh⟩⟩=> ?_
 subst e_4
 refine W.ok (aE (i:=a.toNat) eY cU az rfl rfl ⟨aa,aa⟩) (W.ok (bM (vs:=qn) cU he1 (ae ai) rfl rfl rfl (by simp)) (W.alloc bq (fun b6=>(g9 11 ?_))))
 refine W.ay (adj (c:=c) (n:=(ag l a)) (cc BN wg BO BP wh) k hcp) rfl (g9 14 ?_)
 refine WC.cd (fun ve oO=> ?_) (fun ve oO=> ?_)
 ·try dsimp only at oO
  refine g9 4 ?_
  refine W.call (Mp:=((b_s,aj 48 [iV c.bu,iV c.leaf,iV c.bud,iV c.aL,iV c.rest,lV aW l.length aX])::bS)) (Mr:=((b6,aj 57 (cj (ag l a) SG SH SI SJ SK SL SM SN))::[])) (YP (c:=c) az ⟨hlp,hl4⟩ oQ aNo) rfl (((ae ai).cons _).trans ((List.Perm.swap _ _ _).trans (ai.cons _))) ?_
  intro v8 G9 CM HK q7
  refine match q7 with|⟨ri,aXY,adl,aD5,adm⟩=> ?_
  subst ri
  subst aD5
  have RC:=adm.form
  refine match RC with|⟨adn,ado,ym⟩=> ?_
  subst ym
  refine W.perm (M':=((b_s,aj 48 [iV c.bu,iV c.leaf,iV c.bud,iV c.aL,iV c.rest,lV adn ((cG c l).2).length ado])::((b6,aj 57 (cj (ag l a) SG SH SI SJ SK SL SM SN))::(adl++[])))) (((ae ai).cons _).trans ai).symm (g9 9 ?_)
  refine WC.cn (fun Bs Gq=> ?_) (fun Bs Gq=> ?_)
  ·try dsimp only at Gq
   refine g9 12 ?_
   refine⟨.inr rfl,[_,_,_],⟨rfl,rfl,rfl,trivial⟩,((b_s,aj 48 [iV c.bu,iV c.leaf,iV c.bud,iV c.aL,iV c.rest,lV adn ((cG c l).2).length ado])::(adl++[])),(bi.cons _).k9,?_⟩
   have hE:=zU oO Gq
   exact⟨ub hE rfl rfl rfl,fY.to (⟨_,_,congrArg _ (List.append_nil _),adm⟩:fY 57 48 b_s c _ _ _) (congrArg Prod.snd hE).symm⟩
  try dsimp only at Gq
  refine g9 12 ?_
  refine⟨.inr rfl,[_,_,_],⟨rfl,rfl,rfl,trivial⟩,((b_s,aj 48 [iV c.bu,iV c.leaf,iV c.bud,iV c.aL,iV c.rest,lV adn ((cG c l).2).length ado])::(adl++[])),(bi.cons _).k9,?_⟩
  have hE:=zT oO aa
  exact⟨ub hE rfl rfl rfl,fY.to (⟨_,_,congrArg _ (List.append_nil _),adm⟩:fY 57 48 b_s c _ _ _) (congrArg Prod.snd hE).symm⟩
 try dsimp only at oO
 refine g9 9 ?_
 refine WC.cd (fun h45 p45=> ?_) (fun h45 p45=> ?_)
 ·try dsimp only at p45
  refine g9 10 ?_
  refine⟨.inr rfl,[_,_,_],⟨rfl,rfl,rfl,trivial⟩,((b_s,aj 48 [iV c.bu,iV c.leaf,iV c.bud,iV c.aL,iV c.rest,lV aW l.length aX])::(bS++[])),bi.k9.cons _,?_⟩
  have hE:=sv p45
  exact⟨ub hE rfl rfl rfl,fY.to (⟨_,_,congrArg _ (List.append_nil _),az⟩:fY 57 48 b_s c _ _ _) (congrArg Prod.snd hE).symm⟩
 try dsimp only at p45
 have yn:(ak c (ag l a) k).1=2:=by rcases gj c (ag l a) k with h9|h9|⟨h9,_⟩;exact absurd h9 p45;exact absurd h9 oO;exact h9
 obtain⟨h0,hi⟩:=kD (k:=k) t ha yn
 have mj:i64 (ak c (ag l a) k).2:=⟨aa,by have:=JW.1;omega⟩
 obtain⟨P,s⟩:=nu t ha h0 hi
 have ER:=(t.fo s.mem).1
 have hKm:=(t.at s.mem s.h0 (j:=((ak c (ag l a) k).2).toNat) (by have:=s.hi;omega)).1
 have hKR:=(t.fo hKm).1
 rw [s.n]at ER
 rw [s.Ba]at hKR
 have CI:(ag l a).slot=a:=(di t.slot ha).1
 have hPS:=t.xa.2 _ (di t.slot ha).2
 have hKS:=t.xa.2 _ (di t.slot s.x3).2
 have JW:Gl (ag l a):=x8 t.pX ER
 have hKD:Gl (aw l a (ak c (ag l a) k).2):=x8 t.pX hKR
 have aoo:c.bud≤9223372036854775807:=by have:=t.pX.2.2.1.2;omega
 have hq:tQ c.bud (ag l a) (aw l a (ak c (ag l a) k).2):=ad5 ER hKR h0 JW hKD aoo
 have mN:(ag l a).kK c.bu c.bud:=by have h4:=ER.2.2.2;rwa [if_neg h0]at h4
 have oJ:=mN.2.2.1
 have jj:=(cE mN.2.1).2
 have aKO:=mj.1
 have aKP:=mj.2
 have axW:((ag l a).kids.length:Int)≤4000:=by have:=JW.1;omega
 have hkd:(ag l a).kids[((ak c (ag l a) k).2).toNat]'aa=((ag l a).kids.getD ((ak c (ag l a) k).2).toNat 0):=by rw [List.getD_eq_getElem?_getD,List.getElem?_eq_getElem aa];rfl
 have aeR:=s.x3
 have YV:l[(((ag l a).kids.getD ((ak c (ag l a) k).2).toNat 0)).toNat]'aa=(aw l a (ak c (ag l a) k).2):=(rk s.x3).symm
 refine g9 3 ?_
 refine WC.dw (bi.k9.k9) (d9 [0,1,2,3,4,5,6] ?_)
 refine wg.a2 (i:=((ak c (ag l a) k).2).toNat) aa (fun TR ax8=>(WD.tk 7 rfl (aY (i:=((ak c (ag l a) k).2).toNat) cq ci wg rfl rfl ⟨aa,aa⟩) (d9 [8] ?_)))
 have q23:=amm az aa (YV)
 refine match q23 with|⟨_,Ft,⟨agi,agj,agk,agl,agm,agn,ago,agp,Dc,Ac,Ad,Ae,Af,uP⟩⟩=> ?_
 subst Dc
 refine WD.tk 9 rfl (aE (i:=(((ag l a).kids.getD ((ak c (ag l a) k).2).toNat 0)).toNat) eY cU az rfl rfl ⟨aa,aa⟩) (WD.tk 10 rfl (bM (vs:=qn) cU Ft (ae (ae ai)) rfl rfl rfl (by simp)) (WD.a1 11 rfl (W.alloc bq (fun b24=>(W.nn (d9 [12] ?_))))))
 refine g9 11 ?_
 refine W.ay (adk (c:=c) (p:=(ag l a)) (k:=(aw l a (ak c (ag l a) k).2)) (cc BN wg BO BP wh) (cc Ac Ad Ae Af uP) (ak c (ag l a) k).2 hq mj s.kof oJ jj) rfl (g9 10 ?_)
 refine WC.cd (fun EK Lz=> ?_) (fun EK Lz=> ?_)
 ·try dsimp only at Lz
  refine g9 5 ?_
  refine W.call (Mp:=((b_s,aj 48 [iV c.bu,iV c.leaf,iV c.bud,iV c.aL,iV c.rest,lV aW l.length aX])::bS)) (Mr:=((b24,aj 57 (cj (aw l a (ak c (ag l a) k).2) agi agj agk agl agm agn ago agp))::((b6,aj 57 (cj (ag l a) SG SH SI SJ SK SL SM SN))::[]))) (adi (c:=c) az a (ak c (ag l a) k).2 mj hS t.slot) rfl (((ae (ae ai)).cons _).trans ((List.Perm.swap _ _ _).trans (((List.Perm.swap _ _ _).trans (ai.cons _)).cons _))) ?_
  intro v26 G27 aw0 yC QT
  refine match QT with|⟨Ws,aXZ,adp,aD6,adq⟩=> ?_
  subst Ws
  subst aD6
  have Q4:=adq.form
  refine match Q4 with|⟨adr,ads,Dh⟩=> ?_
  subst Dh
  refine W.perm (M':=((b_s,aj 48 [iV c.bu,iV c.leaf,iV c.bud,iV c.aL,iV c.rest,lV adr ((cz c l a (ak c (ag l a) k).2).2).length ads])::((b24,aj 57 (cj (aw l a (ak c (ag l a) k).2) agi agj agk agl agm agn ago agp))::((b6,aj 57 (cj (ag l a) SG SH SI SJ SK SL SM SN))::(adp++[]))))) (((ae (ae ai)).cons _).trans ai).symm (g9 9 ?_)
  refine WC.cn (fun h73 p73=> ?_) (fun h73 p73=> ?_)
  ·try dsimp only at p73
   refine g9 11 ?_
   refine⟨.inr rfl,[_,_,_],⟨rfl,rfl,rfl,trivial⟩,((b_s,aj 48 [iV c.bu,iV c.leaf,iV c.bud,iV c.aL,iV c.rest,lV adr ((cz c l a (ak c (ag l a) k).2).2).length ads])::(adp++[])),((bi.cons _).cons _).k9,?_⟩
   have hE:=(je yn).trans (Bm Lz p73)
   exact⟨ub hE rfl rfl rfl,fY.to (⟨_,_,congrArg _ (List.append_nil _),adq⟩:fY 57 48 b_s c _ _ _) (congrArg Prod.snd hE).symm⟩
  try dsimp only at p73
  refine g9 9 ?_
  refine WC.cd (fun h77 qa=> ?_) (fun h77 qa=> ?_)
  ·try dsimp only at qa
   have aNp:cg c (ag l a) (aw l a (ak c (ag l a) k).2) (ak c (ag l a) k).2=4:=qa
   have asK:0<bW c.leaf c.bud (ag l a) (aw l a (ak c (ag l a) k).2) (ak c (ag l a) k).2:=by rcases fz c (ag l a) (aw l a (ak c (ag l a) k).2) (ak c (ag l a) k).2 with h9|h9|⟨_,h9⟩|h9;omega;omega;exact h9;omega
   have Xp:=s.Nl t asK
   obtain⟨T9,xe⟩:=Xp
   have De:(bj c.leaf c.bud (ag l a) (aw l a (ak c (ag l a) k).2) (ak c (ag l a) k).2).1.slot=a:=by rw [xe.al.1];exact s.slot
   have Df:(bj c.leaf c.bud (ag l a) (aw l a (ak c (ag l a) k).2) (ak c (ag l a) k).2).2.1.slot=((aw l a (ak c (ag l a) k).2)).slot:=by rw [xe.bl.1,s.Ba]
   have hsC:0≤((aw l a (ak c (ag l a) k).2)).slot∧((aw l a (ak c (ag l a) k).2)).slot<(l.length:Int):=by rw [s.x9];exact s.x3
   exfalso;omega
  try dsimp only at qa
  refine g9 9 ?_
  refine WC.cd (fun rK gC=> ?_) (fun rK gC=> ?_)
  ·try dsimp only at gC
   exfalso;omega
  try dsimp only at gC
  refine g9 12 ?_
  refine⟨.inr rfl,[_,_,_],⟨rfl,rfl,rfl,trivial⟩,((b_s,aj 48 [iV c.bu,iV c.leaf,iV c.bud,iV c.aL,iV c.rest,lV adr ((cz c l a (ak c (ag l a) k).2).2).length ads])::(adp++[])),((bi.cons _).cons _).k9,?_⟩
  have hE:=(je yn).trans (Bl Lz aa)
  exact⟨ub hE Lz rfl rfl,fY.to (⟨_,_,congrArg _ (List.append_nil _),adq⟩:fY 57 48 b_s c _ _ _) (congrArg Prod.snd hE).symm⟩
 try dsimp only at Lz
 refine g9 9 ?_
 refine WC.cd (fun h77 qa=> ?_) (fun h77 qa=> ?_)
 ·try dsimp only at qa
  have aNp:cg c (ag l a) (aw l a (ak c (ag l a) k).2) (ak c (ag l a) k).2=4:=qa
  have asK:0<bW c.leaf c.bud (ag l a) (aw l a (ak c (ag l a) k).2) (ak c (ag l a) k).2:=by rcases fz c (ag l a) (aw l a (ak c (ag l a) k).2) (ak c (ag l a) k).2 with h9|h9|⟨_,h9⟩|h9;omega;omega;exact h9;omega
  have Xp:=s.Nl t asK
  obtain⟨T9,xe⟩:=Xp
  have De:(bj c.leaf c.bud (ag l a) (aw l a (ak c (ag l a) k).2) (ak c (ag l a) k).2).1.slot=a:=by rw [xe.al.1];exact s.slot
  have Df:(bj c.leaf c.bud (ag l a) (aw l a (ak c (ag l a) k).2) (ak c (ag l a) k).2).2.1.slot=((aw l a (ak c (ag l a) k).2)).slot:=by rw [xe.bl.1,s.Ba]
  have hsC:0≤((aw l a (ak c (ag l a) k).2)).slot∧((aw l a (ak c (ag l a) k).2)).slot<(l.length:Int):=by rw [s.x9];exact s.x3
  refine WC.seq (WC.dw ((eu.k9.k9).k9) (d9 [0,1,2,3,4,5,6] ?_))
  refine WD.any [7,12,13] (by kernel_rfl) rfl ⟨WD.ap ?_,WD.ap ?_,WD.ap ?_,trivial⟩
  ·refine W.cM (qy c.bu c.leaf c.bud c.aL c.rest (p:=(ag l a)) (k:=(aw l a (ak c (ag l a) k).2)) (cc BN wg BO BP wh) (cc Ac Ad Ae Af uP) (ak c (ag l a) k).2 hq.hb hq.hr hq.mU hq.jt hq.iP hq.kX mj hq.gY oJ jj) rfl (fun _ _ _ _ _ _ _ _ _ _ _ _ _ _ _ _ G33 tG ZE ZF ZG ZH Ph ZI ZJ ZK ZL Pj=>(W.nn (d9 [8,9,10,11] ?_)))
   refine WD.any [12,13] (by kernel_rfl) rfl ⟨WD.ap ?_,WD.ap ?_,trivial⟩
   ·refine W.alloc bq (fun b42=>(W.nn (WD.a1 13 rfl (W.alloc bq (fun b43=>(W.nn (d9 [14,15,16] ?_)))))))
    refine g9 3 ?_
    refine WC.dw ((((eu.k9.k9).k9).k9).k9) (d9 [0,1,2,3,4,5] ?_)
    refine(az.mono tG).aN (i:=a.toNat) aa (fun _ _ _ _ _ _ _ _ Ur auG auH auI auJ alS=>(WD.tk 6 rfl (aE (i:=a.toNat) eY cU (az.mono tG) rfl rfl ⟨aa,aa⟩) (WD.a1 7 rfl (W.dF (i:=a.toNat) (o:=0) (vs:=qn) (a':=(bj c.leaf c.bud (ag l a) (aw l a (ak c (ag l a) k).2) (ak c (ag l a) k).2).1) cU rfl rfl rfl rfl rfl ((az.mono tG)) (ae (ae (ae (ae (ae ai))))) (by first|omega|(rw [List.length_set];omega)) (by decide) (fun cs h=>by obtain⟨_,_,_,_,_,_,_,_,rfl,_⟩:=h;exact(cc ZE ZF ZG ZH Ph)) (fun aHn T4=>(W.perm (ae (ae (ae (ae (ae ai))))).symm (W.nn (g9 2 ?_))))))))
    refine WC.dw ((((eu.k9.k9).k9).k9).k9) (d9 [0,1,2,3,4,5,6] ?_)
    refine T4.aN (i:=((aw l a (ak c (ag l a) k).2)).slot.toNat) (by rw [List.length_set];omega) (fun _ _ _ _ _ _ _ _ aIg GG GI GJ GK CX=>(WD.tk 7 rfl (aE (i:=((aw l a (ak c (ag l a) k).2)).slot.toNat) eY cU T4 rfl rfl ⟨aa,by rw [List.length_set];omega⟩) (WD.a1 8 rfl (W.dF (i:=((aw l a (ak c (ag l a) k).2)).slot.toNat) (o:=0) (vs:=qn) (a':=(bj c.leaf c.bud (ag l a) (aw l a (ak c (ag l a) k).2) (ak c (ag l a) k).2).2.1) cU rfl rfl rfl rfl rfl (T4) (ae (ae (ae (ae (ae ai))))) (by first|omega|(rw [List.length_set];omega)) (by decide) (fun cs h=>by obtain⟨_,_,_,_,_,_,_,_,rfl,_⟩:=h;exact(cc ZI ZJ ZK ZL Pj)) (fun As aqa=>(W.perm (ae (ae (ae (ae (ae ai))))).symm (W.nn (g9 9 ?_))))))))
    refine WC.cd (fun rK gC=> ?_) (fun rK gC=> ?_)
    ·try dsimp only at gC
     exfalso;omega
    try dsimp only at gC
    refine g9 12 ?_
    refine⟨.inr rfl,[_,_,_],⟨rfl,rfl,rfl,trivial⟩,((b_s,aj 48 [iV c.bu,iV c.leaf,iV c.bud,iV c.aL,iV c.rest,lV aW l.length aX])::(As++[])),(((bi.k9.cons _).cons _).cons _).cons _,?_⟩
    have hE:=(je yn).trans (pZ qa)
    have La:((l.set a.toNat (bj c.leaf c.bud (ag l a) (aw l a (ak c (ag l a) k).2) (ak c (ag l a) k).2).1).set ((aw l a (ak c (ag l a) k).2)).slot.toNat (bj c.leaf c.bud (ag l a) (aw l a (ak c (ag l a) k).2) (ak c (ag l a) k).2).2.1)=cA l (bj c.leaf c.bud (ag l a) (aw l a (ak c (ag l a) k).2) (ak c (ag l a) k).2).1 (bj c.leaf c.bud (ag l a) (aw l a (ak c (ag l a) k).2) (ak c (ag l a) k).2).2.1:=by unfold cA;rw [De,Df]
    exact⟨ub hE qa rfl rfl,fY.to (⟨_,_,congrArg _ (List.append_nil _),aqa⟩:fY 57 48 b_s c _ _ _) (La.trans (congrArg Prod.snd hE).symm)⟩
   refine W.alloc bq (fun b56=>(W.nn (WD.a1 12 rfl (W.alloc bq (fun b57=>(W.nn (d9 [14,15,16] ?_)))))))
   refine g9 3 ?_
   refine WC.dw ((((eu.k9.k9).k9).k9).k9) (d9 [0,1,2,3,4,5] ?_)
   refine(az.mono tG).aN (i:=a.toNat) aa (fun _ _ _ _ _ _ _ _ adZ aQl aQm aQn aQo aNq=>(WD.tk 6 rfl (aE (i:=a.toNat) eY cU (az.mono tG) rfl rfl ⟨aa,aa⟩) (WD.a1 7 rfl (W.dF (i:=a.toNat) (o:=0) (vs:=qn) (a':=(bj c.leaf c.bud (ag l a) (aw l a (ak c (ag l a) k).2) (ak c (ag l a) k).2).1) cU rfl rfl rfl rfl rfl ((az.mono tG)) (ae (ae (ae (ae (ae ai))))) (by first|omega|(rw [List.length_set];omega)) (by decide) (fun cs h=>by obtain⟨_,_,_,_,_,_,_,_,rfl,_⟩:=h;exact(cc ZE ZF ZG ZH Ph)) (fun M7 FZ=>(W.perm (ae (ae (ae (ae (ae ai))))).symm (W.nn (g9 2 ?_))))))))
   refine WC.dw ((((eu.k9.k9).k9).k9).k9) (d9 [0,1,2,3,4,5,6] ?_)
   refine FZ.aN (i:=((aw l a (ak c (ag l a) k).2)).slot.toNat) (by rw [List.length_set];omega) (fun _ _ _ _ _ _ _ _ aX0 aQp aQq aQr aQs aNr=>(WD.tk 7 rfl (aE (i:=((aw l a (ak c (ag l a) k).2)).slot.toNat) eY cU FZ rfl rfl ⟨aa,by rw [List.length_set];omega⟩) (WD.a1 8 rfl (W.dF (i:=((aw l a (ak c (ag l a) k).2)).slot.toNat) (o:=0) (vs:=qn) (a':=(bj c.leaf c.bud (ag l a) (aw l a (ak c (ag l a) k).2) (ak c (ag l a) k).2).2.1) cU rfl rfl rfl rfl rfl (FZ) (ae (ae (ae (ae (ae ai))))) (by first|omega|(rw [List.length_set];omega)) (by decide) (fun cs h=>by obtain⟨_,_,_,_,_,_,_,_,rfl,_⟩:=h;exact(cc ZI ZJ ZK ZL Pj)) (fun aeO aNs=>(W.perm (ae (ae (ae (ae (ae ai))))).symm (W.nn (g9 9 ?_))))))))
   refine WC.cd (fun rK gC=> ?_) (fun rK gC=> ?_)
   ·try dsimp only at gC
    exfalso;omega
   try dsimp only at gC
   refine g9 12 ?_
   refine⟨.inr rfl,[_,_,_],⟨rfl,rfl,rfl,trivial⟩,((b_s,aj 48 [iV c.bu,iV c.leaf,iV c.bud,iV c.aL,iV c.rest,lV aW l.length aX])::(aeO++[])),(((bi.k9.cons _).cons _).cons _).cons _,?_⟩
   have hE:=(je yn).trans (pZ qa)
   have La:((l.set a.toNat (bj c.leaf c.bud (ag l a) (aw l a (ak c (ag l a) k).2) (ak c (ag l a) k).2).1).set ((aw l a (ak c (ag l a) k).2)).slot.toNat (bj c.leaf c.bud (ag l a) (aw l a (ak c (ag l a) k).2) (ak c (ag l a) k).2).2.1)=cA l (bj c.leaf c.bud (ag l a) (aw l a (ak c (ag l a) k).2) (ak c (ag l a) k).2).1 (bj c.leaf c.bud (ag l a) (aw l a (ak c (ag l a) k).2) (ak c (ag l a) k).2).2.1:=by unfold cA;rw [De,Df]
   exact⟨ub hE qa rfl rfl,fY.to (⟨_,_,congrArg _ (List.append_nil _),aNs⟩:fY 57 48 b_s c _ _ _) (La.trans (congrArg Prod.snd hE).symm)⟩
  ·refine W.alloc bq (fun b70=>(W.nn ?_))
   refine WD.any [7,13] (by kernel_rfl) rfl ⟨WD.ap ?_,WD.ap ?_,trivial⟩
   ·refine W.cM (qy c.bu c.leaf c.bud c.aL c.rest (p:=(ag l a)) (k:=(aw l a (ak c (ag l a) k).2)) (cc BN wg BO BP wh) (cc Ac Ad Ae Af uP) (ak c (ag l a) k).2 hq.hb hq.hr hq.mU hq.jt hq.iP hq.kX mj hq.gY oJ jj) rfl (fun _ _ _ _ _ _ _ _ _ _ _ _ _ _ _ _ G71 NE asL asM asN asO ajr asP asQ asR asS ajs=>(W.nn (d9 [8,9,10,11] ?_)))
    refine WD.a1 13 rfl (W.alloc bq (fun b80=>(W.nn (d9 [14,15,16] ?_))))
    refine g9 3 ?_
    refine WC.dw ((((eu.k9.k9).k9).k9).k9) (d9 [0,1,2,3,4,5] ?_)
    refine(az.mono NE).aN (i:=a.toNat) aa (fun _ _ _ _ _ _ _ _ aX1 aQt aQu aQv aQw aNt=>(WD.tk 6 rfl (aE (i:=a.toNat) eY cU (az.mono NE) rfl rfl ⟨aa,aa⟩) (WD.a1 7 rfl (W.dF (i:=a.toNat) (o:=0) (vs:=qn) (a':=(bj c.leaf c.bud (ag l a) (aw l a (ak c (ag l a) k).2) (ak c (ag l a) k).2).1) cU rfl rfl rfl rfl rfl ((az.mono NE)) (ae (ae (ae (ae (ae ai))))) (by first|omega|(rw [List.length_set];omega)) (by decide) (fun cs h=>by obtain⟨_,_,_,_,_,_,_,_,rfl,_⟩:=h;exact(cc asL asM asN asO ajr)) (fun OS OT=>(W.perm (ae (ae (ae (ae (ae ai))))).symm (W.nn (g9 2 ?_))))))))
    refine WC.dw ((((eu.k9.k9).k9).k9).k9) (d9 [0,1,2,3,4,5,6] ?_)
    refine OT.aN (i:=((aw l a (ak c (ag l a) k).2)).slot.toNat) (by rw [List.length_set];omega) (fun _ _ _ _ _ _ _ _ aJO avl avm avn avo amZ=>(WD.tk 7 rfl (aE (i:=((aw l a (ak c (ag l a) k).2)).slot.toNat) eY cU OT rfl rfl ⟨aa,by rw [List.length_set];omega⟩) (WD.a1 8 rfl (W.dF (i:=((aw l a (ak c (ag l a) k).2)).slot.toNat) (o:=0) (vs:=qn) (a':=(bj c.leaf c.bud (ag l a) (aw l a (ak c (ag l a) k).2) (ak c (ag l a) k).2).2.1) cU rfl rfl rfl rfl rfl (OT) (ae (ae (ae (ae (ae ai))))) (by first|omega|(rw [List.length_set];omega)) (by decide) (fun cs h=>by obtain⟨_,_,_,_,_,_,_,_,rfl,_⟩:=h;exact(cc asP asQ asR asS ajs)) (fun aNu aNv=>(W.perm (ae (ae (ae (ae (ae ai))))).symm (W.nn (g9 9 ?_))))))))
    refine WC.cd (fun rK gC=> ?_) (fun rK gC=> ?_)
    ·try dsimp only at gC
     exfalso;omega
    try dsimp only at gC
    refine g9 12 ?_
    refine⟨.inr rfl,[_,_,_],⟨rfl,rfl,rfl,trivial⟩,((b_s,aj 48 [iV c.bu,iV c.leaf,iV c.bud,iV c.aL,iV c.rest,lV aW l.length aX])::(aNu++[])),(((bi.k9.cons _).cons _).cons _).cons _,?_⟩
    have hE:=(je yn).trans (pZ qa)
    have La:((l.set a.toNat (bj c.leaf c.bud (ag l a) (aw l a (ak c (ag l a) k).2) (ak c (ag l a) k).2).1).set ((aw l a (ak c (ag l a) k).2)).slot.toNat (bj c.leaf c.bud (ag l a) (aw l a (ak c (ag l a) k).2) (ak c (ag l a) k).2).2.1)=cA l (bj c.leaf c.bud (ag l a) (aw l a (ak c (ag l a) k).2) (ak c (ag l a) k).2).1 (bj c.leaf c.bud (ag l a) (aw l a (ak c (ag l a) k).2) (ak c (ag l a) k).2).2.1:=by unfold cA;rw [De,Df]
    exact⟨ub hE qa rfl rfl,fY.to (⟨_,_,congrArg _ (List.append_nil _),aNv⟩:fY 57 48 b_s c _ _ _) (La.trans (congrArg Prod.snd hE).symm)⟩
   refine W.alloc bq (fun b93=>(W.nn (WD.a1 7 rfl (W.cM (qy c.bu c.leaf c.bud c.aL c.rest (p:=(ag l a)) (k:=(aw l a (ak c (ag l a) k).2)) (cc BN wg BO BP wh) (cc Ac Ad Ae Af uP) (ak c (ag l a) k).2 hq.hb hq.hr hq.mU hq.jt hq.iP hq.kX mj hq.gY oJ jj) rfl (fun _ _ _ _ _ _ _ _ _ _ _ _ _ _ _ _ G94 wL asT asU asV asW ajt asX asY asZ as0 aju=>(W.nn (d9 [8,9,10,11,14,15,16] ?_)))))))
   refine g9 3 ?_
   refine WC.dw ((((eu.k9.k9).k9).k9).k9) (d9 [0,1,2,3,4,5] ?_)
   refine(az.mono wL).aN (i:=a.toNat) aa (fun _ _ _ _ _ _ _ _ aCv aNw aNx aNy aNz aGv=>(WD.tk 6 rfl (aE (i:=a.toNat) eY cU (az.mono wL) rfl rfl ⟨aa,aa⟩) (WD.a1 7 rfl (W.dF (i:=a.toNat) (o:=0) (vs:=qn) (a':=(bj c.leaf c.bud (ag l a) (aw l a (ak c (ag l a) k).2) (ak c (ag l a) k).2).1) cU rfl rfl rfl rfl rfl ((az.mono wL)) (ae (ae (ae (ae (ae ai))))) (by first|omega|(rw [List.length_set];omega)) (by decide) (fun cs h=>by obtain⟨_,_,_,_,_,_,_,_,rfl,_⟩:=h;exact(cc asT asU asV asW ajt)) (fun aoM adt=>(W.perm (ae (ae (ae (ae (ae ai))))).symm (W.nn (g9 2 ?_))))))))
   refine WC.dw ((((eu.k9.k9).k9).k9).k9) (d9 [0,1,2,3,4,5,6] ?_)
   refine adt.aN (i:=((aw l a (ak c (ag l a) k).2)).slot.toNat) (by rw [List.length_set];omega) (fun _ _ _ _ _ _ _ _ aBa aNA aNB aNC aND aGw=>(WD.tk 7 rfl (aE (i:=((aw l a (ak c (ag l a) k).2)).slot.toNat) eY cU adt rfl rfl ⟨aa,by rw [List.length_set];omega⟩) (WD.a1 8 rfl (W.dF (i:=((aw l a (ak c (ag l a) k).2)).slot.toNat) (o:=0) (vs:=qn) (a':=(bj c.leaf c.bud (ag l a) (aw l a (ak c (ag l a) k).2) (ak c (ag l a) k).2).2.1) cU rfl rfl rfl rfl rfl (adt) (ae (ae (ae (ae (ae ai))))) (by first|omega|(rw [List.length_set];omega)) (by decide) (fun cs h=>by obtain⟨_,_,_,_,_,_,_,_,rfl,_⟩:=h;exact(cc asX asY asZ as0 aju)) (fun ab3 aD7=>(W.perm (ae (ae (ae (ae (ae ai))))).symm (W.nn (g9 9 ?_))))))))
   refine WC.cd (fun rK gC=> ?_) (fun rK gC=> ?_)
   ·try dsimp only at gC
    exfalso;omega
   try dsimp only at gC
   refine g9 12 ?_
   refine⟨.inr rfl,[_,_,_],⟨rfl,rfl,rfl,trivial⟩,((b_s,aj 48 [iV c.bu,iV c.leaf,iV c.bud,iV c.aL,iV c.rest,lV aW l.length aX])::(ab3++[])),(((bi.k9.cons _).cons _).cons _).cons _,?_⟩
   have hE:=(je yn).trans (pZ qa)
   have La:((l.set a.toNat (bj c.leaf c.bud (ag l a) (aw l a (ak c (ag l a) k).2) (ak c (ag l a) k).2).1).set ((aw l a (ak c (ag l a) k).2)).slot.toNat (bj c.leaf c.bud (ag l a) (aw l a (ak c (ag l a) k).2) (ak c (ag l a) k).2).2.1)=cA l (bj c.leaf c.bud (ag l a) (aw l a (ak c (ag l a) k).2) (ak c (ag l a) k).2).1 (bj c.leaf c.bud (ag l a) (aw l a (ak c (ag l a) k).2) (ak c (ag l a) k).2).2.1:=by unfold cA;rw [De,Df]
   exact⟨ub hE qa rfl rfl,fY.to (⟨_,_,congrArg _ (List.append_nil _),aD7⟩:fY 57 48 b_s c _ _ _) (La.trans (congrArg Prod.snd hE).symm)⟩
  refine W.alloc bq (fun aX2=>(W.nn ?_))
  refine WD.any [7,12] (by kernel_rfl) rfl ⟨WD.ap ?_,WD.ap ?_,trivial⟩
  ·refine W.cM (qy c.bu c.leaf c.bud c.aL c.rest (p:=(ag l a)) (k:=(aw l a (ak c (ag l a) k).2)) (cc BN wg BO BP wh) (cc Ac Ad Ae Af uP) (ak c (ag l a) k).2 hq.hb hq.hr hq.mU hq.jt hq.iP hq.kX mj hq.gY oJ jj) rfl (fun _ _ _ _ _ _ _ _ _ _ _ _ _ _ _ _ aNE SO ajv ajw ajx ajy adu ajz ajA ajB ajC adv=>(W.nn (d9 [8,9,10,11] ?_)))
   refine WD.a1 12 rfl (W.alloc bq (fun aX3=>(W.nn (d9 [14,15,16] ?_))))
   refine g9 3 ?_
   refine WC.dw ((((eu.k9.k9).k9).k9).k9) (d9 [0,1,2,3,4,5] ?_)
   refine(az.mono SO).aN (i:=a.toNat) aa (fun _ _ _ _ _ _ _ _ aSU aNF aNG aNH aNI aGx=>(WD.tk 6 rfl (aE (i:=a.toNat) eY cU (az.mono SO) rfl rfl ⟨aa,aa⟩) (WD.a1 7 rfl (W.dF (i:=a.toNat) (o:=0) (vs:=qn) (a':=(bj c.leaf c.bud (ag l a) (aw l a (ak c (ag l a) k).2) (ak c (ag l a) k).2).1) cU rfl rfl rfl rfl rfl ((az.mono SO)) (ae (ae (ae (ae (ae ai))))) (by first|omega|(rw [List.length_set];omega)) (by decide) (fun cs h=>by obtain⟨_,_,_,_,_,_,_,_,rfl,_⟩:=h;exact(cc ajv ajw ajx ajy adu)) (fun anI EP=>(W.perm (ae (ae (ae (ae (ae ai))))).symm (W.nn (g9 2 ?_))))))))
   refine WC.dw ((((eu.k9.k9).k9).k9).k9) (d9 [0,1,2,3,4,5,6] ?_)
   refine EP.aN (i:=((aw l a (ak c (ag l a) k).2)).slot.toNat) (by rw [List.length_set];omega) (fun _ _ _ _ _ _ _ _ aSV aNJ aNK aNL aNM aGy=>(WD.tk 7 rfl (aE (i:=((aw l a (ak c (ag l a) k).2)).slot.toNat) eY cU EP rfl rfl ⟨aa,by rw [List.length_set];omega⟩) (WD.a1 8 rfl (W.dF (i:=((aw l a (ak c (ag l a) k).2)).slot.toNat) (o:=0) (vs:=qn) (a':=(bj c.leaf c.bud (ag l a) (aw l a (ak c (ag l a) k).2) (ak c (ag l a) k).2).2.1) cU rfl rfl rfl rfl rfl (EP) (ae (ae (ae (ae (ae ai))))) (by first|omega|(rw [List.length_set];omega)) (by decide) (fun cs h=>by obtain⟨_,_,_,_,_,_,_,_,rfl,_⟩:=h;exact(cc ajz ajA ajB ajC adv)) (fun aD8 aD9=>(W.perm (ae (ae (ae (ae (ae ai))))).symm (W.nn (g9 9 ?_))))))))
   refine WC.cd (fun rK gC=> ?_) (fun rK gC=> ?_)
   ·try dsimp only at gC
    exfalso;omega
   try dsimp only at gC
   refine g9 12 ?_
   refine⟨.inr rfl,[_,_,_],⟨rfl,rfl,rfl,trivial⟩,((b_s,aj 48 [iV c.bu,iV c.leaf,iV c.bud,iV c.aL,iV c.rest,lV aW l.length aX])::(aD8++[])),(((bi.k9.cons _).cons _).cons _).cons _,?_⟩
   have hE:=(je yn).trans (pZ qa)
   have La:((l.set a.toNat (bj c.leaf c.bud (ag l a) (aw l a (ak c (ag l a) k).2) (ak c (ag l a) k).2).1).set ((aw l a (ak c (ag l a) k).2)).slot.toNat (bj c.leaf c.bud (ag l a) (aw l a (ak c (ag l a) k).2) (ak c (ag l a) k).2).2.1)=cA l (bj c.leaf c.bud (ag l a) (aw l a (ak c (ag l a) k).2) (ak c (ag l a) k).2).1 (bj c.leaf c.bud (ag l a) (aw l a (ak c (ag l a) k).2) (ak c (ag l a) k).2).2.1:=by unfold cA;rw [De,Df]
   exact⟨ub hE qa rfl rfl,fY.to (⟨_,_,congrArg _ (List.append_nil _),aD9⟩:fY 57 48 b_s c _ _ _) (La.trans (congrArg Prod.snd hE).symm)⟩
  refine W.alloc bq (fun aX4=>(W.nn (WD.a1 7 rfl (W.cM (qy c.bu c.leaf c.bud c.aL c.rest (p:=(ag l a)) (k:=(aw l a (ak c (ag l a) k).2)) (cc BN wg BO BP wh) (cc Ac Ad Ae Af uP) (ak c (ag l a) k).2 hq.hb hq.hr hq.mU hq.jt hq.iP hq.kX mj hq.gY oJ jj) rfl (fun _ _ _ _ _ _ _ _ _ _ _ _ _ _ _ _ axE rz EF EG EH EI Jz ajD ajE ajF ajG adw=>(W.nn (d9 [8,9,10,11,14,15,16] ?_)))))))
  refine g9 3 ?_
  refine WC.dw ((((eu.k9.k9).k9).k9).k9) (d9 [0,1,2,3,4,5] ?_)
  refine(az.mono rz).aN (i:=a.toNat) aa (fun _ _ _ _ _ _ _ _ aSW aNN aNO aNP aNQ aGz=>(WD.tk 6 rfl (aE (i:=a.toNat) eY cU (az.mono rz) rfl rfl ⟨aa,aa⟩) (WD.a1 7 rfl (W.dF (i:=a.toNat) (o:=0) (vs:=qn) (a':=(bj c.leaf c.bud (ag l a) (aw l a (ak c (ag l a) k).2) (ak c (ag l a) k).2).1) cU rfl rfl rfl rfl rfl ((az.mono rz)) (ae (ae (ae (ae (ae ai))))) (by first|omega|(rw [List.length_set];omega)) (by decide) (fun cs h=>by obtain⟨_,_,_,_,_,_,_,_,rfl,_⟩:=h;exact(cc EF EG EH EI Jz)) (fun aSX adx=>(W.perm (ae (ae (ae (ae (ae ai))))).symm (W.nn (g9 2 ?_))))))))
  refine WC.dw ((((eu.k9.k9).k9).k9).k9) (d9 [0,1,2,3,4,5,6] ?_)
  refine adx.aN (i:=((aw l a (ak c (ag l a) k).2)).slot.toNat) (by rw [List.length_set];omega) (fun _ _ _ _ _ _ _ _ aSY aNR aNS aNT aNU aGA=>(WD.tk 7 rfl (aE (i:=((aw l a (ak c (ag l a) k).2)).slot.toNat) eY cU adx rfl rfl ⟨aa,by rw [List.length_set];omega⟩) (WD.a1 8 rfl (W.dF (i:=((aw l a (ak c (ag l a) k).2)).slot.toNat) (o:=0) (vs:=qn) (a':=(bj c.leaf c.bud (ag l a) (aw l a (ak c (ag l a) k).2) (ak c (ag l a) k).2).2.1) cU rfl rfl rfl rfl rfl (adx) (ae (ae (ae (ae (ae ai))))) (by first|omega|(rw [List.length_set];omega)) (by decide) (fun cs h=>by obtain⟨_,_,_,_,_,_,_,_,rfl,_⟩:=h;exact(cc ajD ajE ajF ajG adw)) (fun aEa aEb=>(W.perm (ae (ae (ae (ae (ae ai))))).symm (W.nn (g9 9 ?_))))))))
  refine WC.cd (fun rK gC=> ?_) (fun rK gC=> ?_)
  ·try dsimp only at gC
   exfalso;omega
  try dsimp only at gC
  refine g9 12 ?_
  refine⟨.inr rfl,[_,_,_],⟨rfl,rfl,rfl,trivial⟩,((b_s,aj 48 [iV c.bu,iV c.leaf,iV c.bud,iV c.aL,iV c.rest,lV aW l.length aX])::(aEa++[])),(((bi.k9.cons _).cons _).cons _).cons _,?_⟩
  have hE:=(je yn).trans (pZ qa)
  have La:((l.set a.toNat (bj c.leaf c.bud (ag l a) (aw l a (ak c (ag l a) k).2) (ak c (ag l a) k).2).1).set ((aw l a (ak c (ag l a) k).2)).slot.toNat (bj c.leaf c.bud (ag l a) (aw l a (ak c (ag l a) k).2) (ak c (ag l a) k).2).2.1)=cA l (bj c.leaf c.bud (ag l a) (aw l a (ak c (ag l a) k).2) (ak c (ag l a) k).2).1 (bj c.leaf c.bud (ag l a) (aw l a (ak c (ag l a) k).2) (ak c (ag l a) k).2).2.1:=by unfold cA;rw [De,Df]
  exact⟨ub hE qa rfl rfl,fY.to (⟨_,_,congrArg _ (List.append_nil _),aEb⟩:fY 57 48 b_s c _ _ _) (La.trans (congrArg Prod.snd hE).symm)⟩
 try dsimp only at qa
 refine g9 9 ?_
 refine WC.cd (fun rK gC=> ?_) (fun rK gC=> ?_)
 ·try dsimp only at gC
  refine g9 11 ?_
  refine⟨.inr rfl,[_,_,_],⟨rfl,rfl,rfl,trivial⟩,((b_s,aj 48 [iV c.bu,iV c.leaf,iV c.bud,iV c.aL,iV c.rest,lV aW l.length aX])::(bS++[])),(bi.k9.cons _).cons _,?_⟩
  have hE:=(je yn).trans (Bn gC)
  exact⟨ub hE rfl rfl rfl,fY.to (⟨_,_,congrArg _ (List.append_nil _),az⟩:fY 57 48 b_s c _ _ _) (congrArg Prod.snd hE).symm⟩
 try dsimp only at gC
 refine g9 12 ?_
 refine⟨.inr rfl,[_,_,_],⟨rfl,rfl,rfl,trivial⟩,((b_s,aj 48 [iV c.bu,iV c.leaf,iV c.bud,iV c.aL,iV c.rest,lV aW l.length aX])::(bS++[])),(bi.k9.cons _).cons _,?_⟩
 have hE:=(je yn).trans (Bo (abf Lz qa gC))
 exact⟨ub hE (abf Lz qa gC) rfl rfl,fY.to (⟨_,_,congrArg _ (List.append_nil _),az⟩:fY 57 48 b_s c _ _ _) (congrArg Prod.snd hE).symm⟩

variable {ss:List aC}
theorem as1{b:Nat}{c:aQ}{M:MH}(h:fY 57 48 b c G l M)(t:Tree c l ss)(a:Int)(k:ah)(ha:0≤a∧a<(l.length:Int)):Fc Tryz.prog 47 [aq b,iV a,sV k.b] G M (fun v G' M'=>v=.tuple #[iV (dP c l a k).1.1,iV (dP c l a k).1.2.1,iV (dP c l a k).1.2.2]∧fY 57 48 b c G' (dP c l a k).2 M'):=by
  obtain⟨v,Mo,rfl,ho⟩:=h
  exact ajq ho a k ss t ha
theorem Lb{c:aQ}{de:MH}(ec:fY 57 48 b_s c G l de)(t:Tree c l ss)(k:ah)(mo:Int)(N:Nat)(r:Int×Int×List Nd)(hr:sw c k N l 0 0=some r)(hN:(N:Int)≤mo∧mo≤1000000):
    Fc Tryz.prog 17 [aq b_s,sV k.b,iV mo] G de (fun v G' M'=>v=.tuple #[iV r.1,iV r.2.1]∧fY 57 48 b_s c G' r.2.2 M'):=by
 have htp:=t.pos
 obtain⟨hN1,hN2⟩:=hN
 refine Fc.go [.tmp 6,.tmp 7] Tryz.func17 Tryz.ntmps17 rfl (fun w0=>(WC.perm (M':=(de++[])) (by simp) (g9 19 ?_)))
 refine WC.loop (X:=(Nat×List Nd×Int×Int×Int)×MH) (fun x=>[(8,iV x.1.2.2.1),(9,iV x.1.2.2.2.1),(10,iV x.1.2.2.2.2),(1,sV k.b),(2,iV mo),(0,aq b_s)]) (fun x G Ml=>Ml=(x.2++[])∧fY 57 48 b_s c G (x.1.2.1) x.2∧sw c k x.1.1 x.1.2.1 x.1.2.2.1 x.1.2.2.2.1=some r∧(∃T,Tree c x.1.2.1 T)∧(0≤x.1.2.2.1∧x.1.2.2.1<(x.1.2.1.length:Int))∧0≤x.1.2.2.2.1∧x.1.2.2.2.1+(x.1.1:Int)≤1000000∧(0≤x.1.2.2.2.2∧x.1.2.2.2.2+(x.1.1:Int)=N)) (fun x=>x.1.1) (((N,l,0,0,0):Nat×List Nd×Int×Int×Int),de) aZ ?_ ?_
 ·exact⟨rfl,(by exact ec),hr,⟨ss,t⟩,⟨by dsimp only;omega,by dsimp only;omega⟩,by dsimp only;omega,by dsimp only;omega,⟨by dsimp only;omega,by dsimp only;omega⟩⟩
 rintro⟨⟨m,L,a,n,i⟩,A0⟩ DQ G1 _ fL ⟨rfl,eH,hcy,hTr,haL,xo,hnm,hni⟩
 try dsimp only at eH hcy hTr haL xo hnm hni
 obtain⟨T8,t9⟩:=hTr
 have hm1:0<m:=by
   rcases Nat.eq_zero_or_pos m with h|h
   ·rw [h]at hcy;cases hcy
   exact h
 rw [show m=m-1+1 by omega]at hcy
 have kZ:=rn t9 haL k
 obtain⟨T9,hT9,aX5⟩:=rm t9 haL k
 refine WC.fr (f:=dO DQ [(8,iV a),(9,iV n),(10,iV i),(1,sV k.b),(2,iV mo),(0,aq b_s)]) rfl (g9 8 ?_)
 refine WC.cd (fun fU gX=> ?_) (fun fU gX=> ?_)
 ·try dsimp only at gX
  refine g9 9 ?_
  refine W.call (Mp:=A0) (as1 eH t9 a k haL) rfl ai ?_
  intro v5 G2 PG j7 q3
  refine match q3 with|⟨Es,hR6⟩=> ?_
  subst Es
  refine g9 16 ?_
  refine WC.cd (fun wT pO=> ?_) (fun wT pO=> ?_)
  ·try dsimp only at pO
   refine g9 15 ?_
   refine⟨.inr rfl,[_,_],⟨rfl,rfl,trivial⟩,PG,List.sublist_append_left _ _,?_⟩
   have hE:=Option.some.inj ((jm pO).symm.trans hcy)
   exact⟨congrArg (fun q:Int×Int×List Nd=>Value.tuple #[iV q.1,iV q.2.1]) hE,fY.to hR6 (congrArg (fun q:Int×Int×List Nd=>q.2.2) hE)⟩
  try dsimp only at pO
  refine g9 9 ?_
  refine WC.cn (fun rO p32=> ?_) (fun rO p32=> ?_)
  ·try dsimp only at p32
   refine g9 18 ?_
   exact⟨j7,(((m-1,(dP c L a k).2,(dP c L a k).1.2.1,n+1,i+1):Nat×List Nd×Int×Int×Int),PG),aZ,⟨rfl,(by exact hR6),(ny pO p32).symm.trans hcy,⟨_,hT9⟩,kZ,by dsimp only;omega,by dsimp only;omega,by dsimp only;omega⟩,by dsimp only;omega⟩
  try dsimp only at p32
  refine g9 14 ?_
  exact⟨j7,(((m-1,(dP c L a k).2,(dP c L a k).1.2.1,n,i+1):Nat×List Nd×Int×Int×Int),PG),aZ,⟨rfl,(by exact hR6),(zV p32).symm.trans hcy,⟨_,hT9⟩,kZ,by dsimp only;omega,by dsimp only;omega,by dsimp only;omega⟩,by dsimp only;omega⟩
 try dsimp only at gX
 exfalso;omega

theorem DN(bJ:Int)(aU:Int)(bK:Int)(aI:Int)(aV:Int)(az:ax bU G bN l)(k:ah)(bg:Bool):
    Fc Tryz.prog 3 [.agg #[iV bJ,iV aU,iV bK,iV aI,iV aV],bN,sV k.b,.bool bg] G [] (fun v _ _=>v=.bool (true)):=by
 obtain⟨aW,aX,rfl⟩:=az.form
 have hl:=az.aH
 have aX6:=k.le
 refine Fc.go [.tmp 8] Tryz.func3 Tryz.ntmps3 rfl (fun w0=>(g9 2 ?_))
 refine W.box (L:=[iV _,iV _,iV _,iV _,iV _]) rfl rfl (fun b1=>(g9 8 ?_))
 refine W.ay (amY _ _ _ _ _ az _ aa) rfl (g9 2 ?_)
 refine W.sp 23 rfl (fun m7=> ?_) (fun m7=> ?_)
 ·refine g9 9 ?_
  refine W.ay (sG) rfl (g9 6 ?_)
  rfl
 have q2:=ali (c:=(⟨bJ,aU,bK,aI,aV⟩:aQ)) (by simpa using m7) aa
 refine match q2 with|⟨ss,t⟩=> ?_
 have hS:=t.xa
 have Ji:=hS.1
 have aX7:=ag4 (most:=60) (c:=(⟨bJ,aU,bK,aI,aV⟩:aQ)) (l:=l) (by simpa using m7)
 have q3:=avT t aa k
 refine match q3 with|⟨N9,r9,hN9,hr9⟩=> ?_
 refine g9 9 ?_
 refine WC.cd (fun sJ Lk=> ?_) (fun sJ Lk=> ?_)
 ·try dsimp only at Lk
  refine g9 2 ?_
  refine W.ay (sG) rfl (g9 6 ?_)
  rfl
 try dsimp only at Lk
 refine g9 6 ?_
 refine W.call (Mp:=[]) (Mr:=((b1,aj 23 [iV bJ,iV aU,iV bK,iV aI,iV aV])::[])) (ai4 bJ aU bK aI aV az ss t [2] ⟨fun x hx=>by rw [List.mem_singleton.1 hx];exact⟨by decide,by decide⟩,by simp⟩) rfl ai ?_
 intro v7 G4 Ms6 Qu q5
 refine match q5 with|⟨aG,b_s,bx,dI,wt,QR,hK9⟩=> ?_
 subst QR
 have aNV:l.length≤aI.toNat:=hK9.Al
 have aX8:=t.pos
 refine W.perm (M':=((b1,aj 23 [iV bJ,iV aU,iV bK,iV aI,iV aV])::(Ms6++[]))) (ae ai).symm (g9 11 ?_)
 refine W.call (Mp:=[]) (awP (bJ) (aU) (bK) (aI) (aV) (az.mono Qu)) rfl ai ?_
 intro v12 G9 TZ HK q10
 refine match q10 with|⟨E4,ym,vRf,ZM,eRf,as2⟩=> ?_
 subst ym
 subst eRf
 have q15:=as2.form
 refine match q15 with|⟨ZN,ZO,Jl⟩=> ?_
 subst Jl
 refine W.perm (M':=((E4,aj 48 [iV bJ,iV aU,iV bK,iV aI,iV aV,lV ZN l.length ZO])::((b1,aj 23 [iV bJ,iV aU,iV bK,iV aI,iV aV])::(ZM++(Ms6++[]))))) (((ae ai).cons _).trans ai).symm (g9 7 ?_)
 refine W.call (Mp:=Ms6) (Pb (LG.mono HK hK9) 2 k (by decide) rfl) rfl (ae (ae (dx ai))) ?_
 intro v19 G16 wo mK Em
 refine match Em with|⟨ck,bz,tU,LA⟩=> ?_
 subst tU
 refine W.perm (ae (ae ai)).symm ?_
 have hF0:FI (⟨bJ,aU,bK,aI,aV⟩:aQ) k 2 aI.toNat r9 _ 99001:=FI.new t hr9 hN9
 refine g9 9 ?_
 refine WC.cond rfl (fun aEc=> ?_) (fun aEc=> ?_)
 ·refine g9 3 ?_
  refine W.call (Mp:=wo) (BK LA 2 bz (by decide) (by rw [mB,if_pos rfl])) rfl (ae (ae ai)) ?_
  intro v24 G21 akr xM PD
  refine match PD with|⟨yH,aNW⟩=> ?_
  subst yH
  refine W.perm (ae (ae ai)).symm (W.call (Mp:=akr) (arq aNW 0 true (List.mem_singleton.2 rfl)) rfl (ae (ae ai)) ?_)
  intro v30 G27 NC yC q28
  refine match q28 with|⟨Xm,Xn⟩=> ?_
  subst Xm
  refine W.perm (ae (ae ai)).symm (g9 5 ?_)
  refine W.call (Mp:=NC) (arr Xn rfl (by decide) (by rw [mB,if_pos rfl])) rfl (ae (ae ai)) ?_
  intro v36 G33 TW tG q34
  refine match q34 with|⟨b_z,W5,hR8⟩=> ?_
  subst W5
  refine W.perm (ae (ae ai)).symm ?_
  have hF1:FI (⟨bJ,aU,bK,aI,aV⟩:aQ) k 2 aI.toNat r9 _ 99001:=FI.go t hr9 hN9 (by decide) aNV
  refine g9 12 ?_
  refine W.ok (bV qR rfl rfl) (g9 7 ?_)
  refine W.call (Mp:=TW) (Pa hR8 (-1) k (by decide)) rfl (ae (ae ai)) ?_
  intro v41 TX Ar kV q39
  refine match q39 with|⟨yv,aNX⟩=> ?_
  subst yv
  refine W.perm (ae (ae ai)).symm (g9 1 ?_)
  refine W.ok (gB qR rfl rfl) (g9 5 ?_)
  refine W.ay ((Ge 0 k).mono fun v _ _ _ hv=>hv.1) rfl (g9 1 ?_)
  refine W.ok (gB qR rfl rfl) (g9 13 ?_)
  refine WC.loop (X:=(Nat×ed)×MH) (fun x=>[(13,aT x.1.1),(4,aq b1),(11,aq E4),(2,sV k.b),(9,aq aG),(12,aq b_z)]) (fun x G Ml=>Ml=((E4,aj 48 [iV bJ,iV aU,iV bK,iV aI,iV aV,lV ZN l.length ZO])::((b1,aj 23 [iV bJ,iV aU,iV bK,iV aI,iV aV])::(x.2++(ZM++[]))))∧gu 119 123 3 78 70 57 4 3 145 99 75 34 39 67 109 [2] (⟨bJ,aU,bK,aI,aV⟩:aQ) k 2 b_z bz aG b_s bx dI (kA ([]:List (Int×Option Nat)) 2 (some bz)) wt G (x.1.2) x.2∧x.1.1≤100001∧((∃m,FI (⟨bJ,aU,bK,aI,aV⟩:aQ) k 2 aI.toNat r9 x.1.2 m∧x.1.1+m≤100000)∨FD (⟨bJ,aU,bK,aI,aV⟩:aQ) aI.toNat r9 x.1.2)) (fun x=>100001-x.1.1) (((0,(⟨0,0,0,1,0,ah.nil,0,false,(if(cH (List.replicate aI.toNat ([],0)) 2 0 true).1=true then fh (cH (List.replicate aI.toNat ([],0)) 2 0 true).2 2 0 else 0),(cH (List.replicate aI.toNat ([],0)) 2 0 true).2,l⟩:ed)):Nat×ed),Ar) aZ ?_ ?_
  ·exact⟨rfl,(by exact aNX),by dsimp only;omega,.inl ⟨99001,hF1,by dsimp only;omega⟩⟩
  rintro⟨⟨i,st⟩,zk⟩ aNY G44 _ afj ⟨rfl,mm,hi,hI⟩
  try dsimp only at mm hi hI
  refine WC.fr (f:=dO aNY [(13,aT i),(4,aq b1),(11,aq E4),(2,sV k.b),(9,aq aG),(12,aq b_z)]) rfl (g9 4 ?_)
  refine W.call (Mp:=zk) (BJ mm) rfl (ae (ae ai)) ?_
  intro v48 G45 OX axu q46
  refine match q46 with|⟨aqN,as3⟩=> ?_
  subst aqN
  refine W.perm (ae (ae ai)).symm (g9 3 ?_)
  refine WC.cond rfl (fun EK=> ?_) (fun EK=> ?_)
  ·have Lc:st.dn=false:=by simpa using EK
   obtain⟨m9,hF7,hm7⟩:∃m,FI (⟨bJ,aU,bK,aI,aV⟩:aQ) k 2 aI.toNat r9 st m∧i+m≤100000:=hI.resolve_right (fun h9=>absurd h9.dn (by rw [Lc];decide))
   have as4:=gu.Al as3
   have q51:=hF7.step as4 (by decide)
   refine match q51 with|⟨A1,Q3,hm1⟩=> ?_
   have q52:=hF7.tr
   refine match q52 with|⟨T9,t9⟩=> ?_
   obtain⟨sT,tT⟩:∃T,Tree (⟨bJ,aU,bK,aI,aV⟩:aQ) (gH (⟨bJ,aU,bK,aI,aV⟩:aQ) k 2 st).2.l T:=Q3.elim (·.tr) (·.tr)
   have hST:=tT.xa
   refine g9 5 ?_
   refine WC.dw (eu.k9.k9) (d9 [0,1,2] ?_)
   refine WD.sp 72 rfl (fun EW=> ?_) (fun EW=> ?_)
   ·have p71:=va EW
    try dsimp only at p71
    exfalso;omega
   have p71:=sU EW
   try dsimp only at p71
   refine d9 [3] ?_
   refine WD.jB [4] (by kernel_rfl) rfl ⟨⟨_,rfl,.inr ⟨_,72,_,_,rfl,rfl,rfl,EW,rfl⟩,(W.call (Mp:=OX) (oX as3 t9 (List.mem_singleton.2 rfl) (fun _=>hF7.ok)) rfl (ae (ae ai)) ?_)⟩,trivial⟩
   intro v56 G53 afB Fv q54
   refine match q54 with|⟨JE,aNZ⟩=> ?_
   subst JE
   refine W.perm (ae (ae ai)).symm (W.nn (d9 [5,6,7] ?_))
   refine WD.sp 77 rfl (fun BB=> ?_) (fun BB=> ?_)
   ·rw [A1]at BB;exact absurd BB (by decide)
   refine d9 [8,9] ?_
   refine WD.jB [10] (by kernel_rfl) rfl ⟨⟨_,rfl,.inr ⟨_,77,_,_,rfl,rfl,rfl,BB,rfl⟩,(W.call (Mp:=afB) (mP aNZ) rfl (ae (ae ai)) ?_)⟩,trivial⟩
   intro v62 G59 afi axY q60
   refine match q60 with|⟨Jw,aN0⟩=> ?_
   subst Jw
   refine W.perm (ae (ae ai)).symm (W.nn (WD.jB [11] (by kernel_rfl) rfl ⟨⟨_,rfl,.inr ⟨_,77,_,_,rfl,rfl,rfl,BB,rfl⟩,(W.call (Mp:=afi) (mQ aN0) rfl (ae (ae ai)) ?_)⟩,trivial⟩))
   intro v68 G65 Yn aeK QV
   refine match QV with|⟨Ld,aN1⟩=> ?_
   refine W.perm (ae (ae ai)).symm ?_
   have aGB:=Ld.aH
   have q73:=Ld.form
   refine match q73 with|⟨aX9,aYa,Jb⟩=> ?_
   subst Jb
   refine W.nn (WD.jB [12] (by kernel_rfl) rfl ⟨⟨_,rfl,.inr ⟨_,77,_,_,rfl,rfl,rfl,BB,rfl⟩,(W.ay ((EJ _ _ _ _ _ Ld hST).mono (fun v _ _ _ hv=>hv.trans (congrArg Value.bool tT.sound))) rfl (W.nn (d9 [13,14,15,16,17,18,19] ?_)))⟩,trivial⟩)
   refine g9 12 ?_
   exact⟨aS,(((i+1,(gH (⟨bJ,aU,bK,aI,aV⟩:aQ) k 2 st).2):Nat×ed),Yn),aZ,⟨rfl,(by exact aN1),by dsimp only;omega,Q3.imp (fun h9=>⟨m9-1,h9,by dsimp only;omega⟩) id⟩,by dsimp only;omega⟩
  have Lc:st.dn=true:=by simpa using EK
  have qc:FD (⟨bJ,aU,bK,aI,aV⟩:aQ) aI.toNat r9 st:=hI.resolve_left (fun⟨m,h9,_⟩=>absurd h9.dn (by rw [Lc];decide))
  have q74:=qc.tr
  refine match q74 with|⟨T9,t9⟩=> ?_
  refine g9 9 ?_
  refine W.call (Mp:=((E4,aj 48 [iV bJ,iV aU,iV bK,iV aI,iV aV,lV ZN l.length ZO])::ZM)) (Mr:=((b1,aj 23 [iV bJ,iV aU,iV bK,iV aI,iV aV])::(OX++[]))) (Lb (c:=(⟨bJ,aU,bK,aI,aV⟩:aQ)) ⟨_,_,rfl,(as2.mono aS)⟩ t k 100000 N9 r9 hr9 ⟨aa,aa⟩) rfl (((ae (dx ai)).cons _).trans ai) ?_
  intro v76 G77 aYb Tx q75
  refine match q75 with|⟨Wj,vRg,as5,eRg,ZP⟩=> ?_
  subst Wj
  subst eRg
  have q81:=ZP.form
  refine match q81 with|⟨ZQ,ZR,Wv⟩=> ?_
  subst Wv
  refine W.perm (M':=((E4,aj 48 [iV bJ,iV aU,iV bK,iV aI,iV aV,lV ZQ (r9.2.2).length ZR])::((b1,aj 23 [iV bJ,iV aU,iV bK,iV aI,iV aV])::(as5++(OX++[]))))) (((ae ai).cons _).trans ai).symm (g9 9 ?_)
  refine WC.dw (eu.k9.k9) (d9 [0,2] ?_)
  refine WD.a1 1 rfl (W.call (Mp:=OX) (E1 (gu.mono Tx as3)) rfl (ae (ae (dx ai))) ?_)
  intro v85 G82 aN2 ae4 q83
  refine match q83 with|⟨aN3,aN4⟩=> ?_
  subst aN3
  refine W.perm (ae (ae ai)).symm (W.nn (d9 [3,4] ?_))
  refine WD.sp 100 rfl (fun SP=> ?_) (fun SP=> ?_)
  ·have SQ:=Fa SP
   try dsimp only at SQ
   exact absurd qc.bH SQ
  have SQ:=Fb SP
  try dsimp only at SQ
  refine d9 [5,7] ?_
  refine WD.jB [6] (by kernel_rfl) rfl ⟨⟨_,rfl,.inr ⟨_,100,_,_,rfl,rfl,rfl,SP,rfl⟩,(W.call (Mp:=aN2) (E2 aN4) rfl (ae (ae ai)) ?_)⟩,trivial⟩
  intro v91 G88 anE anC q89
  refine match q89 with|⟨Ya,aN5⟩=> ?_
  subst Ya
  refine W.perm (ae (ae ai)).symm (W.nn (d9 [8,9,10] ?_))
  refine WD.sp 106 rfl (fun uQ=> ?_) (fun uQ=> ?_)
  ·have DA:=Fa uQ
   try dsimp only at DA
   exact absurd qc.e DA
  have DA:=Fb uQ
  try dsimp only at DA
  refine d9 [11,14,15,16,17] ?_
  refine WD.jB [12] (by kernel_rfl) rfl ⟨⟨_,rfl,.inr ⟨_,106,_,_,rfl,rfl,rfl,uQ,rfl⟩,(W.call (Mp:=anE) (mP aN5) rfl (ae (ae ai)) ?_)⟩,trivial⟩
  intro v97 G94 Yb wL q95
  refine match q95 with|⟨aod,aN6⟩=> ?_
  subst aod
  refine W.perm (ae (ae ai)).symm (W.nn (WD.jB [13] (by kernel_rfl) rfl ⟨⟨_,rfl,.inr ⟨_,106,_,_,rfl,rfl,rfl,uQ,rfl⟩,(W.call (Mp:=Yb) (mQ aN6) rfl (ae (ae ai)) ?_)⟩,trivial⟩))
  intro aYc axD By amy ap4
  refine match ap4 with|⟨E5,aEd⟩=> ?_
  refine W.perm (ae (ae ai)).symm ?_
  have aEe:=E5.aH
  have aN7:=E5.form
  refine match aN7 with|⟨aSZ,aS0,aEf⟩=> ?_
  subst aEf
  refine W.nn (WD.jB [18] (by kernel_rfl) rfl ⟨⟨_,rfl,.inr ⟨_,106,_,_,rfl,rfl,rfl,uQ,rfl⟩,(W.cm (ZP.mono aS) (ae (ae (dx ai))) (fun aJf Br acT=>(W.ay ((M9 (E5.mono Br) acT).mono (fun v _ _ _ hv=>hv.trans (congrArg Value.bool (decide_eq_true qc.l)))) rfl (W.nn (d9 [19,20,21,22,24] ?_)))))⟩,trivial⟩)
  refine WD.jB [23] (by kernel_rfl) rfl ⟨⟨_,rfl,.inr ⟨_,117,_,_,rfl,rfl,rfl,rfl,rfl⟩,(W.call (Mp:=By) (O9 (gu.mono Br aEd)) rfl (ae (ae ai)) ?_)⟩,trivial⟩
  intro aKt aYd aEg aS1 anH
  refine match anH with|⟨acM,aEh⟩=> ?_
  subst acM
  refine W.perm (ae (ae ai)).symm (W.nn (d9 [25,26,27] ?_))
  refine WD.sp 123 rfl (fun DB=> ?_) (fun DB=> ?_)
  ·have DC:=Fa DB
   try dsimp only at DC
   exact absurd qc.bH DC
  have DC:=Fb DB
  try dsimp only at DC
  refine d9 [28] ?_
  refine WD.jB [29] (by kernel_rfl) rfl ⟨⟨_,rfl,.inr ⟨_,123,_,_,rfl,rfl,rfl,DB,rfl⟩,(W.call (Mp:=aEg) (Gf aEh) rfl (ae (ae ai)) ?_)⟩,trivial⟩
  intro aYe aNE aEi SO aN8
  refine match aN8 with|⟨Pk,aEj⟩=> ?_
  refine W.perm (ae (ae ai)).symm ?_
  have aEk:=Pk.aH
  have aof:=Pk.form
  refine match aof with|⟨aBe,aBf,JV⟩=> ?_
  subst JV
  refine W.nn (d9 [30,31,32,33] ?_)
  refine WD.sp 129 rfl (fun ug=> ?_) (fun ug=> ?_)
  ·have nT:=va ug
   try dsimp only at nT
   rw [qc.W,Bk]at nT;exact absurd nT (by decide)
  have nT:=sU ug
  try dsimp only at nT
  refine d9 [34] ?_
  refine WD.jB [35] (by kernel_rfl) rfl ⟨⟨_,rfl,.inr ⟨_,129,_,_,rfl,rfl,rfl,ug,rfl⟩,(W.call (Mp:=aEi) (BK aEj 2 bz (by decide) (by rw [mB,if_pos rfl])) rfl (ae (ae ai)) ?_)⟩,trivial⟩
  intro aYf aNl adh asF aqy
  refine match aqy with|⟨ab0,aEl⟩=> ?_
  subst ab0
  refine W.perm (ae (ae ai)).symm (W.nn (WD.jB [36] (by kernel_rfl) rfl ⟨⟨_,rfl,.inr ⟨_,129,_,_,rfl,rfl,rfl,ug,rfl⟩,(W.call (Mp:=adh) (KS aEl) rfl (ae (ae ai)) ?_)⟩,trivial⟩))
  intro aNm aYg aoi aS2 asH
  refine match asH with|⟨aEm,aEn⟩=> ?_
  subst aEm
  refine W.perm (ae (ae ai)).symm (W.nn (d9 [37,38] ?_))
  refine g9 2 ?_
  refine WC.cd (fun as6 Lf=> ?_) (fun as6 Lf=> ?_)
  ·try dsimp only at Lf
   exact absurd qc.Al aa
  try dsimp only at Lf
  refine g9 5 ?_
  refine W.call (Mp:=aoi) (we aEn qc.dn) rfl (ae (ae ai)) ?_
  intro aL2 aL3 R9 aCI Xd
  refine match Xd with|⟨abO,acN⟩=> ?_
  subst abO
  refine W.perm (ae (ae ai)).symm (g9 8 ?_)
  refine W.call (Mp:=R9) (mP acN) rfl (ae (ae ai)) ?_
  intro aYh aMK aEo aCS aN9
  refine match aN9 with|⟨aEp,aEq⟩=> ?_
  subst aEp
  refine W.perm (ae (ae ai)).symm (W.call (Mp:=aEo) (mQ aEq) rfl (ae (ae ai)) ?_)
  intro aYi aYj aEr aS3 aOa
  refine match aOa with|⟨E6,aEs⟩=> ?_
  refine W.perm (ae (ae ai)).symm ?_
  have aEt:=E6.aH
  have aOb:=E6.form
  refine match aOb with|⟨as7,as8,ab8⟩=> ?_
  subst ab8
  refine g9 5 ?_
  refine WC.loop (X:=(Nat×Bool)×MH) (fun y=>[(16,.bool y.1.2),(142,aT y.1.1),(140,lV as7 (st.l).length as8),(141,aT ((st.l).length)),(12,aq b_z)]) (fun y G Ml=>Ml=((E4,aj 48 [iV bJ,iV aU,iV bK,iV aI,iV aV,lV ZQ (r9.2.2).length ZR])::((b1,aj 23 [iV bJ,iV aU,iV bK,iV aI,iV aV])::(y.2++[])))∧gu 119 123 3 78 70 57 4 3 145 99 75 34 39 67 109 [2] (⟨bJ,aU,bK,aI,aV⟩:aQ) k 2 b_z bz aG b_s bx dI (kA ([]:List (Int×Option Nat)) 2 (some bz)) wt G (st) y.2∧y.1.1≤st.l.length∧y.1.2=(decide (st.fin.b=⟨#[]⟩)||(st.l.take y.1.1).any (fun z:Nd=>decide (z.high.b=st.fin.b)))) (fun y=>st.l.length-y.1.1) (((0,decide (st.fin.b=⟨#[]⟩)):Nat×Bool),aEr) aZ ?_ ?_
  ·exact⟨rfl,(by exact aEs),Nat.zero_le _,(Bool.or_false _).symm⟩
  rintro⟨⟨j,b⟩,zk⟩ aEu aK3 _ aoP ⟨rfl,mm,hj,hb⟩
  try dsimp only at mm hj hb
  refine WC.fr (f:=dO aEu [(16,.bool b),(142,aT j),(140,lV as7 (st.l).length as8),(141,aT ((st.l).length)),(12,aq b_z)]) rfl (g9 6 ?_)
  refine WC.cd (fun as9 Lg=> ?_) (fun as9 Lg=> ?_)
  ·try dsimp only at Lg
   refine g9 6 ?_
   refine(E6.mono aoP).aN (i:=j) aa (fun _ _ _ _ _ _ _ _ aS4 aOc aOd aOe aOf aGC=>(g9 2 ?_))
   refine W.alloc bq (fun aYk=>(g9 3 ?_))
   refine WC.dw ((eu.k9.k9).k9) (d9 [0,1] ?_)
   refine WD.sp 147 rfl (fun zl=> ?_) (fun zl=> ?_)
   ·refine d9 [2,3,4,5,6,7,8] ?_
    refine WD.done (by kernel_rfl) (AO (nU (g9 3 ?_)))
    refine W.sub (bi.cons _) (g9 2 ?_)
    exact⟨Le.rfl,(((j+1,true):Nat×Bool),zk),aZ,⟨rfl,(by exact mm),by dsimp only;omega,by dsimp only;rw [any_succ aa,←Bool.or_assoc,←hb,zl];rfl⟩,by dsimp only;omega⟩
   refine d9 [2,3,4] ?_
   refine WD.jB [5] (by kernel_rfl) rfl ⟨⟨_,rfl,.inr ⟨_,147,_,_,rfl,rfl,rfl,zl,rfl⟩,(W.call (Mp:=zk) (we mm qc.dn) rfl (ae (ae (ae ai))) ?_)⟩,trivial⟩
   intro axF ax2 RK RL aoR
   refine match aoR with|⟨ab9,aca⟩=> ?_
   subst ab9
   refine W.perm (ae (ae (ae ai))).symm (W.nn (d9 [6,7,8] ?_))
   refine WD.done (by kernel_rfl) (AO (nU (g9 3 ?_)))
   refine W.sub (bi.cons _) (g9 2 ?_)
   exact⟨RL,(((j+1,decide ((st.l[j]'aa).high.b=st.fin.b)):Nat×Bool),RK),aZ,⟨rfl,(by exact aca),by dsimp only;omega,by dsimp only;rw [any_succ aa,←Bool.or_assoc,←hb,zl];rfl⟩,by dsimp only;omega⟩
  try dsimp only at Lg
  refine g9 6 ?_
  have hb9:b=true:=by have h9:=hb;rw [List.take_of_length_le aa,qc.high]at h9;exact h9
  refine g9 3 ?_
  refine W.sp 156 rfl (fun zl=> ?_) (fun zl=> ?_)
  ·refine g9 3 ?_
   refine W.call (Mp:=zk) (oX mm t9 (List.mem_singleton.2 rfl) (fun h9=>absurd (h9.symm.trans qc.dn) (by decide))) rfl (ae (ae ai)) ?_
   intro aK4 aK5 abm aBD aoS
   refine match aoS with|⟨acb,aoT⟩=> ?_
   subst acb
   refine W.perm (ae (ae ai)).symm (g9 4 ?_)
   refine W.sp 161 rfl (fun Lh=> ?_) (fun Lh=> ?_)
   ·refine g9 1 ?_
    refine W.ay (sG) rfl (g9 6 ?_)
    rfl
   rw [Jr qc.dn]at Lh;exact Bool.noConfusion Lh
  rw [hb9]at zl;exact Bool.noConfusion zl
 refine g9 11 ?_
 refine W.ok (bV qR rfl rfl) (g9 7 ?_)
 refine W.call (Mp:=wo) (Pa LA (-1) k (by decide)) rfl (ae (ae ai)) ?_
 intro aYl aK6 aEv aoU amC
 refine match amC with|⟨aEw,aEx⟩=> ?_
 subst aEw
 refine W.perm (ae (ae ai)).symm (g9 1 ?_)
 refine W.ok (gB qR rfl rfl) (g9 5 ?_)
 refine W.ay ((Ge 0 k).mono fun v _ _ _ hv=>hv.1) rfl (g9 1 ?_)
 refine W.ok (gB qR rfl rfl) (g9 13 ?_)
 refine WC.loop (X:=(Nat×ed)×MH) (fun x=>[(13,aT x.1.1),(4,aq b1),(11,aq E4),(2,sV k.b),(9,aq aG),(12,aq ck)]) (fun x G Ml=>Ml=((E4,aj 48 [iV bJ,iV aU,iV bK,iV aI,iV aV,lV ZN l.length ZO])::((b1,aj 23 [iV bJ,iV aU,iV bK,iV aI,iV aV])::(x.2++(ZM++[]))))∧gu 119 123 3 78 70 57 4 3 145 99 75 34 39 67 109 [2] (⟨bJ,aU,bK,aI,aV⟩:aQ) k 2 ck bz aG b_s bx dI (kA ([]:List (Int×Option Nat)) 2 (some bz)) wt G (x.1.2) x.2∧x.1.1≤100001∧((∃m,FI (⟨bJ,aU,bK,aI,aV⟩:aQ) k 2 aI.toNat r9 x.1.2 m∧x.1.1+m≤100000)∨FD (⟨bJ,aU,bK,aI,aV⟩:aQ) aI.toNat r9 x.1.2)) (fun x=>100001-x.1.1) (((0,(⟨0,0,0,0,0,ah.nil,0,false,0,(List.replicate aI.toNat ([],0)),l⟩:ed)):Nat×ed),aEv) aZ ?_ ?_
 ·exact⟨rfl,(by exact aEx),by dsimp only;omega,.inl ⟨99001,hF0,by dsimp only;omega⟩⟩
 rintro⟨⟨i,st⟩,zk⟩ aEy aYm _ aS5 ⟨rfl,mm,hi,hI⟩
 try dsimp only at mm hi hI
 refine WC.fr (f:=dO aEy [(13,aT i),(4,aq b1),(11,aq E4),(2,sV k.b),(9,aq aG),(12,aq ck)]) rfl (g9 4 ?_)
 refine W.call (Mp:=zk) (BJ mm) rfl (ae (ae ai)) ?_
 intro aYn aYo SR aS6 aOg
 refine match aOg with|⟨aEz,ady⟩=> ?_
 subst aEz
 refine W.perm (ae (ae ai)).symm (g9 3 ?_)
 refine WC.cond rfl (fun EK=> ?_) (fun EK=> ?_)
 ·have Lc:st.dn=false:=by simpa using EK
  obtain⟨m9,hF7,hm7⟩:∃m,FI (⟨bJ,aU,bK,aI,aV⟩:aQ) k 2 aI.toNat r9 st m∧i+m≤100000:=hI.resolve_right (fun h9=>absurd h9.dn (by rw [Lc];decide))
  have as4:=gu.Al ady
  have aOh:=hF7.step as4 (by decide)
  refine match aOh with|⟨A1,Q3,hm1⟩=> ?_
  have aOi:=hF7.tr
  refine match aOi with|⟨T9,t9⟩=> ?_
  obtain⟨sT,tT⟩:∃T,Tree (⟨bJ,aU,bK,aI,aV⟩:aQ) (gH (⟨bJ,aU,bK,aI,aV⟩:aQ) k 2 st).2.l T:=Q3.elim (·.tr) (·.tr)
  have hST:=tT.xa
  refine g9 5 ?_
  refine WC.dw (eu.k9.k9) (d9 [0,1,2] ?_)
  refine WD.sp 72 rfl (fun EW=> ?_) (fun EW=> ?_)
  ·have p71:=va EW
   try dsimp only at p71
   exfalso;omega
  have p71:=sU EW
  try dsimp only at p71
  refine d9 [3] ?_
  refine WD.jB [4] (by kernel_rfl) rfl ⟨⟨_,rfl,.inr ⟨_,72,_,_,rfl,rfl,rfl,EW,rfl⟩,(W.call (Mp:=SR) (oX ady t9 (List.mem_singleton.2 rfl) (fun _=>hF7.ok)) rfl (ae (ae ai)) ?_)⟩,trivial⟩
  intro aK8 aK9 acf aBI aoV
  refine match aoV with|⟨acg,ach⟩=> ?_
  subst acg
  refine W.perm (ae (ae ai)).symm (W.nn (d9 [5,6,7] ?_))
  refine WD.sp 77 rfl (fun BB=> ?_) (fun BB=> ?_)
  ·rw [A1]at BB;exact absurd BB (by decide)
  refine d9 [8,9] ?_
  refine WD.jB [10] (by kernel_rfl) rfl ⟨⟨_,rfl,.inr ⟨_,77,_,_,rfl,rfl,rfl,BB,rfl⟩,(W.call (Mp:=acf) (mP ach) rfl (ae (ae ai)) ?_)⟩,trivial⟩
  intro aYp aJo aEA azV aOj
  refine match aOj with|⟨aci,aEB⟩=> ?_
  subst aci
  refine W.perm (ae (ae ai)).symm (W.nn (WD.jB [11] (by kernel_rfl) rfl ⟨⟨_,rfl,.inr ⟨_,77,_,_,rfl,rfl,rfl,BB,rfl⟩,(W.call (Mp:=aEA) (mQ aEB) rfl (ae (ae ai)) ?_)⟩,trivial⟩))
  intro aYq aYr aEC aS7 amH
  refine match amH with|⟨E7,aED⟩=> ?_
  refine W.perm (ae (ae ai)).symm ?_
  have aEE:=E7.aH
  have aoZ:=E7.form
  refine match aoZ with|⟨aS8,aS9,aEF⟩=> ?_
  subst aEF
  refine W.nn (WD.jB [12] (by kernel_rfl) rfl ⟨⟨_,rfl,.inr ⟨_,77,_,_,rfl,rfl,rfl,BB,rfl⟩,(W.ay ((EJ _ _ _ _ _ E7 hST).mono (fun v _ _ _ hv=>hv.trans (congrArg Value.bool tT.sound))) rfl (W.nn (d9 [13,14,15,16,17,18,19] ?_)))⟩,trivial⟩)
  refine g9 12 ?_
  exact⟨aS,(((i+1,(gH (⟨bJ,aU,bK,aI,aV⟩:aQ) k 2 st).2):Nat×ed),aEC),aZ,⟨rfl,(by exact aED),by dsimp only;omega,Q3.imp (fun h9=>⟨m9-1,h9,by dsimp only;omega⟩) id⟩,by dsimp only;omega⟩
 have Lc:st.dn=true:=by simpa using EK
 have qc:FD (⟨bJ,aU,bK,aI,aV⟩:aQ) aI.toNat r9 st:=hI.resolve_left (fun⟨m,h9,_⟩=>absurd h9.dn (by rw [Lc];decide))
 have Wk:=qc.tr
 refine match Wk with|⟨T9,t9⟩=> ?_
 refine g9 9 ?_
 refine W.call (Mp:=((E4,aj 48 [iV bJ,iV aU,iV bK,iV aI,iV aV,lV ZN l.length ZO])::ZM)) (Mr:=((b1,aj 23 [iV bJ,iV aU,iV bK,iV aI,iV aV])::(SR++[]))) (Lb (c:=(⟨bJ,aU,bK,aI,aV⟩:aQ)) ⟨_,_,rfl,(as2.mono aS)⟩ t k 100000 N9 r9 hr9 ⟨aa,aa⟩) rfl (((ae (dx ai)).cons _).trans ai) ?_
 intro aYs aYt aTa aEG aOk
 refine match aOk with|⟨aEH,vRg,as5,eRg,ZP⟩=> ?_
 subst aEH
 subst eRg
 have aOl:=ZP.form
 refine match aOl with|⟨ZQ,ZR,aEI⟩=> ?_
 subst aEI
 refine W.perm (M':=((E4,aj 48 [iV bJ,iV aU,iV bK,iV aI,iV aV,lV ZQ (r9.2.2).length ZR])::((b1,aj 23 [iV bJ,iV aU,iV bK,iV aI,iV aV])::(as5++(SR++[]))))) (((ae ai).cons _).trans ai).symm (g9 9 ?_)
 refine WC.dw (eu.k9.k9) (d9 [0,2] ?_)
 refine WD.a1 1 rfl (W.call (Mp:=SR) (E1 (gu.mono aEG ady)) rfl (ae (ae (dx ai))) ?_)
 intro aYu aJr aEJ amJ aOm
 refine match aOm with|⟨aEK,aEL⟩=> ?_
 subst aEK
 refine W.perm (ae (ae ai)).symm (W.nn (d9 [3,4] ?_))
 refine WD.sp 100 rfl (fun SP=> ?_) (fun SP=> ?_)
 ·have SQ:=Fa SP
  try dsimp only at SQ
  exact absurd qc.bH SQ
 have SQ:=Fb SP
 try dsimp only at SQ
 refine d9 [5,7] ?_
 refine WD.jB [6] (by kernel_rfl) rfl ⟨⟨_,rfl,.inr ⟨_,100,_,_,rfl,rfl,rfl,SP,rfl⟩,(W.call (Mp:=aEJ) (E2 aEL) rfl (ae (ae ai)) ?_)⟩,trivial⟩
 intro aYv aYw aEM aTb aOn
 refine match aOn with|⟨aEN,aEO⟩=> ?_
 subst aEN
 refine W.perm (ae (ae ai)).symm (W.nn (d9 [8,9,10] ?_))
 refine WD.sp 106 rfl (fun uQ=> ?_) (fun uQ=> ?_)
 ·have DA:=Fa uQ
  try dsimp only at DA
  exact absurd qc.e DA
 have DA:=Fb uQ
 try dsimp only at DA
 refine d9 [11,14,15,16,17] ?_
 refine WD.jB [12] (by kernel_rfl) rfl ⟨⟨_,rfl,.inr ⟨_,106,_,_,rfl,rfl,rfl,uQ,rfl⟩,(W.call (Mp:=aEM) (mP aEO) rfl (ae (ae ai)) ?_)⟩,trivial⟩
 intro aJs aYx aqY aTc aOo
 refine match aOo with|⟨aEP,aEQ⟩=> ?_
 subst aEP
 refine W.perm (ae (ae ai)).symm (W.nn (WD.jB [13] (by kernel_rfl) rfl ⟨⟨_,rfl,.inr ⟨_,106,_,_,rfl,rfl,rfl,uQ,rfl⟩,(W.call (Mp:=aqY) (mQ aEQ) rfl (ae (ae ai)) ?_)⟩,trivial⟩))
 intro aLd aLe abr aBT X1
 refine match X1 with|⟨E8,aER⟩=> ?_
 refine W.perm (ae (ae ai)).symm ?_
 have aES:=E8.aH
 have aOp:=E8.form
 refine match aOp with|⟨aTd,aTe,aET⟩=> ?_
 subst aET
 refine W.nn (WD.jB [18] (by kernel_rfl) rfl ⟨⟨_,rfl,.inr ⟨_,106,_,_,rfl,rfl,rfl,uQ,rfl⟩,(W.cm (ZP.mono aS) (ae (ae (dx ai))) (fun aYy ata aEU=>(W.ay ((M9 (E8.mono ata) aEU).mono (fun v _ _ _ hv=>hv.trans (congrArg Value.bool (decide_eq_true qc.l)))) rfl (W.nn (d9 [19,20,21,22,24] ?_)))))⟩,trivial⟩)
 refine WD.jB [23] (by kernel_rfl) rfl ⟨⟨_,rfl,.inr ⟨_,117,_,_,rfl,rfl,rfl,rfl,rfl⟩,(W.call (Mp:=abr) (O9 (gu.mono ata aER)) rfl (ae (ae ai)) ?_)⟩,trivial⟩
 intro aYz aYA aq0 aTf aOq
 refine match aOq with|⟨aEV,aEW⟩=> ?_
 subst aEV
 refine W.perm (ae (ae ai)).symm (W.nn (d9 [25,26,27] ?_))
 refine WD.sp 123 rfl (fun DB=> ?_) (fun DB=> ?_)
 ·have DC:=Fa DB
  try dsimp only at DC
  exact absurd qc.bH DC
 have DC:=Fb DB
 try dsimp only at DC
 refine d9 [28] ?_
 refine WD.jB [29] (by kernel_rfl) rfl ⟨⟨_,rfl,.inr ⟨_,123,_,_,rfl,rfl,rfl,DB,rfl⟩,(W.call (Mp:=aq0) (Gf aEW) rfl (ae (ae ai)) ?_)⟩,trivial⟩
 intro aYB aYC aEX aTg aq2
 refine match aq2 with|⟨Pl,aEY⟩=> ?_
 refine W.perm (ae (ae ai)).symm ?_
 have aEZ:=Pl.aH
 have amO:=Pl.form
 refine match amO with|⟨aTh,aTi,aE0⟩=> ?_
 subst aE0
 refine W.nn (d9 [30,31,32,33] ?_)
 refine WD.sp 129 rfl (fun ug=> ?_) (fun ug=> ?_)
 ·have nT:=va ug
  try dsimp only at nT
  rw [qc.W,Bk]at nT;exact absurd nT (by decide)
 have nT:=sU ug
 try dsimp only at nT
 refine d9 [34] ?_
 refine WD.jB [35] (by kernel_rfl) rfl ⟨⟨_,rfl,.inr ⟨_,129,_,_,rfl,rfl,rfl,ug,rfl⟩,(W.call (Mp:=aEX) (BK aEY 2 bz (by decide) (by rw [mB,if_pos rfl])) rfl (ae (ae ai)) ?_)⟩,trivial⟩
 intro aYD aYE aq3 aTj aOr
 refine match aOr with|⟨aE1,aE2⟩=> ?_
 subst aE1
 refine W.perm (ae (ae ai)).symm (W.nn (WD.jB [36] (by kernel_rfl) rfl ⟨⟨_,rfl,.inr ⟨_,129,_,_,rfl,rfl,rfl,ug,rfl⟩,(W.call (Mp:=aq3) (KS aE2) rfl (ae (ae ai)) ?_)⟩,trivial⟩))
 intro aYF aYG aE3 aTk Wl
 refine match Wl with|⟨abv,aE4⟩=> ?_
 subst abv
 refine W.perm (ae (ae ai)).symm (W.nn (d9 [37,38] ?_))
 refine g9 2 ?_
 refine WC.cd (fun as6 Lf=> ?_) (fun as6 Lf=> ?_)
 ·try dsimp only at Lf
  exact absurd qc.Al aa
 try dsimp only at Lf
 refine g9 5 ?_
 refine W.call (Mp:=aE3) (we aE4 qc.dn) rfl (ae (ae ai)) ?_
 intro aYH aYI aq6 aTl aOs
 refine match aOs with|⟨abw,aE5⟩=> ?_
 subst abw
 refine W.perm (ae (ae ai)).symm (g9 8 ?_)
 refine W.call (Mp:=aq6) (mP aE5) rfl (ae (ae ai)) ?_
 intro aYJ aYK aE6 aTm aOt
 refine match aOt with|⟨aE7,aE8⟩=> ?_
 subst aE7
 refine W.perm (ae (ae ai)).symm (W.call (Mp:=aE6) (mQ aE8) rfl (ae (ae ai)) ?_)
 intro aYL aMM aq8 aDv aOu
 refine match aOu with|⟨E9,aE9⟩=> ?_
 refine W.perm (ae (ae ai)).symm ?_
 have aFa:=E9.aH
 have aOv:=E9.form
 refine match aOv with|⟨atb,atc,aFb⟩=> ?_
 subst aFb
 refine g9 5 ?_
 refine WC.loop (X:=(Nat×Bool)×MH) (fun y=>[(16,.bool y.1.2),(142,aT y.1.1),(140,lV atb (st.l).length atc),(141,aT ((st.l).length)),(12,aq ck)]) (fun y G Ml=>Ml=((E4,aj 48 [iV bJ,iV aU,iV bK,iV aI,iV aV,lV ZQ (r9.2.2).length ZR])::((b1,aj 23 [iV bJ,iV aU,iV bK,iV aI,iV aV])::(y.2++[])))∧gu 119 123 3 78 70 57 4 3 145 99 75 34 39 67 109 [2] (⟨bJ,aU,bK,aI,aV⟩:aQ) k 2 ck bz aG b_s bx dI (kA ([]:List (Int×Option Nat)) 2 (some bz)) wt G (st) y.2∧y.1.1≤st.l.length∧y.1.2=(decide (st.fin.b=⟨#[]⟩)||(st.l.take y.1.1).any (fun z:Nd=>decide (z.high.b=st.fin.b)))) (fun y=>st.l.length-y.1.1) (((0,decide (st.fin.b=⟨#[]⟩)):Nat×Bool),aq8) aZ ?_ ?_
 ·exact⟨rfl,(by exact aE9),Nat.zero_le _,(Bool.or_false _).symm⟩
 rintro⟨⟨j,b⟩,zk⟩ aFc aYM _ aFd ⟨rfl,mm,hj,hb⟩
 try dsimp only at mm hj hb
 refine WC.fr (f:=dO aFc [(16,.bool b),(142,aT j),(140,lV atb (st.l).length atc),(141,aT ((st.l).length)),(12,aq ck)]) rfl (g9 6 ?_)
 refine WC.cd (fun as9 Lg=> ?_) (fun as9 Lg=> ?_)
 ·try dsimp only at Lg
  refine g9 6 ?_
  refine(E9.mono aFd).aN (i:=j) aa (fun _ _ _ _ _ _ _ _ aTn aOw aOx aOy aOz aGD=>(g9 2 ?_))
  refine W.alloc bq (fun aYN=>(g9 3 ?_))
  refine WC.dw ((eu.k9.k9).k9) (d9 [0,1] ?_)
  refine WD.sp 147 rfl (fun zl=> ?_) (fun zl=> ?_)
  ·refine d9 [2,3,4,5,6,7,8] ?_
   refine WD.done (by kernel_rfl) (AO (nU (g9 3 ?_)))
   refine W.sub (bi.cons _) (g9 2 ?_)
   exact⟨Le.rfl,(((j+1,true):Nat×Bool),zk),aZ,⟨rfl,(by exact mm),by dsimp only;omega,by dsimp only;rw [any_succ aa,←Bool.or_assoc,←hb,zl];rfl⟩,by dsimp only;omega⟩
  refine d9 [2,3,4] ?_
  refine WD.jB [5] (by kernel_rfl) rfl ⟨⟨_,rfl,.inr ⟨_,147,_,_,rfl,rfl,rfl,zl,rfl⟩,(W.call (Mp:=zk) (we mm qc.dn) rfl (ae (ae (ae ai))) ?_)⟩,trivial⟩
  intro aYO aMO aFe ara aOA
  refine match aOA with|⟨aFf,aFg⟩=> ?_
  subst aFf
  refine W.perm (ae (ae (ae ai))).symm (W.nn (d9 [6,7,8] ?_))
  refine WD.done (by kernel_rfl) (AO (nU (g9 3 ?_)))
  refine W.sub (bi.cons _) (g9 2 ?_)
  exact⟨ara,(((j+1,decide ((st.l[j]'aa).high.b=st.fin.b)):Nat×Bool),aFe),aZ,⟨rfl,(by exact aFg),by dsimp only;omega,by dsimp only;rw [any_succ aa,←Bool.or_assoc,←hb,zl];rfl⟩,by dsimp only;omega⟩
 try dsimp only at Lg
 refine g9 6 ?_
 have hb9:b=true:=by have h9:=hb;rw [List.take_of_length_le aa,qc.high]at h9;exact h9
 refine g9 3 ?_
 refine W.sp 156 rfl (fun zl=> ?_) (fun zl=> ?_)
 ·refine g9 3 ?_
  refine W.call (Mp:=zk) (oX mm t9 (List.mem_singleton.2 rfl) (fun h9=>absurd (h9.symm.trans qc.dn) (by decide))) rfl (ae (ae ai)) ?_
  intro aYP aYQ aTo aTp aOB
  refine match aOB with|⟨aFh,aTq⟩=> ?_
  subst aFh
  refine W.perm (ae (ae ai)).symm (g9 4 ?_)
  refine W.sp 161 rfl (fun Lh=> ?_) (fun Lh=> ?_)
  ·refine g9 1 ?_
   refine W.ay (sG) rfl (g9 6 ?_)
   rfl
  rw [Jr qc.dn]at Lh;exact Bool.noConfusion Lh
 rw [hb9]at zl;exact Bool.noConfusion zl

end Go.Proofs.YtfhnamngaofccaaGreat
