/- The seats of nodes: all nodes that a root leads to, level by level. Plain Lean; nothing of the program is named here. No condition. -/
import Derived.Test.YtfhnamngaofccaaGreatQiNc
set_option linter.unusedVariables false
set_option linter.unusedSimpArgs false
set_option linter.unnecessarySimpa false

namespace Go.Fw
open Go Go.RowKit
structure aC where
 n:Nd
 s:Span
 ms:List aA
instance : Inhabited aC := ⟨⟨Nd.zero, Span.zero, []⟩⟩
def A8 (G:GH) (cs:List Value) (x:aC):Prop:=
 ∃a1 c1 a2 c2 a3 c3 a4 c4 a5 c5,cs=[.int .i64 x.n.slot,.int .i64 x.n.level,.slice a1 x.n.ab.length c1,.slice a2 x.n.kids.length c2,.string x.n.high.b,.bool x.n.cW,.int .i64 x.n.right,.int .i64 x.n.seen,.slice a3 x.n.af.length c3,.slice a4 x.n.rows.length c4,.string x.s.lo.b,.string x.s.hi.b,.bool x.s.bT,.slice a5 x.ms.length c5]∧
  ax dg G (.slice a1 x.n.ab.length c1) x.n.ab∧ax bY G (.slice a2 x.n.kids.length c2) x.n.kids∧ax bQ G (.slice a3 x.n.af.length c3) x.n.af∧ax bA G (.slice a4 x.n.rows.length c4) x.n.rows∧ax bQ G (.slice a5 x.ms.length c5) x.ms∧x.n.Ok
theorem A8.mono{G G':GH}{cs x}(hl:Le G G')(h:A8 G cs x):A8 G' cs x:=by
 obtain⟨a1,c1,a2,c2,a3,c3,a4,c4,a5,c5,h0,h1,h2,h3,h4,h5,h6⟩:=h
 exact⟨a1,c1,a2,c2,a3,c3,a4,c4,a5,c5,h0,h1.mono hl,h2.mono hl,h3.mono hl,h4.mono hl,h5.mono hl,h6⟩
def vt:dV aC where
 k:=14
 w:=216
 R:=A8
 mono:=fun hl h=>h.mono hl
 len:=fun h=>by obtain⟨a1,c1,a2,c2,a3,c3,a4,c4,a5,c5,h0,_⟩:=h;rw [h0];rfl
 one:=fun h u hu=>by
  obtain⟨a1,c1,a2,c2,a3,c3,a4,c4,a5,c5,h0,_⟩:=h
  rw [h0]at hu
  simp at hu
  rcases hu with rfl|rfl|rfl|rfl|rfl|rfl|rfl|rfl|rfl|rfl|rfl|rfl|rfl|rfl<;>rfl
variable {G:GH}
theorem WD.P1{E:Env}{f:Fr}{M M1 M' Mk:MH}{ops:Array Oper}{K:Kt}{cR:Nat}{bF:Array Bool}(hr:Region.ready .any ops bF=[])(hs:M1.Sublist M)(hp:M'.Perm M1)(h:K f G M'):WD E ops cR bF f G M Mk K:=fun _ a w Q hi hw _ hK=>
 wpAnyH_done hr (hK _ _ _ _ _ hi ⟨(hw.r.sub hs).perm hp,hw.le,hw.nw⟩ h) cR
def wZ (l:List Nd) (i:Int):List Nd:=l.filter fun n=>decide (n.slot=i)
def bL (l:List Nd) (i:Int):Nd×Bool:=((wZ l i).getLast?.getD Nd.zero,decide ((wZ l i).length=1))
variable {i:Int} {l:List Nd}
theorem aay{k:Nat}(hk:k<l.length)(h:l[k].slot=i):wZ (l.take (k+1)) i=wZ (l.take k) i++[l[k]]:=rU hk (decide_eq_true h)
theorem aaz{k:Nat}(hk:k<l.length)(h:¬l[k].slot=i):wZ (l.take (k+1)) i=wZ (l.take k) i:=qi hk (decide_eq_false h)
theorem ak9(l:List Nd)(i:Int)(k:Nat):(wZ (l.take k) i).length≤l.length:=tf _ l k
theorem ax.nok{v:Value}(h:ax bU G v l):∀n∈l,n.Ok:=by
 intro n hn
 obtain⟨i,hi,rfl⟩:=List.getElem_of_mem hn
 obtain⟨cs,_,hr⟩:=h.at hi
 obtain⟨_,_,_,_,_,_,_,_,_,_,_,_,_,nJ⟩:=hr
 exact nJ
theorem GB{k:Nat}(h:l.length≤k):decide ((((wZ (l.take k) i).length:Nat):Int)=1)=(bL l i).2:=by
 rw [List.take_of_length_le h];exact decide_eq_decide.2 aa
theorem aul{k:Nat}(h:l.length≤k):(wZ (l.take k) i).getLast?.getD Nd.zero=(bL l i).1:=by
 rw [List.take_of_length_le h];rfl
theorem aaA{x d:Nd} :(l++[x]).getLast?.getD d=x:=by simp
noncomputable def au (l:List Nd) (x:aC) (j:Nat):aC:=
 ⟨(bL l (x.n.kids.getD j 0)).1,x.s.bE (ar x.n.ab (j:Int)),cC [aK (x.s.bE (ar x.n.ab (j:Int))) x.n.af,aK (x.s.bE (ar x.n.ab (j:Int))) x.ms]⟩
def gT (l:List Nd) (x:aC) (j:Nat):Bool:=(bL l (x.n.kids.getD j 0)).2&&decide ((bL l (x.n.kids.getD j 0)).1.level=x.n.level-1)
noncomputable def iy (l:List Nd) (x:aC) (j:Nat):List aC:=(List.range j).map (au l x)
noncomputable def dz (l:List Nd) (x:aC):Option (List aC):=
 if x.n.level=0 then some []
 else if x.n.level<0∨ee x.n.ab x.n.kids.length=false then none
 else if(List.range x.n.kids.length).all (gT l x)=true then some (iy l x x.n.kids.length)else none
noncomputable def bB (l:List Nd) (x:aC):List aC:=(dz l x).getD []
variable {x:aC}
theorem pi(h:x.n.level=0):dz l x=some []:=if_pos h
theorem UE(h0:¬x.n.level=0)(h:x.n.level<0∨ee x.n.ab x.n.kids.length=false):dz l x=none:=by rw [dz,if_neg h0,if_pos h]
variable {j:Nat}
theorem UF(h0:¬x.n.level=0)(hj:j<x.n.kids.length)(hf:gT l x j=false):dz l x=none:=by
 rw [dz,if_neg h0]
 split
 ·rfl
 ·rw [if_neg]
  intro h
  have:=List.all_eq_true.1 h j (List.mem_range.2 hj)
  rw [hf]at this;cases this
theorem UG(h0:¬x.n.level=0)(h1:¬x.n.level<0)(h2:ee x.n.ab x.n.kids.length=true)(h:∀j,j<x.n.kids.length→gT l x j=true):dz l x=some (iy l x x.n.kids.length):=by
 rw [dz,if_neg h0,if_neg (by rintro(h|h);exact h1 h;rw [h2]at h;cases h),if_pos]
 exact List.all_eq_true.2 fun j hj=>h j (List.mem_range.1 hj)
theorem FG(l:List Nd)(x:aC)(j:Nat):iy l x (j+1)=iy l x j++[au l x j]:=by simp [iy,List.range_succ]
theorem gG(l:List Nd)(x:aC)(j:Nat):(iy l x j).length=j:=by simp [iy]
noncomputable def jF (l:List Nd):Nat→Nat→List aC→Option (List aC)
 |0,_,_=>none
 | f+1,i,out=>if h:i<out.length then if l.length<out.length then none else match dz l out[i]with
   |none=>none
   |some ks=>jF l f (i+1) (out++ks)
  else some out
noncomputable def bG (l:List Nd) (root:Int):aC:=⟨(bL l root).1,Span.all,[]⟩
noncomputable def gi (l:List Nd) (root:Int):Option (List aC):=if(bL l root).2=true then jF l (l.length+2) 0 [bG l root]else none
variable {f:Nat} {i:Nat} {out:List aC}
theorem qp(h:¬i<out.length):jF l (f+1) i out=some out:=by rw [jF,dif_neg h]
theorem Cs(h:i<out.length)(hl:l.length<out.length):jF l (f+1) i out=none:=by rw [jF,dif_pos h,if_pos hl]
theorem Ct(h:i<out.length)(hk:dz l out[i]=none):jF l (f+1) i out=none:=by
 rw [jF,dif_pos h]
 split
 ·rfl
 ·rw [hk]
variable {ks:List aC}
theorem qq(h:i<out.length)(hl:¬l.length<out.length)(hk:dz l out[i]=some ks):jF l (f+1) i out=jF l f (i+1) (out++ks):=by
 rw [jF,dif_pos h,if_neg hl,hk]
structure D3 (l:List Nd) (root:Int) (i:Nat) (out:List aC):Prop where
 le:i≤out.length
 pos:0<out.length
 len:i≤l.length
 eq:gi l root=jF l (l.length+2-i) i out
theorem D3.init{root:Int}(h:(bL l root).2=true):D3 l root 0 [bG l root]:=⟨Nat.zero_le _,by simp,Nat.zero_le _,by rw [gi,if_pos h];rfl⟩
theorem vv{n:Nat}(h:i≤n):n+2-i=(n+1-i)+1:=aa
theorem D3.done{root:Int}(h:D3 l root i out)(hi:¬i<out.length):gi l root=some out:=by
 rw [h.eq,vv h.len,qp hi]
theorem D3.aHS{root:Int}(h:D3 l root i out)(hi:i<out.length)(hl:l.length<out.length):gi l root=none:=by
 rw [h.eq,vv h.len,Cs hi hl]
theorem D3.none{root:Int}(h:D3 l root i out)(hi:i<out.length)(hk:dz l out[i]=none):gi l root=none:=by
 rw [h.eq,vv h.len,Ct hi hk]
theorem D3.next{root:Int}(h:D3 l root i out)(hi:i<out.length)(hl:¬l.length<out.length)(hk:dz l out[i]=some ks):D3 l root (i+1) (out++ks):=
 ⟨by rw [List.length_append];omega,by rw [List.length_append];omega,aa,by rw [h.eq,vv h.len,qq hi hl hk];congr 1;omega⟩
def sW (l:List Nd):Prop:=l.length≤4096∧∀n∈l,n.kids.length≤4000∧n.ab.length≤4000∧n.af.length≤4000∧n.rows.length≤4000∧n.high.b.size≤4000∧(∀m∈n.af,m.key.b.size≤4000∧m.hi.b.size≤4000∧m.val.b.size≤4000)∧(∀p∈n.ab,p.b.size≤4000)∧∀p∈n.rows,p.key.b.size≤4000∧p.val.b.size≤4000
theorem sW.zero:(Nd.zero.kids.length≤4000∧Nd.zero.ab.length≤4000∧Nd.zero.af.length≤4000∧Nd.zero.rows.length≤4000∧Nd.zero.high.b.size≤4000∧(∀m∈Nd.zero.af,m.key.b.size≤4000∧m.hi.b.size≤4000∧m.val.b.size≤4000)∧(∀p∈Nd.zero.ab,p.b.size≤4000)∧∀p∈Nd.zero.rows,p.key.b.size≤4000∧p.val.b.size≤4000):=by
 refine⟨by decide,by decide,by decide,by decide,by decide,?_,?_,?_⟩<;>(intro m hm;cases hm)
theorem sW.find(h:sW l)(i:Int):(bL l i).1=Nd.zero∨(bL l i).1∈l:=by
 unfold bL
 cases e:(wZ l i).getLast? with
 |none=>exact .inl rfl
 |some n=>exact .inr (List.mem_filter.1 (List.mem_of_getLast? e)).1
theorem Cu(C:Ls):(∀q (h:q<C.length),C[q].length=0)∨∃b,tM C b:=by
 have key:∀j,j≤C.length→∃c:Int,BI C j c:=by
  intro j
  induction j with
  |zero=>intro _;exact⟨-1,ad0 C⟩
  |succ j ih=>
   intro hj
   obtain⟨c,hc⟩:=ih aa
   by_cases hz:C[j].length=0
   ·exact⟨c,Uz hc aa hz⟩
   ·by_cases h0:c<0
    ·exact⟨j,Mv hc h0 aa aa⟩
    ·obtain⟨b,hb,rfl,hbj,_⟩:=Cr hc h0
     by_cases hl:Aj C[j]<Aj C[b]
     ·exact⟨j,UB hc hb aa aa hl⟩
     ·exact⟨b,UC hc hb aa hl⟩
 obtain⟨c,hc⟩:=key C.length (Nat.le_refl _)
 by_cases h0:c<0
 ·rcases hc with⟨h1,h2⟩|⟨b,hb,h1,_⟩
  ·exact .inl fun q h=>h2 q h h
  ·omega
 ·obtain⟨b,hb,rfl,_,_⟩:=Cr hc h0
  exact .inr ⟨b,UD hc (Nat.le_refl _)⟩
variable {C:Ls}
theorem zC(h:∀q (h:q<C.length),C[q].length=0):C.flatten=[]:=by
 rw [List.flatten_eq_nil_iff]
 intro L hL
 obtain⟨i,hi,rfl⟩:=List.getElem_of_mem hL
 exact List.eq_nil_of_length_eq_zero (h i hi)
theorem ala{A R X:List aA}(h:0<X.length):(X[0]::(A++(X.drop 1++R))).Perm (A++(X++R)):=by
 cases X with
 |nil=>simp at h
 |cons x X=>exact List.perm_middle.symm
theorem Il{b:Nat}(hb:tM C b):((C[b]'hb.lt)[0]'hb.ne::(C.set b ((C[b]'hb.lt).drop 1)).flatten).Perm C.flatten:=by
 have e1:(C.set b ((C[b]'hb.lt).drop 1)).flatten=(C.take b).flatten++((C[b]'hb.lt).drop 1++(C.drop (b+1)).flatten):=by
  rw [Ii hb.lt,List.flatten_append,List.flatten_cons]
 have e2:C.flatten=(C.take b).flatten++(C[b]'hb.lt++(C.drop (b+1)).flatten):=by
  conv=>lhs;rw [D2 hb.lt]
  rw [List.flatten_append,List.flatten_cons]
 have h:=ala (A:=(C.take b).flatten) (R:=(C.drop (b+1)).flatten) hb.ne
 rw [←e1,←e2]at h
 exact h
theorem UH:∀(n:Nat) (C:Ls),lg C=n→(cC C).Perm C.flatten:=by
 intro n
 induction n with
 |zero=>
  intro C h
  rcases Cu C with h1|⟨b,hb⟩
  ·rw [qV h1,zC h1]
  ·have:=oA hb;omega
 |succ n ih=>
  intro C h
  rcases Cu C with h1|⟨b,hb⟩
  ·rw [qV h1,zC h1]
  ·rw [rZ hb]
   exact((ih _ (by have:=oA hb;omega)).cons _).trans (Il hb)
variable {m:aA}
theorem aaB:m∈cC C↔∃L∈C,m∈L:=by
 rw [(UH _ C rfl).mem_iff,List.mem_flatten]
def ng (l:List aA):Prop:=l.Pairwise fun a b=>a.aO<b.aO
theorem Lo:∀(n:Nat) (C:Ls) (S:List aA),lg C=n→(∀L∈C,ng L)→S.Perm C.flatten→ng S→cC C=S:=by
 intro n
 induction n with
 |zero=>
  intro C S h _ hp _
  rcases Cu C with h1|⟨b,hb⟩
  ·rw [zC h1]at hp
   rw [qV h1,List.Perm.eq_nil hp]
  ·have:=oA hb;omega
 |succ n ih=>
  intro C S h hC hp hS
  rcases Cu C with h1|⟨b,hb⟩
  ·rw [zC h1]at hp
   rw [qV h1,List.Perm.eq_nil hp]
  ·have hf:=Il hb
   rw [rZ hb]
   cases S with
   |nil=>have:=(hp.trans hf.symm).length_eq;simp at this
   |cons s S=>
    have hp2:=hp.trans hf.symm
    have e:s=(C[b]'hb.lt)[0]'hb.ne:=by
     have hs:s∈C.flatten:=hp.mem_iff.1 (by simp)
     have hc:(C[b]'hb.lt)[0]'hb.ne∈s::S:=hp2.mem_iff.2 (by simp)
     rcases List.mem_cons.1 hc with h|h
     ·exact h.symm
     ·have h2:=(List.pairwise_cons.1 hS).1 _ h
      obtain⟨L,hL,hsL⟩:=List.mem_flatten.1 hs
      obtain⟨j,hj,rfl⟩:=List.getElem_of_mem hL
      obtain⟨q,hq,rfl⟩:=List.getElem_of_mem hsL
      have h3:=(hb.min j hj aa).1
      rw [PZ hb.ne,PZ (show 0<C[j].length by omega)]at h3
      have h4:(C[j][0]'aa).aO≤C[j][q].aO:=by
       by_cases e0:q=0
       ·subst e0;exact Int.le_refl _
       ·exact Int.le_of_lt (List.pairwise_iff_getElem.1 (hC _ (List.getElem_mem hj)) 0 q aa hq aa)
      omega
    subst e
    congr 1
    refine ih _ S (by have:=oA hb;omega) ?_ (List.Perm.cons_inv hp2) (List.pairwise_cons.1 hS).2
    intro L hL
    rcases List.mem_or_eq_of_mem_set hL with h|h
    ·exact hC _ h
    ·subst h;exact List.Pairwise.sublist (List.drop_sublist _ _) (hC _ (List.getElem_mem _))
theorem sf{a b:Span}{n:Nat}(ha:a.lo.b.size≤n∧a.hi.b.size≤n)(hb:b.lo.b.size≤n∧b.hi.b.size≤n):(a.bE b).lo.b.size≤n∧(a.bE b).hi.b.size≤n:=by
 unfold Span.bE
 refine xk ?_ ?_
 ·dsimp only;split;exact hb.1;exact ha.1
 ·dsimp only;split;exact hb.2;exact ha.2
theorem kO{p:List ah}{i:Int}{n:Nat}(h:∀k∈p,k.b.size≤n):(ar p i).lo.b.size≤n∧(ar p i).hi.b.size≤n:=by
 have h0:ah.nil.b.size=0:=rfl
 have hg:∀j,(p.getD j ah.nil).b.size≤n:=by
  intro j
  by_cases hj:j<p.length
  ·rw [jO hj];exact h _ (List.getElem_mem _)
  ·rw [D4 aa];omega
 unfold ar
 split
 ·exact⟨by show ah.nil.b.size≤n;omega,by show ah.nil.b.size≤n;omega⟩
 ·refine xk ?_ (hg _)
  dsimp only;split
  ·exact hg _
  ·omega
theorem agY{s:Span}{n:Nat}(hm:m.key.b.size≤n∧m.hi.b.size≤n∧m.val.b.size≤n)(hs:s.lo.b.size≤n∧s.hi.b.size≤n)(h:(m.clip s).2=true):(m.clip s).1.key.b.size≤n∧(m.clip s).1.hi.b.size≤n∧(m.clip s).1.val.b.size≤n:=by
 rw [(fA h).2]
 by_cases h4:m.kind=4
 ·rw [if_pos h4]
  have e:m.span=⟨m.key,m.hi,m.bT⟩:=by unfold aA.span;rw [if_pos h4]
  have:=sf (a:=m.span) (b:=s) (by rw [e];exact⟨hm.1,hm.2.1⟩) hs
  exact⟨this.1,this.2,hm.2.2⟩
 ·rw [if_neg h4];exact hm
theorem Im{l:List aA}{s:Span}{n:Nat}(hm:∀m∈l,m.key.b.size≤n∧m.hi.b.size≤n∧m.val.b.size≤n)(hs:s.lo.b.size≤n∧s.hi.b.size≤n):∀m∈aK s l,m.key.b.size≤n∧m.hi.b.size≤n∧m.val.b.size≤n:=fun m h=>by
 obtain⟨a,ha,h1,rfl⟩:=iI h
 exact agY (hm a ha) hs h1
structure sX (l:List Nd) (p:Nat) (x:aC):Prop where
 nd:x.n=Nd.zero∨x.n∈l
 ms:x.ms.length≤4000*p
 sp:x.s.lo.b.size≤4000∧x.s.hi.b.size≤4000
 key:∀m∈x.ms,m.key.b.size≤4000∧m.hi.b.size≤4000∧m.val.b.size≤4000
def Gl (n:Nd):Prop:=n.kids.length≤4000∧n.ab.length≤4000∧n.af.length≤4000∧n.rows.length≤4000∧n.high.b.size≤4000∧(∀m∈n.af,m.key.b.size≤4000∧m.hi.b.size≤4000∧m.val.b.size≤4000)∧(∀p∈n.ab,p.b.size≤4000)∧∀p∈n.rows,p.key.b.size≤4000∧p.val.b.size≤4000
theorem sW.at(h:sW l){n:Nd}(hn:n=Nd.zero∨n∈l):Gl n:=by
 rcases hn with rfl|hn
 ·exact sW.zero
 ·exact h.2 n hn
theorem sX.root{l:List Nd}(h:sW l)(root:Int):sX l 0 (bG l root):=⟨h.find root,Nat.le_refl _,⟨by show ah.nil.b.size≤4000;decide,by show ah.nil.b.size≤4000;decide⟩,fun m hm=>by cases hm⟩
variable {p:Nat}
theorem P3(h:sW l)(hx:sX l p x)(j:Nat):(x.s.bE (ar x.n.ab (j:Int))).lo.b.size≤4000∧(x.s.bE (ar x.n.ab (j:Int))).hi.b.size≤4000:=
 sf hx.sp (kO (h.at hx.nd).2.2.2.2.2.2.1)
theorem UI(h:sW l)(hx:sX l p x)(s:Span):lg [aK s x.n.af,aK s x.ms]≤4000*(p+1):=by
 have h1:(aK s x.n.af).length≤x.n.af.length:=zn
 have h2:(aK s x.ms).length≤x.ms.length:=zn
 have h3:=(h.at hx.nd).2.2.1
 have h4:=hx.ms
 have h5:lg []=0:=rfl
 rw [qU,qU,h5]
 omega
theorem sX.Ba(h:sW l){q:Nat}(hx:sX l p x)(hq:p<q)(j:Nat):sX l q (au l x j):=by
 refine⟨h.find _,?_,P3 h hx j,?_⟩
 ·have h1:=Ik [aK (x.s.bE (ar x.n.ab (j:Int))) x.n.af,aK (x.s.bE (ar x.n.ab (j:Int))) x.ms]
  have h2:=UI h hx (x.s.bE (ar x.n.ab (j:Int)))
  show(cC _).length≤_
  omega
 ·intro m hm
  obtain⟨L,hL,hmL⟩:=aaB.1 hm
  simp only [List.mem_cons,List.not_mem_nil,or_false]at hL
  rcases hL with rfl|rfl
  ·exact Im (h.at hx.nd).2.2.2.2.2.1 (P3 h hx j) m hmL
  ·exact Im hx.key (P3 h hx j) m hmL
def QS (l:List Nd) (out:List aC):Prop:=∀p (h:p<out.length),sX l p out[p]
theorem QS.init(h:sW l)(root:Int):QS l [bG l root]:=fun p hp=>by
 have:p=0:=by simp at hp;omega
 subst this;exact sX.root h root
theorem QS.snoc(h:sW l)(ho:QS l out)(hx:sX l i x)(hi:i<out.length)(j:Nat):QS l (out++[au l x j]):=fun p hp=>by
 rw [List.getElem_append]
 split
 ·exact ho p (by assumption)
 ·simp only [List.getElem_singleton]
  exact hx.Ba h aa j
theorem alb(hj:j<x.n.kids.length)(h:(bL l x.n.kids[j]).2=false):gT l x j=false:=by
 unfold gT
 rw [List.getD_eq_getElem?_getD,List.getElem?_eq_getElem hj]
 show((bL l x.n.kids[j]).2&&_)=false
 rw [h];rfl
theorem alc(hj:j<x.n.kids.length)(h:¬(bL l x.n.kids[j]).1.level=x.n.level-1):gT l x j=false:=by
 unfold gT
 rw [List.getD_eq_getElem?_getD,List.getElem?_eq_getElem hj]
 show(_&&decide ((bL l x.n.kids[j]).1.level=x.n.level-1))=false
 rw [decide_eq_false h,Bool.and_false]
theorem aaC(hj:j<x.n.kids.length)(ha:∀j2,j2<j→gT l x j2=true)(h:(bL l x.n.kids[j]).2=true)(h2:(bL l x.n.kids[j]).1.level=x.n.level-1):∀j2,j2<j+1→gT l x j2=true:=by
 intro j2 hj2
 by_cases e:j2=j
 ·subst e
  unfold gT
  rw [List.getD_eq_getElem?_getD,List.getElem?_eq_getElem hj]
  show((bL l x.n.kids[j2]).2&&decide ((bL l x.n.kids[j2]).1.level=x.n.level-1))=true
  rw [h,decide_eq_true h2];rfl
 ·exact ha j2 aa
theorem ald{cs:List Value}(hj:j<x.n.kids.length)(h:A8 G cs ⟨(bL l x.n.kids[j]).1,x.s.bE (ar x.n.ab (j:Int)),(au l x j).ms⟩):A8 G cs (au l x j):=by
 have e:au l x j=⟨(bL l x.n.kids[j]).1,x.s.bE (ar x.n.ab (j:Int)),(au l x j).ms⟩:=by
  unfold au
  rw [List.getD_eq_getElem?_getD,List.getElem?_eq_getElem hj];rfl
 rw [e];exact h
theorem UJ{i:Int}(h:(bL l i).2=false):gi l i=none:=by unfold gi;rw [if_neg (by simp [h])]
end Go.Fw

namespace Go.Fw
section
variable {α:Type} {q:α→Bool} {l m:List α}
def gn (q:α→Bool) (l:List α):Int:=match l.findIdx? q with
 |some i=>i
 |none=> -1
theorem B8{k:Nat}(hk:k<l.length)(h:q l[k]=true)(hj:∀j (h:j<l.length),j<k→q l[j]=false):gn q l=k:=by
 have e:l.findIdx? q=some k:=by
  rw [List.findIdx?_eq_some_iff_getElem]
  exact⟨hk,h,fun j oh=>by have:=hj j aa oh;simp [this]⟩
 unfold gn;rw [e]
theorem Ca(h:∀j (h:j<l.length),q l[j]=false):gn q l= -1:=by
 have e:l.findIdx? q=none:=by
  rw [List.findIdx?_eq_none_iff]
  intro x hx
  obtain⟨j,hj,rfl⟩:=List.getElem_of_mem hx
  exact h j hj
 unfold gn;rw [e]
theorem sg(q:α→Bool)(l:List α):(gn q l= -1∧∀x∈l,q x=false)∨∃k,∃h:k<l.length,gn q l=(k:Nat)∧q l[k]=true∧∀j (h:j<l.length),j<k→q l[j]=false:=by
 cases e:l.findIdx? q with
 |none=>
  left
  refine⟨by unfold gn;rw [e],?_⟩
  exact List.findIdx?_eq_none_iff.1 e
 |some k=>
  right
  obtain⟨h1,h2,h3⟩:=List.findIdx?_eq_some_iff_getElem.1 e
  exact⟨k,h1,by unfold gn;rw [e],h2,fun j hj oh=>by have:=h3 j oh;simpa using this⟩
theorem Cb(q:α→Bool)(l:List α): -1≤gn q l∧gn q l<(l.length:Nat):=by
 rcases sg q l with⟨h,_⟩|⟨k,h1,h2,_⟩
 ·omega
 ·omega
theorem LW(h:gn q l= -1):l.filter (fun a=> !q a)=l:=by
 rcases sg q l with⟨_,h2⟩|⟨k,h1,h2,_⟩
 ·exact List.filter_eq_self.2 fun a ha=>by rw [h2 a ha];rfl
 ·omega
theorem HG(h:¬gn q l= -1):l.take (gn q l).toNat=(l.take ((gn q l).toNat+1)).filter (fun a=> !q a):=by
 rcases sg q l with⟨h1,_⟩|⟨k,h1,h2,h3,h4⟩
 ·exact absurd h1 h
 ·rw [h2]
  simp only [Int.toNat_natCast]
  rw [qi (p:=fun a=> !q a) h1 (by rw [h3];rfl)]
  symm
  refine List.filter_eq_self.2 fun a ha=> ?_
  obtain⟨j,hj,rfl⟩:=List.getElem_of_mem ha
  simp only [List.length_take]at hj
  rw [List.getElem_take,h4 j aa aa];rfl
variable {j:Nat}
theorem DU(hj:j<m.length)(hl:j<l.length)(h:m.drop j=l.drop j):m[j]=l[j]:=by
 rw [List.drop_eq_getElem_cons hj,List.drop_eq_getElem_cons hl]at h
 exact(List.cons.inj h).1
theorem Az(h:m.drop j=l.drop j):m.drop (j+1)=l.drop (j+1):=by
 have:=congrArg (List.drop 1) h
 rwa [List.drop_drop,List.drop_drop]at this
variable {i:Nat} {p:α→Bool}
theorem zw(kn:i<j)(Lj:j<l.length)(qL:m.length=l.length)(xJ:m.take i=(l.take j).filter p)(wU:m.drop j=l.drop j)(hq:p l[j]=true):(m.set i (m[j]'aa)).take (i+1)=(l.take (j+1)).filter p∧(m.set i (m[j]'aa)).drop (j+1)=l.drop (j+1):=by
 have e:=DU aa Lj wU
 constructor
 ·rw [rU Lj hq,←xJ,e,List.take_succ_eq_append_getElem (by simp;omega),List.take_set_of_le (Nat.le_refl _)]
  simp
 ·rw [List.drop_set_of_lt aa]
  exact Az wU
theorem zx(Lj:j<l.length)(xJ:m.take i=(l.take j).filter p)(wU:m.drop j=l.drop j)(hq:p l[j]=false):m.take i=(l.take (j+1)).filter p∧m.drop (j+1)=l.drop (j+1):=
 ⟨by rw [qi Lj hq];exact xJ,Az wU⟩
end
end Go.Fw

namespace Go.Fw
theorem Cc{α:Type}{o:Option α}{d:α}(h:o.isSome=true):o=some (o.getD d):=by cases o<;>simp_all
def DX (l:List bp) (k:ah) (e:ct) (n:Int):Bool:=(cV l k).isSome|| !(decide (e.kind=1)||decide (e.kind=2))||decide ((l.length:Int)<n)
def iF (l:List bp) (m:aA) (n:Int):Bool:=decide (m.kind=4)||DX l m.key (m.on m.key) n
def jY (l:List bp) (m:aA) (n:Int):Bool:=decide (3≤m.kind)||(cV l m.key).isSome||decide ((l.length:Int)<n)
variable {m:aA}
theorem aA.Cv(h:m.R):m.span.has m.key=true:=by
 unfold aA.R at h
 obtain⟨h1,h2⟩:=h
 unfold aA.span
 by_cases hk:m.kind=4
 ·rw [if_pos hk]at h2⊢
  have h3:=h2.2.2
  rw [aA.span,if_pos hk]at h3
  have:=Span.empty_eq ⟨m.key,m.hi,m.bT⟩
  rw [h3]at this
  simpa using this
 ·rw [if_neg hk,qE aa];simp
variable {l:List bp}
theorem D5{n:Int}(h:m.R):iF l m n=jY l m n:=by
 have hk:=aA.Cv h
 unfold aA.R at h
 obtain⟨h1,h2⟩:=h
 unfold iF jY DX aA.on
 rw [hk]
 by_cases h4:m.kind=4
 ·simp [h4]
 ·rw [if_neg h4]at h2
  rcases h2.2.2 with h5|h5|⟨h5,_⟩<;>rw [h5]<;>simp
def vh (l:List bp) (m:aA) (n:Int):List bp×Bool:=if iF l m n=true then(takeN l m,true)else([],false)
theorem vi{n:Int}(h:iF l m n=true):vh l m n=(takeN l m,true):=if_pos h
theorem Cg{n:Int}(h:iF l m n=false):vh l m n=([],false):=if_neg (by simp [h])
def dG (n:Int):List bp→List aA→List bp×Nat
 |l,[]=>(l,0)
 |l,m::ms=>if iF l m n=true then((dG n (takeN l m) ms).1,(dG n (takeN l m) ms).2+1)else(l,0)
theorem zD(n:Int):∀(ms:List aA) (l:List bp),(dG n l ms).2≤ms.length
 |[],l=>by simp [dG]
 |m::ms,l=>by
  unfold dG;split
  ·have:=zD n ms (takeN l m);simp;exact this
  ·simp
theorem xS(n:Int):∀(ms:List aA) (l:List bp),(dG n l ms).1=cJ l (ms.take (dG n l ms).2)
 |[],l=>by simp [dG,cJ]
 |m::ms,l=>by
  unfold dG;split
  ·rw [xS n ms (takeN l m)];simp [cJ]
  ·simp [cJ]
variable {ms:List aA}
theorem UK{n:Int}{k:Nat}(hk:k<ms.length)(h:iF (cJ l (ms.take k)) ms[k] n=true):
  dG n (cJ l (ms.take k)) (ms.drop k)=((dG n (cJ l (ms.take (k+1))) (ms.drop (k+1))).1,(dG n (cJ l (ms.take (k+1))) (ms.drop (k+1))).2+1):=by
 rw [List.drop_eq_getElem_cons hk,dG,if_pos h,rV hk]
theorem UL{n:Int}{k:Nat}(hk:k<ms.length)(h:iF (cJ l (ms.take k)) ms[k] n=false):
  dG n (cJ l (ms.take k)) (ms.drop k)=(cJ l (ms.take k),0):=by
 rw [List.drop_eq_getElem_cons hk,dG,if_neg (by simp [h])]
def gp (n:Int) (l:List bp) (ms:List aA) (k:Nat):Prop:=dG n l ms=((dG n (cJ l (ms.take k)) (ms.drop k)).1,k+(dG n (cJ l (ms.take k)) (ms.drop k)).2)
theorem gp.zero(n:Int)(l:List bp)(ms:List aA):gp n l ms 0:=by simp [gp,cJ]
theorem gp.succ{n:Int}{k:Nat}(h:gp n l ms k)(hk:k<ms.length)(hf:iF (cJ l (ms.take k)) ms[k] n=true):gp n l ms (k+1):=by
 unfold gp at h⊢
 rw [h,UK hk hf]
 simp only [Prod.mk.injEq,true_and];omega
theorem gp.stop{n:Int}{k:Nat}(h:gp n l ms k)(hk:k<ms.length)(hf:iF (cJ l (ms.take k)) ms[k] n=false):dG n l ms=(cJ l (ms.take k),k):=by
 unfold gp at h
 rw [h,UL hk hf];rfl
theorem gp.all{n:Int}{k:Nat}(h:gp n l ms k)(hk:ms.length≤k):dG n l ms=(cJ l ms,k):=by
 unfold gp at h
 rw [h,List.drop_eq_nil_of_le hk,List.take_of_length_le hk];rfl
theorem Io(n:Int):∀(ms:List aA) (l:List bp),bC l→(∀m∈ms,m.R)→(((dG n l ms).1.length:Nat):Int)≤max (l.length:Int) n
 |[],l,_,_=>by first|(simp [dG];done)|(simp only [dG];omega)
 |m::ms,l,hP,hm=>by
  unfold dG;split
  ·rename_i hf
   have hR:=hm m (by simp)
   have UM:=hR
   unfold aA.R at UM
   have h1:=Io n ms (takeN l m) (hP.Z1 UM.1.2.1 UM.1.2.2.1) (fun m h=>hm m (by simp [h]))
   have h2:(((takeN l m).length:Nat):Int)≤max (l.length:Int) n:=by
    rw [D5 hR]at hf
    have h3:=hP.LN m
    unfold takeN
    split
    ·have:=List.length_filter_le (fun p:bp=> !m.span.has p.key) l;clear h3;omega
    ·rename_i h4
     clear h3
     have hr:=hP.Pv
     have key:∀ {e:ct},((cV l m.key).isSome=true∨e.kind=3)→(iJ l m.key e).length≤l.length:=fun {e} h=>by
      rw [lS,hr.front]
      cases hs:(cV l m.key).isSome
      ·rw [hr.xq hs]
       rcases h with h|h
       ·rw [hs]at h;cases h
       ·have:ct.apply e (cV l m.key)=none:=by simp [ct.apply,h]
        rw [this]
        have:=BY l m.key
        simp [qF]<;>omega
      ·have hh:=hr.has m.key
       rw [hs]at hh
       obtain⟨q1,q2⟩:=of_decide_eq_true hh.symm
       rw [hr.td q1 q2]
       have:=Hp (ct.apply e (cV l m.key)) m.key
       simp;omega
     unfold jY at hf
     simp only [Bool.or_eq_true,decide_eq_true_eq]at hf
     have hk:=aA.Cv hR
     rcases hf with(hf|hf)|hf
     ·have hq:=UM.2
      rw [if_neg h4]at hq
      have hq3:m.kind=3:=by rcases hq.2.2 with h|h|h<;>omega
      have:=key (e:=m.on m.key) (.inr (by unfold aA.on;rw [hk,hq3];rfl))
      omega
     ·have:=key (e:=m.on m.key) (.inl hf);omega
     ·have:=hr.LM m.key (m.on m.key);omega
   have h5:max ((takeN l m).length:Int) n≤max (l.length:Int) n:=aa
   dsimp only;omega
  ·dsimp only;omega
theorem xT(h:m.R):m.key.b.size≤16∧m.val.b.size≤16:=⟨h.1.2.1,h.1.2.2.1⟩
def aA.fit (m:aA):Prop:=m.key.b.size≤1000∧(m.kind=4∨m.key.b.size≤16)∧m.val.b.size≤16
theorem Cf(h:m.key.b.size≤16∧m.val.b.size≤16):m.fit:=⟨aa,.inr h.1,h.2⟩
theorem bC.oB(h:bC l)(hf:m.fit):bC (takeN l m):=by
 unfold takeN
 split
 ·exact h.filter _
 ·rename_i h4
  exact h.with (hf.2.1.resolve_left h4) (Gv _ hf.2.2)
theorem bC.aai:∀ {l:List bp},bC l→(∀m∈ms,m.fit)→bC (cJ l ms):=by
 induction ms with
 |nil=>exact fun h _=>h
 |cons m ms ih=>exact fun h hm=>ih (h.oB (hm m (by simp))) (fun m h=>hm m (by simp [h]))
theorem A4(h:bC l)(hm:∀m∈ms,m.fit):(cJ l ms).length≤l.length+ms.length:=by
 induction ms generalizing l with
 |nil=>simp [cJ]
 |cons m ms ih=>
  have h1:=ih (h.oB (hm m (by simp))) (fun m h=>hm m (by simp [h]))
  have h2:=h.LN m
  simp only [cJ,List.foldl_cons,List.length_cons]at h1⊢;omega
theorem cu(a b:Span)(k:ah):(a.bE b).has k=(a.has k&&b.has k):=by
 unfold Span.bE
 rw [kP]
 rw [Bool.eq_iff_iff]
 simp only [Span.has,Bool.and_eq_true,Bool.not_eq_true',Bool.or_eq_true]
 have gx:(k.lt (if a.lo.lt b.lo=true then b.lo else a.lo)=false)↔(k.lt a.lo=false∧k.lt b.lo=false):=by
  by_cases h:a.lo.lt b.lo=true
  ·rw [if_pos h]
   refine⟨fun h1=>⟨?_,h1⟩,fun h1=>h1.2⟩
   cases h2:k.lt a.lo
   ·rfl
   ·rw [ah.lt_trans h2 h]at h1;cases h1
  ·rw [if_neg h]
   refine⟨fun h1=>⟨h1,?_⟩,fun h1=>h1.1⟩
   cases h2:k.lt b.lo
   ·rfl
   ·rw [ah.lt_of_lt_of_le h2 (by simpa using h)]at h1;cases h1
 rw [gx]
 cases ha:a.bT<;>cases hb:b.bT<;>simp
 ·by_cases h:b.hi.lt a.hi=true
  ·rw [if_pos h]
   grind [ah.lt_trans]
  ·rw [if_neg h]
   have h:b.hi.lt a.hi=false:=by simpa using h
   have:∀ {x:ah},x.lt a.hi=true→x.lt b.hi=true:=fun hx=>ah.lt_of_lt_of_le hx h
   grind
 all_goals grind
theorem eZ(s:Span)(m:aA)(ms:List aA):aK s (m::ms)=if(m.clip s).2=true then(m.clip s).1::aK s ms else aK s ms:=by
 unfold aK;rw [List.filterMap_cons];split<;>simp_all
theorem aaD{s:Span}(hr:gI l)(hk:m.key.b.size<140737488355328):(if(m.clip s).2=true then takeN (l.filter fun p=>s.has p.key) (m.clip s).1 else l.filter fun p=>s.has p.key)=(takeN l m).filter fun p=>s.has p.key:=by
 have hmh:=fun k=>cu m.span s k
 cases he:(m.span.bE s).empty
 ·by_cases h4:m.kind=4
  ·rw [kI he h4,if_pos rfl]
   unfold takeN
   rw [if_pos h4,if_pos h4,List.filter_filter,List.filter_filter]
   congr 1
   funext p
   have e1:aA.span { m with key:=(m.span.bE s).lo,hi:=(m.span.bE s).hi,bT:=(m.span.bE s).bT } =m.span.bE s:=by rw [aA.span,if_pos h4]
   rw [e1,hmh]
   cases s.has p.key<;>simp
  ·rw [uS he h4,if_pos rfl]
   unfold takeN
   rw [if_neg h4,if_neg h4]
   have rL:∀x,m.span.has x=decide (x=m.key):=fun x=>by rw [aA.span,if_neg h4];exact qE hk
   have nO:s.has m.key=true:=by
    have:=Span.empty_eq (m.span.bE s)
    rw [he,hmh,rL]at this
    simp only [Bool.not_eq_false',Bool.and_eq_true,decide_eq_true_eq]at this
    rw [←this.1];exact this.2
   rw [lS,lS,BX (fun k=>s.has k),if_pos nO,List.filter_append,List.filter_append,List.filter_filter,List.filter_filter,List.filter_filter,List.filter_filter]
   congr 1
   ·congr 1
    ·congr 1;funext p;exact Bool.and_comm _ _
    ·cases ct.apply (m.on m.key) (cV l m.key)<;>simp [qF,nO]
   ·congr 1;funext p;exact Bool.and_comm _ _
 ·rw [kH he]
  simp only [Bool.false_eq_true,if_false]
  have hno:∀k,m.span.has k=true→s.has k=false:=fun k h1=>by
   have h2:=hmh k
   have h3:(m.span.bE s).has k=false:=by
    cases h:(m.span.bE s).has k
    ·rfl
    ·simp only [Span.empty,Bool.and_eq_true,Bool.not_eq_true']at he
     simp only [Span.has,he.1,Bool.false_or,Bool.and_eq_true,Bool.not_eq_true']at h
     rw [ah.lt_of_le_of_lt h.1 h.2]at he;cases he.2
   rw [h3,h1]at h2;simpa using h2.symm
  unfold takeN
  by_cases h4:m.kind=4
  ·rw [if_pos h4,List.filter_filter]
   refine List.filter_congr fun p _=> ?_
   cases h:m.span.has p.key
   ·simp
   ·rw [hno _ h];rfl
  ·rw [if_neg h4]
   have rL:∀x,m.span.has x=decide (x=m.key):=fun x=>by rw [aA.span,if_neg h4];exact qE hk
   have wA:s.has m.key=false:=hno _ (by rw [rL];simp)
   rw [lS,List.filter_append,List.filter_append]
   have e2:(qF (ct.apply (m.on m.key) (cV l m.key)) m.key).filter (fun p=>s.has p.key)=[]:=by
    cases ct.apply (m.on m.key) (cV l m.key)<;>simp [qF,wA]
   rw [e2,List.append_nil,hr.front]
   cases hs:(cV l m.key).isSome
   ·rw [hr.xq hs,←List.filter_append,List.take_append_drop]
   ·have hh:=hr.has m.key
    rw [hs]at hh
    obtain⟨q1,q2⟩:=of_decide_eq_true hh.symm
    rw [hr.td q1 q2]
    have e3:l=l.take (dQ l m.key)++l[dQ l m.key]::l.drop (dQ l m.key+1):=by rw [←List.drop_eq_getElem_cons q1,List.take_append_drop]
    conv=>lhs;rw [e3]
    rw [List.filter_append,List.filter_cons_of_neg (by rw [q2,wA];simp)]
theorem qX{s:Span} :∀ {ms:List aA} {l:List bp},gI l→(∀m∈ms,m.key.b.size<140737488355328)→cJ (l.filter fun p=>s.has p.key) (aK s ms)=(cJ l ms).filter fun p=>s.has p.key
 |[],l,_,_=>by simp [aK,cJ]
 |m::ms,l,hr,hm=>by
  have h1:=aaD (s:=s) hr (hm m (by simp))
  have hrt:gI (takeN l m):=by
   unfold takeN;split
   ·exact hr.filter _
   ·exact hr.with _ _
  have h2:=qX (s:=s) (ms:=ms) hrt (fun m h=>hm m (List.mem_cons_of_mem _ h))
  rw [eZ]
  show _=(cJ (takeN l m) ms).filter _
  rw [←h2]
  split
  ·rename_i hc
   rw [if_pos hc]at h1
   rw [←h1];rfl
  ·rename_i hc
   rw [if_neg hc]at h1
   rw [←h1]
end Go.Fw

namespace Go.Fw
open Go Go.RowKit
def oC (ss:List aC) (i:Nat):Int:=if i+1<ss.length∧(ss.getD (i+1) default).n.level=(ss.getD i default).n.level then(ss.getD (i+1) default).n.slot else-1
def xU (ss:List aC):Prop:=∀i (h:i<ss.length),ss[i].n.right=oC ss i
instance (ss : List aC) : Decidable (xU ss) := by unfold xU; infer_instance
def pj (x:aC):Prop:=(x.n.cW=x.s.bT∧x.n.high=x.s.hi)∧(∀i (h:i<x.n.rows.length),x.s.has x.n.rows[i].key=true)∧(∀i (h:i<x.n.ab.length),x.s.has x.n.ab[i]=true∧x.n.ab[i]≠x.s.lo)∧∀i (h:i<x.n.af.length),x.n.af[i].span.bE x.s=x.n.af[i].span.norm
instance (x : aC) : Decidable (pj x) := by unfold pj; infer_instance
def pW (ss:List aC) (i:Int):List aC:=ss.filter fun x=>decide (x.n.slot=i)
def Ip (l:List Nd) (ss:List aC):Prop:=l.length=ss.length∧∀i (h:i<l.length),(pW ss l[i].slot).length=1
instance (l : List Nd) (ss : List aC) : Decidable (Ip l ss) := by unfold Ip; infer_instance
def P4 (x:aC):Prop:=∀j (h:j<x.ms.length),x.n.seen<x.ms[j].aO
instance (x : aC) : Decidable (P4 x) := by unfold P4; infer_instance
def vz (c:aQ) (x:aC):Prop:=x.n.R c.bu c.leaf c.bud∧pj x∧x.n.slot<c.aL∧P4 x
instance (c : aQ) (x : aC) : Decidable (vz c x) := by unfold vz; infer_instance
def Cw (c:aQ) (l:List Nd) (ss:List aC):Prop:=(Ip l ss∧xU ss∧(l.length:Int)≤c.aL)∧∀i (h:i<ss.length),vz c ss[i]
instance (c : aQ) (l : List Nd) (ss : List aC) : Decidable (Cw c l ss) := by unfold Cw; infer_instance
noncomputable def qs (c:aQ) (l:List Nd):Bool:=match gi l 0 with|none=>false|some ss=>decide (Cw c l ss)
def eQ (l:List Nd):Prop:=∀i (h:i<l.length),l[i].slot=(i:Int)∧l[i].seen≤1099511627776
instance (l : List Nd) : Decidable (eQ l) := by unfold eQ; infer_instance
noncomputable def vA (c:aQ) (l:List Nd) (most:Int):Bool:=decide (fe c∧0<l.length∧xj l most 2000∧eQ l)&&qs c l
variable {l:List Nd} {ss:List aC}
theorem kQ{c:aQ}(h:gi l 0=some ss):qs c l=decide (Cw c l ss):=by rw [qs,h]
theorem agZ{c:aQ}(h:gi l 0=none):qs c l=false:=by rw [qs,h]
variable {i:Int}
theorem ale{l:List aC}{k:Nat}(hk:k<l.length)(h:l[k].n.slot=i):pW (l.take (k+1)) i=pW (l.take k) i++[l[k]]:=rU hk (decide_eq_true h)
theorem alf{l:List aC}{k:Nat}(hk:k<l.length)(h:¬l[k].n.slot=i):pW (l.take (k+1)) i=pW (l.take k) i:=qi hk (decide_eq_false h)
theorem aaE(l:List aC)(i:Int)(k:Nat):(pW (l.take k) i).length≤l.length:=tf _ l k
variable {i:Nat}
theorem UN(h:i+1<ss.length)(e:(ss[i+1]).n.level=(ss[i]).n.level):oC ss i=(ss[i+1]).n.slot:=by
 unfold oC
 rw [List.getD_eq_getElem?_getD,List.getD_eq_getElem?_getD,List.getElem?_eq_getElem h,List.getElem?_eq_getElem aa]
 exact if_pos ⟨h,e⟩
theorem UO(h:i+1<ss.length)(e:¬(ss[i+1]).n.level=(ss[i]).n.level):oC ss i= -1:=by
 unfold oC
 rw [List.getD_eq_getElem?_getD,List.getD_eq_getElem?_getD,List.getElem?_eq_getElem h,List.getElem?_eq_getElem aa]
 exact if_neg fun h=>e h.2
theorem xV(h:¬i+1<ss.length):oC ss i= -1:=by
 unfold oC
 exact if_neg fun h2=>h h2.1
variable {most:Int}
theorem xW{c:aQ}(h:¬(fe c∧0<l.length∧xj l most 2000∧eQ l)):vA c l most=false:=by unfold vA;rw [decide_eq_false h];rfl
theorem alg{c:aQ}(h1:fe c)(h2:0<l.length)(h3:xj l most 2000)(h4:eQ l):vA c l most=qs c l:=by unfold vA;rw [decide_eq_true ⟨h1,h2,h3,h4⟩];rfl
theorem Iq:∀ {l:List ah} {n m:Int},0≤n→kq l n m≤m→n≤m∧∀a∈l,(a.b.size:Int)≤m
 |[],n,m,h0,h=>⟨by simpa [kq]using h,fun a ha=>by cases ha⟩
 |s::l,n,m,h0,h=>by
  rw [kq]at h
  split at h
  ·rename_i hc
   have h1:=Iq aa h
   refine⟨hc,fun a ha=> ?_⟩
   rcases List.mem_cons.1 ha with rfl|ha
   ·have:=h1.1;omega
   ·exact h1.2 a ha
  ·omega
theorem aaF{n:Nd}(h:n.Hj 2000):Gl n:=by
 obtain⟨h1,h2,h3,h4,h5⟩:=h
 have r1:=AR bp.AS h1
 have r2:=Ir h2
 have r4:=AR aA.AS h4
 have m1:=(AQ (fun a=>by have:=bp.AS a;omega) (Int.le_refl 0) h1).2
 have m2:=(Iq (Int.le_refl 0) h2).2
 have m4:=(AQ (fun a=>by have:=aA.AS a;omega) (Int.le_refl 0) h4).2
 refine⟨aa,aa,aa,aa,aa,fun m hm=> ?_,fun p hp=> ?_,fun p hp=> ?_⟩
 ·have:=m4 m hm;unfold aA.w at this;omega
 ·have:=m2 p hp;omega
 ·have:=m1 p hp;unfold bp.w at this;omega
theorem It(h:xj l most 2000)(hm:most≤4096):sW l:=by
 refine⟨by have:=h.1;omega,fun n hn=> ?_⟩
 obtain⟨i,hi,rfl⟩:=List.getElem_of_mem hn
 exact aaF (h.2 i hi)
theorem UP{r:aC} :∀(f i:Nat) (out ss:List aC),jF l f i out=some ss→out=r::(out.take i).flatMap (bB l)→(∀x∈out.take i,(dz l x).isSome=true)→
  ss=r::ss.flatMap (bB l)∧∀x∈ss,(dz l x).isSome=true:=by
 intro f
 induction f with
 |zero=>intro i out ss h;cases h
 |succ f ih=>
  intro i out ss h he hs
  by_cases hi:i<out.length
  ·by_cases hl:l.length<out.length
   ·rw [Cs hi hl]at h;cases h
   ·cases hk:dz l out[i]with
    |none=>rw [Ct hi hk]at h;cases h
    |some ks=>
     rw [qq hi hl hk]at h
     have e:(out++ks).take (i+1)=out.take i++[out[i]]:=by
      rw [List.take_append_of_le_length aa,List.take_succ_eq_append_getElem hi]
     refine ih _ _ _ h ?_ ?_
     ·rw [e,List.flatMap_append,←List.cons_append,←he]
      congr 1
      simp [bB,hk]
     ·intro x hx
      rw [e,List.mem_append,List.mem_singleton]at hx
      rcases hx with hx|rfl
      ·exact hs x hx
      ·rw [hk];rfl
  ·rw [qp hi]at h
   cases h
   rw [List.take_of_length_le aa]at he hs
   exact⟨he,hs⟩
theorem Iu{root:Int}(h:gi l root=some ss):(bL l root).2=true∧ss=bG l root::ss.flatMap (bB l)∧∀x∈ss,(dz l x).isSome=true:=by
 unfold gi at h
 split at h
 ·rename_i hf
  exact⟨hf,UP _ _ _ _ h rfl (fun x hx=>by simp at hx)⟩
 ·cases h
variable {x:aC}
theorem cx(h:(dz l x).isSome=true)(h0:¬x.n.level=0):bB l x=iy l x x.n.kids.length∧0<x.n.level∧ee x.n.ab x.n.kids.length=true∧∀j,j<x.n.kids.length→gT l x j=true:=by
 unfold bB dz at*
 rw [if_neg h0]at h⊢
 split at h
 ·cases h
 ·rename_i h1
  rw [if_neg h1]
  split at h
  ·rename_i h2
   rw [if_pos h2]
   refine⟨rfl,aa,by simpa using fun h=>h1 (.inr h),fun j hj=>List.all_eq_true.1 h2 j (List.mem_range.2 hj)⟩
  ·cases h
theorem fD(h0:x.n.level=0):bB l x=[]:=by rw [bB,pi h0];rfl
theorem Mz{l:List Nd}(h:eQ l)(i:Int):∀k,k≤l.length→wZ (l.take k) i=if h:0≤i∧i<k∧i.toNat<l.length then [l[i.toNat]]else []
 |0,_=>by rw [dif_neg aa];rfl
 |k+1,hk=>by
  have ih:=Mz h i k aa
  have hs:=(h k aa).1
  by_cases e:l[k].slot=i
  ·rw [aay aa e,ih,dif_neg aa,dif_pos ⟨aa,aa,aa⟩,List.nil_append]
   congr 2;omega
  ·rw [aaz aa e,ih]
   by_cases e2:0≤i∧i<k∧i.toNat<l.length
   ·rw [dif_pos e2,dif_pos ⟨e2.1,aa,e2.2.2⟩]
   ·rw [dif_neg e2,dif_neg aa]
theorem Iv(h:eQ l)(i:Int):wZ l i=if h:0≤i∧i<l.length∧i.toNat<l.length then [l[i.toNat]]else []:=by
 have:=Mz h i l.length (Nat.le_refl _)
 rwa [List.take_length]at this
theorem Iw(h:eQ l)(hi:i<l.length):bL l i=(l[i],true):=by
 unfold bL
 rw [Iv h,dif_pos ⟨aa,aa,aa⟩]
 simp
variable {i:Int}
theorem alh(h:eQ l)(hi:¬(0≤i∧i<l.length)):bL l i=(Nd.zero,false):=by
 unfold bL
 rw [Iv h,dif_neg aa]
 rfl
theorem pn(h:eQ l)(i:Int):bL l i=(ag l i,decide (0≤i∧i<l.length)):=by
 by_cases hi:0≤i∧i<l.length
 ·obtain⟨k,rfl⟩:∃k:Nat,i=k:=⟨i.toNat,aa⟩
  rw [Iw h aa,jN aa,decide_eq_true hi]
 ·rw [alh h hi,decide_eq_false hi]
  congr 1
  unfold ag
  split
  ·rw [List.getD_eq_getElem?_getD,List.getElem?_eq_none aa];rfl
  ·rfl
structure Tree (c:aQ) (l:List Nd) (ss:List aC):Prop where
 pX:fe c
 pos:0<l.length
 xa:sW l
 slot:eQ l
 P5:gi l 0=some ss
 q:Cw c l ss
theorem ali{c:aQ}(h:vA c l most=true)(hm:most≤4096):∃ss,Tree c l ss:=by
 unfold vA at h
 rw [Bool.and_eq_true,decide_eq_true_eq]at h
 obtain⟨⟨h1,h2,h3,h4⟩,h5⟩:=h
 unfold qs at h5
 split at h5
 ·cases h5
 ·rename_i ss e
  exact⟨ss,h1,h2,It h3 hm,h4,e,of_decide_eq_true h5⟩
variable {c:aQ} {l:List Nd} {ss:List aC}
theorem Tree.fix(t:Tree c l ss):ss=bG l 0::ss.flatMap (bB l):=(Iu t.P5).2.1
theorem Tree.root(t:Tree c l ss):bG l 0∈ss:=by rw [t.fix];simp
theorem Tree.kids(t:Tree c l ss)(hx:x∈ss):(dz l x).isSome=true:=(Iu t.P5).2.2 x hx
variable {y:aC}
theorem Tree.Ba(t:Tree c l ss)(hx:x∈ss)(hy:y∈bB l x):y∈ss:=by rw [t.fix];exact List.mem_cons_of_mem _ (List.mem_flatMap.2 ⟨x,hx,hy⟩)
theorem Tree.fo(t:Tree c l ss)(hx:x∈ss):vz c x:=by
 obtain⟨i,hi,rfl⟩:=List.getElem_of_mem hx
 exact t.q.2 i hi
theorem Tree.lvl(t:Tree c l ss)(hx:x∈ss):0≤x.n.level:=(t.fo hx).1.1.2.1
theorem Tree.oD(t:Tree c l ss):(bG l 0).n=ag l 0:=by
 show(bL l 0).1=_
 rw [pn t.slot]
theorem Tree.at(t:Tree c l ss){x:aC}(hx:x∈ss)(h0:¬x.n.level=0){j:Nat}(hj:j<x.n.kids.length):
  au l x j∈ss∧(0≤x.n.kids[j]∧x.n.kids[j]<l.length)∧(au l x j).n=ag l x.n.kids[j]∧(au l x j).n.level=x.n.level-1:=by
 obtain⟨h1,h2,h3,h4⟩:=cx (t.kids hx) h0
 have hk:=h4 j hj
 unfold gT at hk
 have ej:x.n.kids.getD j 0=x.n.kids[j]:=by rw [List.getD_eq_getElem?_getD,List.getElem?_eq_getElem hj];rfl
 rw [ej,pn t.slot,Bool.and_eq_true,decide_eq_true_eq,decide_eq_true_eq]at hk
 have en:(au l x j).n=ag l x.n.kids[j]:=by
  show(bL l (x.n.kids.getD j 0)).1=_
  rw [ej,pn t.slot]
 refine⟨t.Ba hx ?_,hk.1,en,by rw [en];exact hk.2⟩
 rw [h1]
 exact List.mem_map.2 ⟨j,List.mem_range.2 hj,rfl⟩
theorem di(h:eQ l)(hi:0≤i∧i<l.length):(ag l i).slot=i∧ag l i∈l:=by
 obtain⟨k,rfl⟩:∃k:Nat,i=k:=⟨i.toNat,aa⟩
 rw [jN aa]
 exact⟨(h k aa).1,List.getElem_mem _⟩
theorem Tree.nd(t:Tree c l ss)(hx:x∈ss):∃h:0≤x.n.slot∧x.n.slot<l.length,x.n=ag l x.n.slot∧x.n∈l:=by
 have key:∃i:Int,(0≤i∧i<l.length)∧x.n=ag l i:=by
  rw [t.fix]at hx
  rcases List.mem_cons.1 hx with rfl|hx
  ·exact⟨0,⟨aa,by have:=t.pos;omega⟩,t.oD⟩
  ·obtain⟨y,hy,hk⟩:=List.mem_flatMap.1 hx
   by_cases h0:y.n.level=0
   ·rw [fD h0]at hk;cases hk
   ·rw [(cx (t.kids hy) h0).1]at hk
    obtain⟨j,hj,rfl⟩:=List.mem_map.1 hk
    have:=t.at hy h0 (List.mem_range.1 hj)
    exact⟨_,this.2.1,this.2.2.1⟩
 obtain⟨i,hi,e⟩:=key
 obtain⟨h1,h2⟩:=di t.slot hi
 have hs:x.n.slot=i:=by rw [e];exact h1
 exact⟨aa,by rw [hs];exact e,by rw [e];exact h2⟩
theorem Tree.perm(t:Tree c l ss):(ss.map (·.n)).Perm l:=by
 have hon:=t.q.1.1
 have hnl:l.Nodup:=by
  refine List.pairwise_iff_getElem.2 fun i j hi hj kn he=> ?_
  have h1:=(t.slot i hi).1
  have h2:=(t.slot j hj).1
  rw [he]at h1
  omega
 refine(List.perm_ext_iff_of_nodup ?_ hnl).2 fun a=>⟨fun ha=> ?_,fun ha=> ?_⟩
 ·rw [List.nodup_iff_count]
  intro a
  by_cases ha:a∈ss.map (·.n)
  ·obtain⟨x,hx,rfl⟩:=List.mem_map.1 ha
   obtain⟨hs,hn,hm⟩:=t.nd hx
   have h1:=hon.2 x.n.slot.toNat aa
   rw [(t.slot _ _).1,show((x.n.slot.toNat:Nat):Int)=x.n.slot by omega]at h1
   rw [←h1,List.count_eq_countP,List.countP_map,pW,←List.countP_eq_length_filter]
   refine List.countP_mono_left fun y _ hy=> ?_
   simp only [Function.comp,beq_iff_eq]at hy
   simp [hy]
  ·rw [List.count_eq_zero_of_not_mem ha];omega
 ·obtain⟨x,hx,rfl⟩:=List.mem_map.1 ha
  exact(t.nd hx).2.2
 ·obtain⟨i,hi,rfl⟩:=List.getElem_of_mem ha
  have h1:=hon.2 i hi
  have h2:∃x,x∈pW ss l[i].slot:=by
   cases h:pW ss l[i].slot with
   |nil=>rw [h]at h1;simp at h1
   |cons x _=>exact⟨x,by simp⟩
  obtain⟨x,hx⟩:=h2
  obtain⟨D6,vB⟩:=List.mem_filter.1 hx
  have vB:=of_decide_eq_true vB
  refine List.mem_map.2 ⟨x,D6,?_⟩
  have m3:=(t.nd D6).2.1
  rw [m3,vB,(t.slot i hi).1,jN hi]
theorem Tree.len(t:Tree c l ss):ss.length=l.length:=t.q.1.1.1.symm
theorem aaG{l:List Nd}(h:eQ l):eK 0 l=true:=xR.2 fun k hk=>by rw [(h k hk).1];omega
theorem Ix(k:ah):Span.all.has k=true:=by
 show(!k.lt ah.nil&&(true||_))=true
 rw [ah.nil_le];rfl
variable {j:Nat}
theorem Iy(h:ee x.n.ab x.n.kids.length=true)(hj:j<x.n.kids.length)(k:ah):(au l x j).s.has k=(x.s.has k&&decide (j=aJ x.n.ab k)):=by
 obtain⟨h1,h2⟩:=cE h
 show(Span.bE _ _).has k=_
 rw [cu,eL h1 k aa]
noncomputable def ay4 (l:List Nd) (k:ah) (x:aC):Option aC:=if x.n.level=0 then none else some (au l x (aJ x.n.ab k))
variable {α:Type} {β:Type}
theorem vC(p:β→Bool)(f:α→β):∀(l:List α),(l.map f).filter p=(l.filter fun a=>p (f a)).map f
 |[]=>rfl
 |a::l=>by
  rw [List.map_cons,List.filter_cons,List.filter_cons,vC p f l]
  split<;>simp_all
noncomputable def alj (l:List Nd) (k:ah):Nat→aC→List aC
 |0,x=>[x]
 |f+1,x=>x::match ay4 l k x with
  |none=>[]
  |some y=>alj l k f y
theorem Iz:∀(T:List aC),T≠[]→∃m∈T,∀x∈T,x.n.level≤m.n.level
 |[],h=>absurd rfl h
 |[x],_=>⟨x,by simp,fun y hy=>by simp at hy;subst hy;exact Int.le_refl _⟩
 |x::y::T,_=>by
  obtain⟨m,hm,hx⟩:=Iz (y::T) (by simp)
  by_cases h:m.n.level≤x.n.level
  ·exact⟨x,by simp,fun z hz=>by
    rcases List.mem_cons.1 hz with rfl|hz
    ·exact Int.le_refl _
    ·exact Int.le_trans (hx z hz) h⟩
  ·exact⟨m,List.mem_cons_of_mem _ hm,fun z hz=>by
    rcases List.mem_cons.1 hz with rfl|hz
    ·omega
    ·exact hx z hz⟩
noncomputable def UQ (l:List Nd) (k:ah):List aC:=alj l k (bG l 0).n.level.toNat (bG l 0)
theorem dW{s:Span} :s.empty=true↔∀k,s.has k=false:=by
 constructor
 ·intro h k
  have h1:s.bT=false∧s.lo.lt s.hi=false:=by simpa [Span.empty]using h
  unfold Span.has
  rw [h1.1,Bool.false_or,Bool.and_eq_false_iff]
  cases h2:k.lt s.hi
  ·exact .inr rfl
  ·left
   cases h3:k.lt s.lo
   ·have:=ah.lt_of_le_of_lt h3 h2
    rw [h1.2]at this;cases this
   ·rfl
 ·intro h
  rw [←Span.empty_eq,h];rfl
variable {a:Span} {b:Span}
theorem oE(h:∀k,a.has k=b.has k):a.norm=b.norm:=by
 have he:a.empty=b.empty:=by
  rw [Bool.eq_iff_iff,dW,dW]
  exact⟨fun h1 k=>by rw [←h k];exact h1 k,fun h1 k=>by rw [h k];exact h1 k⟩
 unfold Span.norm
 rw [←he]
 cases ea:a.empty
 ·have eb:b.empty=false:=he▸ea
  simp only [Bool.false_eq_true,if_false]
  have la:a.has a.lo=true:=by have:=Span.empty_eq a;rw [ea]at this;simpa using this
  have lb:b.has b.lo=true:=by have:=Span.empty_eq b;rw [eb]at this;simpa using this
  have l1:a.lo.lt b.lo=false:=by
   have:=h a.lo;rw [la]at this
   unfold Span.has at this
   simp only [Bool.true_eq,Bool.and_eq_true,Bool.not_eq_true']at this
   exact this.1
  have l2:b.lo.lt a.lo=false:=by
   have:=h b.lo;rw [lb]at this
   unfold Span.has at this
   simp only [Bool.and_eq_true,Bool.not_eq_true']at this
   exact this.1
  have gx:a.lo=b.lo:=ah.gW l1 l2
  have hop:∀ {x y:Span},x.lo=y.lo→(∀k,x.has k=y.has k)→x.empty=false→y.empty=false→x.bT=true→y.bT=true:=by
   intro x y hxy hk hx hy ho
   cases hyo:y.bT
   ·exfalso
    have h1:y.lo.lt y.hi=true:=by simpa [Span.empty,hyo]using hy
    have h2:y.has y.hi=false:=by unfold Span.has;rw [hyo,ah.lt_irrefl];simp
    have h3:x.has y.hi=true:=by unfold Span.has;rw [ho,hxy,ah.lt_asymm h1];rfl
    rw [hk,h2]at h3;cases h3
   ·rfl
  cases oa:a.bT
  ·have ob:b.bT=false:=by
    cases ob:b.bT
    ·rfl
    ·have:=hop gx.symm (fun k=>(h k).symm) eb ea ob;rw [oa]at this;cases this
   have gz:∀ {x y:Span},x.lo=y.lo→(∀k,x.has k=y.has k)→x.empty=false→x.bT=false→y.bT=false→x.hi.lt y.hi=false:=by
    intro x y hxy hk hx ho hyo
    cases hl:x.hi.lt y.hi
    ·rfl
    ·exfalso
     have h1:x.lo.lt x.hi=true:=by simpa [Span.empty,ho]using hx
     have h2:x.has x.hi=false:=by unfold Span.has;rw [ho,ah.lt_irrefl];simp
     have h3:y.has x.hi=true:=by unfold Span.has;rw [hyo,←hxy,ah.lt_asymm h1,hl];rfl
     rw [←hk,h2]at h3;cases h3
   have e:a.hi=b.hi:=ah.gW (gz gx h ea oa ob) (gz gx.symm (fun k=>(h k).symm) eb ob oa)
   rw [if_neg (by simp),if_neg (by simp [ob])]
   cases a;cases b;simp_all
  ·have ob:=hop gx h ea eb oa
   rw [if_pos rfl,if_pos ob,ob]
   cases a;cases b;simp_all
 ·simp
theorem IA(s:Span):s.norm.norm=s.norm:=oE fun k=>kP s k
theorem fj(a b:Span):(a.bE b).norm=a.bE b:=IA _
theorem D7{a' b':Span}(h:∀k,(a.has k&&b.has k)=(a'.has k&&b'.has k)):a.bE b=a'.bE b':=by
 rw [←fj a b,←fj a' b']
 exact oE fun k=>by rw [cu,cu];exact h k
variable {m:aA}
theorem nh{s:Span} :(m.clip s).2=false↔(m.span.bE s).empty=true:=by
 cases h:(m.span.bE s).empty
 ·by_cases k:m.kind=4
  ·rw [kI h k];simp
  ·rw [uS h k];simp
 ·rw [kH h];simp
theorem vD{s:Span}(h:(m.clip s).2=true)(k:m.kind=4):(m.clip s).1.span=m.span.bE s:=by
 rw [(fA h).2,if_pos k]
 show aA.span { m with key:=(m.span.bE s).lo,hi:=(m.span.bE s).hi,bT:=(m.span.bE s).bT } =_
 generalize m.span.bE s=z
 unfold aA.span
 rw [if_pos k]
theorem aaH{s t:Span}(ii:∀k,s.has k=true→t.has k=true):(if(m.clip t).2=true then(m.clip t).1.clip s else(⟨0,0,ah.nil,ah.nil,false,ah.nil⟩,false))=m.clip s:=by
 cases h:(m.clip t).2
 ·rw [if_neg (by simp)]
  have h1:=nh.1 h
  have h2:(m.span.bE s).empty=true:=dW.2 fun k=>by
   have:=dW.1 h1 k
   rw [cu,Bool.and_eq_false_iff]at this⊢
   rcases this with h|h
   ·exact .inl h
   ·right
    cases hs:s.has k
    ·rfl
    ·rw [ii k hs]at h;cases h
  rw [kH h2]
 ·rw [if_pos rfl]
  by_cases k:m.kind=4
  ·have hs:=vD h k
   have k2:(m.clip t).1.kind=4:=by rw [(fA h).2,if_pos k];exact k
   have e:(m.span.bE t).bE s=m.span.bE s:=D7 fun q=>by
    rw [cu]
    cases hs:s.has q
    ·simp
    ·rw [ii q hs];simp
   cases he:(m.span.bE s).empty
   ·rw [kI (by rw [hs,e];exact he) k2,kI he k,hs,e,(fA h).2,if_pos k]
   ·rw [kH (by rw [hs,e];exact he),kH he]
  ·rw [(fA h).2,if_neg k]
theorem dX{s t:Span}(ii:∀k,s.has k=true→t.has k=true):∀(L:List aA),aK s (aK t L)=aK s L
 |[]=>rfl
 |m::L=>by
  have e:=aaH (m:=m) ii
  rw [eZ t m L,eZ s m L,←dX ii L]
  cases h:(m.clip t).2
  ·rw [if_neg (by simp)]
   rw [h,if_neg (by simp)]at e
   rw [←e,if_neg (by simp)]
  ·rw [if_pos rfl,eZ]
   rw [h,if_pos rfl]at e
   rw [e]
theorem ff(s:Span)(A B:List aA):aK s (A++B)=aK s A++aK s B:=List.filterMap_append
variable {A:List aA}
theorem ia{s:Span}(h:ng A):ng (aK s A):=by
 unfold ng aK
 rw [List.pairwise_filterMap]
 refine List.Pairwise.imp (fun {a b} mZ x hx y hy=> ?_) h
 split at hx
 ·split at hy
  ·rename_i h1 h2
   cases hx;cases hy
   rw [eG h1,eG h2];exact mZ
  ·cases hy
 ·cases hx
variable {c:aQ} {l:List Nd} {ss:List aC}
theorem Tree.from(t:Tree c l ss)(hx:x∈ss):x=bG l 0∨∃y∈ss,∃h0:¬y.n.level=0,∃j,j<y.n.kids.length∧x=au l y j:=by
 rw [t.fix]at hx
 rcases List.mem_cons.1 hx with rfl|hx
 ·exact .inl rfl
 ·obtain⟨y,hy,hk⟩:=List.mem_flatMap.1 hx
  by_cases h0:y.n.level=0
  ·rw [fD h0]at hk;cases hk
  ·rw [(cx (t.kids hy) h0).1]at hk
   obtain⟨j,hj,rfl⟩:=List.mem_map.1 hk
   exact .inr ⟨y,hy,h0,j,List.mem_range.1 hj,rfl⟩
theorem Tree.ind(t:Tree c l ss){P:aC→Prop}(h0:P (bG l 0))(hk:∀x∈ss,¬x.n.level=0→P x→∀j,j<x.n.kids.length→P (au l x j)):∀x∈ss,P x:=by
 intro x hx
 apply Classical.byContradiction
 intro hn
 have hT:(ss.filter fun y=>@decide (¬P y) (Classical.propDecidable _))≠[]:=by
  intro e
  have:x∈ss.filter fun y=>@decide (¬P y) (Classical.propDecidable _):=List.mem_filter.2 ⟨hx,by simpa using hn⟩
  rw [e]at this;cases this
 obtain⟨m,hm,aHT⟩:=Iz _ hT
 obtain⟨hm1,Gk⟩:=List.mem_filter.1 hm
 have Gk:¬P m:=by simpa using Gk
 rcases t.from hm1 with rfl|⟨y,hy,hy0,j,hj,rfl⟩
 ·exact Gk h0
 ·refine Gk (hk y hy hy0 ?_ j hj)
  apply Classical.byContradiction
  intro hPy
  have:=aHT y (List.mem_filter.2 ⟨hy,by simpa using hPy⟩)
  have:=(t.at hy hy0 hj).2.2.2
  omega
theorem Tree.inner(t:Tree c l ss)(hx:x∈ss)(h0:¬x.n.level=0):x.n.kK c.bu c.bud:=by
 have:=(t.fo hx).1.2.2.2
 rwa [if_neg h0]at this
theorem Tree.leaf(t:Tree c l ss)(hx:x∈ss)(h0:x.n.level=0):x.n.Hk c.leaf:=by
 have:=(t.fo hx).1.2.2.2
 rwa [if_pos h0]at this
theorem Tree.vE(t:Tree c l ss)(hx:x∈ss)(h0:x.n.level=0):x.n.af=[]:=by
 have:=(t.leaf hx h0).1
 exact List.eq_nil_of_length_eq_zero aa
theorem Tree.af(t:Tree c l ss)(hx:x∈ss):ng x.n.af∧(∀m∈x.n.af,m.R)∧∀m∈x.n.af,m.aO≤x.n.seen:=by
 by_cases h0:x.n.level=0
 ·rw [t.vE hx h0];exact⟨List.Pairwise.nil,(fun m hm=>by cases hm),fun m hm=>by cases hm⟩
 ·obtain⟨_,_,h3,_,_,_,h7⟩:=t.inner hx h0
  refine⟨(dD.iff.1 h3).2,(dD.iff.1 h3).1,fun m hm=> ?_⟩
  obtain⟨i,hi,rfl⟩:=List.getElem_of_mem hm
  exact(h7 i hi).1
theorem oF{B:List aA}(ha:ng A)(hb:ng B)(h:∀a∈A,∀b∈B,a.aO<b.aO):cC [A,B]=A++B∧ng (A++B):=by
 have hr:ng (A++B):=List.pairwise_append.2 ⟨ha,hb,h⟩
 refine⟨Lo _ _ _ rfl ?_ (by simp) hr,hr⟩
 intro L hL
 simp only [List.mem_cons,List.not_mem_nil,or_false]at hL
 rcases hL with rfl|rfl
 ·exact ha
 ·exact hb
theorem jG{s:Span}(h:m∈aK s A):∃a∈A,m.aO=a.aO:=by
 obtain⟨a,ha,h1,rfl⟩:=iI h
 exact⟨a,ha,eG h1⟩
theorem Tree.zE(t:Tree c l ss)(hx:x∈ss)(hr:ng x.ms)(j:Nat):
  (au l x j).ms=aK (au l x j).s x.n.af++aK (au l x j).s x.ms∧ng (au l x j).ms:=by
 obtain⟨h1,_,h3⟩:=t.af hx
 have hs:=(t.fo hx).2.2.2
 have:=oF (A:=aK (au l x j).s x.n.af) (B:=aK (au l x j).s x.ms) (ia h1) (ia hr) fun a ha b hb=>by
  obtain⟨a',ha',e1⟩:=jG ha
  obtain⟨b',jr,e2⟩:=jG hb
  have:=h3 a' ha'
  obtain⟨i,hi,rfl⟩:=List.getElem_of_mem jr
  have:=hs i hi
  omega
 have e:(au l x j).ms=cC [aK (au l x j).s x.n.af,aK (au l x j).s x.ms]:=rfl
 exact⟨by rw [e,this.1],by rw [e,this.1];exact this.2⟩
theorem Tree.vF(t:Tree c l ss):∀x∈ss,ng x.ms:=t.ind List.Pairwise.nil fun x hx _ hr j _=>(t.zE hx hr j).2
theorem Tree.fits(t:Tree c l ss):∀x∈ss,(x.s.lo.b.size≤16∧x.s.hi.b.size≤16)∧∀m∈x.ms,m.R:=by
 refine t.ind ⟨⟨by show ah.nil.b.size≤16;decide,by show ah.nil.b.size≤16;decide⟩,fun m hm=>by cases hm⟩ fun x hx h0 ih j hj=> ?_
 have hi:=t.inner hx h0
 have rL:(au l x j).s.lo.b.size≤16∧(au l x j).s.hi.b.size≤16:=sf ih.1 (kO fun k hk=>by
  obtain⟨i,gS,rfl⟩:=List.getElem_of_mem hk
  exact(hi.2.2.2.2.2.1 i gS).2.1)
 refine⟨rL,fun m hm=> ?_⟩
 rw [(t.zE hx (t.vF x hx) j).1,List.mem_append]at hm
 rcases hm with hm|hm<;>obtain⟨a,ha,h1,rfl⟩:=iI hm
 ·exact uX ((t.af hx).2.1 a ha) rL.1 rL.2 h1
 ·exact uX (ih.2 a ha) rL.1 rL.2 h1
theorem UR(k:ah)(h:(au l x j).s.has k=true):x.s.has k=true:=by
 have e:(au l x j).s.has k=(x.s.has k&&(ar x.n.ab (j:Int)).has k):=cu _ _ _
 rw [e,Bool.and_eq_true]at h
 exact h.1
structure aOD (l:List Nd) (ss:List aC) (k:ah) (z:aC):Prop where
 last:(UQ l k).getLast?=some z
 mem:z∈ss
 lvl:z.n.level=0
 has:z.s.has k=true
 all:∀y∈UQ l k,y∈ss∧(y.n.level=0→y=z)
 perm:z.ms.Perm (((UQ l k).map fun y=>aK z.s y.n.af).flatten)
theorem MA{K:aC→List aC}{T:List aC}(h:T=T.flatMap K)(hf:∀x∈T,∀y∈K x,y.n.level<x.n.level):T=[]:=by
 apply Classical.byContradiction
 intro hn
 obtain⟨m,hm,hx⟩:=Iz T hn
 have Gk:=hm
 rw [h]at Gk
 obtain⟨x,D6,vB⟩:=List.mem_flatMap.1 Gk
 have:=hf x D6 m vB
 have:=hx x D6
 omega
theorem Tree.xX(t:Tree c l ss)(hx:x∈ss)(hy:y∈bB l x):y∈ss∧y.n.level=x.n.level-1:=by
 by_cases h0:x.n.level=0
 ·rw [fD h0]at hy;cases hy
 ·rw [(cx (t.kids hx) h0).1]at hy
  obtain⟨j,hj,rfl⟩:=List.mem_map.1 hy
  have:=t.at hx h0 (List.mem_range.1 hj)
  exact⟨this.1,this.2.2.2⟩
noncomputable def lj (l:List Nd):Nat→aC→List aC
 |0,x=>[x]
 |n+1,x=>x::(bB l x).flatMap (lj l n)
theorem IB{f g h:α→List β}(e:∀x,f x=g x++h x):∀(L:List α),(L.flatMap f).Perm (L.flatMap g++L.flatMap h)
 |[]=>List.Perm.refl _
 |x::L=>by
  rw [List.flatMap_cons,List.flatMap_cons,List.flatMap_cons,e x,List.append_assoc,List.append_assoc]
  refine List.Perm.append_left _ ?_
  refine(List.Perm.append_left _ (IB e L)).trans ?_
  rw [←List.append_assoc,←List.append_assoc]
  exact List.perm_append_comm.append_right _
theorem Tree.D8(t:Tree c l ss):∀(n:Nat) (R T:List aC),T=R++T.flatMap (bB l)→(∀x∈T,x∈ss)→(∀x∈R,x.n.level.toNat=n)→T.Perm (R.flatMap (lj l n)):=by
 intro n
 induction n with
 |zero=>
  intro R T hT hs hR
  have hRT:∀x∈R,x∈T:=fun x hx=>by rw [hT];exact List.mem_append_left _ hx
  have h0:∀x∈R,x.n.level=0:=fun x hx=>by have:=t.lvl (hs x (hRT x hx));have:=hR x hx;omega
  have hK:R.flatMap (bB l)=[]:=List.flatMap_eq_nil_iff.2 fun x hx=>fD (h0 x hx)
  generalize hS:T.flatMap (bB l)=S at hT
  have hS2:S=S.flatMap (bB l):=by
   conv=>lhs;rw [←hS,hT]
   rw [List.flatMap_append,hK,List.nil_append]
  have hST:∀x∈S,x∈T:=fun x hx=>by rw [hT];exact List.mem_append_right _ hx
  have hn:=MA hS2 fun x hx y hy=>by have:=(t.xX (hs x (hST x hx)) hy).2;omega
  rw [hT,hn,List.append_nil]
  exact List.Perm.of_eq (List.flatMap_singleton' R).symm
 |succ n ih=>
  intro R T hT hs hR
  have hRT:∀x∈R,x∈T:=fun x hx=>by rw [hT];exact List.mem_append_left _ hx
  generalize hS:T.flatMap (bB l)=S at hT
  have hS2:S=R.flatMap (bB l)++S.flatMap (bB l):=by
   conv=>lhs;rw [←hS,hT]
   rw [List.flatMap_append]
  have hST:∀x∈S,x∈T:=fun x hx=>by rw [hT];exact List.mem_append_right _ hx
  have h1:=ih (R.flatMap (bB l)) S hS2 (fun x hx=>hs x (hST x hx)) fun y hy=>by
   obtain⟨x,hx,hyx⟩:=List.mem_flatMap.1 hy
   have:=(t.xX (hs x (hRT x hx)) hyx).2
   have:=hR x hx
   omega
  rw [hT]
  refine(List.Perm.append_left R h1).trans ?_
  have h2:=IB (f:=lj l (n+1)) (g:=fun x=>[x]) (h:=fun x=>(bB l x).flatMap (lj l n)) (fun x=>rfl) R
  rw [List.flatMap_singleton' R]at h2
  refine List.Perm.trans ?_ h2.symm
  rw [List.flatMap_assoc]
theorem Tree.IC(t:Tree c l ss):∀(n:Nat) (x:aC),x∈ss→x.n.level.toNat=n→2^(n+1)≤(lj l n x).length+1:=by
 intro n
 induction n with
 |zero=>intro x _ _;simp [lj]
 |succ n ih=>
  intro x hx hn
  have h0:¬x.n.level=0:=aa
  have hk:=(t.inner hx h0).1.2.1
  have h1:=(cx (t.kids hx) h0).1
  have hl:(bB l x).length=x.n.kids.length:=by rw [h1,gG]
  have key:∀y∈bB l x,2^(n+1)≤(lj l n y).length+1:=fun y hy=>by
   have:=t.xX hx hy
   exact ih y this.1 aa
  rw [lj,List.length_cons]
  match hL:bB l x with
  |[]=>rw [hL]at hl;simp at hl;omega
  |[a]=>rw [hL]at hl;simp at hl;omega
  |a::b::R=>
   rw [hL]at key
   have ha:=key a (by simp)
   have hb:=key b (by simp)
   rw [List.flatMap_cons,List.flatMap_cons,List.length_append,List.length_append]
   have:2^(n+1+1)=2^(n+1)+2^(n+1):=by rw [Nat.pow_succ];omega
   omega
theorem Tree.ad1(t:Tree c l ss):(bG l 0).n.level≤11:=by
 have h1:=t.D8 (bG l 0).n.level.toNat [bG l 0] ss (by exact t.fix) (fun x hx=>hx) (fun x hx=>by simp at hx;rw [hx])
 rw [List.flatMap_cons,List.flatMap_nil,List.append_nil]at h1
 have h2:=t.IC _ _ t.root rfl
 rw [←h1.length_eq,t.len]at h2
 have h3:=t.xa.1
 apply Classical.byContradiction
 intro hn
 have h4:2^13≤2^((bG l 0).n.level.toNat+1):=Nat.pow_le_pow_right aa aa
 omega
def mc (x:aC):List bp:=cJ (x.n.rows.filter fun p=>x.s.has p.key) (aK x.s x.ms)
def du (ss:List aC):List aC:=ss.filter fun x=>decide (x.n.level=0)
noncomputable def mD (l:List Nd):List bp:=match gi l 0 with|none=>[]|some ss=>(du ss).flatMap mc
theorem zF(h:gi l 0=some ss):mD l=(du ss).flatMap mc:=by rw [mD,h]
theorem Tree.rows(t:Tree c l ss)(hx:x∈ss):bC x.n.rows:=by
 by_cases h0:x.n.level=0
 ·exact(t.leaf hx h0).2.2.1
 ·have:=(t.inner hx h0).1.1
  rw [List.eq_nil_of_length_eq_zero this]
  intro i hi;simp at hi
theorem eR(h:m.R):m.key.b.size≤16∧m.val.b.size≤16:=⟨h.1.2.1,h.1.2.2.1⟩
variable {c:aQ} {l:List Nd} {ss:List aC}
structure At (l:List Nd) (ss:List aC) (k:ah) (x:aC) (P:List aC) (lv:Int):Prop where
 mem:x∈ss
 way:UQ l k=P++alj l k x.n.level.toNat x
 lv:lv<0∨lv=x.n.level+1
theorem Tree.qY(t:Tree c l ss):(bG l 0).n.slot=0:=by
 rw [t.oD]
 exact(di t.slot ⟨Int.le_refl 0,by have:=t.pos;omega⟩).1
theorem ID:∀ {ms:List aA},(∀m∈ms,m.R)→4*(ms.length:Int)≤bI ms
 |[],_=>by simp [bI]
 |m::ms,h=>by
  have h1:=ID (ms:=ms) (fun a ha=>h a (List.mem_cons_of_mem _ ha))
  have h2:=o8 (eR (h m (by simp)))
  rw [rT,List.length_cons];omega
variable {c:aQ} {l:List Nd} {ss:List aC}
theorem sh{P:List ah}{p q:ah}(h:p.lt q=false):aJ P q≤aJ P p:=by
 unfold aJ
 rw [←List.countP_eq_length_filter,←List.countP_eq_length_filter]
 refine List.countP_mono_left fun x _ hx=> ?_
 simp only [Bool.not_eq_true']at hx⊢
 exact ah.le_trans hx h
theorem Lp{M:List bp}(hM:gI M)(p:ah→Bool)(h:ah):M.filter (fun a=>p a.key)=M.filter (fun a=>p a.key&&a.key.lt h)++M.filter (fun a=>p a.key&& !a.key.lt h):=by
 induction M with
 |nil=>rfl
 |cons a M ih=>
  have hp:=List.pairwise_cons.1 hM
  rw [List.filter_cons,List.filter_cons,List.filter_cons,ih hp.2]
  cases hpa:p a.key
  ·simp
  ·cases hl:a.key.lt h
   ·have:M.filter (fun a=>p a.key&&a.key.lt h)=[]:=List.filter_eq_nil_iff.2 fun b hb hh=>by
     have mZ:=hp.1 b hb
     simp only [Bool.and_eq_true]at hh
     have:=ah.lt_trans mZ hh.2
     rw [hl]at this;cases this
    rw [this];simp
   ·simp
structure aTN (l:List Nd) (x:Span) (n:Int) (rest:Span) (out:List bp):Prop where
 eq:out++(mD l).filter (fun p=>rest.has p.key)=(mD l).filter (fun p=>x.has p.key)
 len:out=[]∨(out.length:Int)<n
structure Leg (l:List Nd) (z:aC) (rest s:Span):Prop where
 se:s=rest.bE z.s
 lo:s.has rest.lo=true
def Cx (n:Nd):aC:=⟨n,Span.all,[]⟩
theorem MB{n:Nd}(hs:n.slot=0)(pY:n.seen≤1099511627776):eQ [n]:=fun i h=>by
 have:i=0:=by simp at h;omega
 subst this
 exact⟨by simpa using hs,pY⟩
theorem aaI{n:Nd}(h0:n.level=0)(hs:n.slot=0)(pY:n.seen≤1099511627776):gi [n] 0=some [Cx n]:=by
 have hf:bL [n] 0=(n,true):=Iw (MB hs pY) (i:=0) (by simp)
 unfold gi
 rw [if_pos (by rw [hf])]
 have hr:bG [n] 0=Cx n:=by unfold bG Cx;rw [hf]
 rw [hr]
 show jF [n] (2+1) 0 [Cx n]=_
 rw [qq (l:=[n]) (f:=2) (i:=0) (out:=[Cx n]) (ks:=[]) (by simp) (by simp) (pi h0)]
 exact qp (l:=[n]) (f:=1) (i:=1) (out:=[Cx n]) (by simp)
theorem ag0{c:aQ}{n:Nd}(hc:fe c)(h0:n.level=0)(hs:n.slot=0)(pY:n.seen≤1099511627776)(hR:n.R c.bu c.leaf c.bud)(ht:n.cW=true)(hS:Gl n):Tree c [n] [Cx n]:=by
 have hl:=hR.2.2.2
 rw [if_pos h0]at hl
 have ht2:=hR.2.1 ht
 have hz:=hl.1
 have hk:=hc.2.2.2.1
 refine⟨hc,by simp,⟨by simp,fun m hm=>by simp at hm;subst hm;exact hS⟩,MB hs pY,aaI h0 hs pY,⟨⟨rfl,fun i h=> ?_⟩,fun i h=> ?_,by simp;omega⟩,fun i h=> ?_⟩
 ·have:i=0:=by simp at h;omega
  subst this
  simp [pW,Cx]
 ·have:i=0:=by simp at h;omega
  subst this
  rw [xV (by simp)]
  exact ht2.2
 ·have:i=0:=by simp at h;omega
  subst this
  refine⟨hR,⟨⟨ht,ht2.1⟩,fun i h=>Ix _,fun i h=> ?_,fun i h=> ?_⟩,by show n.slot<c.aL;omega,fun j h=> ?_⟩
  ·have h:i<n.ab.length:=h
   omega
  ·have h:i<n.af.length:=h
   omega
  ·have h:j<([]:List aA).length:=h
   simp at h
section
variable {c:aQ} {l:List Nd} {ss:List aC}
structure aTO (l:List Nd) (n:Nat) (x:aC) (mt:List (Int×Bool)):Prop where
 none:∀y∈lj l n x,getM mt y.n.slot=none
 nd:((lj l n x).map fun y:aC=>y.n.slot).Nodup
structure aQA (l:List Nd) (n:Nat) (x:aC) (j:Nat) (mt:List (Int×Bool)):Prop where
 none:∀y∈((bB l x).drop j).flatMap (lj l n),getM mt y.n.slot=none
 nd:((((bB l x).drop j).flatMap (lj l n)).map fun y:aC=>y.n.slot).Nodup
theorem Tree.mE(t:Tree c l ss){x:aC}(hx:x∈ss)(h0:¬x.n.level=0):(bB l x).length=x.n.kids.length∧∀j (h:j<(bB l x).length),(bB l x)[j]=au l x j:=by
 have h1:=(cx (t.kids hx) h0).1
 refine⟨by rw [h1,gG],fun j h=> ?_⟩
 simp only [h1,iy,List.getElem_map,List.getElem_range]
end
section
variable {α:Type} {E:Env} {f:Fr} {G:GH} {M Mk Ms Mr:MH} {ops rest:List Oper} {q:Bool} {K:Kt} {d:Nat} {ty:TypeId} {pos:String} {aft:Array Edge} {t et:TypeId} {x y kk:Operand} {b:Nat} {k:Int} {m:List (Int×α)} {V:Ay α}
theorem W.IE{z0:Value}{z:α}(ht:xw E.P t=some et)(hz:zvK E.P et=some z0)(hzz:V.R G z0 z)(hx:ev f x=.map (some b))(hk:ev f kk=.int .i64 k)(hm:lf V b G m Ms)(hp:(Ms++Mr).Perm M)
  (h:∀v,V.R G v ((getM m k).getD z)→W E ops.toArray q rest (gw f d v) G M K)(hd:Nat.blt d E.n=true:=by rfl):
  W E ops.toArray q (⟨some d,.lookup t x kk false,ty,pos,aft,none⟩::rest) f G M K:=by
 obtain⟨v,h1,h2⟩:=agW (E:=E) (f:=f) (M:=M) (d:=d) (ty:=ty) (pos:=pos) (aft:=aft) (ok:=false) ht hz hzz hx hk hm hp
 exact W.ok h2 (h v h1) hd
theorem W.P6{g:FuncId}{fst caps:List Value}{args:List Operand}{nL:Array TypeId}{vs:List Value}{Mp Mr:MH}{Q:Value→GH→MH→Prop}(hx:ev f x=.func (.func g) fst.toArray caps.toArray)(hc:Fc E.P g vs G Mp Q)(ha:fst++(args.map (ev f)++caps)=vs)(hM:(Mp++Mr).Perm M)
  (k:∀v G' M',Le G G'→Q v G' M'→W E ops.toArray false rest (gw f d v) G' (M'++Mr) K)(hd:Nat.blt d E.n=true:=by rfl):
  W E ops.toArray false (⟨some d,.call { callee:=.value x,args:=args.toArray,argTypes:=nL },ty,pos,aft,none⟩::rest) f G M K:=by
 intro a w Q' hi hr hK
 refine wpList_plain rfl fun K' eA=> ?_
 unfold Oper.wp
 rw [hi.eval,Bb hc.1 hx ha]
 have oi:=hr.r.perm hM
 have hw:Real w (fun b=>b∈(Mp.map (·.1))) G Mp w:=by
  have hs:=oi.sub (M':=Mp) (List.sublist_append_left _ _)
  exact⟨rfl,rfl,rfl,Nat.le_refl _,fun _ _ _=>rfl,hr.r.ro,hs.mu,hs.o9,hs.nd,fun p hp=>.inr (List.mem_map_of_mem hp)⟩
 refine(hc.2 w hw).mono ?_
 rintro e w' ⟨v',G',M',rfl,h2,h3,h4,h5⟩
 have h6:=Real.call oi h2 h4
 refine eA _ _ (k v' G' M' h3 h5 _ w' Q' (hi.put hd v') ⟨h6,hr.le.trans h3,?_⟩ hK)
 intro b hb jr
 cases hg:G b with
 |none=>
  rcases h4 b hg jr with h7|h7
  ·exact .inl (Nat.le_trans hr.r.size h7)
  ·obtain⟨p,hp,e⟩:=List.mem_map.1 h7
   rcases oi.lo p (by simp [hp])with h8|h8
   ·exact .inl (e▸h8)
   ·exact .inr (e▸h8)
 |some o=>exact hr.nw b hb (by simp [hg])
end
variable {x:aC}
theorem US{l:List Nd}(h:(dz l x).isSome=true):dz l x=some (bB l x):=by
 unfold bB
 cases e:dz l x with
 |none=>rw [e]at h;cases h
 |some y=>rfl
variable {y:aC}
theorem ag1{l:List Nd}(h:(dz l x).isSome=true)(hy:y∈bB l x):y.n.level<x.n.level:=by
 by_cases h0:x.n.level=0
 ·rw [fD h0]at hy;cases hy
 ·obtain⟨h1,h2,h3,h4⟩:=cx h h0
  rw [h1]at hy
  obtain⟨j,hj,rfl⟩:=List.mem_map.1 hy
  have:=h4 j (List.mem_range.1 hj)
  unfold gT at this
  rw [Bool.and_eq_true,decide_eq_true_eq]at this
  have e:(au l x j).n.level=x.n.level-1:=this.2
  omega
variable {T:List aC}
theorem ag2{l:List Nd}{root:Int}(h1:(bL l root).2=true)(h2:T=bG l root::T.flatMap (bB l))(h3:∀x∈T,(dz l x).isSome=true)(h4:T.length≤l.length):gi l root=some T:=by
 have key:∀(d i f:Nat),i+d=T.length→d<f→i≤(bG l root::(T.take i).flatMap (bB l)).length→jF l f i (bG l root::(T.take i).flatMap (bB l))=some T:=by
  intro d
  induction d with
  |zero=>
   intro i f hi hf hl
   rw [List.take_of_length_le aa,←h2]
   obtain⟨f,rfl⟩:∃q,f=q+1:=⟨f-1,aa⟩
   exact qp aa
  |succ d ih=>
   intro i f hi hf hl
   obtain⟨f,rfl⟩:∃q,f=q+1:=⟨f-1,aa⟩
   have hT:T=(bG l root::(T.take i).flatMap (bB l))++(T.drop i).flatMap (bB l):=by
    rw [List.cons_append,←List.flatMap_append,List.take_append_drop];exact h2
   obtain⟨O,hO⟩:∃O,O=bG l root::(T.take i).flatMap (bB l):=⟨_,rfl⟩
   rw [←hO]at hl hT⊢
   have P7:=congrArg List.length hT
   rw [List.length_append]at P7
   by_cases iB:i<O.length
   ·have e:O[i]=T[i]'aa:=by
     have h5:=List.getElem_of_eq hT (show i<T.length by omega)
     rw [h5,List.getElem_append_left iB]
    have hk:dz l O[i]=some (bB l (T[i]'aa)):=by rw [e];exact US (h3 _ (List.getElem_mem _))
    rw [qq iB aa hk]
    have e2:O++bB l (T[i]'aa)=bG l root::(T.take (i+1)).flatMap (bB l):=by
     rw [hO,List.take_succ_eq_append_getElem aa,List.flatMap_append];simp
    rw [e2]
    exact ih (i+1) f aa aa (by rw [←e2,List.length_append];omega)
   ·exfalso
    have hd:T.drop i=(T.drop i).flatMap (bB l):=by
     have h5:=congrArg (List.drop i) hT
     rw [List.drop_append,List.drop_of_length_le (l:=O) aa,List.nil_append,show i-O.length=0 by omega,List.drop_zero]at h5
     exact h5
    have h6:=MA hd fun x hx y hy=>ag1 (h3 x (List.mem_of_mem_drop hx)) hy
    have h7:=congrArg List.length h6
    rw [List.length_drop]at h7
    simp at h7
    omega
 unfold gi
 rw [if_pos h1]
 have:=key T.length 0 (l.length+2) aa aa (Nat.zero_le _)
 simpa using this
abbrev MC:=Int×Int×Int
def aC.key (x:aC):MC:=(x.n.slot,x.n.level,x.n.right)
def Gm:List MC→Prop
 |[]=>True
 |[x]=>x.2.2= -1
 |x::y::T=>x.2.2=(if y.2.1=x.2.1 then y.1 else-1)∧Gm (y::T)
theorem IF(x:aC)(L:List aC)(i:Nat):oC (x::L) (i+1)=oC L i:=by
 unfold oC
 simp
theorem pq:∀ss,xU ss↔Gm (ss.map aC.key)
 |[]=>⟨fun _=>trivial,fun _ i h=>absurd h (Nat.not_lt_zero _)⟩
 |[x]=>by
  constructor
  ·intro h
   have:=h 0 (by simp)
   rw [xV (by simp)]at this
   exact this
  ·intro h i hi
   have:i=0:=by simp at hi;exact hi
   subst this
   rw [xV (by simp)]
   exact h
 |x::y::T=>by
  have ih:=pq (y::T)
  have e:oC (x::y::T) 0=if y.n.level=x.n.level then y.n.slot else-1:=by
   unfold oC
   simp
  constructor
  ·intro h
   refine⟨?_,ih.1 fun i hi=> ?_⟩
   ·have:=h 0 (by simp)
    rw [e]at this
    exact this
   ·have:=h (i+1) (by simpa using hi)
    rw [IF]at this
    exact this
  ·intro h i hi
   cases i with
   |zero=>rw [e];exact h.1
   |succ i=>rw [IF];exact ih.2 h.2 i (by simpa using hi)
theorem IG{s v r y:Int} :∀(P S:List MC),Gm (P++(s,v,r)::S)→Gm (P++(s,v,y)::(y,v,r)::S)
 |[],[],h=>⟨(if_pos rfl).symm,h⟩
 |[],q::S,h=>⟨(if_pos rfl).symm,h.1,h.2⟩
 |[p],S,h=>by
  have h:p.2.2=(if v=p.2.1 then s else-1)∧Gm ([]++(s,v,r)::S):=h
  exact⟨h.1,IG [] S h.2⟩
 |p::q::P,S,h=>by
  have h:p.2.2=(if q.2.1=p.2.1 then q.1 else-1)∧Gm ((q::P)++(s,v,r)::S):=h
  exact⟨h.1,IG (q::P) S h.2⟩
variable {v:Int}
theorem alk{s s' r:Int} :∀(S:List MC),Gm ((s,v,r)::S)→Gm ((s',v,r)::S)
 |[],h=>h
 |q::S,h=>⟨h.1,h.2⟩
theorem alm{s x y:Int}{S:List MC}(h:Gm ((s,v,-1)::S)):Gm ((s,v+1,-1)::(x,v,y)::(y,v,-1)::S):=
 ⟨(if_neg (by show ¬v=v+1;omega)).symm,(if_pos rfl).symm,alk S h⟩
theorem aln{l:List Nd}(hs:eQ l)(hp:(T.map fun x:aC=>x.n.slot).Perm (l.map fun n:Nd=>n.slot)):Ip l T:=by
 refine⟨by simpa using hp.length_eq.symm,fun i h=> ?_⟩
 have h1:=(List.Perm.filter (fun q:Int=>decide (q=l[i].slot)) hp).length_eq
 rw [vC,vC,List.length_map,List.length_map]at h1
 have h2:(l.filter fun n=>decide (n.slot=l[i].slot)).length=1:=by
  have:=Iv hs l[i].slot
  unfold wZ at this
  rw [this,(hs i h).1,dif_pos ⟨aa,aa,aa⟩]
  rfl
 rw [←h2,←h1];rfl
theorem ag3{l:List Nd}(hs:eQ l):(l.map fun n:Nd=>n.slot).Nodup:=by
 refine List.pairwise_iff_getElem.2 fun i j hi hj kn he=> ?_
 rw [List.getElem_map,List.getElem_map]at he
 have h3:=(hs i (by simpa using hi)).1
 have h4:=(hs j (by simpa using hj)).1
 omega
variable {c:aQ} {l:List Nd} {ss:List aC}
theorem Tree.GC(t:Tree c l ss):(ss.map fun x:aC=>x.n.slot).Perm (l.map fun n:Nd=>n.slot):=by
 have:=t.perm.map fun n:Nd=>n.slot
 rwa [List.map_map]at this
theorem Tree.xY(t:Tree c l ss):(ss.map fun x:aC=>x.n.slot).Nodup:=(t.GC.nodup_iff).2 (ag3 t.slot)
theorem UT:∀ {L:List aC},(L.map fun x:aC=>x.n.slot).Nodup→∀ {x y:aC},x∈L→y∈L→x.n.slot=y.n.slot→x=y
 |[],_,_,_,hx,_,_=>by cases hx
 |a::L,h,x,y,hx,hy,e=>by
  rw [List.map_cons,List.nodup_cons]at h
  rcases List.mem_cons.1 hx with e1|h1
  ·rcases List.mem_cons.1 hy with e2|h2
   ·rw [e1,e2]
   ·exact absurd (List.mem_map.2 ⟨y,h2,by rw [←e1];exact e.symm⟩) h.1
  ·rcases List.mem_cons.1 hy with e2|h2
   ·exact absurd (List.mem_map.2 ⟨x,h1,by rw [←e2];exact e⟩) h.1
   ·exact UT h.2 h1 h2 e
theorem Tree.mC(t:Tree c l ss)(hx:x∈ss)(hy:y∈ss)(e:x.n.slot=y.n.slot):x=y:=UT t.xY hx hy e
theorem IH{f:aC→List aC} :∀ {L:List aC},((L.flatMap f).map fun x:aC=>x.n.slot).Nodup→∀ {x z y y':aC},x∈L→z∈L→y∈f x→y'∈f z→y.n.slot=y'.n.slot→x=z
 |[],_,_,_,_,_,hx,_,_,_,_=>by cases hx
 |a::L,h,x,z,y,y',hx,hz,hy,hy',e=>by
  rw [List.flatMap_cons,List.map_append,List.nodup_append]at h
  obtain⟨h1,h2,h3⟩:=h
  rcases List.mem_cons.1 hx with e1|g1
  ·rcases List.mem_cons.1 hz with e2|g2
   ·rw [e1,e2]
   ·exact absurd e (h3 _ (List.mem_map.2 ⟨y,by rw [←e1];exact hy,rfl⟩) _ (List.mem_map.2 ⟨y',List.mem_flatMap.2 ⟨z,g2,hy'⟩,rfl⟩))
  ·rcases List.mem_cons.1 hz with e2|g2
   ·exact absurd e.symm (h3 _ (List.mem_map.2 ⟨y',by rw [←e2];exact hy',rfl⟩) _ (List.mem_map.2 ⟨y,List.mem_flatMap.2 ⟨x,g1,hy⟩,rfl⟩))
   ·exact IH h2 g1 g2 hy hy' e
theorem UU{f:aC→List aC} :∀ {L:List aC},((L.flatMap f).map fun x:aC=>x.n.slot).Nodup→∀ {x:aC},x∈L→((f x).map fun x:aC=>x.n.slot).Nodup
 |[],_,_,hx=>by cases hx
 |a::L,h,x,hx=>by
  rw [List.flatMap_cons,List.map_append,List.nodup_append]at h
  rcases List.mem_cons.1 hx with rfl|hx
  ·exact h.1
  ·exact UU h.2.1 hx
theorem Tree.UW(t:Tree c l ss):((ss.flatMap (bB l)).map fun x:aC=>x.n.slot).Nodup:=by
 have h:=t.xY
 rw [t.fix,List.map_cons,List.nodup_cons]at h
 exact h.2
theorem Tree.D9(t:Tree c l ss)(hx:x∈ss)(hy:y∈bB l x):y.n.slot≠(bG l 0).n.slot:=fun e=>by
 have h:=t.xY
 rw [t.fix,List.map_cons,List.nodup_cons]at h
 exact h.1 (List.mem_map.2 ⟨y,List.mem_flatMap.2 ⟨x,hx,hy⟩,e⟩)
theorem Tree.parent(t:Tree c l ss){z y':aC}(hx:x∈ss)(hz:z∈ss)(hy:y∈bB l x)(hy':y'∈bB l z)(e:y.n.slot=y'.n.slot):x=z:=IH t.UW hx hz hy hy' e
variable {i:Nat} {j:Nat}
theorem Tree.GD(t:Tree c l ss)(hx:x∈ss)(hi:i<(bB l x).length)(hj:j<(bB l x).length)(e:(bB l x)[i].n.slot=(bB l x)[j].n.slot):i=j:=by
 have h:=UU t.UW hx
 have h2:=List.pairwise_iff_getElem.1 h
 simp only [List.length_map,List.getElem_map]at h2
 rcases Nat.lt_trichotomy i j with h3|h3|h3
 ·exact absurd e (h2 i j hi hj h3)
 ·exact h3
 ·exact absurd e.symm (h2 j i hj hi h3)
theorem II(hc:fe c)(UX:0<l.length)(aHU:sW l)(hs:eQ l)(aHV:ss=bG l 0::ss.flatMap (bB l))(hk:∀x∈ss,(dz l x).isSome=true)
  (hp:(ss.map fun x:aC=>x.n.slot).Perm (l.map fun n:Nd=>n.slot))(hlk:Gm (ss.map aC.key))(hlen:(l.length:Int)≤c.aL)(ay5:∀x∈ss,vz c x):Tree c l ss:=
 ⟨hc,UX,aHU,hs,ag2 (by have:=Iw hs UX;rw [show((0:Nat):Int)=0 from rfl]at this;rw [this]) aHV hk (by have:=hp.length_eq;simp at this;omega),
  ⟨⟨aln hs hp,(pq ss).2 hlk,hlen⟩,fun i h=>ay5 _ (List.getElem_mem h)⟩⟩
theorem Tree.two(t:Tree c l ss)(hx:x∈ss)(s:Span):cC [aK s x.n.af,aK s x.ms]=aK s x.n.af++aK s x.ms∧ng (aK s x.n.af++aK s x.ms):=by
 obtain⟨h1,_,h3⟩:=t.af hx
 have hs:=(t.fo hx).2.2.2
 refine oF (ia h1) (ia (t.vF x hx)) fun a ha b hb=> ?_
 obtain⟨a',ha',e1⟩:=jG ha
 obtain⟨b',jr,e2⟩:=jG hb
 have:=h3 a' ha'
 obtain⟨i,hi,rfl⟩:=List.getElem_of_mem jr
 have:=hs i hi
 omega
theorem oG{l l':List Nd}(hn:(bL l (x.n.kids.getD i 0)).1=(bL l' (y.n.kids.getD j 0)).1)
  (hs:∀q,(x.s.bE (ar x.n.ab (i:Int))).has q=(y.s.bE (ar y.n.ab (j:Int))).has q)
  (hm:∀s:Span,s=x.s.bE (ar x.n.ab (i:Int))→cC [aK s x.n.af,aK s x.ms]=cC [aK s y.n.af,aK s y.ms]):au l x i=au l' y j:=by
 have e:x.s.bE (ar x.n.ab (i:Int))=y.s.bE (ar y.n.ab (j:Int)):=by
  rw [←fj x.s,←fj y.s]
  exact oE hs
 have h:=hm _ rfl
 show(⟨_,_,_⟩:aC)=⟨_,_,_⟩
 rw [hn,h,e]
end Go.Fw

namespace Go.Fw
def mf (p:List ah) (c:List Int) (i:Nat) (k:ah) (v:Int):List ah×List Int:=
 if c.length≤i∨(ar p (i:Int)).has k=false∨k=(ar p (i:Int)).lo then([],[])else((p.take i++[k])++p.drop i,(c.take (i+1)++[v])++c.drop (i+1))
variable {i:Nat} {p:List ah} {v:Int}
theorem Cy{c:List Int}{k:ah}(h:c.length≤i∨(ar p (i:Int)).has k=false∨k=(ar p (i:Int)).lo):mf p c i k v=([],[]):=if_pos h
theorem IJ{c:List Int}{k:ah}(h1:¬c.length≤i)(h2:(ar p (i:Int)).has k=true)(h3:¬k=(ar p (i:Int)).lo):mf p c i k v=((p.take i++[k])++p.drop i,(c.take (i+1)++[v])++c.drop (i+1)):=
 if_neg fun h=>h.elim h1 (fun h=>h.elim (fun h=>by rw [h2]at h;cases h) h3)
theorem zG{k:ah}(h:(ar p (i:Int)).has k=true):i≤p.length:=by
 by_cases h2:i≤p.length
 ·exact h2
 ·rw [pg aa]at h
  have:Span.zero.has k=false:=by
   simp only [Span.zero,Span.has]
   cases h3:k.lt ah.nil
   ·simp
   ·simp
  rw [this]at h;cases h
theorem Lq{k:ah}(h:(ar p (i:Int)).has k=true)(h2:¬k=(ar p (i:Int)).lo):
  (∀h:0<i∧i-1<p.length,(p[i-1]'h.2).lt k=true)∧(∀h:i<p.length,k.lt p[i]=true):=by
 have hi:=zG h
 have e:=oH (l:=p) (i:=(i:Int)) aa aa
 have h0:=h
 rw [e,kP]at h
 simp only [Span.has,Bool.and_eq_true,Bool.or_eq_true,Bool.not_eq_true',decide_eq_true_eq]at h
 obtain⟨h3,h4⟩:=h
 have gz:∀h:i<p.length,k.lt p[i]=true:=fun iB=>by
  rcases h4 with h4|h4
  ·omega
  ·rw [show((i:Int)).toNat=i from rfl,jO (d:=ah.nil) iB]at h4;exact h4
 refine⟨fun⟨h5,h6⟩=> ?_,gz⟩
 rw [if_pos aa,show((i:Int)-1).toNat=i-1 from by omega,jO (d:=ah.nil) h6]at h3
 cases iB:(p[i-1]'h6).lt k
 ·exfalso
  have hke:k=p[i-1]'h6:=ah.gW h3 iB
  apply h2
  rw [e,if_pos aa,show((i:Int)-1).toNat=i-1 from by omega,jO (d:=ah.nil) h6]
  unfold Span.norm
  split
  ·rename_i hem
   exfalso
   simp only [Span.empty,Bool.and_eq_true,Bool.not_eq_true',decide_eq_false_iff_not]at hem
   have:=h4.resolve_left aa
   rw [hke]at this
   simp_all
  ·split<;>exact hke
 ·rfl
theorem UY{c:List Int}{k:ah}(hr:ee p c.length=true)(hi:i<c.length)(h:(ar p (i:Int)).has k=true)(h2:¬k=(ar p (i:Int)).lo):
  ee ((p.take i++[k])++p.drop i) ((c.take (i+1)++[v])++c.drop (i+1)).length=true:=by
 obtain⟨hp,hn⟩:=cE hr
 obtain⟨h3,h4⟩:=Lq h h2
 have BU:=zG h
 refine qD (fO.2 fun j hj=> ?_) (by simp;omega)
 have hl:((p.take i++[k])++p.drop i).length=p.length+1:=by simp;omega
 have get:∀q (hq:q<((p.take i++[k])++p.drop i).length),((p.take i++[k])++p.drop i)[q]=if h:q<i then p[q]'aa else if h:q=i then k else p[q-1]'aa:=fun q hq=>by
  by_cases h5:q<i
  ·rw [dif_pos h5,List.getElem_append_left (by simp;omega),List.getElem_append_left (by simp;omega),List.getElem_take]
  ·rw [dif_neg h5]
   by_cases h6:q=i
   ·rw [dif_pos h6,List.getElem_append_left (by simp;omega),List.getElem_append_right (by simp;omega)];simp
   ·rw [dif_neg h6,List.getElem_append_right (by simp;omega),List.getElem_drop]
    congr 1;simp;omega
 rw [get,get]
 have hp':=fO.1 hp
 by_cases a:j+1<i
 ·rw [dif_pos aa,dif_pos a];exact hp' j aa
 ·by_cases b:j+1=i
  ·rw [dif_pos aa,dif_neg aa,dif_pos b]
   have:=h3 ⟨aa,aa⟩
   simpa only [show i-1=j from by omega]using this
  ·by_cases d:j=i
   ·rw [dif_neg aa,dif_pos d,dif_neg aa,dif_neg aa]
    have:=h4 aa
    simpa only [show j+1-1=i from by omega]using this
   ·rw [dif_neg aa,dif_neg d,dif_neg aa,dif_neg aa]
    have:=hp' (j-1) aa
    simpa only [show j-1+1=j+1-1 from by omega]using this
end Go.Fw

namespace Go.Fw
def fE (n:Nd) (i:Nat) (k:ah) (v:Int):Nd×Bool:=
 if n.level=0∨(mf n.ab n.kids i k v).2.length=0 then(Nd.zero,false)
 else({ n with ab:=(mf n.ab n.kids i k v).1,kids:=(mf n.ab n.kids i k v).2 },true)
variable {i:Nat} {v:Int}
theorem mF{n:Nd}{k:ah}(h:n.level=0∨(mf n.ab n.kids i k v).2.length=0):fE n i k v=(Nd.zero,false):=if_pos h
theorem MD{n:Nd}{k:ah}(h1:¬n.level=0)(h2:¬(mf n.ab n.kids i k v).2.length=0):fE n i k v=({ n with ab:=(mf n.ab n.kids i k v).1,kids:=(mf n.ab n.kids i k v).2 },true):=if_neg (by rintro(h|h);exact h1 h;exact h2 h)
variable {p:List ah}
theorem vG{c:List Int}{k:ah}(h:c.length≤i∨(ar p (i:Int)).has k=false∨k=(ar p (i:Int)).lo):(mf p c i k v).2.length=0:=by rw [Cy h];rfl
theorem alp{k:ah}(h:p.length<i):(ar p (i:Int)).has k=false:=by
 cases h2:(ar p (i:Int)).has k
 ·rfl
 ·have:=zG h2;omega
theorem tN{n:Nd}{k:ah}(h1:¬n.level=0)(h2:¬n.kids.length≤i)(h3:(ar n.ab (i:Int)).has k=true)(h4:¬k=(ar n.ab (i:Int)).lo):
  fE n i k v=({ n with ab:=(n.ab.take i++[k])++n.ab.drop i,kids:=(n.kids.take (i+1)++[v])++n.kids.drop (i+1) },true):=by
 have e:=IJ (v:=v) h2 h3 h4
 rw [MD h1 (by rw [e];simp),e]
end Go.Fw

namespace Go.Fw
open Go Go.RowKit
theorem Bc(A B:List ah)(q:ah):aJ (A++B) q=aJ A q+aJ B q:=by
 unfold aJ
 rw [List.filter_append,List.length_append]
theorem Bd(P:List ah)(h:Nat)(q:ah):aJ P q=aJ (P.take h) q+aJ (P.drop h) q:=by
 rw [←Bc,List.take_append_drop]
theorem IK(P:List ah)(i:Nat)(k q:ah):aJ ((P.take i++[k])++P.drop i) q=aJ P q+if q.lt k=true then 0 else 1:=by
 have e:aJ [k] q=if q.lt k=true then 0 else 1:=by
  unfold aJ
  cases h:q.lt k<;>simp [List.filter_cons,h]
 rw [Bc,Bc,e,Bd P i]
 omega
variable {P:List ah} {q:ah}
theorem FH(hr:rising P=true){h:Nat}(hh:h<P.length)(hq:q.lt P[h]=true):aJ (P.take h) q=aJ P q:=by
 have e:aJ (P.drop h) q=0:=by
  unfold aJ
  rw [List.length_eq_zero_iff,List.filter_eq_nil_iff]
  intro x hx
  obtain⟨j,hj,rfl⟩:=List.getElem_of_mem hx
  rw [List.getElem_drop]
  rw [List.length_drop]at hj
  by_cases h0:j=0
  ·subst h0;simp [hq]
  ·simp [ah.lt_trans hq (g0 hr (h+j) h aa aa)]
 rw [Bd P h,e];omega
theorem Cz(hr:rising P=true){h:Nat}(hh:h<P.length)(hq:q.lt P[h]=false):aJ P q=(h+1)+aJ (P.drop (h+1)) q:=by
 have e:aJ (P.take (h+1)) q=h+1:=by
  unfold aJ
  rw [List.filter_eq_self.2]
  ·rw [List.length_take];omega
  ·intro x hx
   obtain⟨j,hj,rfl⟩:=List.getElem_of_mem hx
   rw [List.getElem_take]
   rw [List.length_take]at hj
   cases h2:q.lt P[j]
   ·rfl
   ·exfalso
    by_cases h0:j=h
    ·subst h0;rw [hq]at h2;cases h2
    ·have:=ah.lt_trans h2 (g0 hr h j aa aa);rw [hq]at this;cases this
 rw [Bd P (h+1),e]
variable {K:List Int} {j:Nat}
theorem aaJ{h:Nat}(hj:j<h):(K.take h).getD j 0=K.getD j 0:=by
 rw [List.getD_eq_getElem?_getD,List.getD_eq_getElem?_getD,List.getElem?_take,if_pos hj]
theorem aaK{h:Nat} :(K.drop h).getD j 0=K.getD (h+j) 0:=by
 rw [List.getD_eq_getElem?_getD,List.getD_eq_getElem?_getD,List.getElem?_drop]
variable {l:List Nd} {x:aC}
theorem qZ(h0:0<x.n.level)(h2:ee x.n.ab x.n.kids.length=true)(h:∀j,j<x.n.kids.length→gT l x j=true):(dz l x).isSome=true∧bB l x=iy l x x.n.kids.length:=by
 have e:=UG aa aa h2 h
 unfold bB
 rw [e];exact⟨rfl,rfl⟩
variable {i:Nat}
theorem oI{l':List Nd}{y:aC}(hn:bL l (x.n.kids.getD i 0)=bL l' (y.n.kids.getD j 0))(hl:x.n.level=y.n.level):gT l x i=gT l' y j:=by
 unfold gT;rw [hn,hl]
variable {l l':List Nd} {K A:aC}
theorem aaL(hK:(dz l K).isSome=true)(h0:¬K.n.level=0){h:Nat}(hh:h<K.n.ab.length)
  (ep:A.n.ab=K.n.ab.take h)(ek:A.n.kids=K.n.kids.take (h+1))(el:A.n.level=K.n.level)(hs:∀q,A.s.has q=(K.s.has q&&q.lt K.n.ab[h]))
  (hm:∀s:Span,(∀q,s.has q=true→A.s.has q=true)→cC [aK s A.n.af,aK s A.ms]=cC [aK s K.n.af,aK s K.ms])
  (hf:∀j,j<K.n.kids.length→bL l' (K.n.kids.getD j 0)=bL l (K.n.kids.getD j 0)):
  (dz l' A).isSome=true∧bB l' A=(bB l K).take (h+1):=by
 obtain⟨h1,h2,h3,h4⟩:=cx hK h0
 obtain⟨hr,hc⟩:=cE h3
 have jj:A.n.kids.length=h+1:=by rw [ek,List.length_take];omega
 have hra:rising A.n.ab=true:=by rw [ep];exact BV hr _
 have Ak:A.n.ab.length=h:=by rw [ep,List.length_take];omega
 have hg:∀j,j<h+1→A.n.kids.getD j 0=K.n.kids.getD j 0:=fun j hj=>by rw [ek,aaJ hj]
 obtain⟨g1,g2⟩:=qZ (l:=l') (x:=A) aa (qD hra aa) fun j hj=>by
  rw [oI (l':=l) (y:=K) (j:=j) (by rw [hg j aa,hf j aa]) el]
  exact h4 j aa
 refine⟨g1,?_⟩
 rw [g2,h1,jj]
 unfold iy
 rw [←List.map_take,List.take_range,show min (h+1) K.n.kids.length=h+1 by omega]
 refine List.map_congr_left fun j hj=> ?_
 have hj:=List.mem_range.1 hj
 refine oG (by rw [hg j hj,hf j aa]) (fun q=> ?_) fun s hse=>hm s fun q hq=> ?_
 ·rw [cu,cu,eL hra q aa,eL hr q aa,hs q,ep]
  cases hk:q.lt K.n.ab[h]
  ·have:=Cz hr hh hk
   rw [decide_eq_false (show ¬j=aJ K.n.ab q by omega)];simp
  ·rw [FH hr hh hk];simp
 ·rw [hse,cu,Bool.and_eq_true]at hq
  exact hq.1
theorem UZ(hK:(dz l K).isSome=true)(h0:¬K.n.level=0){h:Nat}(hh:h<K.n.ab.length)
  (ep:A.n.ab=K.n.ab.drop (h+1))(ek:A.n.kids=K.n.kids.drop (h+1))(el:A.n.level=K.n.level)(hs:∀q,A.s.has q=(K.s.has q&& !q.lt K.n.ab[h]))
  (hm:∀s:Span,(∀q,s.has q=true→A.s.has q=true)→cC [aK s A.n.af,aK s A.ms]=cC [aK s K.n.af,aK s K.ms])
  (hf:∀j,j<K.n.kids.length→bL l' (K.n.kids.getD j 0)=bL l (K.n.kids.getD j 0)):
  (dz l' A).isSome=true∧bB l' A=(bB l K).drop (h+1):=by
 obtain⟨h1,h2,h3,h4⟩:=cx hK h0
 obtain⟨hr,hc⟩:=cE h3
 have jj:A.n.kids.length=K.n.kids.length-(h+1):=by rw [ek,List.length_drop]
 have hra:rising A.n.ab=true:=by rw [ep];exact BW hr _
 have Ak:A.n.ab.length=K.n.ab.length-(h+1):=by rw [ep,List.length_drop]
 have hg:∀j,A.n.kids.getD j 0=K.n.kids.getD (h+1+j) 0:=fun j=>by rw [ek,aaK]
 obtain⟨g1,g2⟩:=qZ (l:=l') (x:=A) aa (qD hra aa) fun j hj=>by
  rw [oI (l':=l) (y:=K) (j:=h+1+j) (by rw [hg j,hf _ aa]) el]
  exact h4 _ aa
 refine⟨g1,?_⟩
 rw [g2,h1,jj]
 refine List.ext_getElem (by simp [iy]) fun j hj hj2=> ?_
 have hj:j<K.n.kids.length-(h+1):=by simpa [iy]using hj
 rw [List.getElem_drop]
 simp only [iy,List.getElem_map,List.getElem_range]
 refine oG (by rw [hg j,hf _ aa]) (fun q=> ?_) fun s hse=>hm s fun q hq=> ?_
 ·rw [cu,cu,eL hra q aa,eL hr q aa,hs q,ep]
  cases hk:q.lt K.n.ab[h]
  ·have:=Cz hr hh hk
   rw [this]
   simp
  ·have h5:=FH hr hh hk
   have h6:aJ (K.n.ab.take h) q≤h:=wz _ _ _
   rw [decide_eq_false (show ¬h+1+j=aJ K.n.ab q by omega)];simp
 ·rw [hse,cu,Bool.and_eq_true]at hq
  exact hq.1
theorem ay6{s:Span}(h:s.empty=false):s.has s.lo=true:=by
 have:=Span.empty_eq s
 rw [h]at this
 simpa using this
theorem cD{s:Span} :s.has q=true↔q.lt s.lo=false∧(s.bT=true∨q.lt s.hi=true):=by
 unfold Span.has
 simp
theorem U0{s:Span}(h:s.norm=s)(he:s.empty=false):s.bT=true→s.hi=ah.nil:=fun ho=>by
 unfold Span.norm at h
 rw [if_neg (by simp [he]),if_pos ho]at h
 rw [←h]
variable {a:Span}
theorem aaM{s:Span}{k:ah}(hs:s.norm=s)(ha:a.norm=a)(hk:s.has k=true)(j6:k≠s.lo)(h:∀q,a.has q=(s.has q&&q.lt k)):a=⟨s.lo,k,false⟩∧s.lo.lt k=true:=by
 have h1:=cD.1 hk
 have h2:s.lo.lt k=true:=by
  cases e:s.lo.lt k
  ·exact absurd (ah.gW h1.1 e) j6
  ·rfl
 refine⟨?_,h2⟩
 rw [←ha,←Hn (s:=⟨s.lo,k,false⟩) (by simp [Span.empty,h2]) rfl]
 refine oE fun q=> ?_
 rw [h q,Bool.eq_iff_iff,Bool.and_eq_true,cD,cD]
 refine⟨fun⟨⟨g1,g2⟩,g3⟩=>⟨g1,.inr g3⟩,fun⟨g1,g2⟩=> ?_⟩
 have g2:q.lt k=true:=by rcases g2 with g|g;cases g;exact g
 refine⟨⟨g1,?_⟩,g2⟩
 rcases h1.2 with g|g
 ·exact .inl g
 ·exact .inr (ah.lt_trans g2 g)
theorem FJ{s:Span}{k:ah}(hs:s.norm=s)(ha:a.norm=a)(hk:s.has k=true)(h:∀q,a.has q=(s.has q&& !q.lt k)):a=⟨k,s.hi,s.bT⟩:=by
 have h1:=cD.1 hk
 have he:(⟨k,s.hi,s.bT⟩:Span).empty=false:=by
  cases e:(⟨k,s.hi,s.bT⟩:Span).empty
  ·rfl
  ·have:=dW.1 e k
   have h3:(⟨k,s.hi,s.bT⟩:Span).has k=true:=cD.2 ⟨ah.lt_irrefl k,h1.2⟩
   rw [h3]at this;cases this
 have hse:s.empty=false:=by
  cases e:s.empty
  ·rfl
  ·have:=dW.1 e k;rw [hk]at this;cases this
 have hn:(⟨k,s.hi,s.bT⟩:Span).norm=⟨k,s.hi,s.bT⟩:=by
  unfold Span.norm
  rw [if_neg (by simp [he])]
  split
  ·rename_i ho
   rw [U0 hs hse ho]
  ·rfl
 rw [←ha,←hn]
 refine oE fun q=> ?_
 rw [h q,Bool.eq_iff_iff,Bool.and_eq_true,cD,cD]
 refine⟨fun⟨⟨g1,g2⟩,g3⟩=>⟨by simpa using g3,g2⟩,fun⟨g1,g2⟩=>⟨⟨?_,g2⟩,by simpa using g1⟩⟩
 have g1:q.lt k=false:=g1
 cases e:q.lt s.lo
 ·rfl
 ·have:=ah.lt_of_lt_of_le e h1.1
  rw [g1]at this;cases this
variable {m:aA}
theorem U1(hm:m.R)(h4:¬m.kind=4):m.span.has q=decide (q=m.key):=by
 unfold aA.span
 rw [if_neg h4]
 exact qE (by have:=hm.1.2.1;omega)
theorem xZ{s:Span}(hm:m.R)(h:(m.clip s).2=true)(hq:(m.clip s).1.span.has q=true):m.span.has q=true∧s.has q=true:=by
 by_cases h4:m.kind=4
 ·rw [vD h h4,cu,Bool.and_eq_true]at hq
  exact hq
 ·have e:=(fA h)
  rw [e.2,if_neg h4]at hq
  refine⟨hq,?_⟩
  cases hs:s.has q
  ·exfalso
   have:(m.span.bE s).empty=true:=dW.2 fun p=>by
    rw [cu,U1 hm h4]
    by_cases ep:p=m.key
    ·rw [U1 hm h4,decide_eq_true_eq]at hq
     rw [ep,←hq,hs];simp
    ·simp [ep]
   rw [this]at e
   exact absurd e.1 (by simp)
  ·rfl
theorem ME{s:Span}(h:∀q,a.has q=true→s.has q=true):a.bE s=a.norm:=by
 rw [←fj]
 refine oE fun q=> ?_
 rw [cu]
 cases e:a.has q
 ·rfl
 ·rw [h q e];rfl
theorem MF{s:Span}(h:a.bE s=a.norm)(hq:a.has q=true):s.has q=true:=by
 have h2:=cu a s q
 rw [h,kP,hq]at h2
 simpa using h2.symm
theorem P8{A B K:aC}{k:ah}{h:Nat}(hP:bC K.n.rows)(oJ:∀m∈K.ms,m.R)(ea:A.n.rows=K.n.rows.take h)(eb:B.n.rows=K.n.rows.drop h)
  (ha:∀q,A.s.has q=(K.s.has q&&q.lt k))(hb:∀q,B.s.has q=(K.s.has q&& !q.lt k))(h1:∀i (hi:i<K.n.rows.length),i<h→K.n.rows[i].key.lt k=true)(h2:∀i (hi:i<K.n.rows.length),h≤i→K.n.rows[i].key.lt k=false)
  (ma:aK A.s A.ms=aK A.s K.ms)(mb:aK B.s B.ms=aK B.s K.ms):mc A++mc B=mc K:=by
 have hk:∀m∈K.ms,m.key.b.size<140737488355328:=fun m hm=>by have:=(eR (oJ m hm)).1;omega
 have fa:(A.n.rows.filter fun p=>A.s.has p.key)=K.n.rows.filter fun p=>A.s.has p.key:=by
  conv=>rhs;rw [←List.take_append_drop h K.n.rows]
  rw [List.filter_append,ea,List.filter_eq_nil_iff (l:=K.n.rows.drop h)|>.2 ?_,List.append_nil]
  intro p hp
  obtain⟨i,hi,rfl⟩:=List.getElem_of_mem hp
  rw [List.length_drop]at hi
  rw [List.getElem_drop,ha,h2 _ aa aa];simp
 have fb:(B.n.rows.filter fun p=>B.s.has p.key)=K.n.rows.filter fun p=>B.s.has p.key:=by
  conv=>rhs;rw [←List.take_append_drop h K.n.rows]
  rw [List.filter_append,eb,List.filter_eq_nil_iff (l:=K.n.rows.take h)|>.2 ?_,List.nil_append]
  intro p hp
  obtain⟨i,hi,rfl⟩:=List.getElem_of_mem hp
  rw [List.length_take]at hi
  rw [List.getElem_take,hb,h1 _ aa aa];simp
 have hF:=(hP.fold fun m hm=>eR (oJ m hm)).Pv (l:=cJ K.n.rows K.ms)
 unfold mc
 rw [fa,fb,ma,mb,qX hP.Pv hk,qX hP.Pv hk,qX hP.Pv hk,Lp hF K.s.has k]
 congr 1
 ·exact List.filter_congr fun p _=>ha _
 ·exact List.filter_congr fun p _=>hb _
def mX (m:aA):Bool:=decide (m.kind=4)
def aD (l:List aA):List aA:=if gn mX l= -1 then l else if gn mX l=0 then l.take 1 else l.take (gn mX l).toNat
def nQ (P:List ah) (i:Int) (m:aA):Option aA:=if((aJ P m.key:Nat):Int)=i∧(m.clip (ar P i)).2=true then some (m.clip (ar P i)).1 else none
def av (P:List ah) (l:List aA) (i:Int):List aA:=(aD l).filterMap (nQ P i)
def aA.zero:aA:=⟨0,0,ah.nil,ah.nil,false,ah.nil⟩
def bd (m:aA) (s:Span):aA×Bool:=if s.bT=true then(aA.zero,false)else m.clip ⟨s.hi,ah.nil,true⟩
def gq (P:List ah) (i:Int) (T:List aA) (m:aA):Option aA:=
 if m.aO∈T.map aA.aO then(if m.kind=4∧(bd m (ar P i)).2=true then some (bd m (ar P i)).1 else none)else some m
def bP (P:List ah) (i:Int) (T:List aA) (l:List aA):List aA:=l.filterMap (gq P i T)
theorem CA(P:List ah)(i:Int)(T A B:List aA):bP P i T (A++B)=bP P i T A++bP P i T B:=List.filterMap_append
theorem vH{P:List ah}{i:Int}{T:List aA} :∀ {l:List aA},(∀m∈l,¬m.aO∈T.map aA.aO)→bP P i T l=l
 |[],_=>rfl
 |m::l,h=>by
  have ih:=vH (P:=P) (i:=i) (T:=T) (l:=l) fun x hx=>h x (List.mem_cons_of_mem _ hx)
  unfold bP at ih⊢
  rw [List.filterMap_cons,show gq P i T m=some m from if_neg (h m (by simp)),ih]
theorem MG(P:List ah)(i:Int)(l:List aA):bP P i [] l=l:=vH fun m _ h=>by cases h
variable {t:Span}
theorem ay7{s:Span}(ii:∀k,m.span.has k=true→s.has k=true→t.has k=true):(if(m.clip t).2=true then(m.clip t).1.clip s else(⟨0,0,ah.nil,ah.nil,false,ah.nil⟩,false))=m.clip s:=by
 cases h:(m.clip t).2
 ·rw [if_neg (by simp)]
  have h1:=nh.1 h
  have h2:(m.span.bE s).empty=true:=dW.2 fun k=>by
   have:=dW.1 h1 k
   rw [cu]at this⊢
   cases hm:m.span.has k
   ·rfl
   ·rw [hm,Bool.true_and]at this
    cases hs:s.has k
    ·rfl
    ·rw [ii k hm hs]at this;cases this
  rw [kH h2]
 ·rw [if_pos rfl]
  by_cases k:m.kind=4
  ·have hs:=vD h k
   have k2:(m.clip t).1.kind=4:=by rw [(fA h).2,if_pos k];exact k
   have e:(m.span.bE t).bE s=m.span.bE s:=D7 fun q=>by
    rw [cu]
    cases hm:m.span.has q
    ·simp
    ·cases hs:s.has q
     ·simp
     ·rw [ii q hm hs];simp
   cases he:(m.span.bE s).empty
   ·rw [kI (by rw [hs,e];exact he) k2,kI he k,hs,e,(fA h).2,if_pos k]
   ·rw [kH (by rw [hs,e];exact he),kH he]
  ·rw [(fA h).2,if_neg k]
theorem aaN{s:Span}(h:∀k,m.span.has k=true→s.has k=t.has k):m.clip s=m.clip t:=by
 have e:m.span.bE s=m.span.bE t:=D7 fun k=>by
  cases hm:m.span.has k
  ·rfl
  ·rw [h k hm]
 unfold aA.clip
 rw [e]
theorem FK{s:Span} :∀ {l:List aA},(∀m∈l,∀k,m.span.has k=true→s.has k=false)→aK s l=[]
 |[],_=>rfl
 |m::l,h=>by
  rw [eZ,if_neg,FK fun x hx=>h x (List.mem_cons_of_mem _ hx)]
  rw [nh.2 (dW.2 fun k=>by
   rw [cu]
   cases hm:m.span.has k
   ·rfl
   ·rw [h m (by simp) k hm];rfl)]
  simp
theorem x1(hR:m.R)(h:¬m.kind=4)(k:ah):m.span.has k=decide (k=m.key):=by
 have:m.span=⟨m.key,m.key.next,false⟩:=by unfold aA.span;rw [if_neg h]
 rw [this,qE (by have:=hR.1.2.1;omega)]
theorem x2(hR:m.R)(h:¬m.kind=4)(s:Span):(m.clip s).2=s.has m.key∧((m.clip s).2=true→(m.clip s).1=m):=by
 refine⟨?_,fun h2=>by rw [(fA h2).2,if_neg h]⟩
 cases h2:(m.clip s).2
 ·have:=dW.1 (nh.1 h2) m.key
  rw [cu,x1 hR h,decide_eq_true rfl,Bool.true_and]at this
  exact this.symm
 ·cases h3:s.has m.key
  ·exfalso
   have:(m.clip s).2=false:=nh.2 (dW.2 fun k=>by
    rw [cu,x1 hR h]
    by_cases e:k=m.key
    ·rw [e,h3];simp
    ·simp [e])
   rw [this]at h2;cases h2
  ·rfl
theorem vI{α:Type}(g:α→Bool):∀(F:List α) (n:Nat),∃q,(F.take q).filter g=(F.filter g).take n
 |[],n=>⟨0,by simp⟩
 |a::F,0=>⟨0,by simp⟩
 |a::F,n+1=>by
  cases h:g a
  ·obtain⟨q,hq⟩:=vI g F (n+1)
   exact⟨q+1,by rw [List.take_succ_cons,List.filter_cons_of_neg (by simp [h]),List.filter_cons_of_neg (by simp [h]),hq]⟩
  ·obtain⟨q,hq⟩:=vI g F n
   exact⟨q+1,by rw [List.take_succ_cons,List.filter_cons_of_pos h,List.filter_cons_of_pos h,hq,List.take_succ_cons]⟩
theorem Qa(l:List aA):(∃w R,l=w::R∧w.kind=4∧aD l=[w])∨∃F R,l=F++R∧aD l=F∧∀m∈F,¬m.kind=4:=by
 rcases sg mX l with⟨h,h2⟩|⟨k,hk,h,h2,h3⟩
 ·refine .inr ⟨l,[],by simp,by unfold aD;rw [if_pos h],fun m hm e=> ?_⟩
  have:=h2 m hm
  simp [mX,e]at this
 ·cases k with
  |zero=>
   left
   match l,hk with
   |w::R,_=>exact⟨w,R,rfl,by simpa [mX]using h2,by unfold aD;rw [if_neg (by rw [h];decide),if_pos (by rw [h];rfl)];rfl⟩
  |succ k=>
   right
   refine⟨l.take (k+1),l.drop (k+1),(List.take_append_drop _ _).symm,by unfold aD;rw [if_neg (by rw [h];omega),if_neg (by rw [h];omega),h];rfl,fun m hm e=> ?_⟩
   obtain⟨j,hj,rfl⟩:=List.getElem_of_mem hm
   rw [List.length_take]at hj
   rw [List.getElem_take]at e
   have:=h3 j aa aa
   simp [mX,e]at this
theorem CB{l:List aA}(h:dD l):ng l:=(dD.iff.1 h).2
inductive ni (P:List ah) (i:Nat) (l T:List aA):Prop
 |none (hT:T=[]):ni P i l T
 | ad2 (w:aA) (R:List aA) (hl:l=w::R) (hk:w.kind=4) (hr:aJ P w.key=i) (hc:(w.clip (ar P i)).2=true) (hT:T=[(w.clip (ar P i)).1])
   (hA:bP P i T l=(if(bd w (ar P i)).2=true then [(bd w (ar P i)).1]else [])++R):ni P i l T
 |points (F R:List aA) (hl:l=F++R) (hF:∀m∈F,¬m.kind=4) (hT:T=F.filter fun m=>decide (aJ P m.key=i)) (hA:bP P i T l=(F.filter fun m=> !decide (aJ P m.key=i))++R):ni P i l T
theorem rb{A B:List aA}(h:ng (A++B)):ng A∧ng B∧∀a∈A,∀b∈B,a.aO<b.aO:=List.pairwise_append.1 h
theorem CC:∀ {l:List aA},ng l→∀ {a b:aA},a∈l→b∈l→a.aO=b.aO→a=b
 |[],_,_,_,ha,_,_=>by cases ha
 |x::l,h,a,b,ha,hb,e=>by
  obtain⟨h1,h2⟩:=List.pairwise_cons.1 h
  rcases List.mem_cons.1 ha with ea|ha2
  ·rcases List.mem_cons.1 hb with eb|hb2
   ·rw [ea,eb]
   ·have:=h1 b hb2;rw [ea]at e;omega
  ·rcases List.mem_cons.1 hb with eb|hb2
   ·have:=h1 a ha2;rw [eb]at e;omega
   ·exact CC h2 ha2 hb2 e
theorem Ea{l:List aA}(hP:rising P=true)(hi:i≤P.length)(hm:dD l)(n:Nat):ni P i l ((av P l i).take n):=by
 have hR:=(dD.iff.1 hm).1
 have hs:=CB hm
 rcases Qa l with⟨w,R,rfl,hk,hf⟩|⟨F,R,rfl,hf,hF⟩
 ·by_cases hT:(av P (w::R) i).take n=[]
  ·exact .none hT
  ·have e0:av P (w::R) i=(nQ P i w).toList:=by unfold av;rw [hf];cases h:nQ P i w<;>simp [h]
   have hw:(aJ P w.key=i)∧(w.clip (ar P i)).2=true:=by
    by_cases h:((aJ P w.key:Nat):Int)=i∧(w.clip (ar P i)).2=true
    ·exact⟨aa,h.2⟩
    ·exact absurd (by rw [e0,show nQ P i w=none from if_neg h];simp) hT
   have e1:av P (w::R) i=[(w.clip (ar P i)).1]:=by rw [e0,show nQ P i w=some _ from if_pos ⟨aa,hw.2⟩];rfl
   have e2:(av P (w::R) i).take n=[(w.clip (ar P i)).1]:=by
    rw [e1]at hT⊢
    cases n with
    |zero=>exact absurd rfl hT
    |succ n=>rw [List.take_succ_cons,List.take_nil]
   refine .ad2 w R rfl hk hw.1 hw.2 e2 ?_
   rw [e2]
   have ii:(w.clip (ar P i)).1.aO=w.aO:=eG hw.2
   rw [show w::R=[w]++R from rfl,CA,vH (l:=R) fun m hm h=> ?_]
   ·congr 1
    unfold bP gq
    by_cases h:(bd w (ar P i)).2=true
    ·rw [if_pos h];simp [ii,hk,h]
    ·rw [if_neg h];simp [ii,hk,h]
   ·have:=(List.pairwise_cons.1 hs).1 m hm
    simp [ii]at h
    omega
 ·obtain⟨q,hq⟩:=vI (fun m:aA=>decide (aJ P m.key=i)) F n
  have hRF:∀m∈F,m.R:=fun m h=>hR m (List.mem_append_left _ h)
  have aHW:∀(G:List aA),(∀m∈G,m∈F)→G.filterMap (nQ P i)=G.filter fun m=>decide (aJ P m.key=i):=fun G=>by
   induction G with
   |nil=>intro _;rfl
   |cons m G ih=>
    intro hG
    have IL:=hG m (by simp)
    have hc:=x2 (hRF m IL) (hF m IL) (ar P i)
    rw [eL hP _ hi]at hc
    rw [List.filterMap_cons,ih fun x hx=>hG x (List.mem_cons_of_mem _ hx)]
    by_cases e:aJ P m.key=i
    ·have h2:(m.clip (ar P i)).2=true:=by rw [hc.1,decide_eq_true e.symm]
     rw [show nQ P i m=some m from(if_pos ⟨aa,h2⟩).trans (congrArg some (hc.2 h2)),List.filter_cons_of_pos (by simp [e])]
    ·rw [show nQ P i m=none from if_neg fun h=>e aa,List.filter_cons_of_neg (by simp [e])]
  have hT:(av P (F++R) i).take n=(F.take q).filter fun m=>decide (aJ P m.key=i):=by
   unfold av
   rw [hf,aHW F (fun m h=>h),hq]
  refine .points (F.take q) (F.drop q++R) (by rw [←List.append_assoc,List.take_append_drop]) (fun m hm=>hF m (List.mem_of_mem_take hm)) hT ?_
  rw [hT]
  have hl:F++R=F.take q++(F.drop q++R):=by rw [←List.append_assoc,List.take_append_drop]
  rw [hl]at hs⊢
  obtain⟨s1,s2,s3⟩:=rb hs
  rw [CA,vH (l:=F.drop q++R) fun m hm h=> ?_]
  ·congr 1
   generalize hFq:F.take q=G at*
   have hGF:∀m∈G,¬m.kind=4:=fun m hm=>hF m (by rw [←hFq]at hm;exact List.mem_of_mem_take hm)
   have key:∀(H:List aA),(∀m∈H,m∈G)→bP P i (G.filter fun m=>decide (aJ P m.key=i)) H=H.filter fun m=> !decide (aJ P m.key=i):=fun H=>by
    induction H with
    |nil=>intro _;rfl
    |cons m H ih=>
     intro hH
     have hmG:=hH m (by simp)
     have ih:=ih fun x hx=>hH x (List.mem_cons_of_mem _ hx)
     unfold bP at ih⊢
     rw [List.filterMap_cons,ih]
     by_cases e:aJ P m.key=i
     ·have:m.aO∈(G.filter fun m=>decide (aJ P m.key=i)).map aA.aO:=List.mem_map.2 ⟨m,List.mem_filter.2 ⟨hmG,by simp [e]⟩,rfl⟩
      rw [show gq P i (G.filter fun m=>decide (aJ P m.key=i)) m=none from(if_pos this).trans (if_neg fun h=>hGF m hmG h.1),List.filter_cons_of_neg (by simp [e])]
     ·have:¬m.aO∈(G.filter fun m=>decide (aJ P m.key=i)).map aA.aO:=fun h=>by
       obtain⟨x,hx,hxs⟩:=List.mem_map.1 h
       obtain⟨D6,vB⟩:=List.mem_filter.1 hx
       rw [CC s1 D6 hmG hxs]at vB
       simp [e]at vB
      rw [show gq P i (G.filter fun m=>decide (aJ P m.key=i)) m=some m from if_neg this,List.filter_cons_of_pos (by simp [e])]
   exact key G fun m h=>h
  ·obtain⟨x,hx,hxs⟩:=List.mem_map.1 h
   have:=s3 x (List.mem_filter.1 hx).1 m hm
   omega
section
variable {P:List ah} {i:Nat} {l T:List aA} (hP:rising P=true) (hi:i≤P.length) (hm:dD l) (h:ni P i l T)
include hP hi hm h
theorem ni.MI{s:Span}(hs:∀k,s.has k=true→(ar P i).has k=true)(hS:∀m∈l,∀k,m.span.has k=true→(ar P i).has k=true→s.has k=true):aK s l=T++aK s (bP P i T l):=by
 have hR:=(dD.iff.1 hm).1
 cases h with
 |none hT=>rw [hT,MG];rfl
 |ad2 w R hl hk hr hc hT hA=>
  subst hl
  have e1:w.clip s=w.clip (ar P i):=aaN fun k hk=>by
   cases h1:(ar P i).has k
   ·cases h2:s.has k
    ·rfl
    ·rw [hs k h2]at h1;cases h1
   ·exact hS w (by simp) k hk h1
  have e2:aK s (if(bd w (ar P i)).2=true then [(bd w (ar P i)).1]else [])=[]:=by
   by_cases h2:(bd w (ar P i)).2=true
   ·rw [if_pos h2]
    unfold bd at h2⊢
    by_cases ho:(ar P i).bT=true
    ·rw [if_pos ho]at h2;cases h2
    ·rw [if_neg ho]at h2⊢
     refine FK fun m hm k j6=> ?_
     rw [List.mem_singleton]at hm
     subst hm
     rw [vD h2 hk,cu,Bool.and_eq_true]at j6
     cases h3:s.has k
     ·rfl
     ·have a1:=(cD.1 (hs k h3)).2
      have a2:=(cD.1 j6.2).1
      rcases a1 with a1|a1
      ·exact absurd a1 ho
      ·rw [show(⟨(ar P i).hi,ah.nil,true⟩:Span).lo=(ar P i).hi from rfl,a1]at a2;cases a2
   ·rw [if_neg h2];rfl
  rw [hA,ff,e2,eZ,e1,if_pos hc,hT];rfl
 |points F R hl hF hT hA=>
  subst hl
  have hRF:∀m∈F,m.R:=fun m h=>hR m (List.mem_append_left _ h)
  have key:∀(G:List aA),(∀m∈G,m∈F)→aK s G=G.filter (fun m=>decide (aJ P m.key=i))∧aK s (G.filter fun m=> !decide (aJ P m.key=i))=[]:=fun G=>by
   induction G with
   |nil=>intro _;exact⟨rfl,rfl⟩
   |cons m G ih=>
    intro hG
    have IL:=hG m (by simp)
    obtain⟨i1,i2⟩:=ih fun x hx=>hG x (List.mem_cons_of_mem _ hx)
    have hc:=x2 (hRF m IL) (hF m IL) s
    have hk:m.span.has m.key=true:=by rw [x1 (hRF m IL) (hF m IL)];simp
    have hrg:=eL hP m.key hi
    by_cases e:aJ P m.key=i
    ·have h1:s.has m.key=true:=hS m (List.mem_append_left _ IL) m.key hk (by rw [hrg,decide_eq_true e.symm])
     rw [h1]at hc
     refine⟨?_,by rw [List.filter_cons_of_neg (by simp [e])];exact i2⟩
     rw [eZ,if_pos hc.1,hc.2 hc.1,i1,List.filter_cons_of_pos (by simp [e])]
    ·have h1:s.has m.key=false:=by
      cases h1:s.has m.key
      ·rfl
      ·have:=hs _ h1;rw [hrg,decide_eq_true_eq]at this;exact absurd this.symm e
     rw [h1]at hc
     refine⟨?_,?_⟩
     ·rw [eZ,if_neg (by simp [hc.1]),i1,List.filter_cons_of_neg (by simp [e])]
     ·rw [List.filter_cons_of_pos (by simp [e]),eZ,if_neg (by simp [hc.1]),i2]
  obtain⟨k1,k2⟩:=key F fun m h=>h
  rw [hA,ff,ff,k1,k2,hT];rfl
theorem ni.aaO{t:Span}(ht:∀k,t.has k=true→(ar P i).has k=false):aK t (bP P i T l)=aK t l:=by
 have hR:=(dD.iff.1 hm).1
 cases h with
 |none hT=>rw [hT,MG]
 |ad2 w R hl hk hr hc hT hA=>
  subst hl
  rw [hA,ff,eZ]
  have hwk:(ar P i).has w.key=true:=by rw [eL hP _ hi,decide_eq_true hr.symm]
  have gx:∀k,w.span.has k=true→k.lt (ar P i).lo=false:=fun k h1=>by
   have rL:w.span=⟨w.key,w.hi,w.bT⟩:=by unfold aA.span;rw [if_pos hk]
   rw [rL]at h1
   have a1:=(cD.1 h1).1
   have a2:=(cD.1 hwk).1
   exact ah.le_trans a2 a1
  have e2:aK t (if(bd w (ar P i)).2=true then [(bd w (ar P i)).1]else [])=if(w.clip t).2=true then [(w.clip t).1]else []:=by
   unfold bd
   by_cases ho:(ar P i).bT=true
   ·rw [if_pos ho,if_neg (by simp),if_neg]
    ·rfl
    ·rw [nh.2 (dW.2 fun k=>by
      rw [cu]
      cases h1:w.span.has k
      ·rfl
      ·cases h2:t.has k
       ·rfl
       ·have:=ht k h2
        rw [cD.2 ⟨gx k h1,.inl ho⟩]at this;cases this)]
     simp
   ·rw [if_neg ho]
    have e:=ay7 (m:=w) (s:=t) (t:=⟨(ar P i).hi,ah.nil,true⟩) fun k h1 h2=>by
     refine cD.2 ⟨?_,.inl rfl⟩
     show k.lt (ar P i).hi=false
     cases h3:k.lt (ar P i).hi
     ·rfl
     ·have:=ht k h2
      rw [cD.2 ⟨gx k h1,.inr h3⟩]at this;cases this
    cases h2:(w.clip ⟨(ar P i).hi,ah.nil,true⟩).2
    ·rw [h2,if_neg (by simp)]at e
     rw [←e,if_neg (by simp),if_neg (by simp)];rfl
    ·rw [h2,if_pos rfl]at e
     rw [if_pos rfl,eZ,e];rfl
  rw [e2]
  by_cases h2:(w.clip t).2=true
  ·rw [if_pos h2,if_pos h2];rfl
  ·rw [if_neg h2,if_neg h2];rfl
 |points F R hl hF hT hA=>
  subst hl
  have hRF:∀m∈F,m.R:=fun m h=>hR m (List.mem_append_left _ h)
  rw [hA,ff,ff]
  congr 1
  have key:∀(G:List aA),(∀m∈G,m∈F)→aK t (G.filter fun m=> !decide (aJ P m.key=i))=aK t G:=fun G=>by
   induction G with
   |nil=>intro _;rfl
   |cons m G ih=>
    intro hG
    have IL:=hG m (by simp)
    have ih:=ih fun x hx=>hG x (List.mem_cons_of_mem _ hx)
    have hc:=x2 (hRF m IL) (hF m IL) t
    by_cases e:aJ P m.key=i
    ·have h1:t.has m.key=false:=by
      cases h1:t.has m.key
      ·rfl
      ·have:=ht _ h1;rw [eL hP _ hi,decide_eq_false_iff_not]at this;exact absurd e.symm this
     rw [h1]at hc
     rw [List.filter_cons_of_neg (by simp [e]),ih,eZ,if_neg (by simp [hc.1])]
    ·rw [List.filter_cons_of_pos (by simp [e]),eZ,eZ,ih]
  exact key F fun m h=>h
end
variable {c:aQ} {l:List Nd} {ss:List aC}
def Wst (l:List aA):Prop:=l.Pairwise fun a b=>a.aO≤b.aO
def ptS (k:ah):Span:=⟨k,k.next,false⟩
structure Gp (l:List Nd) (ss:List aC) (k:ah) (x:aC) (W:List aA):Prop where
 mem:x∈ss
 has:x.s.has k=true
 wst:Wst W
 eq:aK (ptS k) W=aK (ptS k) x.ms
 fit:∀m∈W,m.R
 len:W.length≤1024*((bG l 0).n.level-x.n.level).toNat
theorem ag4{most:Int}(h:vA c l most=true):(l.length:Int)≤most:=by
 unfold vA at h
 rw [Bool.and_eq_true,decide_eq_true_eq]at h
 exact h.1.2.2.1.1
section
variable {α:Type} {E:Env} {f:Fr} {G:GH} {M Mk Ms Mr:MH} {ops rest:List Oper} {q:Bool} {K:Kt} {d:Nat} {ty:TypeId} {pos:String} {aft:Array Edge} {t et:TypeId} {x y kk:Operand} {b:Nat} {k:Int} {m:List (Int×α)} {V:Ay α}
end
def iO (bud:Int) (ms:List aA) (m:aA):Bool:=decide (m.size≤bud-bI ms)&&(ms.getLast?.all fun x=>decide (x.aO<m.aO))
def jH (bud:Int):List aA→List aA→Nat
 |_,[]=>0
 |ms,m::l=>if iO bud ms m=true then jH bud (ms++[m]) l+1 else 0
def aF (leaf bud:Int) (k:Nd) (l:List aA):Nd×Nat:=
 if k.level=0 then({ k with rows:=(dG leaf k.rows l).1 },(dG leaf k.rows l).2)else({ k with af:=k.af++l.take (jH bud k.af l) },jH bud k.af l)
def fk (p k:Nd) (i:Int):Prop:=1≤p.level∧k.level=p.level-1∧0≤i∧i<(p.kids.length:Int)
instance (p k : Nd) (i : Int) : Decidable (fk p k i) := by unfold fk; infer_instance
noncomputable def bW (leaf bud:Int) (p k:Nd) (i:Int):Nat:=if fk p k i then(aF leaf bud k (av p.ab p.af i)).2 else 0
noncomputable def bj (leaf bud:Int) (p k:Nd) (i:Int):Nd×Nd×Nat:=
 if bW leaf bud p k i=0 then(p,k,0)
 else({ p with af:=bP p.ab i ((av p.ab p.af i).take (bW leaf bud p k i)) p.af },
  { (aF leaf bud k (av p.ab p.af i)).1 with seen:=(((av p.ab p.af i).take (bW leaf bud p k i)).getLast?.getD aA.zero).aO },bW leaf bud p k i)
theorem U2(bud:Int):∀(l ms:List aA),jH bud ms l≤l.length
 |[],_=>Nat.le_refl _
 |m::l,ms=>by
  unfold jH
  split
  ·have:=U2 bud l (ms++[m]);simp;omega
  ·omega
theorem Eb(leaf bud:Int)(k:Nd)(l:List aA):(aF leaf bud k l).2≤l.length:=by
 unfold aF
 split
 ·exact zD _ _ _
 ·exact U2 _ _ _
theorem vJ(A B:List aA):bI (A++B)=bI A+bI B:=by simp [bI]
theorem IM(bud:Int):∀(l ms:List aA),bI ms≤bud→bI (ms++l.take (jH bud ms l))≤bud
 |[],ms,h=>by simpa using h
 |m::l,ms,h=>by
  unfold jH
  split
  ·rename_i hr
   have Qb:m.size≤bud-bI ms:=by unfold iO at hr;rw [Bool.and_eq_true,decide_eq_true_eq]at hr;exact hr.1
   have:=IM bud l (ms++[m]) (by rw [vJ];show _+(m.size+0)≤_;omega)
   rw [List.append_assoc]at this
   exact this
  ·simpa using h
def Nd.Ec (n:Nd):Span:=if n.cW=true then Span.all else Span.norm ⟨ah.nil,n.high,false⟩
theorem aaP(n:Nd)(k:ah):n.Ec.has k=n.has k:=by
 unfold Nd.Ec Nd.has
 cases n.cW
 ·rw [if_neg (by simp),kP]
  unfold Span.has
  simp [ah.nil_le]
 ·rw [if_pos rfl,Ix];rfl
def iT (p:Nd) (i:Int):Span:=p.Ec.bE (ar p.ab i)
def MJ (c:aQ) (p k:Nd) (i:Int):Prop:=(p.R c.bu c.leaf c.bud∧k.R c.bu c.leaf c.bud∧fk p k i)∧(k.cW=(iT p i).bT∧k.high=(iT p i).hi)∧∀j (h:j<p.af.length),(p.af[j].span.bE (iT p i)).empty=false→k.seen<p.af[j].aO
instance (c : aQ) (p k : Nd) (i : Int) : Decidable (MJ c p k i) := by unfold MJ; infer_instance
variable {m:aA}
theorem zH{n:Nd}(hm:m.R):(n.cW=true∨(m.span.bT=false∧n.high.lt m.span.hi=false))↔∀k,m.span.has k=true→n.has k=true:=by
 have lR:m.span.empty=false:=by
  cases h:m.span.empty
  ·rfl
  ·have:=dW.1 h m.key;rw [aA.Cv hm]at this;cases this
 have gx:m.span.bT=true∨m.span.lo.lt m.span.hi=true:=by
  have:=lR;unfold Span.empty at this
  cases h:m.span.bT
  ·right;simpa [h]using this
  ·exact .inl rfl
 constructor
 ·rintro(h|⟨h1,h2⟩) k hk
  ·unfold Nd.has;rw [h];rfl
  ·have:=(cD.1 hk).2
   rcases this with h3|h3
   ·rw [h1]at h3;cases h3
   ·unfold Nd.has;rw [ah.lt_of_lt_of_le h3 h2];simp
 ·intro h
  cases ht:n.cW
  ·right
   have key:∀q,m.span.has q=true→q.lt n.high=true:=fun q hq=>by
    have:=h q hq;unfold Nd.has at this;rw [ht]at this;simpa using this
   -- the aHX one of two texts
   have mx:m.span.has (if m.span.lo.lt n.high=true then n.high else m.span.lo)=true→False:=fun hq=>by
    have:=key _ hq
    split at this
    ·rw [ah.lt_irrefl]at this;cases this
    ·rename_i h1;exact h1 this
   have hmx:(if m.span.lo.lt n.high=true then n.high else m.span.lo).lt m.span.lo=false:=by
    split
    ·rename_i h1;exact ah.lt_asymm h1
    ·exact ah.lt_irrefl _
   cases ho:m.span.bT
   ·refine⟨rfl,?_⟩
    cases h2:n.high.lt m.span.hi
    ·rfl
    ·exfalso
     refine mx (cD.2 ⟨hmx,.inr ?_⟩)
     split
     ·exact h2
     ·rcases gx with h3|h3
      ·rw [ho]at h3;cases h3
      ·exact h3
   ·exact absurd (cD.2 ⟨hmx,.inl ho⟩) (fun hq=>mx hq)
  ·exact .inl rfl
variable {P:List ah} {T:List aA} {i:Int} {m':aA}
theorem MK(h:gq P i T m=some m'):m'=m∨((ar P i).bT=false∧(m.clip ⟨(ar P i).hi,ah.nil,true⟩).2=true∧m'=(m.clip ⟨(ar P i).hi,ah.nil,true⟩).1):=by
 unfold gq at h
 split at h
 ·split at h
  ·rename_i h2
   cases h
   right
   have h3:=h2.2
   unfold bd at h3⊢
   split at h3
   ·cases h3
   ·rename_i h4
    rw [if_neg h4]
    exact⟨by simpa using h4,h3,rfl⟩
  ·cases h
 ·cases h;exact .inl rfl
theorem vK(h:gq P i T m=some m'):m'.aO=m.aO∧m'.size=m.size:=by
 rcases MK h with rfl|⟨_,h2,rfl⟩
 ·exact⟨rfl,rfl⟩
 ·exact⟨eG h2,Hm h2⟩
theorem ag5{l:List aA}(h:m'∈bP P i T l):∃m∈l,gq P i T m=some m':=List.mem_filterMap.1 h
theorem ag6{l:List aA}(h:ng l):ng (bP P i T l):=by
 unfold ng bP
 rw [List.pairwise_filterMap]
 refine List.Pairwise.imp (fun {a b} mZ x hx y hy=> ?_) h
 have:=(vK hx).1
 have:=(vK hy).1
 omega
theorem size_pos(m:aA):0≤m.size:=by unfold aA.size;split<;>omega
theorem IN(P:List ah)(i:Int)(T:List aA):∀(l:List aA),bI (bP P i T l)≤bI l
 |[]=>Int.le_refl _
 |m::l=>by
  have ih:=IN P i T l
  have hp:=size_pos m
  unfold bP at ih⊢
  rw [List.filterMap_cons]
  have e:bI (m::l)=m.size+bI l:=by simp [bI]
  split
  ·omega
  ·rename_i m' h
   have:=(vK h).2
   have e2:∀L,bI (m'::L)=m'.size+bI L:=fun L=>by simp [bI]
   rw [e2];omega
theorem Qc{l:List aA}(hP:∀k∈P,k.b.size≤16)(hl:∀m∈l,m.R)(h:m'∈bP P i T l):m'.R∧∃m∈l,m'.aO=m.aO∧∀q,m'.span.has q=true→m.span.has q=true:=by
 obtain⟨m,hm,h2⟩:=ag5 h
 rcases MK h2 with rfl|⟨_,h3,rfl⟩
 ·exact⟨hl _ hm,m',hm,rfl,fun q hq=>hq⟩
 ·have hr:=kO (p:=P) (i:=i) (n:=16) hP
  exact⟨uX (hl m hm) hr.2 (by show ah.nil.b.size≤16;decide) h3,m,hm,eG h3,fun q hq=>(xZ (hl m hm) h3 hq).1⟩
theorem aaQ{l:List aA}{n:Nat}(h:0<n)(hl:n≤l.length):∃x∈l.take n,(l.take n).getLast?.getD aA.zero=x∧∀y∈l.take n,ng l→y.aO≤x.aO:=by
 obtain⟨j,rfl⟩:∃j,n=j+1:=⟨n-1,aa⟩
 have e:l.take (j+1)=l.take j++[l[j]]:=List.take_succ_eq_append_getElem aa
 refine⟨l[j],by rw [e];exact List.mem_append_right _ (List.mem_singleton.2 rfl),by rw [e,List.getLast?_concat];rfl,fun y hy hr=> ?_⟩
 rw [e,List.mem_append,List.mem_singleton]at hy
 rcases hy with hy|rfl
 ·obtain⟨q,hq,rfl⟩:=List.getElem_of_mem hy
  rw [List.length_take]at hq
  rw [List.getElem_take]
  have:=List.pairwise_iff_getElem.1 hr q j aa aa aa
  omega
 ·omega
structure oZ (c:aQ) (p k:Nd) (i:Int) (a b:Nd) (T:List aA):Prop where
 ne:0<T.length
 ea:a={ p with af:=bP p.ab i T p.af }
 eb:b={ k with rows:=b.rows,af:=b.af,seen:=b.seen }
 leaf:k.level=0→b.af=k.af∧b.rows=cJ k.rows T∧(bC k.rows→(∀m∈av p.ab p.af i,m.R)→(k.rows.length:Int)≤c.leaf→(b.rows.length:Int)≤c.leaf)
 inner:¬k.level=0→b.rows=k.rows∧b.af=k.af++T∧(bI k.af≤c.bud→bI b.af≤c.bud)
 seen:b.seen=(T.getLast?.getD aA.zero).aO
 take:∃n,0<n∧n≤(av p.ab p.af i).length∧T=(av p.ab p.af i).take n
theorem U3(c:aQ)(p k:Nd)(i:Int):(bj c.leaf c.bud p k i=(p,k,0))∨(fk p k i∧∃T,oZ c p k i (bj c.leaf c.bud p k i).1 (bj c.leaf c.bud p k i).2.1 T∧(bj c.leaf c.bud p k i).2.2=T.length):=by
 by_cases h:bW c.leaf c.bud p k i=0
 ·left;unfold bj;rw [if_pos h]
 ·right
  have hk:fk p k i:=by
   unfold bW at h
   by_cases hk:fk p k i
   ·exact hk
   ·rw [if_neg hk]at h;exact absurd rfl h
  have hc:bW c.leaf c.bud p k i=(aF c.leaf c.bud k (av p.ab p.af i)).2:=if_pos hk
  have hle:=Eb c.leaf c.bud k (av p.ab p.af i)
  rw [←hc]at hle
  refine⟨hk,(av p.ab p.af i).take (bW c.leaf c.bud p k i),?_,by unfold bj;rw [if_neg h,List.length_take];show bW c.leaf c.bud p k i=_;omega⟩
  unfold bj
  rw [if_neg h]
  refine⟨by rw [List.length_take];omega,rfl,?_,fun h0=> ?_,fun h0=> ?_,rfl,_,aa,hle,rfl⟩
  ·dsimp only
   unfold aF
   split<;>rfl
  ·have hm:aF c.leaf c.bud k (av p.ab p.af i)=({ k with rows:=(dG c.leaf k.rows (av p.ab p.af i)).1 },(dG c.leaf k.rows (av p.ab p.af i)).2):=if_pos h0
   rw [hc,hm]
   dsimp only
   refine⟨rfl,xS _ _ _,fun h1 h2 hl=> ?_⟩
   have:=Io c.leaf (av p.ab p.af i) k.rows h1 h2
   omega
  ·have hm:aF c.leaf c.bud k (av p.ab p.af i)=({ k with af:=k.af++(av p.ab p.af i).take (jH c.bud k.af (av p.ab p.af i)) },jH c.bud k.af (av p.ab p.af i)):=if_neg h0
   rw [hc,hm]
   exact⟨rfl,rfl,IM _ _ _⟩
theorem U4{l:List aA}(h:m∈av P l i):∃a∈l,(a.clip (ar P i)).2=true∧(a.clip (ar P i)).1=m:=by
 obtain⟨a,ha,h2⟩:=List.mem_filterMap.1 h
 unfold nQ at h2
 split at h2
 ·rename_i h3
  cases h2
  refine⟨a,?_,h3.2,rfl⟩
  unfold aD at ha
  split at ha
  ·exact ha
  ·split at ha
   ·exact List.mem_of_mem_take ha
   ·exact List.mem_of_mem_take ha
 ·cases h2
theorem oK{c:aQ}{n:Nd}(h:n.R c.bu c.leaf c.bud):∀k∈n.ab,k.b.size≤16:=fun k hk=>by
 have h4:=h.2.2.2
 by_cases h0:n.level=0
 ·rw [if_pos h0]at h4
  have:=h4.1
  have e:n.ab=[]:=List.eq_nil_of_length_eq_zero aa
  rw [e]at hk;cases hk
 ·rw [if_neg h0]at h4
  obtain⟨j,hj,rfl⟩:=List.getElem_of_mem hk
  exact(h4.2.2.2.2.2.1 j hj).2.1
theorem alq{c:aQ}{n:Nd}(h:n.R c.bu c.leaf c.bud):n.high.b.size≤16:=by
 cases ht:n.cW
 ·exact(h.2.2.1 ht).2.1
 ·rw [(h.2.1 ht).1];decide
theorem U5{c:aQ}{n:Nd}(h:n.R c.bu c.leaf c.bud):n.Ec.lo.b.size≤16∧n.Ec.hi.b.size≤16:=by
 have h1:=alq h
 unfold Nd.Ec
 split
 ·exact⟨by decide,by decide⟩
 ·unfold Span.norm
  split
  ·exact⟨by decide,by decide⟩
  ·split
   ·exact⟨by show ah.nil.b.size≤16;decide,by show ah.nil.b.size≤16;decide⟩
   ·exact⟨by show ah.nil.b.size≤16;decide,h1⟩
theorem zI(p:Nd)(i:Int)(k:ah):(iT p i).has k=(p.has k&&(ar p.ab i).has k):=by unfold iT;rw [cu,aaP]
structure ay8 (c:aQ) (p k:Nd) (i:Int) (T:List aA):Prop where
 R:∀m∈T,m.R
 up:∀m∈T,k.seen<m.aO
 sp:∀m∈T,∀q,m.span.has q=true→(iT p i).has q=true
 vF:ng T
 late:∀m∈bP p.ab i T p.af,(m.span.bE (iT p i)).empty=false→∀x∈T,x.aO<m.aO
 clip:aK (iT p i) p.af=T++aK (iT p i) (bP p.ab i T p.af)
variable {a:Nd} {b:Nd} {p:Nd}
theorem zJ{c:aQ}{k:Nd}(h:MJ c p k i)(hp:oZ c p k i a b T):ay8 c p k i T:=by
 obtain⟨⟨Ed,hkR,hk⟩,rL,ii⟩:=h
 obtain⟨k1,k2,k3,k4⟩:=hk
 have nO:p.kK c.bu c.bud:=by have:=Ed.2.2.2;rwa [if_neg aa]at this
 obtain⟨j,rfl⟩:∃j:Nat,i=j:=⟨i.toNat,aa⟩
 obtain⟨hr1,Qb⟩:=cE nO.2.1
 have hj:j≤p.ab.length:=aa
 have hm:=nO.2.2.1
 have Lr:=(dD.iff.1 hm).1
 obtain⟨n,n1,n2,rfl⟩:=hp.take
 have mv:=Ea (P:=p.ab) hr1 hj hm n
 have hs:∀q,(iT p j).has q=true→(ar p.ab j).has q=true:=fun q hq=>by rw [zI,Bool.and_eq_true]at hq;exact hq.2
 have U6:∀m∈p.af,∀q,m.span.has q=true→p.has q=true:=fun m Lt=>by
  obtain⟨x,hx,rfl⟩:=List.getElem_of_mem Lt
  exact(zH (Lr _ Lt)).1 (nO.2.2.2.2.2.2 x hx).2
 have lZ:=mv.MI hr1 hj hm hs fun m Lt q h1 h2=>by rw [zI,U6 m Lt q h1,h2];rfl
 have xu:∀m∈(av p.ab p.af (j:Int)).take n,∃a∈p.af,(a.clip (iT p j)).2=true∧(a.clip (iT p j)).1=m:=fun m Lt=>iI (by rw [lZ];exact List.mem_append_left _ Lt)
 have gY:=sf (U5 Ed) (kO (p:=p.ab) (i:=(j:Int)) (oK Ed))
 have alr:=ia (s:=iT p j) (CB hm)
 rw [lZ]at alr
 refine⟨fun m h=> ?_,fun m h=> ?_,fun m h q hq=> ?_,(rb alr).1,fun m h he x hx=> ?_,lZ⟩
 ·obtain⟨a,ha,h1,rfl⟩:=xu m h
  exact uX (Lr a ha) gY.1 gY.2 h1
 ·obtain⟨a,ha,h1,rfl⟩:=xu m h
  rw [eG h1]
  obtain⟨x,hx,rfl⟩:=List.getElem_of_mem ha
  exact ii x hx (fA h1).1
 ·obtain⟨a,ha,h1,rfl⟩:=xu m h
  exact(xZ (Lr a ha) h1 hq).2
 ·have h1:(m.clip (iT p j)).2=true:=by
   cases h2:(m.clip (iT p j)).2
   ·rw [nh.1 h2]at he;cases he
   ·rfl
  have:=(rb alr).2.2 x hx (m.clip (iT p j)).1 (List.mem_filterMap.2 ⟨m,h,if_pos h1⟩)
  rwa [eG h1]at this
theorem IP(hr:ng T)(hn:0<T.length):(∃x∈T,T.getLast?.getD aA.zero=x)∧∀y∈T,y.aO≤(T.getLast?.getD aA.zero).aO:=by
 obtain⟨x,h1,h2,h3⟩:=aaQ (l:=T) hn (Nat.le_refl _)
 rw [List.take_length]at h1 h2 h3
 rw [h2]
 exact⟨⟨x,h1,rfl⟩,fun y hy=>h3 y hy hr⟩
theorem U7{X:Span}{l:List bp}(hl:bC l)(hT:∀m∈T,m.R)(h1:∀p∈l,X.has p.key=true)(h2:∀m∈T,∀q,m.span.has q=true→X.has q=true):∀p∈cJ l T,X.has p.key=true:=by
 induction T generalizing l with
 |nil=>exact h1
 |cons m T ih=>
  have hR:=hT m (by simp)
  have UM:=hR
  unfold aA.R at UM
  refine ih (l:=takeN l m) (hl.Z1 UM.1.2.1 UM.1.2.2.1) (fun x hx=>hT x (List.mem_cons_of_mem _ hx)) (fun p hp=> ?_) fun x hx=>h2 x (List.mem_cons_of_mem _ hx)
  unfold takeN at hp
  split at hp
  ·exact h1 p ((List.mem_filter.1 hp).1)
  ·rw [lS,List.mem_append,List.mem_append]at hp
   rcases hp with(hp|hp)|hp
   ·exact h1 p ((List.mem_filter.1 hp).1)
   ·unfold qF at hp
    split at hp
    ·rw [List.mem_singleton]at hp
     subst hp
     exact h2 m (by simp) _ (aA.Cv hR)
    ·cases hp
   ·exact h1 p ((List.mem_filter.1 hp).1)
theorem ML{c:aQ}{k:Nd}(h:MJ c p k i)(hp:oZ c p k i a b T):MJ c a b i∧k.seen<b.seen:=by
 have tk:=zJ h hp
 obtain⟨⟨Ed,hkR,hk⟩,rL,ii⟩:=h
 obtain⟨⟨xl,CD,exl⟩,DM⟩:=IP tk.vF hp.ne
 have pY:k.seen<b.seen:=by rw [hp.seen,exl];exact tk.up xl CD
 have nO:p.kK c.bu c.bud:=by have h9:=hk.1;have:=Ed.2.2.2;rwa [if_neg aa]at this
 have Lr:=(dD.iff.1 nO.2.2.1).1
 have aR:a.R c.bu c.leaf c.bud:=by
  rw [hp.ea]
  refine⟨Ed.1,Ed.2.1,Ed.2.2.1,?_⟩
  rw [if_neg (show ¬p.level=0 by have:=hk.1;omega)]
  obtain⟨h1,h2,h3,h4,h5,h6,h7⟩:=nO
  refine⟨h1,h2,dD.iff.2 ⟨fun m hm=>(Qc (oK Ed) Lr hm).1,ag6 (CB h3)⟩,Int.le_trans (IN _ _ _ _) h4,h5,h6,fun j hj=> ?_⟩
  have hm:=List.getElem_mem hj
  obtain⟨r1,m,Gk,r2,r3⟩:=Qc (oK Ed) Lr hm
  obtain⟨x,hx,rfl⟩:=List.getElem_of_mem Gk
  have f:=h7 x hx
  exact⟨by show _≤p.seen;rw [r2];exact f.1,(zH (n:={ p with af:=bP p.ab i T p.af }) r1).2 fun q hq=>(zH (Lr _ Gk)).1 f.2 q (r3 q hq)⟩
 have Ee:iT a i=iT p i:=by rw [hp.ea];rfl
 have hb:b.cW=k.cW∧b.high=k.high∧b.level=k.level∧b.slot=k.slot∧b.right=k.right∧b.kids=k.kids∧b.ab=k.ab:=by rw [hp.eb];exact⟨rfl,rfl,rfl,rfl,rfl,rfl,rfl⟩
 obtain⟨b1,b2,b3,b4,b5,b6,b7⟩:=hb
 have x3:∀q,(iT p i).has q=true→k.has q=true:=fun q hq=>by
  have:=(cD.1 hq).2
  unfold Nd.has
  rw [rL.1,rL.2]
  rcases this with h|h<;>simp [h]
 have bR:b.R c.bu c.leaf c.bud:=by
  refine⟨by rw [b3,b4];have:=hkR.1;omega,by rw [b1,b2,b5];exact hkR.2.1,by rw [b1,b2,b5];exact hkR.2.2.1,?_⟩
  have h4:=hkR.2.2.2
  rw [b3]
  by_cases h0:k.level=0
  ·rw [if_pos h0]at h4⊢
   obtain⟨e1,e2,e3⟩:=hp.leaf h0
   obtain⟨l1,l2,l3,l4⟩:=h4
   have ay9:∀p∈b.rows,(Span.mk ah.nil k.high k.cW).has p.key=true:=by
    rw [e2]
    refine U7 l3 tk.R (fun x hx=> ?_) fun m hm q hq=> ?_
    ·obtain⟨j,hj,rfl⟩:=List.getElem_of_mem hx
     have:=l4 j hj
     unfold Nd.has at this
     unfold Span.has
     simp [ah.nil_le]at this⊢
     exact this
    ·have:=x3 q (tk.sp m hm q hq)
     unfold Nd.has at this
     unfold Span.has
     simp [ah.nil_le]at this⊢
     exact this
   refine⟨by rw [b7,b6,e1];exact l1,e3 l3 (fun m hm=> ?_) l2,by rw [e2];exact bC.fold l3 fun m hm=>xT (tk.R m hm),fun j hj=> ?_⟩
   ·obtain⟨x,hx,h2,rfl⟩:=U4 hm
    have hr:=kO (p:=p.ab) (i:=i) (oK Ed)
    exact uX (Lr x hx) hr.1 hr.2 h2
   ·have:=ay9 _ (List.getElem_mem hj)
    unfold Span.has at this
    unfold Nd.has
    rw [b1,b2]
    simp [ah.nil_le]at this⊢
    exact this
  ·rw [if_neg h0]at h4⊢
   obtain⟨e1,e2,e3⟩:=hp.inner h0
   obtain⟨l1,l2,l3,l4,l5,l6,l7⟩:=h4
   have iP:=(dD.iff.1 l3).1
   have hold:∀m∈k.af,m.aO≤k.seen:=fun m hm=>by
    obtain⟨x,hx,rfl⟩:=List.getElem_of_mem hm
    exact(l7 x hx).1
   refine⟨by rw [e1,b6];exact l1,by rw [b6,b7];exact l2,?_,e3 l4,by rw [b6];exact l5,fun j hj=> ?_,fun j hj=> ?_⟩
   ·rw [e2]
    refine dD.iff.2 ⟨fun m hm=> ?_,List.pairwise_append.2 ⟨CB l3,tk.vF,fun x hx y hy=> ?_⟩⟩
    ·rcases List.mem_append.1 hm with hm|hm
     ·exact iP m hm
     ·exact tk.R m hm
    ·have:=hold x hx
     have:=tk.up y hy
     omega
   ·have hh:b.has b.ab[j]=k.has b.ab[j]:=by unfold Nd.has;rw [b1,b2]
    obtain⟨q1,q2,q3⟩:=l6 j (by rw [←b7];exact hj)
    have eb:b.ab[j]=k.ab[j]'(by rw [←b7];exact hj):=by simp only [b7]
    exact⟨by rw [eb];exact q1,by rw [eb];exact q2,by rw [hh,eb];exact q3⟩
   ·have hm:=List.getElem_mem hj
    have hbm:∀m∈b.af,b.fits m:=fun m hm=>by
     rw [e2]at hm
     rcases List.mem_append.1 hm with hm|hm
     ·obtain⟨x,hx,rfl⟩:=List.getElem_of_mem hm
      have f:=l7 x hx
      exact⟨by have:=f.1;omega,by rw [b1,b2];exact f.2⟩
     ·refine⟨by rw [hp.seen];exact DM m hm,?_⟩
      rw [b1,b2]
      exact(zH (n:=k) (tk.R m hm)).2 fun q hq=>x3 q (tk.sp m hm q hq)
    exact hbm _ hm
 refine⟨⟨⟨aR,bR,by rw [hp.ea];unfold fk;rw [b3];exact hk⟩,⟨by rw [Ee,b1];exact rL.1,by rw [Ee,b2];exact rL.2⟩,fun j hj he=> ?_⟩,pY⟩
 rw [Ee]at he
 have e:a.af=bP p.ab i T p.af:=by rw [hp.ea]
 have hm:a.af[j]∈bP p.ab i T p.af:=by rw [←e];exact List.getElem_mem hj
 rw [hp.seen,exl]
 exact tk.late _ hm he xl CD
end Go.Fw
