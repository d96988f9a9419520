/- What the walks of pouring want of plain lists. Plain Lean; nothing of the program is named here. No condition. -/
import Derived.Test.YtfhnamngaofccaaGreatQiNk
set_option linter.unusedVariables false
set_option linter.unusedSimpArgs false
set_option linter.unnecessarySimpa false

namespace Go.Fw
open Go Go.RowKit
variable {l:List aA} {m:aA}
theorem re(h:m∈aD l):m∈l:=by
 unfold aD at h
 split at h
 ·exact h
 ·split at h
  ·exact List.mem_of_mem_take h
  ·exact List.mem_of_mem_take h
theorem rf(l:List aA):(aD l).length≤l.length:=by
 unfold aD
 split
 ·exact Nat.le_refl _
 ·split
  ·rw [List.length_take];omega
  ·rw [List.length_take];omega
theorem IQ(h:gn mX l= -1):l=aD l:=by unfold aD;rw [if_pos h]
theorem aaR(h:¬gn mX l= -1)(h2:gn mX l=0):(l.take 1).drop 0=aD l:=by unfold aD;rw [if_neg h,if_pos h2,List.drop_zero]
theorem U8(h:¬gn mX l= -1)(h2:¬gn mX l=0):(l.take (gn mX l).toNat).drop 0=aD l:=by unfold aD;rw [if_neg h,if_neg h2,List.drop_zero]
variable {α:Type} {β:Type}
theorem U9{f:α→Option β}{l:List α}{k:Nat}(hk:k<l.length):(l.take (k+1)).filterMap f=(l.take k).filterMap f++(f l[k]).toList:=by
 rw [List.take_succ_eq_append_getElem hk,List.filterMap_append]
 cases h:f l[k]<;>simp [h]
theorem ad3{f:α→Option β}{l:List α}{k:Nat}{b:β}(hk:k<l.length)(h:f l[k]=some b):(l.take (k+1)).filterMap f=(l.take k).filterMap f++[b]:=by rw [U9 hk,h];rfl
theorem als{f:α→Option β}{l:List α}{k:Nat}(hk:k<l.length)(h:f l[k]=none):(l.take (k+1)).filterMap f=(l.take k).filterMap f:=by rw [U9 hk,h];simp
theorem Qd(f:α→Option β)(l:List α)(k:Nat):((l.take k).filterMap f).length≤k:=by
 have:=List.length_filterMap_le f (l.take k)
 rw [List.length_take]at this
 omega
variable {F:List aA} {P:List ah} {i:Int}
theorem Qe{k:Nat}(hk:k<F.length)(h1:((aJ P F[k].key:Nat):Int)=i)(h2:(F[k].clip (ar P i)).2=true):(F.take (k+1)).filterMap (nQ P i)=(F.take k).filterMap (nQ P i)++[(F[k].clip (ar P i)).1]:=ad3 hk (if_pos ⟨h1,h2⟩)
theorem x4{k:Nat}(hk:k<F.length)(h:¬(((aJ P F[k].key:Nat):Int)=i∧(F[k].clip (ar P i)).2=true)):(F.take (k+1)).filterMap (nQ P i)=(F.take k).filterMap (nQ P i):=als hk (if_neg h)
def IS (bud:Int) (ms:List aA) (m:aA):List aA×Bool:=if iO bud ms m=true then(ms++[m],true)else([],false)
variable {bud:Int} {ms:List aA}
theorem CE(h:iO bud ms m=true):IS bud ms m=(ms++[m],true):=if_pos h
theorem ad4(h:iO bud ms m=false):IS bud ms m=([],false):=if_neg (by simp [h])
theorem oL:iO bud ms m=true↔m.size≤bud-bI ms∧∀h:0<ms.length,(ms[ms.length-1]'aa).aO<m.aO:=by
 unfold iO
 rw [Bool.and_eq_true,decide_eq_true_eq]
 refine and_congr Iff.rfl ?_
 cases h:ms.getLast? with
 |none=>
  rw [List.getLast?_eq_none_iff]at h
  subst h
  simp
 |some x=>
  rw [List.getLast?_eq_getElem?]at h
  obtain⟨h1,h2⟩:=List.getElem?_eq_some_iff.1 h
  simp only [Option.all_some,decide_eq_true_eq]
  exact⟨fun h3 _=>by rw [h2];exact h3,fun h3=>by have:=h3 aa;rw [h2]at this;exact this⟩
theorem IT(h:¬m.size≤bud-bI ms):iO bud ms m=false:=by
 cases hr:iO bud ms m
 ·rfl
 ·exact absurd (oL.1 hr).1 h
theorem Va(h:0<ms.length)(h2:m.aO≤(ms[ms.length-1]'aa).aO):iO bud ms m=false:=by
 cases hr:iO bud ms m
 ·rfl
 ·have:=(oL.1 hr).2 h;omega
theorem aaS{k:Nat}(hk:k<l.length)(h:iO bud ms l[k]=false):jH bud ms (l.drop k)=0:=by
 rw [List.drop_eq_getElem_cons hk]
 unfold jH
 rw [if_neg (by simp [h])]
theorem aaT{k:Nat}(hk:k<l.length)(h:iO bud ms l[k]=true):jH bud ms (l.drop k)=jH bud (ms++[l[k]]) (l.drop (k+1))+1:=by
 rw [List.drop_eq_getElem_cons hk]
 conv=>lhs;unfold jH
 rw [if_pos h]
def gU (bud:Int) (ms l:List aA) (k:Nat):Prop:=jH bud ms l=k+jH bud (ms++l.take k) (l.drop k)
theorem gU.zero(bud:Int)(ms l:List aA):gU bud ms l 0:=by unfold gU;simp
theorem gU.succ{k:Nat}(h:gU bud ms l k)(hk:k<l.length)(hr:iO bud (ms++l.take k) l[k]=true):gU bud ms l (k+1):=by
 unfold gU at h⊢
 rw [h,aaT hk hr,List.take_succ_eq_append_getElem hk,List.append_assoc]
 omega
theorem gU.stop{k:Nat}(h:gU bud ms l k)(hk:k<l.length)(hr:iO bud (ms++l.take k) l[k]=false):jH bud ms l=k:=by
 unfold gU at h
 rw [h,aaS hk hr]
 omega
theorem gU.all{k:Nat}(h:gU bud ms l k)(hk:l.length≤k):jH bud ms l=k:=by
 unfold gU at h
 rw [h,List.drop_eq_nil_of_le hk]
 rfl
theorem IU{leaf:Int}{k:Nd}(h:k.level=0):aF leaf bud k l=({ k with rows:=(dG leaf k.rows l).1 },(dG leaf k.rows l).2):=if_pos h
theorem nj{leaf:Int}{k:Nd}{j:Nat}(h:¬k.level=0)(hj:jH bud k.af l=j):aF leaf bud k l=({ k with af:=k.af++l.take j },j):=by unfold aF;rw [if_neg h,hj]
variable {p:Nd}
theorem x5{leaf:Int}{k:Nd}(h:fk p k i):bW leaf bud p k i=(aF leaf bud k (av p.ab p.af i)).2:=if_pos h
theorem Vb{leaf:Int}{k:Nd}(h:¬fk p k i):bW leaf bud p k i=0:=if_neg h
theorem jI:∀ {l:List aA},(∀m∈l,m.key.b.size≤16∧m.val.b.size≤16)→0≤bI l∧bI l≤36*l.length
 |[],_=>⟨by simp [bI],by simp [bI]⟩
 |m::l,h=>by
  have ih:=jI (l:=l) fun x hx=>h x (List.mem_cons_of_mem _ hx)
  have:=o8 (h m (by simp))
  have e:bI (m::l)=m.size+bI l:=by simp [bI]
  rw [e]
  simp only [List.length_cons]
  omega
def Ef (T:List aA):List (Int×Bool):=T.foldl (fun m x=>kA m x.aO true) []
variable {T:List aA}
theorem aaU{k:Nat}(hk:k<T.length):Ef (T.take (k+1))=kA (Ef (T.take k)) T[k].aO true:=by
 unfold Ef
 rw [List.take_succ_eq_append_getElem hk,List.foldl_append];rfl
theorem MM(s:Int):∀(T:List aA) (m:List (Int×Bool)),(getM (T.foldl (fun m x=>kA m x.aO true) m) s).getD false=(decide (s∈T.map aA.aO)||(getM m s).getD false)
 |[],m=>by simp
 |x::T,m=>by
  rw [List.foldl_cons,MM s T,mB]
  by_cases h:s=x.aO
  ·rw [if_pos h]
   simp [h]
  ·rw [if_neg h]
   simp [h]
theorem MN(T:List aA)(s:Int):(getM (Ef T) s).getD false=decide (s∈T.map aA.aO):=by
 unfold Ef
 rw [MM]
 simp [getM]
theorem Vc(bud:Int)(ms:List aA)(m:aA):(IS bud ms m).2=iO bud ms m:=by
 unfold IS
 cases h:iO bud ms m
 ·rw [if_neg (by simp)]
 ·rw [if_pos rfl]
theorem mg(leaf bud:Int)(k:Nd)(L:List aA):(L.take (aF leaf bud k L).2).length=(aF leaf bud k L).2:=by
 have:=Eb leaf bud k L
 rw [List.length_take];omega
theorem x6{leaf:Int}{k:Nd}(h:¬fk p k i):bj leaf bud p k i=(p,k,0):=by unfold bj;rw [if_pos (Vb h)]
theorem Vd{leaf:Int}{k:Nd}(hk:fk p k i)(h:((av p.ab p.af i).take (aF leaf bud k (av p.ab p.af i)).2).length=0):bj leaf bud p k i=(p,k,0):=by
 rw [mg]at h
 unfold bj;rw [if_pos ((x5 hk).trans h)]
theorem ag7(h:0<T.length):T.getLast?.getD aA.zero=T[T.length-1]'aa:=by
 rw [List.getLast?_eq_getElem?,List.getElem?_eq_getElem aa];rfl
theorem Qf{leaf:Int}{k:Nd}(hk:fk p k i)(hT:T=(av p.ab p.af i).take (aF leaf bud k (av p.ab p.af i)).2)(h:0<T.length):
  bj leaf bud p k i=({ p with af:=bP p.ab i T p.af },{ (aF leaf bud k (av p.ab p.af i)).1 with seen:=(T[T.length-1]'aa).aO },T.length):=by
 have e:T.length=bW leaf bud p k i:=by rw [hT,mg,x5 hk]
 unfold bj
 rw [if_neg aa,x5 hk,←hT,ag7 h,←x5 hk,←e]
theorem Ve(h:¬m.aO∈T.map aA.aO):gq P i T m=some m:=if_neg h
theorem Qg(h:m.aO∈T.map aA.aO)(h4:m.kind=4)(hw:(bd m (ar P i)).2=true):gq P i T m=some (bd m (ar P i)).1:=(if_pos h).trans (if_pos ⟨h4,hw⟩)
theorem GF(h:m.aO∈T.map aA.aO)(hw:¬(m.kind=4∧(bd m (ar P i)).2=true)):gq P i T m=none:=(if_pos h).trans (if_neg hw)
theorem tO{k:Nat}{x:aA}{n:Nd}(hk:k<l.length)(h:gq P i T l[k]=some x):({ n with af:=bP P i T (l.take k)++[x] } :Nd)={ n with af:=bP P i T (l.take (k+1)) } :=by unfold bP;rw [ad3 hk h]
theorem tP{k:Nat}{n:Nd}(hk:k<l.length)(h:gq P i T l[k]=none):({ n with af:=bP P i T (l.take k) } :Nd)={ n with af:=bP P i T (l.take (k+1)) } :=by unfold bP;rw [als hk h]
theorem FL{s:Span}(h:m.Ok):(bd m s).1.Ok:=by
 unfold bd
 split
 ·exact⟨⟨by decide,by decide⟩,⟨by decide,by decide⟩⟩
 ·exact o7 h
theorem alu(hP:∀k∈P,k.b.size≤16)(hl:∀m∈l,m.R):∀m∈av P l i,m.R:=fun m hm=>by
 obtain⟨a,ha,h2,rfl⟩:=U4 hm
 have hr:=kO (p:=P) (i:=i) (n:=16) hP
 exact uX (hl a ha) hr.1 hr.2 h2
theorem IV(P:List ah)(l:List aA)(i:Int):(av P l i).length≤l.length:=Nat.le_trans (List.length_filterMap_le _ _) (rf l)
theorem MO(P:List ah)(i:Int)(T l:List aA)(k:Nat):(bP P i T (l.take k)).length≤k:=Qd _ _ _
def iQ (TN tm:TypeId) (b:Nat) (G:GH) (n:Nd) (M:MH):Prop:=
 ∃(pa:Option Addr) (pc:Nat) (ka:Option Addr) (kc:Nat) (vm:Value) (ra:Option Addr) (rc:Nat) (Mm:MH),
  M=(b,.cells (List.toArray [.int .i64 n.slot,.int .i64 n.level,.slice pa n.ab.length pc,.slice ka n.kids.length kc,.string n.high.b,.bool n.cW,.int .i64 n.right,.int .i64 n.seen,vm,.slice ra n.rows.length rc]) TN (0,0))::Mm∧
  ax dg G (.slice pa n.ab.length pc) n.ab∧ax bY G (.slice ka n.kids.length kc) n.kids∧aP bQ tm G vm n.af Mm∧ax bA G (.slice ra n.rows.length rc) n.rows∧n.Ok
theorem iQ.mono{TN tm:TypeId}{b:Nat}{G G':GH}{n:Nd}{M:MH}(hl:Le G G')(h:iQ TN tm b G n M):iQ TN tm b G' n M:=by
 obtain⟨pa,pc,ka,kc,vm,ra,rc,Mm,h1,h2,h3,h4,h5,h6⟩:=h
 exact⟨pa,pc,ka,kc,vm,ra,rc,Mm,h1,h2.mono hl,h3.mono hl,h4.mono hl,h5.mono hl,h6⟩
theorem iQ.cast{TN tm:TypeId}{b:Nat}{G:GH}{n n':Nd}{M:MH}(h:iQ TN tm b G n M)(e:n=n'):iQ TN tm b G n' M:=e▸h
structure tQ (cb:Int) (p k:Nd):Prop where
 hb:0≤cb∧cb≤9223372036854775807
 hr:rising p.ab=true
 mU:∀q∈p.ab,q.b.size≤16
 jt:∀m∈p.af,m.R
 iP:∀m∈k.af,m.key.b.size≤16∧m.val.b.size≤16
 kX:bC k.rows
 gY:k.af.length+p.af.length≤100000∧k.rows.length≤100000
theorem Vf:bC []:=fun i h=>absurd h (Nat.not_lt_zero i)
theorem Eg{c:aQ}{n:Nd}(h:n.R c.bu c.leaf c.bud):∀m∈n.af,m.R:=fun m hm=>by
 have h4:=h.2.2.2
 by_cases h0:n.level=0
 ·rw [if_pos h0]at h4
  have e:n.af=[]:=List.eq_nil_of_length_eq_zero (by have:=h4.1;omega)
  rw [e]at hm;cases hm
 ·rw [if_neg h0]at h4
  exact(dD.iff.1 h4.2.2.1).1 m hm
theorem ag8{c:aQ}{n:Nd}(h:n.R c.bu c.leaf c.bud):bC n.rows:=by
 have h4:=h.2.2.2
 by_cases h0:n.level=0
 ·rw [if_pos h0]at h4;exact h4.2.2.1
 ·rw [if_neg h0]at h4
  have e:n.rows=[]:=List.eq_nil_of_length_eq_zero h4.1.1
  rw [e];exact Vf
theorem ad5{c:aQ}{k:Nd}(hp:p.R c.bu c.leaf c.bud)(hk:k.R c.bu c.leaf c.bud)(h1:¬p.level=0)(sp:Gl p)(sk:Gl k)(hb:c.bud≤9223372036854775807):tQ c.bud p k:=by
 have nO:p.kK c.bu c.bud:=by have h4:=hp.2.2.2;rwa [if_neg h1]at h4
 have hm:=Eg hp
 have hs:=jI fun m h=>eR (hm m h)
 have hs2:=nO.2.2.2.1
 obtain⟨_,_,s3,s4,_⟩:=sp
 obtain⟨_,_,k3,k4,_⟩:=sk
 exact⟨⟨aa,hb⟩,(cE nO.2.1).1,oK hp,hm,fun m h=>eR (Eg hk m h),ag8 hk,aa,aa⟩
variable {c:aQ} {l:List Nd} {ss:List aC}
structure CF (n a b:Nd) (k:ah) (h:Nat):Prop where
 la:a.level=n.level
 lb:b.level=n.level
 alv:a.high=k∧a.cW=false
 MP:b.high=n.high∧b.cW=n.cW∧b.right=n.right
 Qh:a.right=b.slot
 leaf:n.level=0→1≤h∧h<n.rows.length∧a.rows=n.rows.take h∧b.rows=n.rows.drop h∧a.ab=n.ab∧b.ab=n.ab∧(∀i (hi:i<n.rows.length),i<h→n.rows[i].key.lt k=true)∧∀i (hi:i<n.rows.length),h≤i→n.rows[i].key.lt k=false
 inner:¬n.level=0→a.rows=n.rows∧b.rows=n.rows∧∃hh:h<n.ab.length,k=n.ab[h]∧a.ab=n.ab.take h∧a.kids=n.kids.take (h+1)∧b.ab=n.ab.drop (h+1)∧b.kids=n.kids.drop (h+1)
 size:k≠ah.nil∧k.b.size≤16
theorem nm{n:Nd}{bu leaf y:Int}(hR:n.R bu leaf bud)(nJ:(aB n y).2.2.2=true):
  ∃a b k h,aB n y=(a,b,k,true)∧CF n a b k h∧a.slot=n.slot∧b.slot=y∧a.seen=n.seen∧b.seen=n.seen∧(n.level=0→a.af=n.af∧b.af=n.af)∧
   (¬n.level=0→a.af=aK ⟨ah.nil,k,false⟩ n.af∧b.af=aK ⟨k,ah.nil,true⟩ n.af)∧n.has k=true:=by
 obtain⟨⟨q1,q2,q3⟩,q4,q5,q6⟩:=hR
 by_cases h0:n.level=0
 ·rw [if_pos h0]at q6
  obtain⟨r1,r2,r3,r4⟩:=q6
  by_cases hl:n.rows.length<2
  ·rw [uU h0 hl]at nJ;cases nJ
  ·have iB:=bC.lt r3 ((n.rows.length+1) / 2) ((n.rows.length+1) / 2-1) aa aa
   obtain⟨b1,b2,b3,b4⟩:=xn iB (r3 ((n.rows.length+1) / 2) aa).1.1
   refine⟨_,_,_,(n.rows.length+1) / 2,uV h0 hl,⟨rfl,rfl,⟨rfl,rfl⟩,⟨rfl,rfl,rfl⟩,rfl,fun _=>⟨aa,aa,rfl,rfl,rfl,rfl,?_,?_⟩,fun h=>absurd h0 h,b1,b2⟩,rfl,rfl,rfl,rfl,fun _=>⟨rfl,rfl⟩,fun h=>absurd h0 h,?_⟩
   ·intro i hi hih
    by_cases e:i=(n.rows.length+1) / 2-1
    ·subst e;exact b3
    ·exact ah.lt_trans (bC.lt r3 ((n.rows.length+1) / 2-1) i aa aa) b3
   ·intro i hi hih
    by_cases e:i=(n.rows.length+1) / 2
    ·subst e;exact b4
    ·cases h9:n.rows[i].key.lt (fl (n.rows[(n.rows.length+1) / 2-1]'aa).key (n.rows[(n.rows.length+1) / 2]'aa).key).1
     ·rfl
     ·have:=ah.lt_trans (bC.lt r3 i ((n.rows.length+1) / 2) aa hi) h9
      rw [b4]at this;cases this
   ·have h5:=r4 ((n.rows.length+1) / 2) aa
    unfold Nd.has at h5⊢
    rw [Bool.or_eq_true]at h5⊢
    rcases h5 with h5|h5
    ·exact .inl h5
    ·exact .inr (ah.lt_of_le_of_lt b4 h5)
 ·rw [if_neg h0]at q6
  obtain⟨⟨r1,r2,r3⟩,r4,r5,r6,r7,r8,r9⟩:=q6
  by_cases hl:n.kids.length<4
  ·rw [og h0 (.inl hl)]at nJ;cases nJ
  ·obtain⟨hr,hc⟩:=cE r4
   have hk:=r8 ((n.kids.length+1) / 2-1) aa
   have e9:(n.kids.length+1) / 2-1+1=(n.kids.length+1) / 2:=aa
   refine⟨_,_,_,(n.kids.length+1) / 2-1,uW h0 hl r4 hc,⟨rfl,rfl,⟨rfl,rfl⟩,⟨rfl,rfl,rfl⟩,rfl,fun h=>absurd h h0,fun _=>⟨rfl,rfl,aa,rfl,rfl,?_,?_,?_⟩,hk.1,hk.2.1⟩,rfl,rfl,rfl,rfl,fun h=>absurd h h0,fun _=>⟨rfl,rfl⟩,hk.2.2⟩
   ·rw [e9]
   ·rw [e9]
   ·rw [e9]
variable {x:Nd}
theorem rh{l:List Nd}(hs:eQ l)(hx:0≤x.slot∧x.slot<l.length)(pY:x.seen≤1099511627776):eQ (l.set x.slot.toNat x):=fun i h=>by
 rw [List.length_set]at h
 rw [List.getElem_set]
 split
 ·exact⟨aa,pY⟩
 ·exact hs i h
theorem x7{l:List Nd}(hs:eQ l)(hx:x.slot=l.length)(pY:x.seen≤1099511627776):eQ (l++[x]):=fun i h=>by
 rw [List.length_append]at h
 by_cases e:i<l.length
 ·rw [List.getElem_append_left e];exact hs i e
 ·rw [List.getElem_append_right aa]
  have:i=l.length:=by simp at h;omega
  subst this
  simp [hx,pY]
theorem kR{l:List Nd}(hx:0≤x.slot∧x.slot<l.length)(i:Int):ag (l.set x.slot.toNat x) i=if i=x.slot then x else ag l i:=by
 by_cases e:i=x.slot
 ·rw [if_pos e,e]
  have:=jN (l:=l.set x.slot.toNat x) (k:=x.slot.toNat) (by rw [List.length_set];omega)
  rw [show((x.slot.toNat:Nat):Int)=x.slot by omega]at this
  rw [this,List.getElem_set_self]
 ·rw [if_neg e]
  unfold ag
  split
  ·rw [List.getD_eq_getElem?_getD,List.getD_eq_getElem?_getD,List.getElem?_set_ne aa]
  ·rfl
theorem vL{l:List Nd}(i:Int):ag (l++[x]) i=if i=l.length then x else ag l i:=by
 by_cases e:i=l.length
 ·rw [if_pos e,e,jN (by simp)]
  simp
 ·rw [if_neg e]
  unfold ag
  split
  ·rename_i h0
   rw [List.getD_eq_getElem?_getD,List.getD_eq_getElem?_getD]
   by_cases h1:i.toNat<l.length
   ·rw [List.getElem?_append_left h1]
   ·rw [List.getElem?_eq_none (by simp;omega),List.getElem?_eq_none aa]
  ·rfl
structure j9 (K A B:aC) (k:ah) (h:Nat):Prop where
 hv:CF K.n A.n B.n k h
 ha:∀q,A.s.has q=(K.s.has q&&q.lt k)
 hb:∀q,B.s.has q=(K.s.has q&& !q.lt k)
 na:A.s.norm=A.s
 nb:B.s.norm=B.s
 ma:∀s:Span,(∀q,s.has q=true→A.s.has q=true)→cC [aK s A.n.af,aK s A.ms]=cC [aK s K.n.af,aK s K.ms]
 mb:∀s:Span,(∀q,s.has q=true→B.s.has q=true)→cC [aK s B.n.af,aK s B.ms]=cC [aK s K.n.af,aK s K.ms]
variable {K:aC}
theorem Tree.alw(t:Tree c l ss)(hK:K∈ss){a b:Nd}{k:ah}{h:Nat}(hv:CF K.n a b k h)(hk:K.n.has k=true):K.s.has k=true∧k≠K.s.lo:=by
 obtain⟨⟨p1,p2⟩,p3,p4,p5⟩:=(t.fo hK).2.1
 have aHY:K.s.bT=true∨k.lt K.s.hi=true:=by
  unfold Nd.has at hk
  rw [p1,p2,Bool.or_eq_true]at hk
  exact hk
 by_cases h0:K.n.level=0
 ·obtain⟨g1,g2,_,_,_,_,g3,g4⟩:=hv.leaf h0
  have e1:=(cD.1 (p3 (h-1) aa)).1
  have e2:=ah.lt_of_le_of_lt e1 (g3 (h-1) aa aa)
  exact⟨cD.2 ⟨ah.lt_asymm e2,aHY⟩,fun e=>by rw [←e,ah.lt_irrefl]at e2;cases e2⟩
 ·obtain⟨_,_,hh,e,_⟩:=hv.inner h0
  have:=p4 h hh
  rw [←e]at this
  exact this
variable {A:aC} {B:aC}
theorem j9.Vg(t:Tree c l ss){k:ah}{h:Nat}(hK:K∈ss)(H:j9 K A B k h)(hs:K.s.norm=K.s)(hk:K.n.has k=true)
  (hm:∀m∈A.n.af,∃m'∈K.n.af,(m'.clip ⟨ah.nil,k,false⟩).2=true∧(m'.clip ⟨ah.nil,k,false⟩).1=m):pj A:=by
 obtain⟨⟨p1,p2⟩,p3,p4,p5⟩:=(t.fo hK).2.1
 obtain⟨k1,k2⟩:=t.alw hK H.hv hk
 obtain⟨e,gx⟩:=aaM hs H.na k1 k2 H.ha
 have eo:A.s.bT=false:=by rw [e]
 have eh:A.s.hi=k:=by rw [e]
 have el:A.s.lo=K.s.lo:=by rw [e]
 refine⟨⟨by rw [eo];exact H.hv.alv.2,by rw [eh];exact H.hv.alv.1⟩,fun i hi=> ?_,fun i hi=> ?_,fun i hi=> ?_⟩
 ·by_cases h0:K.n.level=0
  ·obtain⟨g1,g2,ga,_,_,_,g3,g4⟩:=H.hv.leaf h0
   have gS:=hi
   rw [ga,List.length_take]at gS
   simp only [ga,List.getElem_take]
   rw [H.ha,p3 i aa,g3 i aa aa];rfl
  ·have ga:=(H.hv.inner h0).1
   have gb:=(t.inner hK h0).1.1
   rw [ga]at hi
   exact absurd hi aa
 ·by_cases h0:K.n.level=0
  ·have ga:=(H.hv.leaf h0).2.2.2.2.1
   have gb:=(t.leaf hK h0).1
   rw [ga]at hi
   exact absurd hi aa
  ·obtain⟨_,_,hh,ek,ga,_,_,_⟩:=H.hv.inner h0
   have gS:=hi
   rw [ga,List.length_take]at gS
   simp only [ga,List.getElem_take]
   have hr:=(cE (cx (t.kids hK) h0).2.2.1).1
   have:=p4 i aa
   refine⟨?_,by rw [el];exact this.2⟩
   rw [H.ha,this.1,ek,g0 hr h i aa hh];rfl
 ·obtain⟨m',Lt,hc,e9⟩:=hm _ (List.getElem_mem hi)
  obtain⟨j,hj,rfl⟩:=List.getElem_of_mem Lt
  refine ME fun q hq=> ?_
  rw [←e9]at hq
  have g:=xZ ((t.af hK).2.1 _ (List.getElem_mem hj)) hc hq
  rw [H.ha,MF (p5 j hj) g.1]
  have:=(cD.1 g.2).2
  rcases this with h|h
  ·cases h
  ·rw [show q.lt k=true from h];rfl
theorem j9.Vh(t:Tree c l ss){k:ah}{h:Nat}(hK:K∈ss)(H:j9 K A B k h)(hs:K.s.norm=K.s)(hk:K.n.has k=true)
  (hm:∀m∈B.n.af,∃m'∈K.n.af,(m'.clip ⟨k,ah.nil,true⟩).2=true∧(m'.clip ⟨k,ah.nil,true⟩).1=m):pj B:=by
 obtain⟨⟨p1,p2⟩,p3,p4,p5⟩:=(t.fo hK).2.1
 obtain⟨k1,k2⟩:=t.alw hK H.hv hk
 have e:=FJ hs H.nb k1 H.hb
 have eo:B.s.bT=K.s.bT:=by rw [e]
 have eh:B.s.hi=K.s.hi:=by rw [e]
 have el:B.s.lo=k:=by rw [e]
 refine⟨⟨by rw [eo,H.hv.MP.2.1];exact p1,by rw [eh,H.hv.MP.1];exact p2⟩,fun i hi=> ?_,fun i hi=> ?_,fun i hi=> ?_⟩
 ·by_cases h0:K.n.level=0
  ·obtain⟨g1,g2,_,ga,_,_,g3,g4⟩:=H.hv.leaf h0
   have gS:=hi
   rw [ga,List.length_drop]at gS
   simp only [ga,List.getElem_drop]
   rw [H.hb,p3 (h+i) aa,g4 (h+i) aa aa];rfl
  ·have ga:=(H.hv.inner h0).2.1
   have gb:=(t.inner hK h0).1.1
   rw [ga]at hi
   exact absurd hi aa
 ·by_cases h0:K.n.level=0
  ·have ga:=(H.hv.leaf h0).2.2.2.2.2.1
   have gb:=(t.leaf hK h0).1
   rw [ga]at hi
   exact absurd hi aa
  ·obtain⟨_,_,hh,ek,_,_,ga,_⟩:=H.hv.inner h0
   have gS:=hi
   rw [ga,List.length_drop]at gS
   simp only [ga,List.getElem_drop]
   have hr:=(cE (cx (t.kids hK) h0).2.2.1).1
   have:=p4 (h+1+i) aa
   have hl:=g0 hr (h+1+i) h aa aa
   refine⟨?_,?_⟩
   ·rw [H.hb,this.1,ek,ah.lt_asymm hl];rfl
   ·rw [el,ek]
    intro e2
    rw [e2,ah.lt_irrefl]at hl;cases hl
 ·obtain⟨m',Lt,hc,e9⟩:=hm _ (List.getElem_mem hi)
  obtain⟨j,hj,rfl⟩:=List.getElem_of_mem Lt
  refine ME fun q hq=> ?_
  rw [←e9]at hq
  have g:=xZ ((t.af hK).2.1 _ (List.getElem_mem hj)) hc hq
  rw [H.hb,MF (p5 j hj) g.1]
  have:=(cD.1 g.2).1
  rw [show q.lt k=false from this];rfl
theorem j9.kids(t:Tree c l ss){K A B:aC}{k:ah}{h:Nat}{l':List Nd}(hK:K∈ss)(H:j9 K A B k h)
  (hf:∀j,j<K.n.kids.length→bL l' (K.n.kids.getD j 0)=bL l (K.n.kids.getD j 0)):(dz l' A).isSome=true∧(dz l' B).isSome=true∧bB l' A++bB l' B=bB l K:=by
 by_cases h0:K.n.level=0
 ·have ea:A.n.level=0:=by rw [H.hv.la,h0]
  have eb:B.n.level=0:=by rw [H.hv.lb,h0]
  rw [pi ea,pi eb,fD ea,fD eb,fD h0]
  exact⟨rfl,rfl,rfl⟩
 ·obtain⟨_,_,hh,ek,g1,g2,g3,g4⟩:=H.hv.inner h0
  have a1:=aaL (l':=l') (t.kids hK) h0 hh g1 g2 H.hv.la (fun q=>by rw [H.ha,ek]) H.ma hf
  have b1:=UZ (l':=l') (t.kids hK) h0 hh g3 g4 H.hv.lb (fun q=>by rw [H.hb,ek]) H.mb hf
  exact⟨a1.1,b1.1,by rw [a1.2,b1.2,List.take_append_drop]⟩
theorem j9.view(t:Tree c l ss){k:ah}{h:Nat}(hK:K∈ss)(H:j9 K A B k h)(ca:K.n.level=0→aK A.s A.ms=aK A.s K.ms)(cb:K.n.level=0→aK B.s B.ms=aK B.s K.ms):
  (du [A,B]).flatMap mc=(du [K]).flatMap mc:=by
 by_cases h0:K.n.level=0
 ·have ea:A.n.level=0:=by rw [H.hv.la,h0]
  have eb:B.n.level=0:=by rw [H.hv.lb,h0]
  obtain⟨g1,g2,ga,gb,_,_,g3,g4⟩:=H.hv.leaf h0
  have:=P8 (t.rows hK) (t.fits K hK).2 ga gb H.ha H.hb g3 g4 (ca h0) (cb h0)
  simp only [du,List.filter_cons,ea,eb,h0,decide_true,if_true,List.filter_nil,List.flatMap_cons,List.flatMap_nil,List.append_nil]
  exact this
 ·have ea:¬A.n.level=0:=by rw [H.hv.la];exact h0
  have eb:¬B.n.level=0:=by rw [H.hv.lb];exact h0
  simp [du,List.filter_cons,ea,eb,h0]
theorem x8{c:aQ}{n:Nd}(hc:fe c)(hR:n.R c.bu c.leaf c.bud):Gl n:=by
 obtain⟨⟨q1,q2,q3⟩,q4,q5,q6⟩:=hR
 obtain⟨c1,c2,c3,c4,c5⟩:=hc
 have hh:n.high.b.size≤4000:=by
  cases e:n.cW
  ·have:=(q5 e).2.1;omega
  ·rw [(q4 e).1];decide
 by_cases h0:n.level=0
 ·rw [if_pos h0]at q6
  obtain⟨r1,r2,r3,r4⟩:=q6
  have e1:n.af=[]:=List.eq_nil_of_length_eq_zero aa
  have e2:n.ab=[]:=List.eq_nil_of_length_eq_zero aa
  refine⟨aa,aa,aa,aa,hh,(by rw [e1];intro m hm;cases hm),(by rw [e2];intro m hm;cases hm),fun p hp=> ?_⟩
  have:=(kr.1 r3).1 p hp
  exact⟨by have:=this.1;omega,by have:=this.2;omega⟩
 ·rw [if_neg h0]at q6
  obtain⟨⟨r1,r2,r3⟩,r4,r5,r6,r7,r8,r9⟩:=q6
  have e1:n.rows=[]:=List.eq_nil_of_length_eq_zero r1
  have hp:=(cE r4).2
  have hm:∀m∈n.af,m.R:=(dD.iff.1 r5).1
  have hl:=ID hm
  refine⟨aa,aa,aa,aa,hh,fun m h=> ?_,fun p h=> ?_,(by rw [e1];intro m hm;cases hm)⟩
  ·have:=(hm m h).1
   exact⟨aa,aa,aa⟩
  ·obtain⟨i,hi,rfl⟩:=List.getElem_of_mem h
   have:=(r8 i hi).2.1;omega
theorem aaV{c:aQ}{l:List Nd}(hc:fe c)(hl:l.length≤4096)(h:∀n∈l,n.R c.bu c.leaf c.bud):sW l:=⟨hl,fun n hn=>x8 hc (h n hn)⟩
theorem kS{l:List Nd}(hs:eQ l):(l.map fun n:Nd=>n.slot)=(List.range l.length).map fun i:Nat=>(i:Int):=by
 refine List.ext_getElem (by simp) fun i hi hj=> ?_
 simp only [List.getElem_map,List.getElem_range]
 exact(hs i (by simpa using hi)).1
variable {f:aC→List aC}
theorem CG:∀ {L:List aC},(∀y∈L,f y=[y])→L.flatMap f=L
 |[],_=>rfl
 |y::L,h=>by rw [List.flatMap_cons,h y (by simp),CG fun z hz=>h z (List.mem_cons_of_mem _ hz)];rfl
theorem vN{f:aC→List aC} :∀ {L:List aC},(∀x∈L,(du (f x)).flatMap mc=(du [x]).flatMap mc)→(du (L.flatMap f)).flatMap mc=(du L).flatMap mc
 |[],_=>rfl
 |x::L,h=>by
  have ih:=vN (f:=f) (L:=L) fun z hz=>h z (List.mem_cons_of_mem _ hz)
  have e1:du ((x::L).flatMap f)=du (f x)++du (L.flatMap f):=by unfold du;rw [List.flatMap_cons,List.filter_append]
  have e2:du (x::L)=du [x]++du L:=by unfold du;rw [←List.filter_append];rfl
  rw [e1,e2,List.flatMap_append,List.flatMap_append,h x (by simp),ih]
theorem MR{K K':aC→List aC} :∀ {L:List aC},(∀x∈L,(f x).flatMap K'=(K x).flatMap f)→(L.flatMap f).flatMap K'=(L.flatMap K).flatMap f
 |[],_=>rfl
 |x::L,h=>by
  rw [List.flatMap_cons,List.flatMap_cons,List.flatMap_append,List.flatMap_append,h x (by simp),MR fun z hz=>h z (List.mem_cons_of_mem _ hz)]
def fg (n:Nd) (i:Nat) (k:ah) (v:Int):Nd:={ n with ab:=(n.ab.take i++[k])++n.ab.drop i,kids:=(n.kids.take (i+1)++[v])++n.kids.drop (i+1) }
def c7 (l:List Nd) (P:Nd) (i:Nat) (a b:Nd) (k:ah):List Nd:=((l.set a.slot.toNat a).set P.slot.toNat (fg P i k l.length))++[b]
structure PartOf (c:aQ) (l:List Nd) (ss:List aC) (P:aC) (i:Nat) (a b:Nd) (k:ah) (h:Nat):Prop where
 t:Tree c l ss
 mem:P∈ss
 h0:¬P.n.level=0
 hi:i<P.n.kids.length
 hv:CF (au l P i).n a b k h
 sa:a.slot=(au l P i).n.slot
 sb:b.slot=l.length
 ea:a.seen=(au l P i).n.seen
 eb:b.seen=(au l P i).n.seen
 m0:(au l P i).n.level=0→a.af=(au l P i).n.af∧b.af=(au l P i).n.af
 m1:¬(au l P i).n.level=0→a.af=aK ⟨ah.nil,k,false⟩ (au l P i).n.af∧b.af=aK ⟨k,ah.nil,true⟩ (au l P i).n.af
 nk:(au l P i).n.has k=true
 aR:a.R c.bu c.leaf c.bud
 bR:b.R c.bu c.leaf c.bud
 x3:(ar P.n.ab (i:Int)).has k=true
 klo:¬k=(ar P.n.ab (i:Int)).lo
 full:(P.n.kids.length:Int)<c.bu
 room:(l.length:Int)<c.aL
 Al:l.length<4096
namespace PartOf
variable {c:aQ} {l:List Nd} {ss:List aC} {P:aC} {i:Nat} {a b:Nd} {k:ah} {h:Nat}
theorem km(p:PartOf c l ss P i a b k h):au l P i∈ss∧(au l P i).n.level=P.n.level-1:=by
 have:=p.t.at p.mem p.h0 p.hi
 exact⟨this.1,this.2.2.2⟩
variable {x:aC}
theorem ne(p:PartOf c l ss P i a b k h){y:aC}(hx:x∈ss)(hy:y∈ss)(hl:x.n.level≠y.n.level):x.n.slot≠y.n.slot:=fun e=>hl (by rw [p.t.mC hx hy e])
theorem x9(p:PartOf c l ss P i a b k h):(au l P i).n.slot≠P.n.slot:=p.ne p.km.1 p.mem (by have:=p.km.2;omega)
theorem sin(p:PartOf c l ss P i a b k h)(hx:x∈ss):0≤x.n.slot∧x.n.slot<l.length:=(p.t.nd hx).1
theorem Eh(p:PartOf c l ss P i a b k h)(hx:x∈ss):x.n.seen≤1099511627776:=by
 obtain⟨j,hj,e⟩:=List.getElem_of_mem (p.t.nd hx).2.2
 rw [←e];exact(p.t.slot j hj).2
theorem aL(p:PartOf c l ss P i a b k h):eQ (c7 l P.n i a b k):=by
 have hk:=p.sin p.km.1
 have hp:=p.sin p.mem
 have h1:=rh p.t.slot (x:=a) (by rw [p.sa];exact hk) (by rw [p.ea];exact p.Eh p.km.1)
 have h2:=rh h1 (x:=fg P.n i k l.length) (by rw [List.length_set];exact hp) (p.Eh p.mem)
 exact x7 h2 (by rw [List.length_set,List.length_set];exact p.sb) (by rw [p.eb];exact p.Eh p.km.1)
theorem len(p:PartOf c l ss P i a b k h):(c7 l P.n i a b k).length=l.length+1:=by
 unfold c7;rw [List.length_append,List.length_set,List.length_set];rfl
theorem get(p:PartOf c l ss P i a b k h)(s:Int):ag (c7 l P.n i a b k) s=if s=l.length then b else if s=P.n.slot then fg P.n i k l.length else if s=(au l P i).n.slot then a else ag l s:=by
 have hk:=p.sin p.km.1
 have hp:=p.sin p.mem
 unfold c7
 rw [vL,List.length_set,List.length_set]
 split
 ·rfl
 ·have e:=kR (l:=l.set a.slot.toNat a) (x:=fg P.n i k l.length) (by rw [List.length_set];exact hp) s
  rw [show(fg P.n i k l.length).slot=P.n.slot from rfl]at e
  rw [e]
  split
  ·rfl
  ·rw [kR (by rw [p.sa];exact hk),p.sa]
theorem find(p:PartOf c l ss P i a b k h)(s:Int):bL (c7 l P.n i a b k) s=(if s=l.length then b else if s=P.n.slot then fg P.n i k l.length else if s=(au l P i).n.slot then a else ag l s,decide (0≤s∧s<(l.length:Int)+1)):=by
 rw [pn p.aL,p.get,p.len]
 congr 1
theorem vO(p:PartOf c l ss P i a b k h)(hx:x∈ss)(h1:x.n.slot≠P.n.slot)(h2:x.n.slot≠(au l P i).n.slot):bL (c7 l P.n i a b k) x.n.slot=bL l x.n.slot:=by
 have:=p.sin hx
 rw [p.find,if_neg aa,if_neg h1,if_neg h2,pn p.t.slot,decide_eq_true aa,decide_eq_true aa]
theorem ad6(p:PartOf c l ss P i a b k h):bL (c7 l P.n i a b k) P.n.slot=(fg P.n i k l.length,true):=by
 have:=p.sin p.mem
 rw [p.find,if_neg aa,if_pos rfl,decide_eq_true aa]
theorem ad7(p:PartOf c l ss P i a b k h):bL (c7 l P.n i a b k) (au l P i).n.slot=(a,true):=by
 have:=p.sin p.km.1
 rw [p.find,if_neg aa,if_neg p.x9,if_pos rfl,decide_eq_true aa]
theorem ad8(p:PartOf c l ss P i a b k h):bL (c7 l P.n i a b k) (l.length:Int)=(b,true):=by
 rw [p.find,if_pos rfl,decide_eq_true aa]
noncomputable def nP (l:List Nd) (P:aC) (i:Nat) (k:ah):aC:=⟨fg P.n i k l.length,P.s,P.ms⟩
noncomputable def nA (l:List Nd) (P:aC) (i:Nat) (a b:Nd) (k:ah):aC:=au (c7 l P.n i a b k) (nP l P i k) i
noncomputable def nB (l:List Nd) (P:aC) (i:Nat) (a b:Nd) (k:ah):aC:=au (c7 l P.n i a b k) (nP l P i k) (i+1)
variable {j:Nat}
theorem jP(p:PartOf c l ss P i a b k h)(hx:x∈ss)(h0:¬x.n.level=0)(hj:j<x.n.kids.length):x.n.kids.getD j 0=(au l x j).n.slot:=by
 have e:=(p.t.at hx h0 hj)
 rw [List.getD_eq_getElem?_getD,List.getElem?_eq_getElem hj,e.2.2.1,(di p.t.slot e.2.1).1];rfl
theorem Ei(p:PartOf c l ss P i a b k h)(j:Nat):(nP l P i k).n.kids.getD j 0=if j≤i then P.n.kids.getD j 0 else if j=i+1 then(l.length:Int)else P.n.kids.getD (j-1) 0:=by
 have hi:=p.hi
 show((P.n.kids.take (i+1)++[(l.length:Int)])++P.n.kids.drop (i+1)).getD j 0=_
 rw [List.getD_eq_getElem?_getD,List.getD_eq_getElem?_getD,List.getD_eq_getElem?_getD]
 have l1:(P.n.kids.take (i+1)).length=i+1:=by rw [List.length_take];omega
 by_cases h1:j≤i
 ·rw [if_pos h1,List.getElem?_append_left (by rw [List.length_append,l1];omega),List.getElem?_append_left aa,List.getElem?_take,if_pos aa]
 ·rw [if_neg h1]
  by_cases h2:j=i+1
  ·rw [if_pos h2,h2,List.getElem?_append_left (by rw [List.length_append,l1];simp),List.getElem?_append_right aa,l1];simp
  ·rw [if_neg h2,List.getElem?_append_right (by rw [List.length_append,l1];simp;omega),List.getElem?_drop,List.length_append,l1]
   congr 2
   simp;omega
theorem rt(p:PartOf c l ss P i a b k h):rising P.n.ab=true∧P.n.kids.length=P.n.ab.length+1:=cE (cx (p.t.kids p.mem) p.h0).2.2.1
theorem rt'(p:PartOf c l ss P i a b k h):ee (nP l P i k).n.ab (nP l P i k).n.kids.length=true:=UY (cx (p.t.kids p.mem) p.h0).2.2.1 p.hi p.x3 p.klo
theorem alx(p:PartOf c l ss P i a b k h):(nP l P i k).n.kids.length=P.n.kids.length+1:=by
 have:=p.hi
 show((P.n.kids.take (i+1)++[(l.length:Int)])++P.n.kids.drop (i+1)).length=_
 simp;omega
theorem aum(p:PartOf c l ss P i a b k h):aJ P.n.ab k=i:=by
 have h1:=p.rt
 have h2:=p.x3
 rw [eL h1.1 k (by have:=p.hi;omega),decide_eq_true_eq]at h2
 exact h2.symm
theorem ya(p:PartOf c l ss P i a b k h)(q:ah):(q.lt k=true→aJ (nP l P i k).n.ab q=aJ P.n.ab q∧aJ P.n.ab q≤i)∧(q.lt k=false→aJ (nP l P i k).n.ab q=aJ P.n.ab q+1∧i≤aJ P.n.ab q):=by
 have e:=IK P.n.ab i k q
 have hk:=p.aum
 constructor
 ·intro hq
  rw [if_pos hq]at e
  have:=sh (P:=P.n.ab) (p:=k) (q:=q) (ah.lt_asymm hq)
  exact⟨by rw [←Nat.add_zero (aJ P.n.ab q)];exact e,aa⟩
 ·intro hq
  rw [if_neg (by simp [hq])]at e
  have:=sh (P:=P.n.ab) (p:=q) (q:=k) hq
  exact⟨e,aa⟩
theorem ad9(p:PartOf c l ss P i a b k h)(hj:j≤P.n.kids.length)(q:ah):((nP l P i k).s.bE (ar (nP l P i k).n.ab (j:Int))).has q=(P.s.has q&&decide (j=aJ (nP l P i k).n.ab q)):=by
 obtain⟨h1,h2⟩:=cE p.rt'
 have:=p.alx
 rw [cu,eL h1 q aa];rfl
theorem FM(p:PartOf c l ss P i a b k h)(hj:j<P.n.kids.length)(q:ah):(au l P j).s.has q=(P.s.has q&&decide (j=aJ P.n.ab q)):=Iy (cx (p.t.kids p.mem) p.h0).2.2.1 hj q
theorem ha(p:PartOf c l ss P i a b k h)(q:ah):(nA l P i a b k).s.has q=((au l P i).s.has q&&q.lt k):=by
 have h1:=p.ad9 (j:=i) (by have:=p.hi;omega) q
 have h2:=p.FM p.hi q
 show((nP l P i k).s.bE _).has q=_
 rw [h1,h2]
 cases hq:q.lt k
 ·have:=(p.ya q).2 hq
  rw [decide_eq_false aa];simp
 ·have:=(p.ya q).1 hq
  rw [this.1];simp
theorem hb(p:PartOf c l ss P i a b k h)(q:ah):(nB l P i a b k).s.has q=((au l P i).s.has q&& !q.lt k):=by
 have h1:=p.ad9 (j:=i+1) (by have:=p.hi;omega) q
 have h2:=p.FM p.hi q
 show((nP l P i k).s.bE (ar _ ((i+1:Nat):Int))).has q=_
 rw [h1,h2]
 cases hq:q.lt k
 ·have:=(p.ya q).2 hq
  rw [this.1];simp
 ·have:=(p.ya q).1 hq
  rw [decide_eq_false (show ¬i+1=aJ (nP l P i k).n.ab q by omega)];simp
theorem ams(p:PartOf c l ss P i a b k h):(nA l P i a b k).ms=aK (nA l P i a b k).s (au l P i).ms:=by
 have h1:=(p.t.two p.mem (nA l P i a b k).s).1
 have h2:=(p.t.zE p.mem (p.t.vF P p.mem) i).1
 rw [h2,ff,dX (fun q hq=>by rw [p.ha,Bool.and_eq_true]at hq;exact hq.1),dX (fun q hq=>by rw [p.ha,Bool.and_eq_true]at hq;exact hq.1),←h1]
 rfl
theorem bms(p:PartOf c l ss P i a b k h):(nB l P i a b k).ms=aK (nB l P i a b k).s (au l P i).ms:=by
 have h1:=(p.t.two p.mem (nB l P i a b k).s).1
 have h2:=(p.t.zE p.mem (p.t.vF P p.mem) i).1
 rw [h2,ff,dX (fun q hq=>by rw [p.hb,Bool.and_eq_true]at hq;exact hq.1),dX (fun q hq=>by rw [p.hb,Bool.and_eq_true]at hq;exact hq.1),←h1]
 rfl
theorem an(p:PartOf c l ss P i a b k h):(nA l P i a b k).n=a:=by
 show(bL _ ((nP l P i k).n.kids.getD i 0)).1=a
 rw [p.Ei,if_pos (Nat.le_refl i),p.jP p.mem p.h0 p.hi,p.ad7]
theorem bn(p:PartOf c l ss P i a b k h):(nB l P i a b k).n=b:=by
 show(bL _ ((nP l P i k).n.kids.getD (i+1) 0)).1=b
 rw [p.Ei,if_neg aa,if_pos rfl,p.ad8]
theorem hs(p:PartOf c l ss P i a b k h):j9 (au l P i) (nA l P i a b k) (nB l P i a b k) k h:=by
 refine⟨by rw [p.an,p.bn];exact p.hv,p.ha,p.hb,fj _ _,fj _ _,fun s hs=> ?_,fun s hs=> ?_⟩
 ·rw [p.an,p.ams,dX hs]
  by_cases h0:(au l P i).n.level=0
  ·rw [(p.m0 h0).1]
  ·rw [(p.m1 h0).1,dX fun q hq=> ?_]
   have:=hs q hq
   rw [p.ha,Bool.and_eq_true]at this
   exact cD.2 ⟨ah.nil_le q,.inr this.2⟩
 ·rw [p.bn,p.bms,dX hs]
  by_cases h0:(au l P i).n.level=0
  ·rw [(p.m0 h0).2]
  ·rw [(p.m1 h0).2,dX fun q hq=> ?_]
   have:=hs q hq
   rw [p.hb,Bool.and_eq_true]at this
   exact cD.2 ⟨by simpa using this.2,.inl rfl⟩
end PartOf
namespace PartOf
variable {c:aQ} {l:List Nd} {ss:List aC} {P:aC} {i:Nat} {a b:Nd} {k:ah} {h:Nat}
noncomputable def fP (l:List Nd) (P:aC) (i:Nat) (a b:Nd) (k:ah) (x:aC):List aC:=
 if x.n.slot=(au l P i).n.slot then [nA l P i a b k,nB l P i a b k]else if x.n.slot=P.n.slot then [nP l P i k]else [x]
theorem f_k:fP l P i a b k (au l P i)=[nA l P i a b k,nB l P i a b k]:=if_pos rfl
theorem f_p(p:PartOf c l ss P i a b k h):fP l P i a b k P=[nP l P i k]:=by
 unfold fP;rw [if_neg p.x9.symm,if_pos rfl]
variable {x:aC}
theorem Vi(h1:x.n.slot≠P.n.slot)(h2:x.n.slot≠(au l P i).n.slot):fP l P i a b k x=[x]:=by
 unfold fP;rw [if_neg h2,if_neg h1]
theorem Vj(p:PartOf c l ss P i a b k h):(dz (c7 l P.n i a b k) (nA l P i a b k)).isSome=true∧(dz (c7 l P.n i a b k) (nB l P i a b k)).isSome=true∧bB (c7 l P.n i a b k) (nA l P i a b k)++bB (c7 l P.n i a b k) (nB l P i a b k)=bB l (au l P i):=by
 refine j9.kids p.t p.km.1 p.hs fun j hj=> ?_
 by_cases h0:(au l P i).n.level=0
 ·have:=(p.t.leaf p.km.1 h0).1
  omega
 ·have e:=p.t.at p.km.1 h0 hj
  have g:=p.km.2
  rw [p.jP p.km.1 h0 hj]
  exact p.vO e.1 (p.ne e.1 p.mem aa) (p.ne e.1 p.km.1 aa)
variable {j:Nat}
theorem axf(p:PartOf c l ss P i a b k h)(hj:j<i):bL (c7 l P.n i a b k) ((nP l P i k).n.kids.getD j 0)=bL l (P.n.kids.getD j 0):=by
 have hi:=p.hi
 have e:=p.t.at p.mem p.h0 (j:=j) aa
 have jj:=(cx (p.t.kids p.mem) p.h0)
 rw [p.Ei,if_pos aa,p.jP p.mem p.h0 aa]
 refine p.vO e.1 (p.ne e.1 p.mem aa) fun e2=> ?_
 have:=p.t.GD p.mem (i:=j) (j:=i) (by rw [jj.1,gG];omega) (by rw [jj.1,gG];omega) (by rw [(p.t.mE p.mem p.h0).2,(p.t.mE p.mem p.h0).2];exact e2)
 omega
theorem axg(p:PartOf c l ss P i a b k h)(hj:i<j)(hj2:j<P.n.kids.length):bL (c7 l P.n i a b k) ((nP l P i k).n.kids.getD (j+1) 0)=bL l (P.n.kids.getD j 0):=by
 have hi:=p.hi
 have e:=p.t.at p.mem p.h0 (j:=j) aa
 have jj:=(cx (p.t.kids p.mem) p.h0)
 rw [p.Ei,if_neg aa,if_neg aa,show j+1-1=j from rfl,p.jP p.mem p.h0 aa]
 refine p.vO e.1 (p.ne e.1 p.mem aa) fun e2=> ?_
 have:=p.t.GD p.mem (i:=j) (j:=i) (by rw [jj.1,gG];omega) (by rw [jj.1,gG];omega) (by rw [(p.t.mE p.mem p.h0).2,(p.t.mE p.mem p.h0).2];exact e2)
 omega
theorem aHZ(p:PartOf c l ss P i a b k h)(hj:j<i):au (c7 l P.n i a b k) (nP l P i k) j=au l P j:=by
 have hi:=p.hi
 refine oG (by rw [p.axf hj]) (fun q=> ?_) fun s _=>rfl
 show _=(au l P j).s.has q
 rw [p.ad9 aa,p.FM aa]
 cases hq:q.lt k
 ·have:=(p.ya q).2 hq
  rw [decide_eq_false (show ¬j=aJ (nP l P i k).n.ab q by omega),decide_eq_false (show ¬j=aJ P.n.ab q by omega)]
 ·rw [((p.ya q).1 hq).1]
theorem aH0(p:PartOf c l ss P i a b k h)(hj:i<j)(hj2:j<P.n.kids.length):au (c7 l P.n i a b k) (nP l P i k) (j+1)=au l P j:=by
 refine oG (by rw [p.axg hj hj2]) (fun q=> ?_) fun s _=>rfl
 show _=(au l P j).s.has q
 rw [p.ad9 aa,p.FM aa]
 cases hq:q.lt k
 ·rw [((p.ya q).2 hq).1];simp
 ·have:=(p.ya q).1 hq
  rw [decide_eq_false (show ¬j+1=aJ (nP l P i k).n.ab q by omega),decide_eq_false (show ¬j=aJ P.n.ab q by omega)]
theorem axh(p:PartOf c l ss P i a b k h):(dz (c7 l P.n i a b k) (nP l P i k)).isSome=true∧bB (c7 l P.n i a b k) (nP l P i k)=(bB l P).flatMap (fP l P i a b k):=by
 obtain⟨h1,h2,h3,h4⟩:=cx (p.t.kids p.mem) p.h0
 have hi:=p.hi
 have jj:=p.alx
 have iP:=p.km.2
 obtain⟨g1,g2⟩:=qZ (l:=c7 l P.n i a b k) (x:=nP l P i k) h2 p.rt' fun j hj=>by
  by_cases c1:j<i
  ·rw [oI (l':=l) (y:=P) (j:=j) (p.axf c1) rfl];exact h4 j aa
  ·by_cases c2:j=i
   ·subst c2
    unfold gT
    rw [p.Ei,if_pos (Nat.le_refl _),p.jP p.mem p.h0 p.hi,p.ad7]
    simp only [Bool.true_and,decide_eq_true_eq]
    rw [p.hv.la,iP];rfl
   ·by_cases c3:j=i+1
    ·subst c3
     unfold gT
     rw [p.Ei,if_neg aa,if_pos rfl,p.ad8]
     simp only [Bool.true_and,decide_eq_true_eq]
     rw [p.hv.lb,iP];rfl
    ·obtain⟨q,rfl⟩:∃q,j=q+1:=⟨j-1,aa⟩
     rw [oI (l':=l) (y:=P) (j:=q) (p.axg aa aa) rfl];exact h4 q aa
 refine⟨g1,?_⟩
 obtain⟨r,hr⟩:∃r,P.n.kids.length=i+(1+r):=⟨P.n.kids.length-(i+1),aa⟩
 rw [g2,h1,jj,hr,show i+(1+r)+1=i+(2+r)by omega]
 have hf:∀j,j<P.n.kids.length→j≠i→fP l P i a b k (au l P j)=[au l P j]:=fun j hj lR=>by
  have e:=p.t.at p.mem p.h0 hj
  refine Vi (p.ne e.1 p.mem aa) fun e2=> ?_
  have:=p.t.GD p.mem (i:=j) (j:=i) (by rw [h1,gG];omega) (by rw [h1,gG];omega) (by rw [(p.t.mE p.mem p.h0).2,(p.t.mE p.mem p.h0).2];exact e2)
  exact lR this
 unfold iy
 rw [show List.range (i+(2+r))=List.range i++(List.range (2+r)).map (i+ ·)from List.range_add,show List.range (i+(1+r))=List.range i++(List.range (1+r)).map (i+ ·)from List.range_add,List.map_append,List.map_append,List.flatMap_append,List.map_map,List.map_map]
 congr 1
 ·rw [CG fun y hy=> ?_]
  ·exact List.map_congr_left fun j hj=>p.aHZ (List.mem_range.1 hj)
  ·obtain⟨j,hj,rfl⟩:=List.mem_map.1 hy
   have:=List.mem_range.1 hj
   exact hf j aa aa
 ·rw [show List.range (2+r)=List.range 2++(List.range r).map (2+ ·)from List.range_add,show List.range (1+r)=List.range 1++(List.range r).map (1+ ·)from List.range_add,List.map_append,List.map_append,List.flatMap_append,List.map_map,List.map_map]
  congr 1
  ·show [au (c7 l P.n i a b k) (nP l P i k) (i+0),au (c7 l P.n i a b k) (nP l P i k) (i+1)]=([au l P (i+0)]).flatMap _
   rw [List.flatMap_cons,List.flatMap_nil,List.append_nil,Nat.add_zero,f_k];rfl
  ·rw [CG fun y hy=> ?_]
   ·refine List.map_congr_left fun j hj=> ?_
    have:=List.mem_range.1 hj
    have e:=p.aH0 (j:=i+(1+j)) aa aa
    rw [show i+(1+j)+1=i+(2+j)by omega]at e
    exact e
   ·obtain⟨j,hj,rfl⟩:=List.mem_map.1 hy
    have:=List.mem_range.1 hj
    exact hf (i+(1+j)) aa aa
theorem aea(p:PartOf c l ss P i a b k h):au l P i∈bB l P:=by
 have h1:=(cx (p.t.kids p.mem) p.h0).1
 rw [h1]
 exact List.mem_map.2 ⟨i,List.mem_range.2 p.hi,rfl⟩
theorem Vk(p:PartOf c l ss P i a b k h)(hx:x∈ss)(n1:x.n.slot≠P.n.slot):(dz (c7 l P.n i a b k) x).isSome=true∧bB (c7 l P.n i a b k) x=(bB l x).flatMap (fP l P i a b k):=by
 by_cases h0:x.n.level=0
 ·rw [pi h0,fD h0,fD h0];exact⟨rfl,rfl⟩
 ·obtain⟨h1,h2,h3,h4⟩:=cx (p.t.kids hx) h0
  have key:∀j,j<x.n.kids.length→fP l P i a b k (au l x j)=[au (c7 l P.n i a b k) x j]∧gT (c7 l P.n i a b k) x j=true:=fun j hj=>by
   have e:=p.t.at hx h0 hj
   have nO:au l x j∈bB l x:=by rw [h1];exact List.mem_map.2 ⟨j,List.mem_range.2 hj,rfl⟩
   have nk:(au l x j).n.slot≠(au l P i).n.slot:=fun e2=>n1 (by rw [p.t.parent hx p.mem nO p.aea e2])
   by_cases c1:(au l x j).n.slot=P.n.slot
   ·have eP:=p.t.mC e.1 p.mem c1
    have ef:bL (c7 l P.n i a b k) (x.n.kids.getD j 0)=(fg P.n i k l.length,true):=by rw [p.jP hx h0 hj,c1,p.ad6]
    have ek:au (c7 l P.n i a b k) x j=⟨fg P.n i k l.length,(au l x j).s,(au l x j).ms⟩:=by
     show(⟨(bL _ _).1,_,_⟩:aC)=_
     rw [ef];rfl
    refine⟨?_,?_⟩
    ·rw [ek,eP,p.f_p];rfl
    ·unfold gT
     rw [ef]
     simp only [Bool.true_and,decide_eq_true_eq]
     have:=e.2.2.2
     rw [eP]at this
     exact this
   ·have ef:bL (c7 l P.n i a b k) (x.n.kids.getD j 0)=bL l (x.n.kids.getD j 0):=by rw [p.jP hx h0 hj,p.vO e.1 c1 nk]
    refine⟨?_,?_⟩
    ·rw [Vi c1 nk,oG (l:=l) (l':=c7 l P.n i a b k) (x:=x) (y:=x) (i:=j) (j:=j) (by rw [ef]) (fun _=>rfl) (fun _ _=>rfl)]
    ·rw [oI (l':=l) (y:=x) (j:=j) ef rfl];exact h4 j hj
  obtain⟨g1,g2⟩:=qZ (l:=c7 l P.n i a b k) (x:=x) h2 h3 fun j hj=>(key j hj).2
  refine⟨g1,?_⟩
  rw [g2,h1]
  unfold iy
  rw [List.flatMap_map]
  have:∀(L:List Nat),(∀j∈L,j<x.n.kids.length)→L.map (au (c7 l P.n i a b k) x)=L.flatMap fun j=>fP l P i a b k (au l x j):=by
   intro L
   induction L with
   |nil=>intro _;rfl
   |cons j L ih=>
    intro hL
    rw [List.map_cons,List.flatMap_cons,(key j (hL j (by simp))).1,ih fun z hz=>hL z (List.mem_cons_of_mem _ hz)];rfl
  exact this _ fun j hj=>List.mem_range.1 hj
theorem aaW(p:PartOf c l ss P i a b k h):fP l P i a b k (bG l 0)=[bG (c7 l P.n i a b k) 0]:=by
 have n2:(bG l 0).n.slot≠(au l P i).n.slot:=(p.t.D9 p.mem p.aea).symm
 have e0:=p.t.qY
 by_cases c1:(bG l 0).n.slot=P.n.slot
 ·have eP:=p.t.mC p.t.root p.mem c1
  have e:bG (c7 l P.n i a b k) 0=⟨fg P.n i k l.length,(bG l 0).s,(bG l 0).ms⟩:=by
   show(⟨(bL _ _).1,_,_⟩:aC)=_
   have:=p.ad6
   rw [←c1,e0]at this
   rw [this];rfl
  rw [e,eP,p.f_p];rfl
 ·rw [Vi c1 n2]
  have:=p.vO p.t.root c1 n2
  rw [e0]at this
  show [(⟨(bL l 0).1,_,_⟩:aC)]=[⟨(bL _ 0).1,_,_⟩]
  rw [this]
theorem each(p:PartOf c l ss P i a b k h)(hx:x∈ss):(∀z∈fP l P i a b k x,(dz (c7 l P.n i a b k) z).isSome=true)∧(fP l P i a b k x).flatMap (bB (c7 l P.n i a b k))=(bB l x).flatMap (fP l P i a b k):=by
 by_cases c1:x.n.slot=(au l P i).n.slot
 ·rw [p.t.mC hx p.km.1 c1,f_k]
  obtain⟨g1,g2,g3⟩:=p.Vj
  refine⟨fun z hz=> ?_,?_⟩
  ·simp only [List.mem_cons,List.not_mem_nil,or_false]at hz
   rcases hz with rfl|rfl
   ·exact g1
   ·exact g2
  ·rw [CG (L:=bB l (au l P i)) fun y hy=> ?_]
   ·simpa using g3
   ·have e:=p.t.xX p.km.1 hy
    have g:=p.km.2
    exact Vi (p.ne e.1 p.mem aa) (p.ne e.1 p.km.1 aa)
 ·by_cases c2:x.n.slot=P.n.slot
  ·rw [p.t.mC hx p.mem c2,p.f_p]
   refine⟨fun z hz=> ?_,?_⟩
   ·rw [List.mem_singleton]at hz;rw [hz];exact p.axh.1
   ·rw [←p.axh.2];simp
  ·rw [Vi c2 c1]
   refine⟨fun z hz=> ?_,?_⟩
   ·rw [List.mem_singleton]at hz;rw [hz];exact(p.Vk hx c2).1
   ·rw [←(p.Vk hx c2).2];simp
theorem fix(p:PartOf c l ss P i a b k h):ss.flatMap (fP l P i a b k)=bG (c7 l P.n i a b k) 0::(ss.flatMap (fP l P i a b k)).flatMap (bB (c7 l P.n i a b k)):=by
 rw [MR fun x hx=>(p.each hx).2]
 conv=>lhs;rw [p.t.fix]
 rw [List.flatMap_cons,p.aaW];rfl
theorem Ej(p:PartOf c l ss P i a b k h):∀(L:List aC),(∀x∈L,x∈ss∧x.n.slot≠(au l P i).n.slot)→(L.flatMap (fP l P i a b k)).map aC.key=L.map aC.key
 |[],_=>rfl
 |x::L,hL=>by
  rw [List.flatMap_cons,List.map_append,p.Ej L fun z hz=>hL z (List.mem_cons_of_mem _ hz),List.map_cons]
  have g:=hL x (by simp)
  by_cases c2:x.n.slot=P.n.slot
  ·rw [p.t.mC g.1 p.mem c2,p.f_p];rfl
  ·rw [Vi c2 g.2];rfl
theorem keys(p:PartOf c l ss P i a b k h):∃S1 S2:List MC,ss.map aC.key=S1++((au l P i).n.slot,(au l P i).n.level,(au l P i).n.right)::S2∧
  (ss.flatMap (fP l P i a b k)).map aC.key=S1++((au l P i).n.slot,(au l P i).n.level,(l.length:Int))::((l.length:Int),(au l P i).n.level,(au l P i).n.right)::S2:=by
 obtain⟨A,B,e⟩:=List.append_of_mem p.km.1
 have m3:=p.t.xY
 have hA:∀x∈A,x∈ss∧x.n.slot≠(au l P i).n.slot:=fun x hx=>by
  refine⟨by rw [e];exact List.mem_append_left _ hx,fun e2=> ?_⟩
  rw [e,List.map_append,List.nodup_append]at m3
  exact m3.2.2 _ (List.mem_map.2 ⟨x,hx,rfl⟩) _ (List.mem_map.2 ⟨au l P i,by simp,rfl⟩) e2
 have hB:∀x∈B,x∈ss∧x.n.slot≠(au l P i).n.slot:=fun x hx=>by
  refine⟨by rw [e];exact List.mem_append_right _ (List.mem_cons_of_mem _ hx),fun e2=> ?_⟩
  rw [e,List.map_append,List.nodup_append,List.map_cons,List.nodup_cons]at m3
  exact m3.2.1.1 (List.mem_map.2 ⟨x,hx,e2⟩)
 refine⟨A.map aC.key,B.map aC.key,?_,?_⟩
 ·conv=>lhs;rw [e]
  rw [List.map_append,List.map_cons];rfl
 ·conv=>lhs;rw [e]
  rw [List.flatMap_append,List.flatMap_cons,List.map_append,List.map_append,p.Ej A hA,p.Ej B hB,f_k]
  congr 1
  show [aC.key (nA l P i a b k),aC.key (nB l P i a b k)]++_=_
  have k1:aC.key (nA l P i a b k)=((au l P i).n.slot,(au l P i).n.level,(l.length:Int)):=by
   unfold aC.key;rw [p.an,p.sa,p.hv.la,p.hv.Qh,p.sb]
  have k2:aC.key (nB l P i a b k)=((l.length:Int),(au l P i).n.level,(au l P i).n.right):=by
   unfold aC.key;rw [p.bn,p.sb,p.hv.lb,p.hv.MP.2.2]
  rw [k1,k2];rfl
theorem perm(p:PartOf c l ss P i a b k h):((ss.flatMap (fP l P i a b k)).map fun x:aC=>x.n.slot).Perm ((c7 l P.n i a b k).map fun n:Nd=>n.slot):=by
 obtain⟨S1,S2,e1,e2⟩:=p.keys
 have h1:(ss.flatMap (fP l P i a b k)).map (fun x:aC=>x.n.slot)=((ss.flatMap (fP l P i a b k)).map aC.key).map (·.1):=by rw [List.map_map];rfl
 have h2:ss.map (fun x:aC=>x.n.slot)=(ss.map aC.key).map (·.1):=by rw [List.map_map];rfl
 have h3:((ss.flatMap (fP l P i a b k)).map fun x:aC=>x.n.slot).Perm ((ss.map fun x:aC=>x.n.slot)++[(l.length:Int)]):=by
  rw [h1,h2,e1,e2,List.map_append,List.map_append,List.append_assoc]
  refine List.Perm.append_left _ ?_
  simp only [List.map_cons,List.cons_append]
  exact List.Perm.cons _ (List.perm_append_singleton _ _).symm
 refine h3.trans ?_
 have h4:((c7 l P.n i a b k).map fun n:Nd=>n.slot)=(l.map fun n:Nd=>n.slot)++[(l.length:Int)]:=by
  rw [kS p.aL,kS p.t.slot,p.len,List.range_succ,List.map_append];rfl
 rw [h4]
 exact List.Perm.append_right _ p.t.GC
end PartOf
namespace PartOf
variable {c:aQ} {l:List Nd} {ss:List aC} {P:aC} {i:Nat} {a b:Nd} {k:ah} {h:Nat}
theorem msA(p:PartOf c l ss P i a b k h):∀m∈(nA l P i a b k).n.af,∃m'∈(au l P i).n.af,(m'.clip ⟨ah.nil,k,false⟩).2=true∧(m'.clip ⟨ah.nil,k,false⟩).1=m:=fun m hm=>by
 rw [p.an]at hm
 by_cases h0:(au l P i).n.level=0
 ·rw [(p.m0 h0).1,p.t.vE p.km.1 h0]at hm;cases hm
 ·rw [(p.m1 h0).1]at hm;exact iI hm
theorem msB(p:PartOf c l ss P i a b k h):∀m∈(nB l P i a b k).n.af,∃m'∈(au l P i).n.af,(m'.clip ⟨k,ah.nil,true⟩).2=true∧(m'.clip ⟨k,ah.nil,true⟩).1=m:=fun m hm=>by
 rw [p.bn]at hm
 by_cases h0:(au l P i).n.level=0
 ·rw [(p.m0 h0).2,p.t.vE p.km.1 h0]at hm;cases hm
 ·rw [(p.m1 h0).2]at hm;exact iI hm
theorem aH1(p:PartOf c l ss P i a b k h):(au l P i).s.has k=true∧k≠(au l P i).s.lo:=p.t.alw p.km.1 p.hv p.nk
theorem axi(p:PartOf c l ss P i a b k h):P.s.has k=true∧k≠P.s.lo:=by
 obtain⟨k1,k2⟩:=p.aH1
 have h1:P.s.has k=true:=UR (l:=l) (j:=i) k k1
 refine⟨h1,fun e=> ?_⟩
 have he:(au l P i).s.empty=false:=by
  cases e9:(au l P i).s.empty
  ·rfl
  ·have:=dW.1 e9 k;rw [k1]at this;cases this
 have h2:=UR (l:=l) (j:=i) _ (ay6 he)
 have h3:=(cD.1 h2).1
 have h4:=(cD.1 k1).1
 rw [←e]at h3
 exact k2 (ah.gW h4 h3)
theorem pR(p:PartOf c l ss P i a b k h):(fg P.n i k l.length).R c.bu c.leaf c.bud:=by
 obtain⟨q1,q4,q5,q6⟩:=(p.t.fo p.mem).1
 rw [if_neg p.h0]at q6
 obtain⟨⟨r1,r2,r3⟩,r4,r5,r6,r7,r8,r9⟩:=q6
 obtain⟨⟨p1,p2⟩,_⟩:=(p.t.fo p.mem).2.1
 refine⟨q1,q4,q5,?_⟩
 rw [if_neg (show ¬(fg P.n i k l.length).level=0 from p.h0)]
 have jj:=p.alx
 have hl:(fg P.n i k l.length).kids.length=P.n.kids.length+1:=jj
 have hf:=p.full
 refine⟨⟨r1,aa,aa⟩,p.rt',r5,r6,fun j hj=> ?_,fun j hj=> ?_,r9⟩
 ·have hm:(fg P.n i k l.length).kids[j]∈(P.n.kids.take (i+1)++[(l.length:Int)])++P.n.kids.drop (i+1):=List.getElem_mem hj
  have all:∀z∈P.n.kids,0≤z:=fun z hz=>by obtain⟨q,hq,rfl⟩:=List.getElem_of_mem hz;exact r7 q hq
  rcases List.mem_append.1 hm with hm|hm
  ·rcases List.mem_append.1 hm with hm|hm
   ·exact all _ (List.mem_of_mem_take hm)
   ·rw [List.mem_singleton]at hm;rw [hm];omega
  ·exact all _ (List.mem_of_mem_drop hm)
 ·have hm:(fg P.n i k l.length).ab[j]∈(P.n.ab.take i++[k])++P.n.ab.drop i:=List.getElem_mem hj
  have all:∀z∈P.n.ab,P.n.parts z:=fun z hz=>by obtain⟨q,hq,rfl⟩:=List.getElem_of_mem hz;exact r8 q hq
  rcases List.mem_append.1 hm with hm|hm
  ·rcases List.mem_append.1 hm with hm|hm
   ·exact all _ (List.mem_of_mem_take hm)
   ·rw [List.mem_singleton]at hm;rw [hm]
    refine⟨p.hv.size.1,p.hv.size.2,?_⟩
    show(P.n.cW||k.lt P.n.high)=true
    rw [p1,p2,Bool.or_eq_true]
    exact(cD.1 p.axi.1).2
  ·exact all _ (List.mem_of_mem_drop hm)
theorem pP(p:PartOf c l ss P i a b k h):pj (nP l P i k):=by
 obtain⟨p0,p3,p4,p5⟩:=(p.t.fo p.mem).2.1
 refine⟨p0,p3,fun j hj=> ?_,p5⟩
 have hm:(nP l P i k).n.ab[j]∈(P.n.ab.take i++[k])++P.n.ab.drop i:=List.getElem_mem hj
 have all:∀z∈P.n.ab,P.s.has z=true∧z≠P.s.lo:=fun z hz=>by obtain⟨q,hq,rfl⟩:=List.getElem_of_mem hz;exact p4 q hq
 rcases List.mem_append.1 hm with hm|hm
 ·rcases List.mem_append.1 hm with hm|hm
  ·exact all _ (List.mem_of_mem_take hm)
  ·rw [List.mem_singleton]at hm;rw [hm];exact p.axi
 ·exact all _ (List.mem_of_mem_drop hm)
theorem Qi(p:PartOf c l ss P i a b k h):∀z∈ss.flatMap (fP l P i a b k),vz c z:=fun z hz=>by
 obtain⟨x,hx,hz⟩:=List.mem_flatMap.1 hz
 have sK:=p.t.fo p.km.1
 have room:=p.room
 by_cases c1:x.n.slot=(au l P i).n.slot
 ·rw [p.t.mC hx p.km.1 c1,f_k]at hz
  simp only [List.mem_cons,List.not_mem_nil,or_false]at hz
  have st:∀ {s:Span} {ms:List aA},ms=aK s (au l P i).ms→∀j (hj:j<ms.length),(au l P i).n.seen<ms[j].aO:=fun e j hj=>by
   subst e
   obtain⟨m0,hm0,e⟩:=jG (List.getElem_mem hj)
   rw [e]
   obtain⟨q,hq,rfl⟩:=List.getElem_of_mem hm0
   exact sK.2.2.2 q hq
  rcases hz with rfl|rfl
  ·refine⟨by rw [p.an];exact p.aR,j9.Vg p.t p.km.1 p.hs (fj _ _) p.nk p.msA,by rw [p.an,p.sa];exact sK.2.2.1,fun j hj=> ?_⟩
   rw [p.an,p.ea];exact st p.ams j hj
  ·refine⟨by rw [p.bn];exact p.bR,j9.Vh p.t p.km.1 p.hs (fj _ _) p.nk p.msB,by rw [p.bn,p.sb];exact room,fun j hj=> ?_⟩
   rw [p.bn,p.eb];exact st p.bms j hj
 ·by_cases c2:x.n.slot=P.n.slot
  ·rw [p.t.mC hx p.mem c2,p.f_p,List.mem_singleton]at hz
   rw [hz]
   have sP:=p.t.fo p.mem
   exact⟨p.pR,p.pP,sP.2.2.1,sP.2.2.2⟩
  ·rw [Vi c2 c1,List.mem_singleton]at hz
   rw [hz];exact p.t.fo hx
theorem tree(p:PartOf c l ss P i a b k h):Tree c (c7 l P.n i a b k) (ss.flatMap (fP l P i a b k)):=by
 have aH2:=p.Al
 have IW:=p.room
 refine II p.t.pX (by rw [p.len];omega) (aaV p.t.pX (by rw [p.len];omega) fun n hn=> ?_) p.aL p.fix (fun z hz=> ?_) p.perm ?_ (by rw [p.len];omega) p.Qi
 ·have rQ:∀n∈l,n.R c.bu c.leaf c.bud:=fun n hn=>by
   have:=(p.t.perm.mem_iff).2 hn
   obtain⟨x,hx,rfl⟩:=List.mem_map.1 this
   exact(p.t.fo hx).1
  unfold c7 at hn
  rcases List.mem_append.1 hn with hn|hn
  ·rcases List.mem_or_eq_of_mem_set hn with hn|rfl
   ·rcases List.mem_or_eq_of_mem_set hn with hn|rfl
    ·exact rQ n hn
    ·exact p.aR
   ·exact p.pR
  ·rw [List.mem_singleton]at hn;rw [hn];exact p.bR
 ·obtain⟨x,hx,hz⟩:=List.mem_flatMap.1 hz
  exact(p.each hx).1 z hz
 ·obtain⟨S1,S2,e1,e2⟩:=p.keys
  rw [e2]
  have:=(pq ss).1 p.t.q.1.2.1
  rw [e1]at this
  exact IG S1 S2 this
theorem map(p:PartOf c l ss P i a b k h):mD (c7 l P.n i a b k)=mD l:=by
 rw [zF p.tree.P5,zF p.t.P5]
 refine vN fun x hx=> ?_
 by_cases c1:x.n.slot=(au l P i).n.slot
 ·rw [p.t.mC hx p.km.1 c1,f_k]
  exact j9.view p.t p.km.1 p.hs (fun _=>by rw [p.ams,dX fun _ h=>h]) fun _=>by rw [p.bms,dX fun _ h=>h]
 ·by_cases c2:x.n.slot=P.n.slot
  ·rw [p.t.mC hx p.mem c2,p.f_p]
   have e1:¬P.n.level=0:=p.h0
   have e2:¬(nP l P i k).n.level=0:=p.h0
   simp [du,List.filter_cons,e1,e2]
  ·rw [Vi c2 c1]
end PartOf
theorem aly{c:aQ}{l:List Nd}{ss:List aC}(t:Tree c l ss){P:aC}{i:Nat}(hP:P∈ss)(h0:¬P.n.level=0)(hi:i<P.n.kids.length)(full:(P.n.kids.length:Int)<c.bu)(room:(l.length:Int)<c.aL)(Al:l.length<4096)
  (hc:(aB (au l P i).n l.length).2.2.2=true)(ha:(fE P.n i (aB (au l P i).n l.length).2.2.1 l.length).2=true):
  (fE P.n i (aB (au l P i).n l.length).2.2.1 l.length).1=fg P.n i (aB (au l P i).n l.length).2.2.1 l.length∧
  ∃h,PartOf c l ss P i (aB (au l P i).n l.length).1 (aB (au l P i).n l.length).2.1 (aB (au l P i).n l.length).2.2.1 h:=by
 have hK:=(t.at hP h0 hi).1
 have hR:=(t.fo hK).1
 have hRR:=LJ (slot:=(l.length:Int)) hR aa hc
 obtain⟨a,b,k,h,e,hv,g1,g2,g3,g4,g5,g6,g7⟩:=nm (y:=(l.length:Int)) hR hc
 rw [e]at ha hRR⊢
 have hb:(mf P.n.ab P.n.kids i k l.length).2.length≠0:=fun e0=>by
  rw [mF (.inr e0)]at ha;cases ha
 have h3:(ar P.n.ab (i:Int)).has k=true:=by
  cases h3:(ar P.n.ab (i:Int)).has k
  ·exact absurd (vG (.inr (.inl h3))) hb
  ·rfl
 have h4:¬k=(ar P.n.ab (i:Int)).lo:=fun h4=>absurd (vG (.inr (.inr h4))) hb
 refine⟨?_,h,⟨t,hP,h0,hi,hv,g1,g2,g3,g4,g5,g6,g7,hRR.1,hRR.2.1,h3,h4,full,room,Al⟩⟩
 rw [tN h0 aa h3 h4];rfl
variable {X:List aA}
theorem CH(h:ng X):cC [X,[]]=X:=by
 have:=(oF h List.Pairwise.nil fun a _ b hb=>by cases hb).1
 rwa [List.append_nil]at this
theorem Vl(h:ng X):cC [[],X]=X:=(oF List.Pairwise.nil h fun a ha=>by cases ha).1
def kY (n:Nd) (k:ah) (x y:Int):Nd:={ n with level:=n.level+1,ab:=[k],kids:=[x,y],rows:=[],af:=if n.level=0 then []else n.af }
def eS (n z:Nd) (s:Int):Nd:={ z with slot:=s,af:=[],seen:=if n.level=0 then z.seen else 0 }
def cP (n:Nd) (x y:Int):Nd×Nd×Nd×Bool:=
 if(aB n y).2.2.2=true then(kY n (aB n y).2.2.1 x y,eS n (aB n y).1 x,eS n (aB n y).2.1 (aB n y).2.1.slot,true)else(Nd.zero,Nd.zero,Nd.zero,false)
variable {x:Int} {y:Int}
theorem pr{n:Nd}(h:(aB n y).2.2.2=true):cP n x y=(kY n (aB n y).2.2.1 x y,eS n (aB n y).1 x,eS n (aB n y).2.1 (aB n y).2.1.slot,true):=if_pos h
theorem IX{n:Nd}(h:(aB n y).2.2.2=false):cP n x y=(Nd.zero,Nd.zero,Nd.zero,false):=if_neg (by simp [h])
theorem MS{n:Nd}(h:(aB n y).2.2.2=true)(h0:¬n.level=0):cP n x y=({ n with level:=n.level+1,ab:=[(aB n y).2.2.1],kids:=[x,y],rows:=[] },{ (aB n y).1 with slot:=x,af:=[],seen:=0 },{ (aB n y).2.1 with af:=[],seen:=0 },true):=by
 rw [pr h];unfold kY eS;rw [if_neg h0,if_neg h0,if_neg h0]
theorem MT{n:Nd}(h:(aB n y).2.2.2=true)(h0:n.level=0):cP n x y=({ n with level:=n.level+1,ab:=[(aB n y).2.2.1],kids:=[x,y],rows:=[],af:=[] },{ (aB n y).1 with slot:=x,af:=[] },{ (aB n y).2.1 with af:=[] },true):=by
 rw [pr h];unfold kY eS;rw [if_pos h0,if_pos h0,if_pos h0]
def cw (c:aQ) (n:Nd):Bool:=if n.level=0 then decide (c.leaf≤(n.rows.length:Int))else decide (c.bu≤(n.kids.length:Int))
theorem pw(n:Nd)(x y:Int):(cP n x y).2.2.2=(aB n y).2.2.2:=by
 cases h:(aB n y).2.2.2
 ·rw [IX h]
 ·rw [pr h]
def iR (l:List Nd) (r a b:Nd):List Nd:=(l.set 0 r)++[a,b]
structure LiftOf (c:aQ) (l:List Nd) (ss:List aC) (a0 b0:Nd) (k:ah) (h:Nat):Prop where
 t:Tree c l ss
 hv:CF (bG l 0).n a0 b0 k h
 sb:b0.slot=(l.length:Int)+1
 ea:a0.seen=(bG l 0).n.seen
 eb:b0.seen=(bG l 0).n.seen
 nk:(bG l 0).n.has k=true
 aR:a0.R c.bu c.leaf c.bud
 bR:b0.R c.bu c.leaf c.bud
 room:(l.length:Int)+1<c.aL
 Al:l.length+2≤4096
namespace LiftOf
variable {c:aQ} {l:List Nd} {ss:List aC} {a0 b0:Nd} {k:ah} {h:Nat}
noncomputable def nn (l:List Nd):Nd:=(bG l 0).n
noncomputable def la (l:List Nd) (a0:Nd):Nd:=eS (nn l) a0 (l.length:Int)
noncomputable def lb (l:List Nd) (b0:Nd):Nd:=eS (nn l) b0 ((l.length:Int)+1)
noncomputable def lr (l:List Nd) (k:ah):Nd:=kY (nn l) k (l.length:Int) ((l.length:Int)+1)
noncomputable def ll (l:List Nd) (a0 b0:Nd) (k:ah):List Nd:=iR l (lr l k) (la l a0) (lb l b0)
theorem qY(p:LiftOf c l ss a0 b0 k h):(nn l).slot=0:=p.t.qY
theorem seen(p:LiftOf c l ss a0 b0 k h):(nn l).seen≤1099511627776∧0≤(nn l).seen:=by
 obtain⟨j,hj,e⟩:=List.getElem_of_mem (p.t.nd p.t.root).2.2
 have h1:=(p.t.slot j hj).2
 rw [e]at h1
 exact⟨h1,(p.t.fo p.t.root).1.1.2.2⟩
theorem af(p:LiftOf c l ss a0 b0 k h):(lr l k).af=(nn l).af:=by
 show(if(nn l).level=0 then []else(nn l).af)=_
 split
 ·rename_i h0;exact(p.t.vE p.t.root h0).symm
 ·rfl
theorem len(p:LiftOf c l ss a0 b0 k h):(ll l a0 b0 k).length=l.length+2:=by
 unfold ll iR;rw [List.length_append,List.length_set];rfl
theorem aL(p:LiftOf c l ss a0 b0 k h):eQ (ll l a0 b0 k):=by
 have hp:=p.t.pos
 have hs:=p.seen
 have h1:=rh p.t.slot (x:=lr l k) (by show 0≤(nn l).slot∧_;rw [show(lr l k).slot=(nn l).slot from rfl,p.qY];omega) hs.1
 rw [show(lr l k).slot.toNat=0 from by rw [show(lr l k).slot=(nn l).slot from rfl,p.qY];rfl]at h1
 have sA:(la l a0).seen≤1099511627776:=by
  show(if(nn l).level=0 then a0.seen else 0)≤_
  split
  ·rw [p.ea];exact hs.1
  ·omega
 have sB:(lb l b0).seen≤1099511627776:=by
  show(if(nn l).level=0 then b0.seen else 0)≤_
  split
  ·rw [p.eb];exact hs.1
  ·omega
 have h2:=x7 h1 (x:=la l a0) (by rw [List.length_set];rfl) sA
 have h3:=x7 h2 (x:=lb l b0) (by rw [List.length_append,List.length_set];rfl) sB
 rw [List.append_assoc]at h3
 exact h3
theorem get(p:LiftOf c l ss a0 b0 k h)(s:Int):ag (ll l a0 b0 k) s=if s=(l.length:Int)+1 then lb l b0 else if s=l.length then la l a0 else if s=0 then lr l k else ag l s:=by
 have hp:=p.t.pos
 have e:ll l a0 b0 k=((l.set (lr l k).slot.toNat (lr l k))++[la l a0])++[lb l b0]:=by
  rw [show(lr l k).slot.toNat=0 from by rw [show(lr l k).slot=(nn l).slot from rfl,p.qY];rfl,List.append_assoc];rfl
 have h0:(lr l k).slot=0:=p.qY
 rw [e,vL,vL,List.length_append,List.length_set,kR (by rw [h0];omega),h0]
 rfl
theorem find(p:LiftOf c l ss a0 b0 k h)(s:Int):bL (ll l a0 b0 k) s=(if s=(l.length:Int)+1 then lb l b0 else if s=l.length then la l a0 else if s=0 then lr l k else ag l s,decide (0≤s∧s<(l.length:Int)+2)):=by
 rw [pn p.aL,p.get,p.len];rfl
variable {x:aC}
theorem vO(p:LiftOf c l ss a0 b0 k h)(hx:x∈ss)(h1:x.n.slot≠0):bL (ll l a0 b0 k) x.n.slot=bL l x.n.slot:=by
 have:=(p.t.nd hx).1
 rw [p.find,if_neg aa,if_neg aa,if_neg h1,pn p.t.slot,decide_eq_true aa,decide_eq_true aa]
theorem aun(p:LiftOf c l ss a0 b0 k h):bL (ll l a0 b0 k) 0=(lr l k,true):=by
 have:=p.t.pos
 rw [p.find,if_neg aa,if_neg aa,if_pos rfl,decide_eq_true aa]
theorem aeb(p:LiftOf c l ss a0 b0 k h):bL (ll l a0 b0 k) (l.length:Int)=(la l a0,true):=by
 rw [p.find,if_neg aa,if_pos rfl,decide_eq_true aa]
theorem GB(p:LiftOf c l ss a0 b0 k h):bL (ll l a0 b0 k) ((l.length:Int)+1)=(lb l b0,true):=by
 rw [p.find,if_pos rfl,decide_eq_true aa]
noncomputable def nR (l:List Nd) (k:ah):aC:=⟨lr l k,Span.all,[]⟩
noncomputable def nA (l:List Nd) (a0 b0:Nd) (k:ah):aC:=au (ll l a0 b0 k) (nR l k) 0
noncomputable def nB (l:List Nd) (a0 b0:Nd) (k:ah):aC:=au (ll l a0 b0 k) (nR l k) 1
theorem aza(p:LiftOf c l ss a0 b0 k h):bG (ll l a0 b0 k) 0=nR l k:=by
 show(⟨(bL _ 0).1,_,_⟩:aC)=_
 rw [p.aun];rfl
theorem an(p:LiftOf c l ss a0 b0 k h):(nA l a0 b0 k).n=la l a0:=by
 show(bL _ (l.length:Int)).1=_
 rw [p.aeb]
theorem bn(p:LiftOf c l ss a0 b0 k h):(nB l a0 b0 k).n=lb l b0:=by
 show(bL _ ((l.length:Int)+1)).1=_
 rw [p.GB]
theorem aec(k q:ah):aJ [k] q=if q.lt k=true then 0 else 1:=by
 unfold aJ
 cases h:q.lt k<;>simp [List.filter_cons,h]
theorem ha(p:LiftOf c l ss a0 b0 k h)(q:ah):(nA l a0 b0 k).s.has q=((bG l 0).s.has q&&q.lt k):=by
 show(Span.all.bE (ar [k] ((0:Nat):Int))).has q=(Span.all.has q&&_)
 rw [cu,eL (by rfl) q (Nat.zero_le _),aec]
 cases q.lt k<;>simp
theorem hb(p:LiftOf c l ss a0 b0 k h)(q:ah):(nB l a0 b0 k).s.has q=((bG l 0).s.has q&& !q.lt k):=by
 show(Span.all.bE (ar [k] ((1:Nat):Int))).has q=(Span.all.has q&&_)
 rw [cu,eL (by rfl) q (by simp),aec]
 cases q.lt k<;>simp
theorem vF(p:LiftOf c l ss a0 b0 k h):ng (nn l).af:=(p.t.af p.t.root).1
theorem ams(p:LiftOf c l ss a0 b0 k h):(nA l a0 b0 k).ms=aK (nA l a0 b0 k).s (nn l).af:=by
 show cC [aK (nA l a0 b0 k).s (lr l k).af,[]]=_
 rw [p.af,CH (ia p.vF)]
theorem bms(p:LiftOf c l ss a0 b0 k h):(nB l a0 b0 k).ms=aK (nB l a0 b0 k).s (nn l).af:=by
 show cC [aK (nB l a0 b0 k).s (lr l k).af,[]]=_
 rw [p.af,CH (ia p.vF)]
theorem hs(p:LiftOf c l ss a0 b0 k h):j9 (bG l 0) (nA l a0 b0 k) (nB l a0 b0 k) k h:=by
 refine⟨?_,p.ha,p.hb,fj _ _,fj _ _,fun s hs=> ?_,fun s hs=> ?_⟩
 ·rw [p.an,p.bn]
  have hv:=p.hv
  exact⟨hv.la,hv.lb,hv.alv,hv.MP,hv.Qh.trans p.sb,hv.leaf,hv.inner,hv.size⟩
 ·rw [p.an,p.ams,dX hs]
  show cC [[],aK s (nn l).af]=cC [aK s (nn l).af,[]]
  rw [CH (ia p.vF),Vl (ia p.vF)]
 ·rw [p.bn,p.bms,dX hs]
  show cC [[],aK s (nn l).af]=cC [aK s (nn l).af,[]]
  rw [CH (ia p.vF),Vl (ia p.vF)]
variable {j:Nat}
theorem jP(p:LiftOf c l ss a0 b0 k h)(hx:x∈ss)(h0:¬x.n.level=0)(hj:j<x.n.kids.length):x.n.kids.getD j 0=(au l x j).n.slot:=by
 have e:=(p.t.at hx h0 hj)
 rw [List.getD_eq_getElem?_getD,List.getElem?_eq_getElem hj,e.2.2.1,(di p.t.slot e.2.1).1];rfl
theorem alz(p:LiftOf c l ss a0 b0 k h)(hx:x∈ss)(h0:¬x.n.level=0)(hj:j<x.n.kids.length):bL (ll l a0 b0 k) (x.n.kids.getD j 0)=bL l (x.n.kids.getD j 0):=by
 rw [p.jP hx h0 hj]
 refine p.vO (p.t.at hx h0 hj).1 fun e=> ?_
 have nO:au l x j∈bB l x:=by rw [(cx (p.t.kids hx) h0).1];exact List.mem_map.2 ⟨j,List.mem_range.2 hj,rfl⟩
 exact p.t.D9 hx nO (by rw [e];exact p.t.qY.symm)
theorem Vj(p:LiftOf c l ss a0 b0 k h):(dz (ll l a0 b0 k) (nA l a0 b0 k)).isSome=true∧(dz (ll l a0 b0 k) (nB l a0 b0 k)).isSome=true∧bB (ll l a0 b0 k) (nA l a0 b0 k)++bB (ll l a0 b0 k) (nB l a0 b0 k)=bB l (bG l 0):=by
 refine j9.kids p.t p.t.root p.hs fun j hj=> ?_
 by_cases h0:(bG l 0).n.level=0
 ·have:=(p.t.leaf p.t.root h0).1
  omega
 ·exact p.alz p.t.root h0 hj
theorem axj(p:LiftOf c l ss a0 b0 k h):(dz (ll l a0 b0 k) (nR l k)).isSome=true∧bB (ll l a0 b0 k) (nR l k)=[nA l a0 b0 k,nB l a0 b0 k]:=by
 have hl:=p.t.lvl p.t.root
 obtain⟨g1,g2⟩:=qZ (l:=ll l a0 b0 k) (x:=nR l k) (by show 0<(nn l).level+1;have:0≤(nn l).level:=hl;omega) (by rfl) fun j hj=>by
  have hj:j<2:=hj
  have e:∀z:Nd,z.level=(nn l).level→decide (z.level=(nR l k).n.level-1)=true:=fun z hz=>by
   rw [decide_eq_true_eq,hz]
   show _=(nn l).level+1-1
   omega
  unfold gT
  rcases Nat.lt_or_ge j 1 with h|h
  ·have:j=0:=aa
   subst this
   show((bL _ (l.length:Int)).2&&_)=true
   rw [show(nR l k).n.kids.getD 0 0=(l.length:Int)from rfl,p.aeb]
   exact e (la l a0) p.hv.la
  ·have:j=1:=aa
   subst this
   show((bL _ ((l.length:Int)+1)).2&&_)=true
   rw [show(nR l k).n.kids.getD 1 0=(l.length:Int)+1 from rfl,p.GB]
   exact e (lb l b0) p.hv.lb
 exact⟨g1,g2⟩
theorem Vk(p:LiftOf c l ss a0 b0 k h)(hx:x∈ss):(dz (ll l a0 b0 k) x).isSome=true∧bB (ll l a0 b0 k) x=bB l x:=by
 by_cases h0:x.n.level=0
 ·rw [pi h0,fD h0,fD h0];exact⟨rfl,rfl⟩
 ·obtain⟨h1,h2,h3,h4⟩:=cx (p.t.kids hx) h0
  obtain⟨g1,g2⟩:=qZ (l:=ll l a0 b0 k) (x:=x) h2 h3 fun j hj=>by
   rw [oI (l':=l) (y:=x) (j:=j) (p.alz hx h0 hj) rfl];exact h4 j hj
  refine⟨g1,?_⟩
  rw [g2,h1]
  exact List.map_congr_left fun j hj=>oG (by rw [p.alz hx h0 (List.mem_range.1 hj)]) (fun _=>rfl) fun _ _=>rfl
noncomputable def rest (l:List Nd) (ss:List aC):List aC:=ss.flatMap (bB l)
theorem IY(p:LiftOf c l ss a0 b0 k h)(hx:x∈rest l ss):x∈ss:=by
 rw [p.t.fix];exact List.mem_cons_of_mem _ hx
theorem ag9(p:LiftOf c l ss a0 b0 k h):rest l ss=bB l (bG l 0)++(rest l ss).flatMap (bB l):=by
 have h1:rest l ss=(bG l 0::rest l ss).flatMap (bB l):=by
  conv=>lhs;unfold rest;rw [p.t.fix]
  rfl
 rw [List.flatMap_cons]at h1
 exact h1
theorem IZ{f g:aC→List aC} :∀ {L:List aC},(∀x∈L,f x=g x)→L.flatMap f=L.flatMap g
 |[],_=>rfl
 |x::L,h=>by rw [List.flatMap_cons,List.flatMap_cons,h x (by simp),IZ fun z hz=>h z (List.mem_cons_of_mem _ hz)]
noncomputable def oM (l:List Nd) (ss:List aC) (a0 b0:Nd) (k:ah):List aC:=nR l k::nA l a0 b0 k::nB l a0 b0 k::rest l ss
theorem fix(p:LiftOf c l ss a0 b0 k h):oM l ss a0 b0 k=bG (ll l a0 b0 k) 0::(oM l ss a0 b0 k).flatMap (bB (ll l a0 b0 k)):=by
 rw [p.aza]
 unfold oM
 rw [List.flatMap_cons,List.flatMap_cons,List.flatMap_cons,p.axj.2,←List.append_assoc (bB _ (nA l a0 b0 k)),p.Vj.2.2,IZ fun x hx=>(p.Vk (p.IY hx)).2,←p.ag9]
 rfl
theorem cW(p:LiftOf c l ss a0 b0 k h):(nn l).cW=true∧(nn l).high=ah.nil∧(nn l).right= -1:=by
 have h1:=(p.t.fo p.t.root).2.1.1.1
 have h2:(nn l).cW=true:=h1
 have h3:=(p.t.fo p.t.root).1.2.1 h2
 exact⟨h2,h3.1,h3.2⟩
theorem perm(p:LiftOf c l ss a0 b0 k h):((oM l ss a0 b0 k).map fun x:aC=>x.n.slot).Perm ((ll l a0 b0 k).map fun n:Nd=>n.slot):=by
 have h4:((ll l a0 b0 k).map fun n:Nd=>n.slot)=(l.map fun n:Nd=>n.slot)++[(l.length:Int),(l.length:Int)+1]:=by
  rw [kS p.aL,kS p.t.slot,p.len,List.range_succ,List.range_succ,List.map_append,List.map_append,List.append_assoc];rfl
 have h5:=p.t.GC
 rw [p.t.fix]at h5
 rw [h4]
 refine List.Perm.trans ?_ (List.Perm.append_right _ h5)
 unfold oM
 rw [List.map_cons,List.map_cons,List.map_cons,List.map_cons,p.an,p.bn,List.cons_append]
 rw [show(nR l k).n.slot=(bG l 0).n.slot from rfl]
 refine List.Perm.cons _ ?_
 exact(List.perm_append_comm (l₁:=[(l.length:Int),(l.length:Int)+1]))
theorem lk(p:LiftOf c l ss a0 b0 k h):Gm ((oM l ss a0 b0 k).map aC.key):=by
 have h1:=(pq ss).1 p.t.q.1.2.1
 rw [p.t.fix,List.map_cons]at h1
 have e0:aC.key (bG l 0)=((nn l).slot,(nn l).level,-1):=by
  show((nn l).slot,(nn l).level,(nn l).right)=_
  rw [p.cW.2.2]
 rw [e0]at h1
 have h2:=alm (x:=(l.length:Int)) (y:=(l.length:Int)+1) h1
 unfold oM
 rw [List.map_cons,List.map_cons,List.map_cons]
 have e1:aC.key (nR l k)=((nn l).slot,(nn l).level+1,-1):=by
  show((nn l).slot,(nn l).level+1,(nn l).right)=_
  rw [p.cW.2.2]
 have e2:aC.key (nA l a0 b0 k)=((l.length:Int),(nn l).level,(l.length:Int)+1):=by
  unfold aC.key;rw [p.an]
  show((l.length:Int),a0.level,a0.right)=_
  rw [p.hv.la,p.hv.Qh,p.sb];rfl
 have e3:aC.key (nB l a0 b0 k)=((l.length:Int)+1,(nn l).level,-1):=by
  unfold aC.key;rw [p.bn]
  show((l.length:Int)+1,b0.level,b0.right)=_
  rw [p.hv.lb,p.hv.MP.2.2,show(bG l 0).n.right=(nn l).right from rfl,p.cW.2.2];rfl
 rw [e1,e2,e3]
 exact h2
theorem Qj(p:LiftOf c l ss a0 b0 k h){z:Nd}(hz:z.R c.bu c.leaf c.bud)(s:Int)(hs:0≤s):(eS (nn l) z s).R c.bu c.leaf c.bud:=by
 obtain⟨⟨q1,q2,q3⟩,q4,q5,q6⟩:=hz
 have hc:=p.t.pX.2.2.1
 refine⟨⟨hs,q2,?_⟩,q4,q5,?_⟩
 ·show 0≤(if(nn l).level=0 then z.seen else 0)
  split<;>omega
 ·by_cases h0:z.level=0
  ·rw [if_pos h0]at q6
   rw [if_pos (show(eS (nn l) z s).level=0 from h0)]
   obtain⟨r1,r2,r3,r4⟩:=q6
   exact⟨by show z.ab.length+z.kids.length+0=0;omega,r2,r3,r4⟩
  ·rw [if_neg h0]at q6
   rw [if_neg (show ¬(eS (nn l) z s).level=0 from h0)]
   obtain⟨r1,r4,r5,r6,r7,r8,r9⟩:=q6
   exact⟨r1,r4,(fun i hi=>absurd hi (Nat.not_lt_zero _)),by show(0:Int)≤_;omega,r7,r8,fun i hi=>absurd hi (Nat.not_lt_zero _)⟩
theorem rR(p:LiftOf c l ss a0 b0 k h):(lr l k).R c.bu c.leaf c.bud:=by
 obtain⟨⟨q1,q2,q3⟩,q4,q5,q6⟩:=(p.t.fo p.t.root).1
 have hc:=p.t.pX
 have h0:¬(lr l k).level=0:=by show ¬(nn l).level+1=0;have:0≤(nn l).level:=q2;omega
 have hn:dD (lr l k).af∧bI (lr l k).af≤c.bud∧∀i (h:i<(lr l k).af.length),(lr l k).fits (lr l k).af[i]:=by
  by_cases h1:(nn l).level=0
  ·have e:(lr l k).af=[]:=if_pos h1
   rw [e]
   exact⟨fun i hi=>absurd hi (Nat.not_lt_zero _),by show(0:Int)≤_;have:=hc.2.2.1;omega,fun i hi=>absurd hi (Nat.not_lt_zero _)⟩
  ·have q6:(nn l).kK c.bu c.bud:=p.t.inner p.t.root h1
   obtain⟨r1,r4,r5,r6,r7,r8,r9⟩:=q6
   have e:=p.af
   refine⟨by rw [e];exact r5,by rw [e];exact r6,fun i hi=> ?_⟩
   have gS:i<(nn l).af.length:=by rw [←e];exact hi
   have e2:(lr l k).af[i]=(nn l).af[i]:=by simp only [e]
   rw [e2];exact r9 i gS
 refine⟨⟨q1,by show 0≤(nn l).level+1;have:0≤(nn l).level:=q2;omega,q3⟩,q4,q5,?_⟩
 rw [if_neg h0]
 refine⟨⟨rfl,by show 2≤2;omega,by show((2:Nat):Int)≤_;have:=hc.1;omega⟩,by rfl,hn.1,hn.2.1,fun i hi=> ?_,fun i hi=> ?_,hn.2.2⟩
 ·have hm:(lr l k).kids[i]∈[(l.length:Int),(l.length:Int)+1]:=List.getElem_mem hi
  simp only [List.mem_cons,List.not_mem_nil,or_false]at hm
  omega
 ·have hm:(lr l k).ab[i]∈[k]:=List.getElem_mem hi
  rw [List.mem_singleton]at hm
  rw [hm]
  exact⟨p.hv.size.1,p.hv.size.2,p.nk⟩
theorem rP(p:LiftOf c l ss a0 b0 k h):pj (nR l k):=by
 obtain⟨p0,p3,p4,p5⟩:=(p.t.fo p.t.root).2.1
 refine⟨p0,fun i hi=>absurd hi (Nat.not_lt_zero _),fun i hi=> ?_,fun i hi=> ?_⟩
 ·have hm:(nR l k).n.ab[i]∈[k]:=List.getElem_mem hi
  rw [List.mem_singleton]at hm
  rw [hm]
  exact⟨Ix k,p.hv.size.1⟩
 ·have e:(nR l k).n.af=(nn l).af:=p.af
  have e2:(nR l k).n.af[i]=(nn l).af[i]'(by rw [←e];exact hi):=by simp only [e]
  rw [e2]
  exact p5 i (by rw [show(bG l 0).n.af=(nn l).af from rfl,←e];exact hi)
theorem azb(p:LiftOf c l ss a0 b0 k h):∀z∈oM l ss a0 b0 k,vz c z:=fun z hz=>by
 have CI:=p.room
 have st:∀ {s:Span} {ms:List aA} {e:Nd},e.seen=(nn l).seen→ms=aK s (nn l).af→∀j (hj:j<ms.length),(if(nn l).level=0 then e.seen else 0)<ms[j].aO:=fun es e j hj=>by
  subst e
  by_cases h0:(nn l).level=0
  ·have:(nn l).af=[]:=p.t.vE p.t.root h0
   rw [this]at hj
   exact absurd hj (Nat.not_lt_zero _)
  ·rw [if_neg h0]
   obtain⟨m0,hm0,e⟩:=jG (List.getElem_mem hj)
   have:=((p.t.af p.t.root).2.1 m0 hm0).1.1
   rw [e];omega
 unfold oM at hz
 simp only [List.mem_cons]at hz
 have nil:∀ {s:Span} (m:aA),m∈([]:List aA)→∃m'∈(bG l 0).n.af,(m'.clip s).2=true∧(m'.clip s).1=m:=fun m hm=>by cases hm
 rcases hz with rfl|rfl|rfl|hz
 ·exact⟨p.rR,p.rP,by show(nn l).slot<_;rw [p.qY];omega,fun j hj=>absurd hj (Nat.not_lt_zero _)⟩
 ·refine⟨by rw [p.an];exact p.Qj p.aR _ aa,j9.Vg p.t p.t.root p.hs (by rfl) p.nk (by rw [p.an];exact nil),by rw [p.an];show(l.length:Int)<_;omega,fun j hj=> ?_⟩
  rw [p.an];exact st p.ea p.ams j hj
 ·refine⟨by rw [p.bn];exact p.Qj p.bR _ aa,j9.Vh p.t p.t.root p.hs (by rfl) p.nk (by rw [p.bn];exact nil),by rw [p.bn];show(l.length:Int)+1<_;omega,fun j hj=> ?_⟩
  rw [p.bn];exact st p.eb p.bms j hj
 ·exact p.t.fo (p.IY hz)
theorem tree(p:LiftOf c l ss a0 b0 k h):Tree c (ll l a0 b0 k) (oM l ss a0 b0 k):=by
 have aH2:=p.Al
 have IW:=p.room
 refine II p.t.pX (by rw [p.len];omega) (aaV p.t.pX (by rw [p.len];omega) fun n hn=> ?_) p.aL p.fix (fun z hz=> ?_) p.perm p.lk (by rw [p.len];omega) p.azb
 ·have rQ:∀n∈l,n.R c.bu c.leaf c.bud:=fun n hn=>by
   have:=(p.t.perm.mem_iff).2 hn
   obtain⟨x,hx,rfl⟩:=List.mem_map.1 this
   exact(p.t.fo hx).1
  unfold ll iR at hn
  rcases List.mem_append.1 hn with hn|hn
  ·rcases List.mem_or_eq_of_mem_set hn with hn|rfl
   ·exact rQ n hn
   ·exact p.rR
  ·simp only [List.mem_cons,List.not_mem_nil,or_false]at hn
   rcases hn with rfl|rfl
   ·exact p.Qj p.aR _ aa
   ·exact p.Qj p.bR _ aa
 ·unfold oM at hz
  simp only [List.mem_cons]at hz
  rcases hz with rfl|rfl|rfl|hz
  ·exact p.axj.1
  ·exact p.Vj.1
  ·exact p.Vj.2.1
  ·exact(p.Vk (p.IY hz)).1
theorem map(p:LiftOf c l ss a0 b0 k h):mD (ll l a0 b0 k)=mD l:=by
 rw [zF p.tree.P5,zF p.t.P5]
 have h1:=j9.view p.t p.t.root p.hs (fun _=>by rw [p.ams,dX fun _ h=>h];rw [show(nn l).af=[]from p.t.vE p.t.root (by assumption)];rfl) (fun _=>by rw [p.bms,dX fun _ h=>h];rw [show(nn l).af=[]from p.t.vE p.t.root (by assumption)];rfl)
 have e2:¬(nR l k).n.level=0:=by show ¬(nn l).level+1=0;have:0≤(nn l).level:=p.t.lvl p.t.root;omega
 have e3:du ss=du [bG l 0]++du (rest l ss):=by
  conv=>lhs;rw [p.t.fix]
  unfold du
  rw [←List.filter_append];rfl
 have e4:du (oM l ss a0 b0 k)=du [nA l a0 b0 k,nB l a0 b0 k]++du (rest l ss):=by
  unfold du
  rw [←List.filter_append]
  unfold oM
  rw [List.filter_cons,if_neg (by simpa using e2)];rfl
 rw [e3,e4,List.flatMap_append,List.flatMap_append,h1]
end LiftOf
theorem alA{c:aQ}{l:List Nd}{ss:List aC}(t:Tree c l ss)(room:(l.length:Int)+1<c.aL)(Al:l.length+2≤4096)
  (hc:(cP (bG l 0).n l.length ((l.length:Int)+1)).2.2.2=true):
  ∃T,Tree c (iR l (cP (bG l 0).n l.length ((l.length:Int)+1)).1 (cP (bG l 0).n l.length ((l.length:Int)+1)).2.1 (cP (bG l 0).n l.length ((l.length:Int)+1)).2.2.1) T∧
   mD (iR l (cP (bG l 0).n l.length ((l.length:Int)+1)).1 (cP (bG l 0).n l.length ((l.length:Int)+1)).2.1 (cP (bG l 0).n l.length ((l.length:Int)+1)).2.2.1)=mD l:=by
 rw [pw]at hc
 have hR:=(t.fo t.root).1
 have hRR:=LJ (slot:=(l.length:Int)+1) hR aa hc
 obtain⟨a,b,k,h,e,hv,g1,g2,g3,g4,g5,g6,g7⟩:=nm (y:=(l.length:Int)+1) hR hc
 rw [pr hc,e]
 rw [e]at hRR
 have p:LiftOf c l ss a b k h:=⟨t,hv,g2,g3,g4,g7,hRR.1,hRR.2.1,room,Al⟩
 have e9:eS (bG l 0).n b b.slot=LiftOf.lb l b:=by rw [g2];rfl
 dsimp only
 rw [e9]
 exact⟨_,p.tree,p.map⟩
theorem oN(n:Nd)(i:Int):(aB n i).2.2.2=(dh n).2.2.2:=by
 cases h:(dh n).2.2.2
 ·rw [nZ h]
 ·rw [iH h]
theorem zK(n:Nd)(x y x' y':Int):(cP n x y).2.2.2=(cP n x' y').2.2.2:=by rw [pw,pw,oN,oN]
def tk (l:List Nd) (x:Nd):List Nd:=l++[{ x with slot:=l.length }]
theorem si(l:List Nd)(x:Nd):(tk l x).length=l.length+1:=by simp [tk]
theorem Vm{n:Nat}{l:List Nd}{x:Nd}(h:l.length<n):ov n l x=(((l.length:Int),0),tk l x):=Ck h
def cG (c:aQ) (l:List Nd):Int×List Nd:=
 if(cP (ag l 0) l.length ((l.length:Int)+1)).2.2.2=false then(6,l)
 else if c.aL.toNat-l.length<2 then(4,l)
 else(0,iR l (cP (ag l 0) l.length ((l.length:Int)+1)).1 (cP (ag l 0) l.length ((l.length:Int)+1)).2.1 (cP (ag l 0) l.length ((l.length:Int)+1)).2.2.1)
variable {x:Int} {y:Int}
theorem px{c:aQ}{l:List Nd}(h:(cP (ag l 0) x y).2.2.2=false):cG c l=(6,l):=if_pos (by rw [zK _ _ _ x y];exact h)
theorem py{c:aQ}{l:List Nd}(h:(cP (ag l 0) x y).2.2.2=true)(hr:c.aL.toNat-l.length<2):cG c l=(4,l):=by
 unfold cG;rw [if_neg (by rw [zK _ _ _ x y,h];simp),if_pos hr]
theorem pz{c:aQ}{l:List Nd}(h:(cP (ag l 0) x y).2.2.2=true)(hr:¬c.aL.toNat-l.length<2):
  cG c l=(0,iR l (cP (ag l 0) l.length ((l.length:Int)+1)).1 (cP (ag l 0) l.length ((l.length:Int)+1)).2.1 (cP (ag l 0) l.length ((l.length:Int)+1)).2.2.1):=by
 unfold cG;rw [if_neg (by rw [zK _ _ _ x y,h];simp),if_neg hr]
theorem Vn{n:Nd}(h:(cP n x y).2.2.2=true)(hk:(aB n y).2.1.slot=y):(cP n x y).1.slot=n.slot∧(cP n x y).2.1.slot=x∧(cP n x y).2.2.1.slot=y:=by
 rw [pw]at h
 rw [pr h]
 exact⟨rfl,rfl,hk⟩
theorem Qk{n:Nd}(h:(aB n y).2.2.2=true):(aB n y).2.1.slot=y:=by
 rw [oN]at h
 rw [iH h]
theorem Ql{n:Nd}{x' y':Int}(h:(cP n x' y').2.2.2=true):(cP n x y).1.slot=n.slot∧(cP n x y).2.1.slot=x∧(cP n x y).2.2.1.slot=y:=by
 have h2:(cP n x y).2.2.2=true:=by rw [zK n x y x' y'];exact h
 exact Vn h2 (Qk (by rw [←pw n x y];exact h2))
theorem aed{l:List Nd}{A B:List Nd}{x y:Nd}(h:l=A++x::B)(hy:y.slot.toNat=A.length):l.set y.slot.toNat y=A++y::B:=by
 rw [h,hy,List.set_append_right _ _ (Nat.le_refl _),Nat.sub_self];rfl
variable {a:Nd} {b:Nd} {r:Nd}
theorem aaX{l:List Nd}{n:Nd}(hr:r.slot=0)(ha:a.slot=l.length)(hb:b.slot=(l.length:Int)+1)(hp:0<l.length):(((tk (tk l n) n).set r.slot.toNat r).set a.slot.toNat a).set b.slot.toNat b=iR l r a b:=by
 have e1:(tk (tk l n) n).set r.slot.toNat r=l.set 0 r++[{ n with slot:=l.length },{ n with slot:=(tk l n).length }]:=by
  unfold tk
  rw [hr,List.append_assoc]
  show List.set _ 0 r=_
  rw [List.set_append_left _ _ hp];rfl
 have l0:(l.set 0 r).length=l.length:=List.length_set
 rw [e1,aed (A:=l.set 0 r) (B:=[{ n with slot:=(tk l n).length }]) (x:={ n with slot:=l.length }) rfl (by rw [l0];omega)]
 rw [aed (A:=l.set 0 r++[a]) (B:=[]) (x:={ n with slot:=(tk l n).length }) (by simp) (by rw [List.length_append,l0];simp;omega)]
 unfold iR
 simp
theorem Tree.sound{c:aQ}{l:List Nd}{ss:List aC}(t:Tree c l ss):qs c l=true:=by rw [kQ t.P5];exact decide_eq_true t.q
theorem MU{c:aQ}{l:List Nd}{ss:List aC}(t:Tree c l ss):∃T,Tree c (cG c l).2 T∧mD (cG c l).2=mD l:=by
 have hr:(bG l 0).n=ag l 0:=t.oD
 by_cases h1:(cP (ag l 0) l.length ((l.length:Int)+1)).2.2.2=true
 ·by_cases h2:c.aL.toNat-l.length<2
  ·rw [py h1 h2];exact⟨ss,t,rfl⟩
  ·rw [pz h1 h2]
   have CI:=t.pX.2.2.2.1.2
   have:=alA t aa aa (by rw [hr];exact h1)
   rw [hr]at this
   exact this
 ·rw [px (by simpa using h1)];exact⟨ss,t,rfl⟩
theorem yb(n:Nd)(i j:Int):(aB n i).2.2.1=(aB n j).2.2.1:=by
 cases h:(dh n).2.2.2
 ·rw [nZ h,nZ h]
 ·rw [iH h,iH h]
theorem FN(n:Nd)(i j:Int):(aB n i).2.2.2=(aB n j).2.2.2:=by rw [oN,oN]
theorem aha(p:List ah)(c:List Int)(i:Nat)(k:ah)(v w:Int):(mf p c i k v).2.length=(mf p c i k w).2.length:=by
 unfold mf
 split
 ·rfl
 ·simp
theorem I0(n:Nd)(i:Nat)(k:ah)(v w:Int):(fE n i k v).2=(fE n i k w).2:=by
 unfold fE
 rw [aha _ _ _ _ v w]
 split<;>rfl
def cK (l:List Nd) (p:Int) (i:Nat):Int:=(ag l p).kids.getD i 0
def fQ (l:List Nd) (p:Int) (i:Nat):Nd×Nd×ah×Bool:=aB (ag l (cK l p i)) l.length
def np (l:List Nd) (p:Int) (i:Nat):Nd×Bool:=fE (ag l p) i (fQ l p i).2.2.1 l.length
def yc (l:List Nd) (p:Int) (i:Nat):List Nd:=((l.set (fQ l p i).1.slot.toNat (fQ l p i).1).set p.toNat (np l p i).1)++[(fQ l p i).2.1]
def mh (c:aQ) (l:List Nd) (p:Int) (i:Nat):Int×List Nd:=
 if ¬(0≤p∧p<l.length)∨(ag l p).kids.length≤i∨¬(0≤cK l p i∧cK l p i<l.length)then(8,l)
 else if cw c (ag l p)=true then(9,l)
 else if(fQ l p i).2.2.2=false∨(np l p i).2=false then(6,l)
 else if ¬(l.length:Int)<c.aL then(4,l)
 else(0,yc l p i)
def cz (c:aQ) (l:List Nd) (p i:Int):Int×List Nd:=if i<0 then(8,l)else mh c l p i.toNat
variable {i:Nat} {p:Int}
theorem jl{c:aQ}{l:List Nd}(h:¬(0≤p∧p<l.length)∨(ag l p).kids.length≤i∨¬(0≤cK l p i∧cK l p i<l.length)):mh c l p i=(8,l):=if_pos h
theorem yd{c:aQ}{l:List Nd}(h1:0≤p∧p<l.length)(h2:¬(ag l p).kids.length≤i)(h3:0≤cK l p i∧cK l p i<l.length)(h:cw c (ag l p)=true):mh c l p i=(9,l):=by
 unfold mh;rw [if_neg (by rintro(h|h|h);exact h h1;exact h2 h;exact h h3),if_pos h]
theorem lm{c:aQ}{l:List Nd}(h1:0≤p∧p<l.length)(h2:¬(ag l p).kids.length≤i)(h3:0≤cK l p i∧cK l p i<l.length)(h4:cw c (ag l p)=false)(h:(fQ l p i).2.2.2=false∨(np l p i).2=false):mh c l p i=(6,l):=by
 unfold mh;rw [if_neg (by rintro(h|h|h);exact h h1;exact h2 h;exact h h3),if_neg (by rw [h4];simp),if_pos h]
theorem ye{c:aQ}{l:List Nd}(h1:0≤p∧p<l.length)(h2:¬(ag l p).kids.length≤i)(h3:0≤cK l p i∧cK l p i<l.length)(h4:cw c (ag l p)=false)(h5:(fQ l p i).2.2.2=true)(h6:(np l p i).2=true)(h:¬(l.length:Int)<c.aL):mh c l p i=(4,l):=by
 unfold mh;rw [if_neg (by rintro(h|h|h);exact h h1;exact h2 h;exact h h3),if_neg (by rw [h4];simp),if_neg (by rw [h5,h6];simp),if_pos h]
theorem tS{c:aQ}{l:List Nd}(h1:0≤p∧p<l.length)(h2:¬(ag l p).kids.length≤i)(h3:0≤cK l p i∧cK l p i<l.length)(h4:cw c (ag l p)=false)(h5:(fQ l p i).2.2.2=true)(h6:(np l p i).2=true)(h:(l.length:Int)<c.aL):mh c l p i=(0,yc l p i):=by
 unfold mh;rw [if_neg (by rintro(h|h|h);exact h h1;exact h2 h;exact h h3),if_neg (by rw [h4];simp),if_neg (by rw [h5,h6];simp),if_neg (by simpa using h)]
theorem I1{l:List Nd}(h:(fQ l p i).2.2.2=true):(fQ l p i).1.slot=(ag l (cK l p i)).slot∧(fQ l p i).2.1.slot=l.length:=by
 have hh:(dh (ag l (cK l p i))).2.2.2=true:=by rw [←oN _ (l.length:Int)];exact h
 unfold fQ
 rw [iH hh]
 refine⟨?_,rfl⟩
 show(dh (ag l (cK l p i))).1.slot=_
 by_cases h0:(ag l (cK l p i)).level=0
 ·rw [nX h0]
 ·cases h2:ee (ag l (cK l p i)).ab (ag l (cK l p i)).kids.length
  ·rw [qC h0 h2]
  ·rw [nY h0 h2]
theorem Vo{l:List Nd}(h:(np l p i).2=true):(np l p i).1.slot=(ag l p).slot:=by
 unfold np fE at*
 split
 ·rename_i h2;rw [if_pos h2]at h;cases h
 ·rfl
theorem aaY{l:List Nd}{n:Nd}(ha:0≤a.slot∧a.slot<l.length)(hb:b.slot=l.length)(hr:r.slot=p)(hp:0≤p∧p<l.length):
  (((tk l n).set a.slot.toNat a).set b.slot.toNat b).set r.slot.toNat r=((l.set a.slot.toNat a).set p.toNat r)++[b]:=by
 unfold tk
 rw [List.set_append_left _ _ aa,hb,hr]
 have l1:(l.set a.slot.toNat a).length=l.length:=List.length_set
 rw [show((l.length:Int)).toNat=(l.set a.slot.toNat a).length by rw [l1];omega,List.set_append_right _ _ (Nat.le_refl _),Nat.sub_self,List.set_append_left _ _ aa]
 rfl
theorem MV{c:aQ}{l:List Nd}{ss:List aC}(t:Tree c l ss)(p i:Int):∃T,Tree c (cz c l p i).2 T∧mD (cz c l p i).2=mD l:=by
 unfold cz
 split
 ·exact⟨ss,t,rfl⟩
 ·generalize i.toNat=j
  by_cases h1:0≤p∧p<l.length
  ·by_cases h2:(ag l p).kids.length≤j
   ·rw [jl (.inr (.inl h2))];exact⟨ss,t,rfl⟩
   ·by_cases h3:0≤cK l p j∧cK l p j<l.length
    ·cases h4:cw c (ag l p)
     ·by_cases h5:(fQ l p j).2.2.2=true
      ·by_cases h6:(np l p j).2=true
       ·by_cases h7:(l.length:Int)<c.aL
        ·rw [tS h1 h2 h3 h4 h5 h6 h7]
         obtain⟨g1,g2⟩:=di t.slot h1
         obtain⟨P,hP,eP⟩:=List.mem_map.1 ((t.perm.mem_iff).2 g2)
         have hj:j<P.n.kids.length:=by rw [eP];omega
         have h0:¬P.n.level=0:=fun h0=>by have:=(t.leaf hP h0).1;omega
         have hat:=t.at hP h0 hj
         have ek:(au l P j).n=ag l (cK l p j):=by
          rw [hat.2.2.1]
          unfold cK
          rw [←eP,List.getD_eq_getElem?_getD,List.getElem?_eq_getElem hj];rfl
         have azc:(P.n.kids.length:Int)<c.bu:=by
          unfold cw at h4
          rw [if_neg (by rw [←eP];exact h0),decide_eq_false_iff_not]at h4
          rw [eP];omega
         unfold np fQ at h6
         unfold fQ at h5
         rw [←ek]at h5 h6
         rw [←eP]at h6
         have CI:=t.pX.2.2.2.1.2
         have key:=aly t hP h0 hj azc h7 aa h5 h6
         obtain⟨e9,h,q⟩:=key
         have el:yc l p j=c7 l P.n j (aB (au l P j).n l.length).1 (aB (au l P j).n l.length).2.1 (aB (au l P j).n l.length).2.2.1:=by
          unfold yc np fQ c7
          rw [←ek,←eP,e9]
          have:P.n.slot=p:=by rw [eP];exact g1
          rw [this]
         rw [el]
         exact⟨_,q.tree,q.map⟩
        ·rw [ye h1 h2 h3 h4 h5 h6 h7];exact⟨ss,t,rfl⟩
       ·rw [lm h1 h2 h3 h4 (.inr (by simpa using h6))];exact⟨ss,t,rfl⟩
      ·rw [lm h1 h2 h3 h4 (.inl (by simpa using h5))];exact⟨ss,t,rfl⟩
     ·rw [yd h1 h2 h3 h4];exact⟨ss,t,rfl⟩
    ·rw [jl (.inr (.inr h3))];exact⟨ss,t,rfl⟩
  ·rw [jl (.inl h1)];exact⟨ss,t,rfl⟩
theorem aP.cast{α:Type}{e:dV α}{T:TypeId}{G:GH}{v:Value}{l l':List α}{Ms:MH}(h:aP e T G v l Ms)(h2:l=l'):aP e T G v l' Ms:=h2▸h
def iG (P:List ah) (F:List aA) (i:Nat):Int:=bI (F.filter fun m=>decide (aJ P m.key=i))
def dA (w:Nat→Int):Nat→Nat
 |0=>0
 |k+1=>if w (dA w k)<w k then k else dA w k
theorem MW{w:Nat→Int}{k:Nat}(h:w (dA w k)<w k):dA w (k+1)=k:=if_pos h
theorem Ek{w:Nat→Int}{k:Nat}(h:¬w (dA w k)<w k):dA w (k+1)=dA w k:=if_neg h
theorem Be(w:Nat→Int):∀k,dA w k<k∨(k=0∧dA w k=0)
 |0=>.inr ⟨rfl,rfl⟩
 |k+1=>by
  left
  unfold dA
  split
  ·omega
  ·rcases Be w k with h|h<;>omega
theorem yf(w:Nat→Int):∀k j,j<k→w j≤w (dA w k)
 |0,j,h=>absurd h (Nat.not_lt_zero j)
 |k+1,j,h=>by
  unfold dA
  split
  ·rename_i h2
   by_cases e:j=k
   ·rw [e];exact Int.le_refl _
   ·have:=yf w k j aa;omega
  ·rename_i h2
   by_cases e:j=k
   ·rw [e];omega
   ·exact yf w k j aa
def fF (P:List ah) (l:List aA):Int×Bool:=if l.length=0 then(0,false)else(((dA (iG P (aD l)) (P.length+1):Nat):Int),true)
theorem yg(P:List ah)(F:List aA)(i:Nat):0≤iG P F i:=by
  unfold iG
  generalize F.filter _=L
  induction L with
  |nil=>exact Int.le_refl 0
  | cons m L ih => have:=size_pos m;have e:bI (m::L)=m.size+bI L:=by simp [bI]
                   rw [e];omega
theorem aee(P:List ah)(F:List aA)(i:Nat)(h:∀m∈F,m.key.b.size≤16∧m.val.b.size≤16):iG P F i≤36*F.length:=by
 have h1:=jI (l:=F.filter fun m=>decide (aJ P m.key=i)) fun m hm=>h m (List.mem_filter.1 hm).1
 have h2:=List.length_filter_le (fun m:aA=>decide (aJ P m.key=i)) F
 have:=h1.2
 unfold iG
 omega
variable {F:List aA} {P:List ah} {q:Nat}
theorem aaZ(hq:q<F.length)(h:aJ P F[q].key=i):iG P (F.take (q+1)) i=iG P (F.take q) i+F[q].size:=by
 unfold iG
 rw [rU (p:=fun m:aA=>decide (aJ P m.key=i)) hq (by simp [h]),vJ]
 simp [bI]
theorem alB(hq:q<F.length)(h:¬aJ P F[q].key=i):iG P (F.take (q+1)) i=iG P (F.take q) i:=by
 unfold iG
 rw [qi (p:=fun m:aA=>decide (aJ P m.key=i)) hq (by simp [h])]
theorem aa0{l:List aA}(h:0<l.length):0<(aD l).length:=by
 unfold aD
 have h1:=Cb mX l
 split
 ·exact h
 ·split
  ·rw [List.length_take];omega
  ·rw [List.length_take];omega
theorem ahb{l:List aA}(h:0<l.length):0<iG P (aD l) (dA (iG P (aD l)) (P.length+1)):=by
 have h0:=aa0 h
 have hr:aJ P ((aD l)[0]).key≤P.length:=List.length_filter_le _ _
 have hm:=yf (iG P (aD l)) (P.length+1) (aJ P ((aD l)[0]).key) aa
 have:0<iG P (aD l) (aJ P ((aD l)[0]).key):=by
  have e:(aD l).take 1++(aD l).drop 1=aD l:=List.take_append_drop _ _
  have h1:=aaZ (P:=P) (F:=aD l) (q:=0) h0 rfl
  have h2:0<((aD l)[0]).size:=by unfold aA.size;split<;>omega
  have h3:iG P (aD l) (aJ P ((aD l)[0]).key)=iG P ((aD l).take 1) (aJ P ((aD l)[0]).key)+iG P ((aD l).drop 1) (aJ P ((aD l)[0]).key):=by
   generalize aJ P ((aD l)[0]).key=z
   conv=>lhs;rw [←e]
   unfold iG
   rw [List.filter_append,vJ]
  have h4:=yg P ((aD l).take 0) (aJ P ((aD l)[0]).key)
  have h5:=yg P ((aD l).drop 1) (aJ P ((aD l)[0]).key)
  rw [h3]
  rw [show(0+1:Nat)=1 from rfl]at h1
  omega
 omega
theorem ahc{l:List aA}(h:¬0<l.length):fF P l=(0,false):=by unfold fF;rw [if_pos aa]
theorem MX{l:List aA}(h:0<l.length):fF P l=(((dA (iG P (aD l)) (P.length+1):Nat):Int),true):=by unfold fF;rw [if_neg aa]
theorem aa1{l:List aA} :0≤(fF P l).1∧(fF P l).1≤P.length:=by
 unfold fF
 split
 ·exact⟨Int.le_refl 0,aa⟩
 ·rcases Be (iG P (aD l)) (P.length+1)with h|h
  ·dsimp only;omega
  ·omega
theorem axk{w:Nat→Int}(h:(if i=0 then 0 else w (dA w i))<w i):dA w (i+1)=i:=by
 by_cases e:i=0
 ·subst e
  unfold dA
  split
  ·rfl
  ·rfl
 ·rw [if_neg e]at h;exact MW h
theorem axl{w:Nat→Int}(h:¬(if i=0 then 0 else w (dA w i))<w i):dA w (i+1)=dA w i:=by
 by_cases e:i=0
 ·subst e
  unfold dA
  split
  ·rfl
  ·rfl
 ·rw [if_neg e]at h;exact Ek h
theorem aH3{w:Nat→Int}(hw:∀j,0≤w j)(h:¬(if i=0 then 0 else w (dA w i))<w i):w (dA w (i+1))=if i=0 then 0 else w (dA w i):=by
 rw [axl h]
 by_cases e:i=0
 ·subst e
  rw [if_pos rfl]at h⊢
  have:=hw 0
  show w 0=0
  omega
 ·rw [if_neg e]
theorem alC(P:List ah)(l:List aA):(Value.tuple #[.int .i64 ((dA (iG P (aD l)) (P.length+1):Nat):Int),.bool (decide (0<iG P (aD l) (dA (iG P (aD l)) (P.length+1))))]:Value)=.tuple #[.int .i64 (fF P l).1,.bool (fF P l).2]:=by
 by_cases h:0<l.length
 ·rw [decide_eq_true (ahb h),MX h]
 ·have e:l=[]:=List.eq_nil_of_length_eq_zero aa
  subst e
  have hz:∀i,iG P (aD []) i=0:=fun i=>rfl
  have hb:∀k,dA (iG P (aD [])) k=0:=fun k=>by
   induction k with
   |zero=>rfl
   |succ k ih=>rw [Ek (by rw [hz,hz];omega),ih]
  rw [hz,hb]
  rfl
def yh (P:List ah) (F:List aA):List Int:=(List.range (P.length+1)).map (iG P F)
theorem yi(P:List ah)(F:List aA):(yh P F).length=P.length+1:=by simp [yh]
theorem nq(h:i<(yh P F).length):(yh P F)[i]=iG P F i:=by simp [yh]
theorem alD(P:List ah):List.replicate (P.length+1) (0:Int)=yh P []:=by
 refine List.ext_getElem (by simp [yh]) fun i h1 h2=> ?_
 rw [nq h2]
 simp [iG,bI]
theorem Vp(hq:q<F.length)(h:aJ P F[q].key<(yh P (F.take q)).length):(yh P (F.take q)).set (aJ P F[q].key) ((yh P (F.take q))[aJ P F[q].key]+F[q].size)=yh P (F.take (q+1)):=by
 refine List.ext_getElem (by rw [List.length_set,yi,yi]) fun i h1 h2=> ?_
 rw [nq h2,List.getElem_set]
 rw [List.length_set]at h1
 split
 ·rename_i e
  subst e
  rw [nq h1,aaZ hq rfl]
 ·rename_i e
  rw [nq h1,alB hq e]
theorem alE{l:List aA}{k:Nat}(h:gn mX l=((k:Nat):Int))(h0:k=0):(l.take 1).drop 0=aD l:=by unfold aD;rw [if_neg aa,if_pos aa,List.drop_zero]
theorem alF{l:List aA}{k:Nat}(h:gn mX l=((k:Nat):Int))(h0:¬k=0):l.take k=aD l:=by unfold aD;rw [if_neg aa,if_neg aa,h];rfl
theorem ahd{l:List aA}{k:Nat}(h:∀j (h:j<l.length),mX l[j]=false)(hk:l.length≤k):l.take k=aD l:=by rw [List.take_of_length_le hk];exact IQ (Ca h)
def ak (c:aQ) (n:Nd) (k:ah):Int×Int:=
 if n.level=0 then(0,0)else if n.slot=0∧cw c n=true then(1,0)else(2,if(fF n.ab n.af).2=true then(fF n.ab n.af).1 else((aJ n.ab k:Nat):Int))
noncomputable def cg (c:aQ) (p k:Nd) (i:Int):Int:=
 if 0<k.level∧cw c k=true then(if cw c p=true then 0 else 3)else if 0<bW c.leaf c.bud p k i then 4 else if 0<k.level then 5 else if 0<(av p.ab p.af i).length then(if cw c p=true then 0 else 3)else 0
theorem aef(leaf bud:Int)(p k:Nd)(i:Int):(bj leaf bud p k i).2.2=bW leaf bud p k i:=by
 unfold bj
 split
 ·rename_i h;rw [h]
 ·rfl
theorem zL{c:aQ}{n:Nd}{k:ah}(h:n.level=0):ak c n k=(0,0):=if_pos h
theorem MY{c:aQ}{n:Nd}{k:ah}(h:¬n.level=0)(h2:n.slot=0)(h3:cw c n=true):ak c n k=(1,0):=by unfold ak;rw [if_neg h,if_pos ⟨h2,h3⟩]
theorem zM{c:aQ}{n:Nd}{k:ah}(h:¬n.level=0)(h2:¬(n.slot=0∧cw c n=true))(h3:(fF n.ab n.af).2=true):ak c n k=(2,(fF n.ab n.af).1):=by unfold ak;rw [if_neg h,if_neg h2,if_pos h3]
theorem zN{c:aQ}{n:Nd}{k:ah}(h:¬n.level=0)(h2:¬(n.slot=0∧cw c n=true))(h3:(fF n.ab n.af).2=false):ak c n k=(2,((aJ n.ab k:Nat):Int)):=by unfold ak;rw [if_neg h,if_neg h2,if_neg (by simp [h3])]
theorem CJ(s:Span):s.norm.empty=s.empty:=by
 rw [Bool.eq_iff_iff,dW,dW]
 exact⟨fun h k=>by rw [←kP];exact h k,fun h k=>by rw [kP];exact h k⟩
theorem FO{w:aA}{s:Span}(hw:w.R)(hk:w.kind=4)(hs:s.has w.key=true)(hn:s.norm=s):
  ((bd w s).2=true↔s.bT=false∧(w.bT=true∨s.hi.lt w.hi=true))∧((bd w s).2=true→(bd w s).1={ w with key:=s.hi }):=by
 unfold bd
 cases ho:s.bT
 ·rw [if_neg (by simp)]
  have iB:w.key.lt s.hi=true:=by
   rcases (cD.1 hs).2 with h|h
   ·rw [ho]at h;cases h
   ·exact h
  have rL:w.span=⟨w.key,w.hi,w.bT⟩:=by unfold aA.span;rw [if_pos hk]
  have hm:w.span.bE ⟨s.hi,ah.nil,true⟩=Span.norm ⟨s.hi,w.hi,w.bT⟩:=by
   rw [rL]
   unfold Span.bE
   simp [iB]
  have he:(w.span.bE ⟨s.hi,ah.nil,true⟩).empty=false↔(w.bT=true∨s.hi.lt w.hi=true):=by
   rw [hm]
   rw [CJ]
   unfold Span.empty
   simp
   constructor
   ·intro h
    by_cases h1:w.bT=true
    ·exact .inl h1
    ·exact .inr (h (by simpa using h1))
   ·rintro(h|h) h1
    ·rw [h]at h1;exact absurd h1 (by simp)
    ·exact h
  have hR:=hw.2
  rw [if_pos hk]at hR
  constructor
  ·rw [←he]
   constructor
   ·intro h;exact⟨rfl,(fA h).1⟩
   ·rintro⟨_,h⟩
    cases h2:(w.clip ⟨s.hi,ah.nil,true⟩).2
    ·rw [nh.1 h2]at h;cases h
    ·rfl
  ·intro h
   have h1:=(fA h).1
   rw [(fA h).2,if_pos hk,hm]
   rw [hm]at h1
   have h3:(Span.mk s.hi w.hi w.bT).empty=false:=by rw [CJ]at h1;exact h1
   unfold Span.norm
   rw [if_neg (by simp [h3])]
   by_cases h5:w.bT=true
   ·rw [if_pos h5]
    have:w.hi=ah.nil:=by
     rcases hR.2.1 with h6|h6
     ·rw [h5]at h6;cases h6
     ·exact h6
    simp [this]
   ·rw [if_neg h5]
 ·rw [if_pos rfl]
  simp
theorem FP(P:List ah)(i:Int):(ar P i).norm=ar P i:=by
 unfold ar
 split
 ·unfold Span.norm
  split
  ·rfl
  ·rfl
 ·exact IA _
variable {T:List aA} {m:aA}
theorem I2{l:List aA}(hP:rising P=true)(hi:i≤P.length)(hm:dD l)(h:ni P i l T)(hl:m∈l)(hs:m.aO∈T.map aA.aO)(hk:m.kind=4):(ar P i).has m.key=true:=by
 have hr:=CB hm
 cases h with
 |none hT=>rw [hT]at hs;cases hs
 |ad2 w R CK j6 hrt hc hT hA=>
  rw [hT]at hs
  simp [eG hc]at hs
  rw [CK]at hl hr
  have e:m=w:=CC hr hl (by simp) hs
  rw [e,eL hP _ hi,decide_eq_true hrt.symm]
 |points F R CK hF hT hA=>
  rw [hT]at hs
  obtain⟨x,hx,e⟩:=List.mem_map.1 hs
  have D6:=(List.mem_filter.1 hx).1
  have:x=m:=CC hr (by rw [CK];exact List.mem_append_left _ D6) hl e
  rw [this]at D6
  exact absurd hk (hF m D6)
def vP (A:List aA):Int:=(A.getLast?.map aA.aO).getD 0
variable {A:List aA}
theorem Bf(h:0<A.length):vP A=(A[A.length-1]'aa).aO:=by
 unfold vP
 rw [List.getLast?_eq_getElem?,List.getElem?_eq_getElem aa];rfl
theorem sj(A:List aA)(m:aA):vP (A++[m])=m.aO:=by unfold vP;rw [List.getLast?_concat];rfl
theorem aa2(h:A.length=0):vP A=0:=by rw [List.eq_nil_of_length_eq_zero h];rfl
theorem mG{k l:List aA}(h:i<l.length):k++l.take (i+1)=(k++l.take i)++[l[i]]:=by rw [List.take_succ_eq_append_getElem h,List.append_assoc]
theorem vQ(A:List aA)(m:aA):bI (A++[m])=bI A+m.size:=by rw [vJ];simp [bI]
variable {bud:Int}
theorem I3(h:0<A.length)(h2:m.aO≤vP A):iO bud A m=false:=Va h (by rw [←Bf h];exact h2)
theorem zO(h:m.size≤bud-bI A)(h2:0<A.length→vP A<m.aO):iO bud A m=true:=oL.2 ⟨h,fun h3=>by rw [←Bf h3];exact h2 h3⟩
variable {y:Nat}
theorem aH4{s:Int}(h:decide (s∈(T.take y).map aA.aO)=true):true=decide (s∈(T.take (y+1)).map aA.aO):=by
 symm
 rw [decide_eq_true_eq]at h⊢
 obtain⟨x,hx,e⟩:=List.mem_map.1 h
 exact List.mem_map.2 ⟨x,(List.take_sublist_take_left (Nat.le_succ y)).subset hx,e⟩
theorem aH5{s:Int}(hy:y<T.length)(h:decide (s∈(T.take y).map aA.aO)=false):decide (T[y].aO=s)=decide (s∈(T.take (y+1)).map aA.aO):=by
 rw [decide_eq_false_iff_not]at h
 rw [decide_eq_decide,List.take_succ_eq_append_getElem hy,List.map_append,List.mem_append]
 constructor
 ·intro e;right;simp [e]
 ·rintro(e|e)
  ·exact absurd e h
  ·simp at e;exact e.symm
variable {i:Int} {p:Nd}
theorem auo{leaf:Int}{k:Nd}(hk:fk p k i)(h0:k.level=0)(h:0<(aF leaf bud k (av p.ab p.af i)).2)(hn:(aF leaf bud k (av p.ab p.af i)).2-1<(av p.ab p.af i).length):
  bj leaf bud p k i=({ p with af:=bP p.ab i ((av p.ab p.af i).take (aF leaf bud k (av p.ab p.af i)).2) p.af },
   { k with rows:=cJ k.rows ((av p.ab p.af i).take (aF leaf bud k (av p.ab p.af i)).2),seen:=((av p.ab p.af i)[(aF leaf bud k (av p.ab p.af i)).2-1]'hn).aO },(aF leaf bud k (av p.ab p.af i)).2):=by
 have e:=mg leaf bud k (av p.ab p.af i)
 rw [Qf hk rfl aa]
 have e2:(aF leaf bud k (av p.ab p.af i)).1={ k with rows:=cJ k.rows ((av p.ab p.af i).take (aF leaf bud k (av p.ab p.af i)).2) } :=by
  rw [IU h0]
  dsimp only
  rw [←xS]
 have e3:(((av p.ab p.af i).take (aF leaf bud k (av p.ab p.af i)).2)[((av p.ab p.af i).take (aF leaf bud k (av p.ab p.af i)).2).length-1]'aa)=(av p.ab p.af i)[(aF leaf bud k (av p.ab p.af i)).2-1]'hn:=by
  rw [List.getElem_take]
  simp only [e]
 rw [e3,e2,e]
theorem aeg{leaf:Int}{k:Nd}(hk:fk p k i)(h0:¬k.level=0)(h:0<(aF leaf bud k (av p.ab p.af i)).2)(hn:(aF leaf bud k (av p.ab p.af i)).2-1<(av p.ab p.af i).length):
  bj leaf bud p k i=({ p with af:=bP p.ab i ((av p.ab p.af i).take (aF leaf bud k (av p.ab p.af i)).2) p.af },
   { k with af:=k.af++(av p.ab p.af i).take (aF leaf bud k (av p.ab p.af i)).2,seen:=((av p.ab p.af i)[(aF leaf bud k (av p.ab p.af i)).2-1]'hn).aO },(aF leaf bud k (av p.ab p.af i)).2):=by
 have e:=mg leaf bud k (av p.ab p.af i)
 rw [Qf hk rfl aa]
 have e2:(aF leaf bud k (av p.ab p.af i)).1={ k with af:=k.af++(av p.ab p.af i).take (aF leaf bud k (av p.ab p.af i)).2 } :=by
  rw [nj (leaf:=leaf) (bud:=bud) (l:=av p.ab p.af i) h0 rfl]
 have e3:(((av p.ab p.af i).take (aF leaf bud k (av p.ab p.af i)).2)[((av p.ab p.af i).take (aF leaf bud k (av p.ab p.af i)).2).length-1]'aa)=(av p.ab p.af i)[(aF leaf bud k (av p.ab p.af i)).2-1]'hn:=by
  rw [List.getElem_take]
  simp only [e]
 rw [e3,e2,e]
theorem alG{i:Nat}{l:List aA}(hP:rising P=true)(hi:i≤P.length)(hm:dD l)(h:ni P i l T)(hl:m∈l)(hs:m.aO∈T.map aA.aO)(hk:m.kind=4)(ho:(ar P i).bT=false)(h2:m.bT=true∨(ar P i).hi.lt m.hi=true):
  gq P i T m=some { m with key:=(ar P i).hi } :=by
 have hw:=FO ((dD.iff.1 hm).1 m hl) hk (I2 hP hi hm h hl hs hk) (FP P i)
 have h3:=hw.1.2 ⟨ho,h2⟩
 rw [Qg hs hk h3,hw.2 h3]
theorem aa3{i:Nat}{l:List aA}(hP:rising P=true)(hi:i≤P.length)(hm:dD l)(h:ni P i l T)(hl:m∈l)(hs:m.aO∈T.map aA.aO)(h2:¬(m.kind=4∧(ar P i).bT=false∧(m.bT=true∨(ar P i).hi.lt m.hi=true))):
  gq P i T m=none:=GF hs fun hh=>h2 ⟨hh.1,(FO ((dD.iff.1 hm).1 m hl) hh.1 (I2 hP hi hm h hl hs hh.1) (FP P i)).1.1 hh.2⟩
theorem MZ{l:List aA}(h0:0≤i)(hP:rising P=true)(hi:i.toNat≤P.length)(hm:dD l)(h:ni P i.toNat l T)(hl:m∈l)(hs:m.aO∈T.map aA.aO)(hk:m.kind=4)(ho:(ar P i).bT=false)(h2:m.bT=true∨(ar P i).hi.lt m.hi=true):
  gq P i T m=some { m with key:=(ar P i).hi } :=by
 obtain⟨n,rfl⟩:∃n:Nat,i=n:=⟨i.toNat,aa⟩
 exact alG hP hi hm h hl hs hk ho h2
theorem yj{l:List aA}(h0:0≤i)(hP:rising P=true)(hi:i.toNat≤P.length)(hm:dD l)(h:ni P i.toNat l T)(hl:m∈l)(hs:m.aO∈T.map aA.aO)(h2:¬(m.kind=4∧(ar P i).bT=false∧(m.bT=true∨(ar P i).hi.lt m.hi=true))):
  gq P i T m=none:=by
 obtain⟨n,rfl⟩:∃n:Nat,i=n:=⟨i.toNat,aa⟩
 exact aa3 hP hi hm h hl hs h2
section
variable {c:aQ} {p k:Nd} {i:Int}
theorem zP(h:0<k.level)(h2:cw c k=true):cg c p k i=if cw c p=true then 0 else 3:=if_pos ⟨h,h2⟩
theorem mH(h:¬(0<k.level∧cw c k=true))(hc:0<bW c.leaf c.bud p k i):cg c p k i=4:=by unfold cg;rw [if_neg h,if_pos hc]
theorem mI(h:¬(0<k.level∧cw c k=true))(hc:¬0<bW c.leaf c.bud p k i)(h0:0<k.level):cg c p k i=5:=by unfold cg;rw [if_neg h,if_neg hc,if_pos h0]
theorem mJ(hc:¬0<bW c.leaf c.bud p k i)(h0:¬0<k.level)(hw:0<(av p.ab p.af i).length):cg c p k i=if cw c p=true then 0 else 3:=by unfold cg;rw [if_neg (fun h=>h0 h.1),if_neg hc,if_neg h0,if_pos hw]
theorem pA(hc:¬0<bW c.leaf c.bud p k i)(h0:¬0<k.level)(hw:¬0<(av p.ab p.af i).length):cg c p k i=0:=by unfold cg;rw [if_neg (fun h=>h0 h.1),if_neg hc,if_neg h0,if_neg hw]
end
def mi (n:Nd):Prop:=¬n.level=0→rising n.ab=true∧(∀m∈n.af,m.key.b.size≤16∧m.val.b.size≤16)∧n.af.length≤100000∧n.ab.length≤100000
theorem FQ{c:aQ}{n:Nd}(h:n.R c.bu c.leaf c.bud)(s:Gl n):mi n:=fun h0=>by
 have h4:=h.2.2.2
 rw [if_neg h0]at h4
 obtain⟨_,s2,s3,_⟩:=s
 exact⟨(cE h4.2.1).1,fun m hm=>eR (Eg h m hm),aa,aa⟩
end Go.Fw
