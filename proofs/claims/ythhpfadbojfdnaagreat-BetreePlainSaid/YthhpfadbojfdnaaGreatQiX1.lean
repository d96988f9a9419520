/- The ground of all walks: a calculus for the model's code, its rules, slices. Nothing of the program is named here. No condition. -/
import Derived.Test.YthhpfadbojfdnaaGreatQiAa
import Derived.WalkKit
import Derived.Deep.Quiet
import Derived.Below
import Derived.Deep.LoopGhost
import Derived.IntWalk
import Derived.Laws.StructEq
import Derived.OrdersHeld
import Derived.Lib.AppendZeros
set_option linter.unusedVariables false
set_option linter.unusedSimpArgs false
set_option linter.unnecessarySimpa false
set_option linter.unusedSectionVars false

namespace Go.Fw
theorem aa{p:Prop}(h:p:=by omega):p:=h
open Go Go.RowKit
abbrev Fr:=Nat→Value
def jP (f:Fr) (d:Nat) (v:Value):Fr:=fun t=>bif Nat.beq t d then v else f t
def ev (f:Fr):Operand→Value
 | .tmp t=>f t
 | .const v=>v
 | .global g=>.pointer (some ⟨g,0,none⟩)
 | .func g=>.func (.func g) #[] #[]
structure Is (n:Nat) (a:Act) (f:Fr):Prop where
 size:a.tmps.size=n
 get:∀t,a.tmps.getD t undef=f t
 dfr:a.defers=[]
theorem Is.eval{n a f}(h:Is n a f):a.eval=ev f:=by
 funext x;cases x<;>simp [Act.eval,ev,h.get]
theorem Is.put{n a f}(h:Is n a f){d:Nat}(hd:Nat.blt d n=true)(v:Value):Is n (a.put (some d) v) (jP f d v):=by
 have hd':d<n:=by have h1:=hd;simp [Nat.blt]at h1;omega
 refine⟨by simp [Act.put,h.size],fun t=> ?_,by simp [Act.put,h.dfr]⟩
 simp only [Act.put,jP,Az,W2]
 by_cases e:t=d
 ·subst e
  simp [h.size,hd']
 ·have e1:Nat.beq t d=false:=by
   cases hb:Nat.beq t d
   ·rfl
   ·exact absurd (tP hb) e
  have e2:¬d=t:=fun x=>e x.symm
  simp only [e1,cond_false,e2,yn]
  rw [←h.get t,Az]
theorem Is.zJ{n a f}(h:Is n a f)(v:Value):Is n (a.put none v) f:=⟨by simp [Act.put,h.size],by simpa [Act.put]using h.get,by simp [Act.put,h.dfr]⟩
abbrev GH:=Nat→Option Obj
abbrev MH:=List (Nat×Obj)
def Le (G G':GH):Prop:=∀b o,G b=some o→G' b=some o
theorem Le.rfl{G:GH} :Le G G:=fun _ _ h=>h
theorem Le.trans{A B C:GH}(h:Le A B)(k:Le B C):Le A C:=fun b o x=>k b o (h b o x)
structure Real (w0:World) (own:Nat→Prop) (G:GH) (M:MH) (w:World):Prop where
 os:w.os=w0.os
 tape:w.tape=w0.tape
 output:w.output=w0.output
 size:w0.heap.size≤w.heap.size
 s9:∀b,b<w0.heap.size→¬own b→w.heap[b]?=w0.heap[b]?
 ro:∀b o,G b=some o→w.heap[b]?=some o
 mu:∀p∈M,w.heap[p.1]?=some p.2
 wJ:∀p∈M,G p.1=none
 nd:(M.map (·.1)).Nodup
 lo:∀p∈M,w0.heap.size≤p.1∨own p.1
section
variable {w0:World} {own:Nat→Prop} {G:GH} {M:MH} {w:World}
theorem Real.drew(h:Real w0 own G M w):Real w0 own G M { w with drawn:=w.drawn+1 } :=
 ⟨h.os,h.tape,h.output,h.size,h.s9,h.ro,h.mu,h.wJ,h.nd,h.lo⟩
theorem Real.lt(h:Real w0 own G M w){b o}(hb:G b=some o):b<w.heap.size:=by
 have:=h.ro b o hb
 rw [NY]at this
 exact this.1
theorem Real.ltM(h:Real w0 own G M w){p}(hp:p∈M):p.1<w.heap.size:=by
 have:=h.mu p hp
 rw [NY]at this
 exact this.1
theorem Real.alloc(h:Real w0 own G M w)(o:Obj):Real w0 own G ((w.heap.size,o)::M) { w with heap:=w.heap.push o } :=by
 refine⟨h.os,h.tape,h.output,?_,?_,?_,?_,?_,?_,?_⟩
 ·have:=h.size;simp only [Array.size_push];omega
 ·intro b hb ho
  have:=h.size
  show(w.heap.push o)[b]?=_
  rw [W3,if_neg aa]
  exact h.s9 b hb ho
 ·intro b o' hb
  have:=h.lt hb
  show(w.heap.push o)[b]?=_
  rw [W3,if_neg aa]
  exact h.ro b o' hb
 ·intro p hp
  show(w.heap.push o)[p.1]?=_
  rcases dK.1 hp with rfl|hp
  ·simp
  ·have:=h.ltM hp
   rw [W3,if_neg aa]
   exact h.mu p hp
 ·intro p hp
  rcases dK.1 hp with rfl|hp
  ·cases hg:G w.heap.size with
   |none=>rfl
   |some o'=>have:=h.lt hg;omega
  ·exact h.wJ p hp
 ·simp only [cA,nN]
  refine⟨fun hm=> ?_,h.nd⟩
  obtain⟨p,hp,e⟩:=cB.1 hm
  have:=h.ltM hp
  omega
 ·intro p hp
  rcases dK.1 hp with rfl|hp
  ·exact .inl h.size
  ·exact h.lo p hp
variable {b:Nat} {o:Obj}
theorem Real.set{M₁ M₂:MH}{o':Obj}(h:Real w0 own G (M₁++(b,o)::M₂) w):
  Real w0 own G (M₁++(b,o')::M₂) { w with heap:=w.heap.setIfInBounds b o' } :=by
 have hb:b<w.heap.size:=h.ltM (p:=(b,o)) (by simp)
 have iR:=h.nd
 simp only [bU,cA,kX,nN]at iR
 obtain⟨n1,⟨n2,n3⟩,n4⟩:=iR
 have key:∀c,c≠b→(w.heap.setIfInBounds b o')[c]?=w.heap[c]?:=fun c hc=>by
  rw [W2,if_neg aa]
 refine⟨h.os,h.tape,h.output,by simpa using h.size,?_,?_,?_,?_,?_,?_⟩
 ·intro c hc ho
  rcases h.lo (b,o) (by simp)with hl|hl
  ·rw [key c (by simp at hl;omega)];exact h.s9 c hc ho
  ·rw [key c (fun e=>ho (e▸hl))];exact h.s9 c hc ho
 ·intro c oc hc
  rw [key c (fun e=>by have:=h.wJ (b,o) (by simp);simp only at this;rw [e,this]at hc;cases hc)]
  exact h.ro c oc hc
 ·intro p hp
  rcases cP.1 hp with hp|hp
  ·rw [key p.1 (fun e=>n4 p.1 (kn hp) b (by simp) e)]
   exact h.mu p (by simp [hp])
  ·rcases dK.1 hp with rfl|hp
   ·simp [hb]
   ·rw [key p.1 (fun e=>n2 (e▸kn (f:=Prod.fst) hp))]
    exact h.mu p (by simp [hp])
 ·intro p hp
  rcases cP.1 hp with hp|hp
  ·exact h.wJ p (by simp [hp])
  ·rcases dK.1 hp with rfl|hp
   ·exact h.wJ (b,o) (by simp)
   ·exact h.wJ p (by simp [hp])
 ·have:=h.nd;simpa using this
 ·intro p hp
  rcases cP.1 hp with hp|hp
  ·exact h.lo p (by simp [hp])
  ·rcases dK.1 hp with rfl|hp
   ·exact h.lo (b,o) (by simp)
   ·exact h.lo p (by simp [hp])
variable {M':MH}
theorem Real.perm(h:Real w0 own G M w)(hp:M'.Perm M):Real w0 own G M' w:=
 ⟨h.os,h.tape,h.output,h.size,h.s9,h.ro,fun p q=>h.mu p (hp.mem_iff.1 q),fun p q=>h.wJ p (hp.mem_iff.1 q),
  (hp.map _).nodup_iff.2 h.nd,fun p q=>h.lo p (hp.mem_iff.1 q)⟩
theorem Real.sub(h:Real w0 own G M w)(hp:M'.Sublist M):Real w0 own G M' w:=
 ⟨h.os,h.tape,h.output,h.size,h.s9,h.ro,fun p q=>h.mu p (hp.subset q),fun p q=>h.wJ p (hp.subset q),
  h.nd.sublist (hp.map _),fun p q=>h.lo p (hp.subset q)⟩
def put (G:GH) (b:Nat) (o:Obj):GH:=fun c=>if c=b then some o else G c
theorem E6(G:GH)(b:Nat)(o:Obj):put G b o b=some o:=by simp [put]
theorem aab{G:GH}(h:G b=none):Le G (put G b o):=fun c oc hc=>by
 by_cases e:c=b
 ·subst e;rw [h]at hc;cases hc
 ·simp [put,e,hc]
def qE (G:GH):MH→GH
 |[]=>G
 |p::M=>put (qE G M) p.1 p.2
theorem Real.Nh{p:Nat×Obj}(h:Real w0 own G (p::M) w):Real w0 own (put G p.1 p.2) M w∧Le G (put G p.1 p.2):=by
 have iR:=h.nd
 simp only [cA,nN]at iR
 refine⟨⟨h.os,h.tape,h.output,h.size,h.s9,?_,fun q hq=>h.mu q (by simp [hq]),?_,iR.2,fun q hq=>h.lo q (by simp [hq])⟩,aab (h.wJ p (by simp))⟩
 ·intro b o hb
  by_cases e:b=p.1
  ·subst e;rw [E6]at hb;cases hb;exact h.mu p (by simp)
  ·simp [put,e]at hb;exact h.ro b o hb
 ·intro q hq
  have:q.1≠p.1:=fun e=>iR.1 (e▸kn (f:=Prod.fst) hq)
  simp only [put,this,yn]
  exact h.wJ q (by simp [hq])
end
def aac (s:Nat) (M:MH) (G G':GH):Prop:=∀b,G b=none→G' b≠none→s≤b∨b∈M.map (·.1)
def Fn (P:Program) (g:FuncId) (args:Array Value) (G:GH) (M:MH) (Q:Value→GH→MH→Prop):Prop:=
 ∀w,Real w (fun b=>b∈M.map (·.1)) G M w→Calls P g args w fun e w'=>
  ∃v G' M',e=.returned v∧Real w (fun b=>b∈M.map (·.1)) G' M' w'∧Le G G'∧aac w.heap.size M G G'∧Q v G' M'
theorem Fn.mono{P:Program}{g:FuncId}{args:Array Value}{G:GH}{M:MH}{Q Q':Value→GH→MH→Prop}(h:Fn P g args G M Q)(hq:∀v G' M',Le G G'→Q v G' M'→Q' v G' M'):Fn P g args G M Q':=
 fun w hw=>(h w hw).mono fun _ _ ⟨v,G',M',a,b,c,d,e⟩=>⟨v,G',M',a,b,c,d,hq _ _ _ c e⟩
variable {G:GH} {G':GH}
theorem Real.call{w0:World}{own:Nat→Prop}{Mp Mr M':MH}{w w':World}(h:Real w0 own G (Mp++Mr) w)
  (h':Real w (fun b=>b∈Mp.map (·.1)) G' M' w')(hn:aac w.heap.size Mp G G'):Real w0 own G' (M'++Mr) w':=by
 have iR:=h.nd
 simp only [bU,kX]at iR
 obtain⟨n1,n2,n3⟩:=iR
 have hr:∀p∈Mr,w'.heap[p.1]?=some p.2:=fun p hp=>by
  rw [h'.s9 p.1 (h.ltM (by simp [hp])) (fun hm=>n3 p.1 hm p.1 (kn hp) rfl)]
  exact h.mu p (by simp [hp])
 have eG:∀p∈M',w.heap.size≤p.1∨p.1∈Mp.map (·.1):=h'.lo
 refine⟨h'.os.trans h.os,h'.tape.trans h.tape,h'.output.trans h.output,gg h.size h'.size,?_,h'.ro,?_,?_,?_,?_⟩
 ·intro b hb ho
  have hs:=h.size
  rw [h'.s9 b aa (fun hm=> ?_)]
  ·exact h.s9 b hb ho
  ·obtain⟨p,hp,e⟩:=cB.1 hm
   rcases h.lo p (by simp [hp])with hl|hl
   ·omega
   ·exact ho (e▸hl)
 ·intro p hp
  rcases cP.1 hp with hp|hp
  ·exact h'.mu p hp
  ·exact hr p hp
 ·intro p hp
  rcases cP.1 hp with hp|hp
  ·exact h'.wJ p hp
  ·cases hg:G' p.1 with
   |none=>rfl
   |some o=>
    rcases hn p.1 (h.wJ p (by simp [hp])) (by simp [hg])with hl|hl
    ·have:=h.ltM (p:=p) (by simp [hp]);omega
    ·exact absurd rfl (n3 p.1 hl p.1 (kn hp))
 ·simp only [bU,kX]
  refine⟨h'.nd,n2,fun a ha b hb e=> ?_⟩
  subst e
  obtain⟨p,hp,e⟩:=cB.1 ha
  obtain⟨q,hq,e'⟩:=cB.1 hb
  have hl:=h.ltM (p:=q) (by simp [hq])
  rcases eG p hp with hl'|hl'
  ·omega
  ·exact n3 p.1 hl' q.1 (kn hq) aa
 ·intro p hp
  rcases cP.1 hp with hp|hp
  ·rcases eG p hp with hl|hl
   ·exact .inl (gg h.size hl)
   ·obtain⟨q,hq,e⟩:=cB.1 hl
    rcases h.lo q (by simp [hq])with h2|h2
    ·exact .inl aa
    ·exact .inr (e▸h2)
  ·exact h.lo p (by simp [hp])
structure Env where
 P:Program
 n:Nat
 w0:World
 own:Nat→Prop
 G0:GH
abbrev Kt:=Fr→GH→MH→Prop
def aNi (s:Nat) (own:Nat→Prop) (G G':GH):Prop:=∀b,G b=none→G' b≠none→s≤b∨own b
structure Env.real (E:Env) (G:GH) (M:MH) (w:World):Prop where
 r:Real E.w0 E.own G M w
 le:Le E.G0 G
 nw:aNi E.w0.heap.size E.own E.G0 G
theorem Env.real.MW{E:Env}{M:MH}{w:World}(h:E.real G' M w)(hl:Le G G')(h0:Le E.G0 G):E.real G M w:=
 ⟨⟨h.r.os,h.r.tape,h.r.output,h.r.size,h.r.s9,fun b o hb=>h.r.ro b o (hl b o hb),h.r.mu,fun p hp=>by
   cases hg:G p.1 with
   |none=>rfl
   |some o=>rw [←h.r.wJ p hp,hl _ _ hg],
  h.r.nd,h.r.lo⟩,h0,fun b h1 h2=>h.nw b h1 (fun h3=>by
   cases hg:G b with
   |none=>exact h2 hg
   |some o=>rw [hl _ _ hg]at h3;cases h3)⟩
theorem Env.real.drew{E:Env}{G:GH}{M:MH}{w:World}(h:E.real G M w):E.real G M { w with drawn:=w.drawn+1 } :=⟨h.r.drew,h.le,h.nw⟩
def lift (E:Env) (Q:Exit→Kt) (e:Exit) (a:Act) (w:World):Prop:=∃f G M,Is E.n a f∧E.real G M w∧Q e f G M
def W (E:Env) (ops:Array Oper):Bool→List Oper→Fr→GH→MH→Kt→Prop
 |false,l,f,G,M,K=>∀a w (Q:Exit→Act→World→Prop),Is E.n a f→E.real G M w→(∀f G M a w,Is E.n a f→E.real G M w→K f G M→Q .normal a w)→wpList E.P ops Q l a w
 |true,l,f,G,M,K=>∀a,Is E.n a f→wpQuiet E.P ops (E.real G M) (fun a'=>∃f',Is E.n a' f'∧K f' G M) l a
def WC (E:Env) (c:Code) (Q:Exit→Kt) (f:Fr) (G:GH) (M:MH):Prop:=∀a w,Is E.n a f→E.real G M w→c.wp E.P (lift E Q) a w
def Ck (K:Kt) (Q:Exit→Kt):Exit→Kt
 | .normal=>K
 |e=>Q e
def Cr (id:Nat) (Q:Exit→Kt):Exit→Kt
 | .exit Kv=>if Kv=id then Q .normal else Q (.exit Kv)
 |e=>Q e
section
variable {E:Env} {Q:Exit→Kt} {f:Fr} {G:GH} {M:MH}
variable {x:Code} {y:Code}
theorem WC.seq(h:WC E x (Ck (WC E y Q) Q) f G M):WC E (.seq x y) Q f G M:=by
 intro a w hi hr
 refine wp_seq (wp_mono (h a w hi hr) ?_)
 rintro e a' w' ⟨f',G',M',h1,h2,h3⟩
 cases e with
 |normal=>exact h3 a' w' h1 h2
 |_=>exact⟨f',G',M',h1,h2,h3⟩
theorem WC.skip(h:Q .normal f G M):WC E .skip Q f G M:=fun _ _ hi hr=>wp_skip ⟨f,G,M,hi,hr,h⟩
variable {id:Nat}
theorem WC.exit(h:Q (.exit id) f G M):WC E (.exit id) Q f G M:=fun _ _ hi hr=>wp_exit ⟨f,G,M,hi,hr,h⟩
theorem WC.ret(h:Q .ret f G M):WC E .ret Q f G M:=fun _ _ hi hr=>wp_ret ⟨f,G,M,hi,hr,h⟩
theorem WC.block{c:Code}(h:WC E c (Cr id Q) f G M):WC E (.block id c) Q f G M:=by
 intro a w hi hr
 refine wp_block (wp_mono (h a w hi hr) ?_)
 rintro e a' w' ⟨f',G',M',h1,h2,h3⟩
 cases e with
 |exit Kv=>
  simp only [Cr]at h3
  simp only [Exit.inBlock]
  by_cases e:Kv=id
  ·simp only [e,if_true]at h3⊢;exact⟨f',G',M',h1,h2,h3⟩
  ·simp only [e,yn]at h3⊢;exact⟨f',G',M',h1,h2,h3⟩
 |_=>exact⟨f',G',M',h1,h2,h3⟩
variable {b:Bool}
theorem WC.cond{c:Operand}(hc:ev f c=.bool b)(ht:b=true→WC E x Q f G M)(hf:b=false→WC E y Q f G M):WC E (.cond c x y) Q f G M:=
 fun a w hi hr=>wp_cond_split (by rw [hi.eval];exact hc) (fun h=>ht h a w hi hr) (fun h=>hf h a w hi hr)
theorem WC.Xc{c:Operand}(hc:ev f c=.bool b)(hb:b=true)(h:WC E x Q f G M):WC E (.cond c x y) Q f G M:=
 WC.cond hc (fun _=>h) (fun e=>absurd hb (by simp [e]))
theorem WC.ax7{c:Operand}(hc:ev f c=.bool b)(hb:b=false)(h:WC E y Q f G M):WC E (.cond c x y) Q f G M:=
 WC.cond hc (fun e=>absurd hb (by simp [e])) (fun _=>h)
variable {l:List Oper}
theorem WC.region(h:W E l.toArray false l f G M (Q .normal)):WC E (.region id l.toArray false) Q f G M:=
 fun a w hi hr=>wp_region_lit (h a w _ hi hr fun _ _ _ _ _ h1 h2 h3=>⟨_,_,_,h1,h2,h3⟩)
theorem WC.draw(hm:E.P.follows .mixedOrders=true)(hB:Region.lexB .any l.toArray=true)(h:W E l.toArray true l f G M (Q .normal)):
  WC E (.region id l.toArray true) Q f G M:=by
 intro a w hi hr
 refine wp_region_quiet (C:=E.real G M) hm hB hr.drew ?_
 have key:∀(l':List Oper) (a:Act),wpQuiet E.P l.toArray (E.real G M) (fun a'=>∃f',Is E.n a' f'∧Q .normal f' G M) l' a→
   wpQuiet E.P l.toArray (E.real G M) (fun a'=>∀w',E.real G M w'→lift E Q .normal a' w') l' a:=by
  intro l'
  induction l' with
  |nil=>rintro a ⟨f',h1,h2⟩ w' h4;exact⟨f',G,M,h1,h4,h2⟩
  |cons o l' ih=>
   intro a h
   unfold wpQuiet at h⊢
   split at h
   ·rename_i hw;rw [if_pos hw];exact Oper.quiet_mono ih h
   ·rename_i hw;rw [if_neg hw];exact ih _ h
 simpa using key l a (h a hi)
theorem jH{K:Kt}(h:K f G M):Ck K Q .normal f G M:=h
theorem afB{K:Kt}(h:Q (.exit id) f G M):Ck K Q (.exit id) f G M:=h
theorem ap6{K:Kt}(h:Q .ret f G M):Ck K Q .ret f G M:=h
theorem pI(h:Q .normal f G M):Cr id Q .normal f G M:=h
theorem aCB(h:Q .ret f G M):Cr id Q .ret f G M:=h
theorem aqR(h:Q .normal f G M):Cr id Q (.exit id) f G M:=by simp only [Cr,if_true];exact h
theorem aCC{Kv:Nat}(h:Q (.exit Kv) f G M)(hn:Nat.beq Kv id=false:=by rfl):Cr id Q (.exit Kv) f G M:=by
 have:¬Kv=id:=fun e=>by subst e;simp at hn
 simp only [Cr,this,yn];exact h
theorem WC.sub{c:Code}{M':MH}(hs:M'.Sublist M)(h:WC E c Q f G M'):WC E c Q f G M:=fun a w hi hr=>h a w hi ⟨hr.r.sub hs,hr.le,hr.nw⟩
theorem WC.perm{c:Code}{M':MH}(hs:M'.Perm M)(h:WC E c Q f G M'):WC E c Q f G M:=fun a w hi hr=>h a w hi ⟨hr.r.perm hs,hr.le,hr.nw⟩
theorem Env.real.Nh{p:Nat×Obj}{w:World}(h:E.real G (p::M) w):E.real (put G p.1 p.2) M w∧Le G (put G p.1 p.2):=by
 obtain⟨h1,h2⟩:=h.r.Nh
 refine⟨⟨h1,h.le.trans h2,fun b hb ow=> ?_⟩,h2⟩
 by_cases e:b=p.1
 ·subst e;exact h.r.lo p (by simp)
 ·simp only [put,e,yn]at ow;exact h.nw b hb ow
def gk (g:Fr):List (Nat×Value)→Fr
 |[]=>g
 |p::l=>jP (gk g l) p.1 p.2
def Has (f:Fr):List (Nat×Value)→Prop
 |[]=>True
 |p::l=>f p.1=p.2∧Has f l
theorem BE{f:Fr} :∀ {l:List (Nat×Value)},Has f l→gk f l=f
 |[],_=>rfl
 |p::l,h=>by
  simp only [gk,BE h.2]
  funext t
  simp only [jP]
  cases hb:Nat.beq t p.1
  ·rfl
  ·rw [tP hb];exact h.1.symm
theorem WC.loop{X:Type}{c:Code}(live:X→List (Nat×Value))(I:X→GH→MH→Prop)(m:X→Nat)(x0:X)
  (h0:Has f (live x0))(i0:I x0 G M)
  (round:∀x g G' M',Le G G'→I x G' M'→WC E c (Ck (fun f' G'' F4=>Le G' G''∧∃x',Has f' (live x')∧I x' G'' F4∧m x'<m x) Q) (gk g (live x)) G' M'):
  WC E (.loop c) Q f G M:=by
 intro a w hi hr
 refine wp_loop_ghost (fun n a w=>∃x,m x=n∧∃f' G' M',Is E.n a f'∧E.real G' M' w∧Le G G'∧Has f' (live x)∧I x G' M') (m x0) ⟨x0,rfl,f,G,M,hi,hr,Le.rfl,h0,i0⟩ ?_
 rintro n a w ⟨x,rfl,f',G',M',h1,h2,h3,h4,h5⟩
 have:=round x f' G' M' h3 h5 a w (by rw [BE h4];exact h1) h2
 refine wp_mono this ?_
 rintro e a' w' ⟨f'',G'',F4,k1,k2,k3⟩
 cases e with
 |normal=>
  obtain⟨k4,x',k5,k6,k7⟩:=k3
  exact⟨m x',k7,x',rfl,f'',G'',F4,k1,k2,h3.trans k4,k5,k6⟩
 |_=>exact⟨f'',G'',F4,k1,k2,k3⟩
def Ok (E:Env) (f:Fr) (G:GH) (M:MH) (o:Oper) (v:Value):Prop:=∀w,E.real G M w→(execOp (ev f) o).run E.P w=.ok (.value v) w
section
variable {ops rest:List Oper} {q:Bool} {K:Kt} {d:Nat} {op:Op} {ty:TypeId} {pos:String} {aft:Array Edge} {v:Value}
theorem W.nil(h:K f G M):W E ops.toArray q [] f G M K:=by
 cases q
 ·exact fun a w Q hi hr hK=>wpList_nil (hK _ _ _ _ _ hi hr h)
 ·exact fun a hi=>wpQuiet_nil ⟨f,hi,h⟩
theorem W.ok(h:Ok E f G M ⟨some d,op,ty,pos,aft,none⟩ v)(k:W E ops.toArray q rest (jP f d v) G M K)(hd:Nat.blt d E.n=true:=by rfl):
  W E ops.toArray q (⟨some d,op,ty,pos,aft,none⟩::rest) f G M K:=by
 cases q
 ·intro a w Q hi hr hK
  refine wpList_plain rfl fun K' iG=> ?_
  unfold Oper.wp
  rw [hi.eval,h w hr]
  exact iG _ _ (k _ w Q (hi.put hd v) hr hK)
 ·intro a hi
  refine wpQuiet_step fun K' iG=> ?_
  rw [if_pos (by rfl)]
  refine⟨v,fun w hr=> ?_,iG _ (k _ (hi.put hd v))⟩
  unfold Oper.quietAt
  rw [hi.eval,h w hr]
  exact⟨rfl,rfl⟩
variable {b:Bool} {dj:Nat} {j:Nat} {want:Bool}
theorem W.no(hj:(ops.toArray[j]?).bind (·.dst)=some dj)(hb:f dj=.bool b)(hn':b= !want)
  (k:W E ops.toArray q rest (jP f d undef) G M K)(hd:Nat.blt d E.n=true:=by rfl):
  W E ops.toArray q (⟨some d,op,ty,pos,aft,some (j,want)⟩::rest) f G M K:=by
 have key:∀a,Is E.n a f→Region.wanted ⟨some d,op,ty,pos,aft,some (j,want)⟩ (yielded ops.toArray a.tmps)=false:=fun a hi=>by
  have hn:(b==want)=false:=by rw [hn'];cases want<;>rfl
  clear hn'
  have hg:a.tmps[dj]?=some (.bool b)∨a.tmps[dj]?=none:=by
   have:=hi.get dj
   rw [Az,hb]at this
   cases h:a.tmps[dj]? with
   |none=>exact .inr rfl
   |some x=>rw [h]at this;simp at this;exact .inl (by rw [this])
  simp only [Region.wanted,yielded,hj,NZ]
  rcases hg with hg|hg<;>rw [hg]
  ·cases b<;>cases want<;>simp_all
  ·rfl
 cases q
 ·intro a w Q hi hr hK
  refine wpList_step fun K' iG=> ?_
  rw [if_neg (by rw [key a hi];simp)]
  exact iG _ _ (k _ w Q (hi.put hd undef) hr hK)
 ·intro a hi
  refine wpQuiet_step fun K' iG=> ?_
  rw [if_neg (by rw [key a hi];simp)]
  exact iG _ (k _ (hi.put hd undef))
theorem W.nou(hj:(ops.toArray[j]?).bind (·.dst)=some dj)(hb:f dj=undef)
  (k:W E ops.toArray q rest (jP f d undef) G M K)(hd:Nat.blt d E.n=true:=by rfl):
  W E ops.toArray q (⟨some d,op,ty,pos,aft,some (j,want)⟩::rest) f G M K:=by
 have key:∀a,Is E.n a f→Region.wanted ⟨some d,op,ty,pos,aft,some (j,want)⟩ (yielded ops.toArray a.tmps)=false:=fun a hi=>by
  have hg:a.tmps[dj]?=some undef∨a.tmps[dj]?=none:=by
   have:=hi.get dj
   rw [Az,hb]at this
   cases h:a.tmps[dj]? with
   |none=>exact .inr rfl
   |some x=>rw [h]at this;simp at this;exact .inl (by rw [this])
  simp only [Region.wanted,yielded,hj,NZ]
  rcases hg with hg|hg<;>rw [hg]<;>rfl
 cases q
 ·intro a w Q hi hr hK
  refine wpList_step fun K' iG=> ?_
  rw [if_neg (by rw [key a hi];simp)]
  exact iG _ _ (k _ w Q (hi.put hd undef) hr hK)
 ·intro a hi
  refine wpQuiet_step fun K' iG=> ?_
  rw [if_neg (by rw [key a hi];simp)]
  exact iG _ (k _ (hi.put hd undef))
theorem W.yes{dst:Option Nat}(hj:(ops.toArray[j]?).bind (·.dst)=some dj)(hb:f dj=.bool b)(hn':b=want)
  (k:W E ops.toArray q (⟨dst,op,ty,pos,aft,none⟩::rest) f G M K)(J8:Nat.blt dj E.n=true:=by rfl):
  W E ops.toArray q (⟨dst,op,ty,pos,aft,some (j,want)⟩::rest) f G M K:=by
 have key:∀a,Is E.n a f→Region.wanted ⟨dst,op,ty,pos,aft,some (j,want)⟩ (yielded ops.toArray a.tmps)=true:=fun a hi=>by
  have hn:(b==want)=true:=by rw [hn'];cases want<;>rfl
  clear hn'
  have hl:dj<a.tmps.size:=by rw [hi.size];have h1:=J8;simp [Nat.blt]at h1;omega
  have:=hi.get dj
  rw [Az,hb,N0 hl]at this
  simp at this
  simp only [Region.wanted,yielded,hj,NZ,N0 hl,this]
  cases b<;>cases want<;>simp_all
 cases q
 ·intro a w Q hi hr hK
  have:=k a w Q hi hr hK
  unfold wpList at this⊢
  rw [if_pos (key a hi)]
  rw [if_pos (by rfl)]at this
  exact this
 ·intro a hi
  have:=k a hi
  unfold wpQuiet at this⊢
  rw [if_pos (key a hi)]
  rw [if_pos (by rfl)]at this
  exact this
theorem W.sp(dj:Nat){l:List Oper}(hb:f dj=.bool b)(ht:b=true→W E ops.toArray q l f G M K)(hf:b=false→W E ops.toArray q l f G M K):W E ops.toArray q l f G M K:=by
 cases b
 ·exact hf rfl
 ·exact ht rfl
variable {x:Operand}
theorem aaP:Ok E f G M ⟨some d,.move x,ty,pos,aft,none⟩ (ev f x):=fun _ _=>rfl
theorem PG:Ok E f G M ⟨some d,.assign x,ty,pos,aft,none⟩ (ev f x):=fun _ _=>rfl
theorem W.mv(k:W E ops.toArray q rest (jP f d (ev f x)) G M K)(hd:Nat.blt d E.n=true:=by rfl):W E ops.toArray q (⟨some d,.move x,ty,pos,aft,none⟩::rest) f G M K:=W.ok aaP k hd
theorem W.as(k:W E ops.toArray q rest (jP f d (ev f x)) G M K)(hd:Nat.blt d E.n=true:=by rfl):W E ops.toArray q (⟨some d,.assign x,ty,pos,aft,none⟩::rest) f G M K:=W.ok PG k hd
variable {y:Operand}
theorem OY{c:Operand}(hc:ev f c=.bool b)(hb:b=true):Ok E f G M ⟨some d,.pick c x y,ty,pos,aft,none⟩ (ev f x):=fun _ _=>by
 subst hb;simp [execOp,hc,asBool]
theorem OZ{c:Operand}(hc:ev f c=.bool b)(hb:b=false):Ok E f G M ⟨some d,.pick c x y,ty,pos,aft,none⟩ (ev f y):=fun _ _=>by
 subst hb;simp [execOp,hc,asBool]
theorem ayb{t:TypeId}(hx:ev f x=.bool b):Ok E f G M ⟨some d,.unOp .not t x,ty,pos,aft,none⟩ (.bool (!b)):=fun _ _=>by
 simp [execOp,hx,Op.unary]
end
end
structure fB (α:Type) where
 k:Nat
 R:GH→List Value→α→Prop
 mono:∀ {G G' cs a},Le G G'→R G cs a→R G' cs a
 len:∀ {G cs a},R G cs a→cs.length=k
 one:∀ {G cs a},R G cs a→∀u∈cs,u.oneCell'=true
 /-- its bytes -/
 w:Nat
 Ni:0<w:=by decide
 wle:w≤1024:=by decide
def jc (G:GH) (b o:Nat) (cs:List Value):Prop:=∃c T fr,G b=some (.cells c T fr)∧∀j,j<cs.length→c[o+j]?=cs[j]?
theorem jc.mono{G G':GH}{b o cs}(hl:Le G G')(h:jc G b o cs):jc G' b o cs:=by
 obtain⟨c,T,fr,h1,h2⟩:=h
 exact⟨c,T,fr,hl _ _ h1,h2⟩
theorem jc.cell{E:Env}{G:GH}{M:MH}{w:World}{b o:Nat}{cs:List Value}(h:jc G b o cs)(hr:E.real G M w){j:Nat}{v:Value}(hj:cs[j]?=some v):w.cell? ⟨b,o+j,none⟩=some v:=by
 obtain⟨c,T,fr,h1,h2⟩:=h
 have:=hr.r.ro b _ h1
 have hl:j<cs.length:=by rw [vz]at hj;exact hj.1
 simp [World.cell?,this,h2 j hl,hj]
def jd (G:GH) (v:Value) (k n:Nat) (cs:List Value):Prop:=∃b o len cap,v=.slice (some ⟨b,o,none⟩) len cap∧jc G b (o+n*k) cs
theorem jd.mono{G G':GH}{v k n cs}(hl:Le G G')(h:jd G v k n cs):jd G' v k n cs:=by
 obtain⟨b,o,len,cap,h1,h2⟩:=h
 exact⟨b,o,len,cap,h1,h2.mono hl⟩
def mN (v:Value) (k n o:Nat):Addr:=
 match v with
 | .slice (some a) _ _=>⟨a.block,a.off+n*k+o,none⟩
 |_=>⟨0,0,none⟩
def az {α:Type} (e:fB α) (G:GH) (v:Value) (l:List α):Prop:=
 ∃(a:Option Addr) (cap:Nat),v=.slice a l.length cap∧l.length≤cap∧(cap≤maxLen∧l.length*e.w≤140737488355328)∧(a=none→cap=0)∧
  ∀i (h:i<l.length),∃cs,jd G v e.k i cs∧e.R G cs l[i]
section
variable {α:Type} {e:fB α} {G G':GH} {v:Value} {l:List α}
theorem az.mono(hl:Le G G')(h:az e G v l):az e G' v l:=by
 obtain⟨a,cap,h1,h2,h3,h4,h6⟩:=h
 exact⟨a,cap,h1,h2,h3,h4,fun i hi=>let ⟨cs,x,y⟩:=h6 i hi;⟨cs,x.mono hl,e.mono hl y⟩⟩
theorem az.at(h:az e G v l){i:Nat}(hi:i<l.length):∃cs,jd G v e.k i cs∧e.R G cs l[i]:=by
 obtain⟨a,cap,h1,h2,h3,h4,h6⟩:=h
 exact h6 i hi
theorem az.bytes(h:az e G v l):l.length*e.w≤140737488355328:=by
 obtain⟨a,cap,h1,h2,h3,h4,h5⟩:=h;exact h3.2
theorem az.bq(h:az e G v l):l.length≤140737488355328:=gg (AA _ e.Ni) h.bytes
theorem az.one(h:az e G v l):v.oneCell'=true:=by
 obtain⟨a,cap,rfl,h2,h3,h4,h5⟩:=h;rfl
theorem az.nil:az e G (.slice none 0 0) []:=⟨none,0,rfl,bZ _,⟨kW _,by simp⟩,fun _=>rfl,(fun i hi=>absurd hi (qJ i))⟩
end
def gO (P:Program) (t:TypeId):Option (Bool×Nat):=
 match P.underlying t,P.info? t with
 |some (.struct _),some i|some (.array _ _),some i=>some (true,i.size)
 |some _,some i=>some (false,i.size)
 |_,_=>none
def cW (P:Program) (t:TypeId):Option TypeId:=match P.underlying t with|some (.slice e)=>some e|_=>none
def o0 (P:Program) (s j:Nat):Option Nat:=
 match P.underlying s with
 |some (.struct fs)=>(fs[j]?).bind fun f=>if P.cellsOf f.type=0∨(P.info? f.type).isNone then none else some f.offset
 |_=>none
def eg (P:Program) (t:TypeId):Option (List Value):=((P.info? t).bind (·.zero)).map (·.cells.toList)
def jb (P:Program) (t:TypeId):Option Nat:=(P.info? t).map (·.bytes)
variable {P:Program} {b:Bool} {k:Nat} {t:TypeId}
theorem J2(h:gO P t=some (b,k))(w:World):(isAgg t).run P w=.ok b w:=by
 unfold gO at h
 cases h1:P.underlying t with
 |none=>simp [h1]at h
 |some d=>
  cases h2:P.info? t with
  |none=>cases d<;>simp [h1,h2]at h
  |some i=>cases d<;>simp [h1,h2]at h<;>obtain⟨rfl,rfl⟩:=h<;>simp [isAgg,run_underlying h1]
theorem fZ(h:gO P t=some (b,k))(w:World):(sizeOf t).run P w=.ok k w:=by
 unfold gO at h
 cases h2:P.info? t with
 |none=>cases h1:P.underlying t with
  |none=>simp [h1]at h
  |some d=>cases d<;>simp [h1,h2]at h
 |some i=>
  have:i.size=k:=by
   cases h1:P.underlying t with
   |none=>simp [h1]at h
   |some d=>cases d<;>simp [h1,h2]at h<;>exact h.2
  simp [sizeOf,typeInfo,h2,this]
theorem cR{e:TypeId}(h:cW P t=some e):P.underlying t=some (.slice e):=by
 unfold cW at h
 cases h1:P.underlying t with
 |none=>simp [h1]at h
 |some d=>cases d<;>simp [h1]at h;rw [h]
def HO:Bool→List Value→Value
 |true,cs=>.agg cs.toArray
 |false,c::_=>c
 |false,[]=>undef
theorem jB(h:gO P t=some (b,k))(hk:b=false→k=1){w:World}{a:Addr}{cs:List Value}(hl:cs.length=k)
  (hc:∀j v,cs[j]?=some v→w.cell? (a.add j)=some v):(loadVar t a).run P w=.ok (HO b cs) w:=by
 subst hl
 cases b
 ·have h1:=hk rfl
  match cs,h1 with
  |[c],_=>
   have:=hc 0 c rfl
   simp [loadVar,J2 h,HO,load,Sem.run,Addr.add]at this⊢
   simp [this]
 ·have:=run_loadCells_list (P:=P) w a cs hc
  simp [loadVar,J2 h,fZ h,HO,this]
section
variable {E:Env} {f:Fr} {G:GH} {M:MH} {ops rest:List Oper} {q:Bool} {K:Kt} {d:Nat} {op:Op} {ty:TypeId} {pos:String} {aft:Array Edge} {v:Value}
variable {x y:Operand} {t t':TypeId} {k:IntKind} {m n:Int}
theorem Eo(hx:ev f x=.int k m)(hy:ev f y=.int k n):Ok E f G M ⟨some d,.binOp .lss t x y t',ty,pos,aft,none⟩ (.bool (decide (m<n))):=fun _ _=>by
 simp [execOp,hx,hy,eqGuard,binOp,Op.intCmp]
theorem ax8(hx:ev f x=.int k m)(hy:ev f y=.int k n):Ok E f G M ⟨some d,.binOp .leq t x y t',ty,pos,aft,none⟩ (.bool (decide (m≤n))):=fun _ _=>by
 simp [execOp,hx,hy,eqGuard,binOp,Op.intCmp]
theorem Xd(hx:ev f x=.int k m)(hy:ev f y=.int k n):Ok E f G M ⟨some d,.binOp .gtr t x y t',ty,pos,aft,none⟩ (.bool (decide (n<m))):=fun _ _=>by
 simp [execOp,hx,hy,eqGuard,binOp,Op.intCmp]
theorem aya(hx:ev f x=.int k m)(hy:ev f y=.int k n):Ok E f G M ⟨some d,.binOp .geq t x y t',ty,pos,aft,none⟩ (.bool (decide (n≤m))):=fun _ _=>by
 simp [execOp,hx,hy,eqGuard,binOp,Op.intCmp]
theorem Xq(hx:ev f x=.int k m)(hy:ev f y=.int k n):Ok E f G M ⟨some d,.binOp .eql t x y t',ty,pos,aft,none⟩ (.bool (decide (m=n))):=fun _ _=>by
 simp [execOp,hx,hy,eqGuard,binOp,Op.intCmp];rfl
theorem ax9(hx:ev f x=.int k m)(hy:ev f y=.int k n):Ok E f G M ⟨some d,.binOp .neq t x y t',ty,pos,aft,none⟩ (.bool (!decide (m=n))):=fun _ _=>by
 simp [execOp,hx,hy,eqGuard,binOp,Op.intCmp];rfl
theorem dZ(hx:ev f x=.int .i64 m)(hy:ev f y=.int .i64 n)(hb: -9223372036854775808≤m+n∧m+n≤9223372036854775807):
  Ok E f G M ⟨some d,.binOp .add t x y t',ty,pos,aft,none⟩ (.int .i64 (m+n)):=fun _ _=>by
 have:=IntWalk.i64_in _ hb
 simp [execOp,hx,hy,eqGuard,binOp,Op.intArith,this]
theorem lm(hx:ev f x=.int .i64 m)(hy:ev f y=.int .i64 n)(hb: -9223372036854775808≤m-n∧m-n≤9223372036854775807):
  Ok E f G M ⟨some d,.binOp .sub t x y t',ty,pos,aft,none⟩ (.int .i64 (m-n)):=fun _ _=>by
 have:=IntWalk.i64_in _ hb
 simp [execOp,hx,hy,eqGuard,binOp,Op.intArith,this]
theorem Xn(hx:ev f x=.int .i64 m)(hy:ev f y=.int .i64 n)(hb: -9223372036854775808≤m*n∧m*n≤9223372036854775807):
  Ok E f G M ⟨some d,.binOp .mul t x y t',ty,pos,aft,none⟩ (.int .i64 (m*n)):=fun _ _=>by
 have:=IntWalk.i64_in _ hb
 simp [execOp,hx,hy,eqGuard,binOp,Op.intArith,this]
theorem ajg(hx:ev f x=.int .i64 m)(hy:ev f y=.int .i64 n)(hn:n≠0)(hb: -9223372036854775808≤m.tdiv n∧m.tdiv n≤9223372036854775807):
  Ok E f G M ⟨some d,.binOp .quo t x y t',ty,pos,aft,none⟩ (.int .i64 (m.tdiv n)):=fun _ _=>by
 have:=IntWalk.i64_in _ hb
 simp [execOp,hx,hy,eqGuard,binOp,Op.intDiv,hn,this]
theorem tdiv_le{m n:Int}(h0:0≤m)(h1:0<n):0≤m.tdiv n∧m.tdiv n≤m:=by
 rw [NK h0]
 exact⟨Int.ediv_nonneg h0 aa,Int.ediv_le_self _ h0⟩
theorem zE(hx:ev f x=.int .i64 m)(hy:ev f y=.int .i64 n)(h0:0≤m)(h1:0<n)(hm:m≤9223372036854775807):
  Ok E f G M ⟨some d,.binOp .quo t x y t',ty,pos,aft,none⟩ (.int .i64 (m / n)):=by
 have h2:=tdiv_le h0 h1
 rw [←NK h0]
 exact ajg hx hy aa aa
variable {tV:Array TypeId}
theorem Cz(hx:ev f x=.int k m)(hy:ev f y=.int k n):
  Ok E f G M ⟨some d,.call { callee:=.builtin .max,args:= #[x,y],argTypes:=tV },ty,pos,aft,none⟩ (.int k (max m n)):=fun _ _=>by
 simp [execOp,resolve,invoke,builtin,hx,hy,Builtin.max_,Builtin.max2]
 split<;>omega
theorem Tf(hx:ev f x=.int k m)(hy:ev f y=.int k n):
  Ok E f G M ⟨some d,.call { callee:=.builtin .min,args:= #[x,y],argTypes:=tV },ty,pos,aft,none⟩ (.int k (min m n)):=fun _ _=>by
 simp [execOp,resolve,invoke,builtin,hx,hy,Builtin.min_,Builtin.min2]
 split<;>omega
theorem afe{P:Program}{t:TypeId}(ht:P.underlying t=some .bool)(a b:Bool)(w:World):(Op.equal t (.bool a) (.bool b)).run P w=.ok (a==b) w:=by
 have h:∀n,(Op.equalIn (n+1) t (.bool a) (.bool b)).run P w=.ok (a==b) w:=fun n=>by
  simp [Op.equalIn,run_underlying ht]
 exact h 9999
theorem awX{a b:Bool}(ht:E.P.underlying t=some .bool)(hx:ev f x=.bool a)(hy:ev f y=.bool b):Ok E f G M ⟨some d,.binOp .eql t x y t',ty,pos,aft,none⟩ (.bool (a==b)):=fun w _=>by
 have h:=afe ht a b w
 have h2:(binOp .eql t (.bool a) (.bool b)).run E.P w=.ok (.bool (a==b)) w:=by simp only [binOp];simp [h]
 simp [execOp,hx,hy,eqGuard,h2]
def blt (a b:ByteArray):Bool:=Op.bytesLess a.toList b.toList
theorem toList_inj{a b:ByteArray} :a.toList=b.toList↔a=b:=by
 rw [ByteArray.toList_eq,ByteArray.toList_eq]
 constructor
 ·intro h
  cases a;cases b
  simp only [ByteArray.mk.injEq]
  exact Ho.1 h
 ·rintro rfl;rfl
theorem beq_toList(a b:ByteArray):(a.toList==b.toList)=decide (a=b):=by
 rw [eZ];simp [toList_inj]
variable {a b:ByteArray}
theorem aqU(hx:ev f x=.string a)(hy:ev f y=.string b):Ok E f G M ⟨some d,.binOp .lss t x y t',ty,pos,aft,none⟩ (.bool (blt a b)):=fun _ _=>by
 simp [execOp,hx,hy,eqGuard,binOp,Op.stringOp,blt]
theorem HP(hx:ev f x=.string a)(hy:ev f y=.string b):Ok E f G M ⟨some d,.binOp .geq t x y t',ty,pos,aft,none⟩ (.bool (!blt a b)):=fun _ _=>by
 simp [execOp,hx,hy,eqGuard,binOp,Op.stringOp,blt]
theorem aqS(hx:ev f x=.string a)(hy:ev f y=.string b):Ok E f G M ⟨some d,.binOp .eql t x y t',ty,pos,aft,none⟩ (.bool (decide (a=b))):=fun _ _=>by
 simp [execOp,hx,hy,eqGuard,binOp,Op.stringOp,beq_toList]
theorem aqT(hx:ev f x=.string a)(hy:ev f y=.string b):Ok E f G M ⟨some d,.binOp .neq t x y t',ty,pos,aft,none⟩ (.bool (!decide (a=b))):=fun _ _=>by
 simp [execOp,hx,hy,eqGuard,binOp,Op.stringOp,beq_toList]
theorem aqQ(ht:E.P.underlying t=some .string)(hx:ev f x=.string a):
  Ok E f G M ⟨some d,.call { callee:=.builtin .len,args:= #[x],argTypes:= #[t] },ty,pos,aft,none⟩ (.int .i64 a.size):=fun _ _=>by
 simp [execOp,resolve,invoke,builtin,hx,Builtin.len_,run_underlying ht,goInt]
theorem To(ht:E.P.underlying t=some .string)(hx:ev f x=.string a)(hy:ev f y=.int k m){i:Nat}(hi:m=i∧i<a.size):
  Ok E f G M ⟨some d,.index t x y,ty,pos,aft,none⟩ (.int .u8 (a[i]'hi.2).toNat):=fun _ _=>by
 obtain⟨rfl,hi⟩:=hi
 simp [execOp,hx,hy,Instr.index,asIntOf,run_underlying ht,hi]
section
variable {α:Type} {e:fB α} {l:List α}
theorem rW(ht:cW E.P t=some t')(hs:az e G v l)(hx:ev f x=v):
  Ok E f G M ⟨some d,.call { callee:=.builtin .len,args:= #[x],argTypes:= #[t] },ty,pos,aft,none⟩ (.int .i64 l.length):=fun _ _=>by
 obtain⟨a,cap,rfl,_⟩:=hs
 simp [execOp,resolve,invoke,builtin,hx,Builtin.len_,run_underlying (cR ht),goInt]
variable {i:Nat}
theorem bd{b:Bool}(ht:cW E.P t=some t')(hk:gO E.P t'=some (b,e.k))(hs:az e G v l)(hx:ev f x=v)(hy:ev f y=.int k m)(hi:m=i∧i<l.length):
  Ok E f G M ⟨some d,.indexAddr t x y,ty,pos,aft,none⟩ (.pointer (some (mN v e.k i 0))):=fun _ _=>by
 obtain⟨rfl,hi⟩:=hi
 obtain⟨a,cap,rfl,h1,h2,h3,h5⟩:=hs
 obtain⟨cs,⟨b,o,len,aNj,h6,h7⟩,h8⟩:=h5 i hi
 simp only [Value.slice.injEq]at h6
 obtain⟨rfl,rfl,rfl⟩:=h6
 simp [execOp,hx,hy,Instr.indexAt,asIntOf,run_underlying (cR ht),hi,fZ hk,mN,Addr.add]
variable {j:Nat} {off:Nat}
theorem J3{P:Program}{t:Nat}(ht:o0 P t j=some off):∃fs fd ez,P.underlying t=some (.struct fs)∧fs[j]?=some fd∧P.info? fd.type=some ez∧¬P.cellsOf fd.type=0∧fd.offset=off:=by
 unfold o0 at ht
 split at ht
 ·rename_i fs h1
  obtain⟨fd,h2,h3⟩:=qK.1 ht
  split at h3
  ·cases h3
  ·rename_i h4
   cases h5:P.info? fd.type with
   |none=>simp [h5]at h4
   |some ez=>exact⟨fs,fd,ez,h1,h2,h5,fun h=>h4 (.inl h),by simpa using h3⟩
 ·cases ht
variable {kk:Nat} {o:Nat}
theorem rb{cs vs:List Value}{b:Bool}(ht:gO E.P t=some (b,j))(he:jd G v kk i cs)(hx:ev f x=.pointer (some (mN v kk i o)))
  (hv:(cs.drop o).take j=vs)(hl:vs.length=j)(hb:b=false→j=1):Ok E f G M ⟨some d,.load t x,ty,pos,aft,none⟩ (HO b vs):=fun w hr=>by
 obtain⟨bb,oo,len,cap,rfl,hc⟩:=he
 subst hv
 have:=jB ht hb (w:=w) (a:=⟨bb,oo+i*kk+o,none⟩) hl (fun j' v' yd=>by
  rw [Addr.add_lit]
  rw [mF]at yd
  split at yd
  ·rw [oA]at yd
   have:=hc.cell hr yd
   rwa [←N1]at this
  ·cases yd)
 simp [execOp,hx,Instr.loadAt,Instr.sureAddr,mN,this]
theorem afA(ht:o0 E.P t j=some off)(hx:ev f x=.pointer (some (mN v kk i o)))(hv:∃a n c,v=.slice (some a) n c):
  Ok E f G M ⟨some d,.fieldAddr t x j,ty,pos,aft,none⟩ (.pointer (some (mN v kk i (o+off)))):=fun w hr=>by
 obtain⟨a,n,c,rfl⟩:=hv
 obtain⟨fs,fd,ez,h1,h2,h5,h6,h4⟩:=J3 ht
 have h7:(sizeOf fd.type).run E.P w=.ok (E.P.cellsOf fd.type) w:=by simp [sizeOf,typeInfo,h5,Program.cellsOf]
 subst h4
 simp [execOp,hx,Instr.fieldAt,run_underlying h1,h2,Instr.sureAddr,fieldPlace,h7,h6,mN,Addr.add_lit,N1]
end
def uI:MH→Nat→Option (Nat×Obj)
 |[],_=>none
 |p::_,0=>some p
 |_::M,i+1=>uI M i
def qY:MH→Nat→Obj→MH
 |[],_,_=>[]
 |p::M,0,o=>(p.1,o)::M
 |p::M,i+1,o=>p::qY M i o
theorem cY:∀ {M:MH} {i:Nat} {p:Nat×Obj},uI M i=some p→p∈M
 |_::_,0,_,h=>by simp only [uI,tK]at h;simp [h]
 |_::M,i+1,_,h=>dk _ (cY (M:=M) h)
theorem Nj:∀ {M:MH} {i:Nat} {p:Nat×Obj},uI M i=some p→∃A B,M=A++p::B∧∀o,qY M i o=A++(p.1,o)::B
 |q::M,0,p,h=>by
  simp only [uI,tK]at h
  exact⟨[],M,by simp [h],fun o=>by simp [qY,h]⟩
 |q::M,i+1,p,h=>by
  obtain⟨A,B,h1,h2⟩:=Nj (M:=M) h
  exact⟨q::A,B,by simp [h1],fun o=>by simp [qY,h2]⟩
def setAt:List Value→Nat→List Value→List Value
 |l,_,[]=>l
 |[],_,_=>[]
 |x::l,o+1,vs=>x::setAt l o vs
 |_::l,0,v::vs=>v::setAt l 0 vs
theorem lU:∀(l:List Value) (o:Nat) (vs:List Value),o+vs.length≤l.length→setAt l o vs=l.take o++vs++l.drop (o+vs.length)
 |l,o,[],_=>by cases l<;>cases o<;>simp [setAt]
 |[],o,v::vs,h=>by simp at h
 |x::l,o+1,v::vs,h=>by
  simp only [setAt]
  rw [lU l o (v::vs) (by simp at h⊢;omega)]
  simp [Nat.add_right_comm o 1]
 |x::l,0,v::vs,h=>by
  simp only [setAt]
  rw [lU l 0 vs (by simp at h⊢;omega)]
  simp
variable {L:List Value} {T:TypeId} {i:Nat} {j:Nat} {o:Nat} {vs:List Value}
theorem zn{b:Nat}{bb:Bool}(ht:gO E.P t=some (bb,j))(hx:ev f x=.pointer (some ⟨b,o,none⟩))(hm:uI M i=some (b,.cells L.toArray T (0,0)))
  (hv:(L.drop o).take j=vs)(hl:vs.length=j)(hb:bb=false→j=1):Ok E f G M ⟨some d,.load t x,ty,pos,aft,none⟩ (HO bb vs):=fun w hr=>by
 subst hv
 have:=hr.r.mu _ (cY hm)
 have:=jB ht hb (w:=w) (a:=⟨b,o,none⟩) hl (fun j' v' yd=>by
  rw [Addr.add_lit]
  rw [mF]at yd
  split at yd
  ·rw [oA]at yd
   simp only at this
   simp [World.cell?,this,yd]
  ·cases yd)
 simp [execOp,hx,Instr.loadAt,Instr.sureAddr,this]
theorem FT{b off:Nat}(ht:o0 E.P t j=some off)(hx:ev f x=.pointer (some ⟨b,o,none⟩)):
  Ok E f G M ⟨some d,.fieldAddr t x j,ty,pos,aft,none⟩ (.pointer (some ⟨b,o+off,none⟩)):=fun w hr=>by
 obtain⟨fs,fd,ez,h1,h2,h5,h6,h4⟩:=J3 ht
 have h7:(sizeOf fd.type).run E.P w=.ok (E.P.cellsOf fd.type) w:=by simp [sizeOf,typeInfo,h5,Program.cellsOf]
 subst h4
 simp [execOp,hx,Instr.fieldAt,run_underlying h1,h2,Instr.sureAddr,fieldPlace,h7,h6,Addr.add_lit]
theorem BF(h:vs.all Value.oneCell'=true):∀v∈vs,v.oneCell'=true:=by simpa using h
theorem J4{E:Env}{G:GH}{M:MH}{w:World}{b:Nat}{L':List Value}(hr:E.real G M w)(hm:uI M i=some (b,.cells L.toArray T (0,0))):
  E.real G (qY M i (.cells L'.toArray T (0,0))) (w.setRow b L'.toArray):=by
 obtain⟨A,B,h1,h2⟩:=Nj hm
 have hb:=hr.r.mu _ (cY hm)
 have e:w.setRow b L'.toArray={ w with heap:=w.heap.setIfInBounds b (.cells L'.toArray T (0,0)) } :=by
  simp only [World.setRow]
  congr 1
  apply Array.ext_getElem?
  intro c
  rw [Array.getElem?_modify,W2]
  by_cases hc:b=c
  ·subst hc
   simp only at hb
   have ko:b<w.heap.size:=(NY.1 hb).1
   rw [if_pos rfl,if_pos rfl,if_pos ko,hb]
   rfl
  ·simp [hc]
 rw [h2,e]
 subst h1
 exact⟨hr.r.set,hr.le,hr.nw⟩
theorem W.store{b i o:Nat}{L vs L':List Value}{T:TypeId}{bb:Bool}{j:Nat}{v:Value}(ht:gO E.P t=some (bb,j))(hx:ev f x=.pointer (some ⟨b,o,none⟩))(hm:uI M i=some (b,.cells L.toArray T (0,0)))
  (hy:ev f y=v)(hv:v.cells.toList=vs)(hl:vs.length=j)(h1:vs.all Value.oneCell'=true)(hb:Nat.ble (o+j) L.length=true)(hL':setAt L o vs=L')
  (k:W E ops.toArray false rest f G (qY M i (.cells L'.toArray T (0,0))) K):
  W E ops.toArray false (⟨none,.store t x y,ty,pos,aft,none⟩::rest) f G M K:=by
 intro a w Q hi hr hK
 subst hL'
 have ow:o+j≤L.length:=by simpa using hb
 have gU:(execOp (ev f) ⟨none,.store t x y,ty,pos,aft,none⟩).run E.P w=.ok .skip (w.setRow b (setAt L o vs).toArray):=by
  have h2:=hr.r.mu _ (cY hm)
  have h3:=run_storeCells_at E.P b o T vs 0 L.toArray w (by simpa using h2) (by simp;omega) (BF h1)
  simp only [rK]at h3
  rw [←lU L o vs aa]at h3
  have h4:v.cells.size=j:=by rw [←hl,←hv];simp
  simp [execOp,hx,hy,Instr.storeAt,Instr.sureAddr,storeVar,fZ ht,h4,hv,h3]
 refine wpList_plain rfl fun K' iG=> ?_
 unfold Oper.wp
 rw [hi.eval,gU]
 exact iG _ _ (k _ _ Q (hi.zJ undef) (J4 hr hm) hK)
theorem Env.real.alloc{w:World}(h:E.real G M w)(o:Obj):E.real G ((w.heap.size,o)::M) (w.alloc o):=⟨h.r.alloc o,h.le,h.nw⟩
theorem W.alloc{L:List Value}(ht:eg E.P t=some L)(k:∀b,W E ops.toArray false rest (jP f d (.pointer (some ⟨b,0,none⟩))) G ((b,.cells L.toArray t (0,0))::M) K)(hd:Nat.blt d E.n=true:=by rfl):
  W E ops.toArray false (⟨some d,.alloc t,ty,pos,aft,none⟩::rest) f G M K:=by
 intro a w Q hi hr hK
 have gU:(execOp (ev f) ⟨some d,.alloc t,ty,pos,aft,none⟩).run E.P w=.ok (.value (.pointer (some ⟨w.heap.size,0,none⟩))) (w.alloc (.cells L.toArray t (0,0))):=by
  simp only [eg,qF,qK]at ht
  obtain⟨z,⟨ez,h1,h2⟩,rfl⟩:=ht
  simp [execOp,Instr.alloc,zeroValue,typeInfo,h1,h2,newVar,newRow]
 refine wpList_plain rfl fun K' iG=> ?_
 unfold Oper.wp
 rw [hi.eval,gU]
 exact iG _ _ (k _ _ _ Q (hi.put hd _) (hr.alloc _) hK)
theorem W.box{v:Value}{L:List Value}(hx:ev f x=v)(hv:v.cells.toList=L)(k:∀b,W E ops.toArray false rest (jP f d (.pointer (some ⟨b,0,none⟩))) G ((b,.cells L.toArray t (0,0))::M) K)(hd:Nat.blt d E.n=true:=by rfl):
  W E ops.toArray false (⟨some d,.box t x,ty,pos,aft,none⟩::rest) f G M K:=by
 intro a w Q hi hr hK
 have gU:(execOp (ev f) ⟨some d,.box t x,ty,pos,aft,none⟩).run E.P w=.ok (.value (.pointer (some ⟨w.heap.size,0,none⟩))) (w.alloc (.cells L.toArray t (0,0))):=by
  subst hv
  simp [execOp,Instr.box,newVar,newRow,hx]
 refine wpList_plain rfl fun K' iG=> ?_
 unfold Oper.wp
 rw [hi.eval,gU]
 exact iG _ _ (k _ _ _ Q (hi.put hd _) (hr.alloc _) hK)
theorem aaQ{vs:Array Value}{v:Value}(hx:ev f x=.tuple vs)(hv:vs[i]?=some v):Ok E f G M ⟨some d,.extract x i,ty,pos,aft,none⟩ v:=fun w hr=>by
 simp [execOp,hx,Instr.extract,hv]
def jR (P:Program) (g:FuncId):Prop:=∀args w,(callFunc g args).run P w=.ok (.enter g args) w
variable {g:FuncId}
theorem lh{P : Program}{fn : Func}(hf : P.funcs[g]? = some fn)(hb : fn.body.isSome = true)(hn : (fn.name == "runtime.NumGoroutine") = false) : jR P g := fun args w => by
 have ow:fn.body≠none:=by cases h:fn.body<;>simp [h]at hb⊢
 have hn' : ¬ fn.name = "runtime.NumGoroutine" := by simpa using hn
 simp [callFunc,hf,ow,hn']
def Fc (P:Program) (g:FuncId) (args:List Value) (G:GH) (M:MH) (Q:Value→GH→MH→Prop):Prop:=jR P g∧Fn P g args.toArray G M Q
theorem Fc.mono{P:Program}{g:FuncId}{args:List Value}{G:GH}{M:MH}{Q Q':Value→GH→MH→Prop}(h:Fc P g args G M Q)(hq:∀v G' M',Le G G'→Q v G' M'→Q' v G' M'):Fc P g args G M Q':=
 ⟨h.1,h.2.mono hq⟩
theorem W.aH{args:List Operand}{tV:Array TypeId}{v:Value}(hc:Fc E.P g vs G [] (fun v' _ _=>v'=v))(ha:args.map (ev f)=vs)
  (k:W E ops.toArray q rest (jP f d v) G M K)(hd:Nat.blt d E.n=true:=by rfl):
  W E ops.toArray q (⟨some d,.call { callee:=.value (.func g),args:=args.toArray,argTypes:=tV },ty,pos,aft,none⟩::rest) f G M K:=by
 have gU:∀w,(execOp (ev f) ⟨some d,.call { callee:=.value (.func g),args:=args.toArray,argTypes:=tV },ty,pos,aft,none⟩).run E.P w=.ok (.enter g vs.toArray) w:=fun w=>by
  simp [execOp,resolve,invoke,ev,Deferred.ofValue,ha,hc.1 _ w]
 have RZ:∀w,E.real G M w→Calls E.P g vs.toArray w fun e w'=>e=.returned v∧E.real G M w':=fun w hr=>by
  have h1:=hr.MW Le.rfl hr.le
  have hw:Real w (fun b=>b∈(([]:MH).map (·.1))) G [] w:=⟨rfl,rfl,rfl,bZ _,fun _ _ _=>rfl,hr.r.ro,(fun _ h=>nomatch h),(fun _ h=>nomatch h),HA,(fun _ h=>nomatch h)⟩
  refine(hc.2 w hw).mono ?_
  rintro e w' ⟨v',G',M',rfl,h2,h3,h4,rfl⟩
  have h5:=Real.call (Mp:=[]) (Mr:=M) (by simpa using hr.r) h2 h4
  have h6:Real E.w0 E.own G' M w':=h5.sub (cH _ _)
  refine⟨rfl,Env.real.MW (G':=G') ⟨h6,hr.le.trans h3,?_⟩ h3 hr.le⟩
  intro b hb ow
  cases hg:G b with
  |none=>
   rcases h4 b hg ow with h7|h7
   ·exact .inl (gg hr.r.size h7)
   ·simp at h7
  |some o=>exact hr.nw b hb (by simp [hg])
 cases q
 ·intro a w Q hi hr hK
  refine wpList_plain rfl fun K' iG=> ?_
  unfold Oper.wp
  rw [hi.eval,gU w]
  refine(RZ w hr).mono ?_
  rintro e w' ⟨rfl,h⟩
  exact iG _ _ (k _ w' Q (hi.put hd v) h hK)
 ·intro a hi
  refine wpQuiet_step fun K' iG=> ?_
  rw [if_pos (by rfl)]
  refine⟨v,fun w hr=> ?_,iG _ (k _ (hi.put hd v))⟩
  unfold Oper.quietAt
  rw [hi.eval,gU w]
  exact⟨rfl,RZ w hr⟩
theorem W.call{g:FuncId}{args:List Operand}{tV:Array TypeId}{vs:List Value}{Mp Mr:MH}{Q:Value→GH→MH→Prop}(hc:Fc E.P g vs G Mp Q)(ha:args.map (ev f)=vs)(hM:(Mp++Mr).Perm M)
  (k:∀v G' M',Le G G'→Q v G' M'→W E ops.toArray false rest (jP f d v) G' (M'++Mr) K)(hd:Nat.blt d E.n=true:=by rfl):
  W E ops.toArray false (⟨some d,.call { callee:=.value (.func g),args:=args.toArray,argTypes:=tV },ty,pos,aft,none⟩::rest) f G M K:=by
 intro a w Q' hi hr hK
 have gU:(execOp (ev f) ⟨some d,.call { callee:=.value (.func g),args:=args.toArray,argTypes:=tV },ty,pos,aft,none⟩).run E.P w=.ok (.enter g vs.toArray) w:=by
  simp [execOp,resolve,invoke,ev,Deferred.ofValue,ha,hc.1 _ w]
 refine wpList_plain rfl fun K' iG=> ?_
 unfold Oper.wp
 rw [hi.eval,gU]
 have AQ:=hr.r.perm hM
 have hw:Real w (fun b=>b∈(Mp.map (·.1))) G Mp w:=by
  have hs:=AQ.sub (M':=Mp) (aI _ _)
  exact⟨rfl,rfl,rfl,bZ _,fun _ _ _=>rfl,hr.r.ro,hs.mu,hs.wJ,hs.nd,fun p hp=>.inr (kn hp)⟩
 refine(hc.2 w hw).mono ?_
 rintro e w' ⟨v',G',M',rfl,h2,h3,h4,h5⟩
 have h6:=Real.call AQ h2 h4
 refine iG _ _ (k v' G' M' h3 h5 _ w' Q' (hi.put hd v') ⟨h6,hr.le.trans h3,?_⟩ hK)
 intro b hb ow
 cases hg:G b with
 |none=>
  rcases h4 b hg ow with h7|h7
  ·exact .inl (gg hr.r.size h7)
  ·obtain⟨p,hp,e⟩:=cB.1 h7
   rcases AQ.lo p (by simp [hp])with h8|h8
   ·exact .inl (e▸h8)
   ·exact .inr (e▸h8)
 |some o=>exact hr.nw b hb (by simp [hg])
end
def L0:Nat→List Value→List (Nat×Value)
 |_,[]=>[]
 |i,v::l=>(i,v)::L0 (i+1) l
def axN (P:Program) (f:Fr) (M:MH):ResultVar→Value→Prop
 | .tmp t,v=>f t=v
 | .cell a t,v=>∃b L T k bb,f a=.pointer (some ⟨b,0,none⟩)∧(b,Obj.cells (List.toArray L) T (0,0))∈M∧gO P t=some (bb,k)∧(bb=false→k=1)∧L.length=k∧v=HO bb L
def uP (P:Program) (f:Fr) (M:MH):List ResultVar→List Value→Prop
 |[],[]=>True
 |r::rs,v::vs=>axN P f M r v∧uP P f M rs vs
 |_,_=>False
def pack:List Value→Value
 |[v]=>v
 |vs=>.tuple vs.toArray
def WG (a:Act):ResultVar→Sem Value
 | .tmp t=>pure (a.tmps.getD t undef)
 | .cell a' t=>do loadVar t (←asAddr (a.tmps.getD a' undef))
variable {M:MH} {P:Program} {a:Act} {f:Fr}
theorem apQ{n:Nat}{w:World}(hi:Is n a f)(hm:∀p∈M,w.heap[p.1]?=some p.2){r:ResultVar}{v:Value}(h:axN P f M r v):(WG a r).run P w=.ok v w:=by
 cases r with
 |tmp t=>simp only [axN]at h;simp [WG,hi.get,h]
 |cell a' t=>
  obtain⟨b,L,T,k,bb,h3,h4,h5,h6,h7,rfl⟩:=h
  have h8:=jB (w:=w) (a:=⟨b,0,none⟩) h5 h6 h7 (fun j v hj=>by
   have:=hm _ h4
   simp only at this
   rw [Addr.add_lit]
   simp [World.cell?,this,hj])
  simp [WG,hi.get,h3,asAddr,h8]
variable {fn:Func}
theorem aad{n:Nat}{w:World}(hi:Is n a f)(hm:∀p∈M,w.heap[p.1]?=some p.2){vs:List Value}(h:uP P f M fn.results.toList vs):
  (results fn a.tmps).run P w=.ok (pack vs) w:=by
 have key:∀(rs:List ResultVar) (vs:List Value),uP P f M rs vs→(rs.mapM (WG a)).run P w=.ok vs w:=by
  intro rs
  induction rs with
  |nil=>intro vs h;cases vs<;>simp [uP]at h⊢
  |cons r rs ih=>
   intro vs h
   cases vs with
   |nil=>simp [uP]at h
   |cons v vs=>
    obtain⟨h1,h2⟩:=h
    simp [List.mapM_cons,apQ hi hm h1,ih vs h2]
 have h1:=key _ _ h
 have h2:(fn.results.mapM (WG a)).run P w=.ok vs.toArray w:=by
  rw [←N2 (xs:=fn.results),List.mapM_toArray]
  simp [h1]
 have h3:results fn a.tmps=(do let vs←fn.results.mapM (WG a);pure (if h:vs.size=1 then vs[0]else .tuple vs)):=by
  unfold results
  congr 1
 rw [h3]
 simp only [Sem.run_bind,h2,Result.andThen_ok]
 match vs with
 |[]=>simp [pack]
 |[v]=>simp [pack]
 |v::u::vs=>simp [pack]
variable {args:List Value}
theorem Is.start(hl':args.length≤fn.ntmps):Is fn.ntmps { tmps:=args.toArray++Array.replicate (fn.ntmps-args.toArray.size) undef,defers:=[] } (gk (fun _=>undef) (L0 0 args)):=by
 have Mg:∀(l:List Value) (i t:Nat),gk (fun _=>undef) (L0 i l) t=if i≤t∧t<i+l.length then l.getD (t-i) undef else undef:=by
  intro l
  induction l with
  |nil=>intro i t;simp [L0,gk]
  |cons v l ih=>
   intro i t
   simp only [L0,gk,jP]
   cases hb:Nat.beq t i
   ·have ig:t≠i:=fun e=>by subst e;simp at hb
    simp only [cond_false,ih]
    by_cases h1:i+1≤t∧t<i+1+l.length
    ·rw [if_pos h1,if_pos (by simp;omega)]
     obtain⟨s,hs⟩:∃s,t-i=s+1:=⟨t-i-1,aa⟩
     rw [hs,show t-(i+1)=s from by omega]
     simp
    ·rw [if_neg h1,if_neg (by simp;omega)]
   ·have he:t=i:=tP hb
    subst he
    simp
 refine⟨by simp;omega,fun t=> ?_,rfl⟩
 rw [Mg]
 simp only [kW,true_and,rQ,Nat.sub_zero,Az,fc]
 by_cases h1:t<args.length
 ·rw [if_pos h1,Array.getElem?_append_left (by simpa using h1)]
  simp
 ·rw [if_neg h1,Array.getElem?_append_right (by simpa using h1)]
  rw [Array.getElem?_replicate]
  split<;>rfl
variable {G:GH} {Q:Value→GH→MH→Prop} {rs:List ResultVar}
theorem Fc.body{c:Code}{n:Nat}
  (hn:fn.ntmps=n)(hr:fn.results.toList=rs)(hl:Nat.ble args.length n=true)
  (h:∀w0,WC ⟨P,n,w0,fun b=>b∈M.map (·.1),G⟩ c (fun e f G' M'=>(e=.normal∨e=.ret)∧∃vs,uP P f M' rs vs∧∃F4,F4.Sublist M'∧Q (pack vs) G' F4) (gk (fun _=>undef) (L0 0 args)) G M)
  (w:World)(hw:Real w (fun b=>b∈M.map (·.1)) G M w):c.wp P (bodyPost P fn fun e w'=>∃v G' M',e=Ending.returned v∧Real w (fun b=>b∈M.map (·.1)) G' M' w'∧Le G G'∧aac w.heap.size M G G'∧Q v G' M') { tmps:=args.toArray++Array.replicate (fn.ntmps-args.toArray.size) undef,defers:=[] } w:=by
 subst hn
 subst hr
 refine wp_mono (h w _ w (Is.start (by simpa using hl)) ⟨hw,Le.rfl,fun b h1 h2=>absurd h1 h2⟩) ?_
 rintro e a w' ⟨f',G',M',h1,h2,h3,vs,h4,F4,pw,h5⟩
 have aNk:=aad (P:=P) (w:=w') h1 h2.r.mu h4
 have axO:a.defers=[]∧∃v,(results fn a.tmps).run P w'=.ok v w'∧(fun e w'=>∃v G' M',e=Ending.returned v∧Real w (fun b=>b∈M.map (·.1)) G' M' w'∧Le G G'∧aac w.heap.size M G G'∧Q v G' M') (.returned v) w':=
  ⟨h1.dfr,_,aNk,_,G',F4,rfl,h2.r.sub pw,h2.le,h2.nw,h5⟩
 rcases h3 with rfl|rfl
 ·exact axO
 ·exact axO
theorem Fc.intro{g:FuncId}{c:Code}{n:Nat}
  (qc:jR P g)(hf:P.funcs[g]?=some fn)(hb:fn.body=some c)(hn:fn.ntmps=n)(hr:fn.results.toList=rs)(hl:Nat.ble args.length n=true)
  (h:∀w0,WC ⟨P,n,w0,fun b=>b∈M.map (·.1),G⟩ c (fun e f G' M'=>(e=.normal∨e=.ret)∧∃vs,uP P f M' rs vs∧∃F4,F4.Sublist M'∧Q (pack vs) G' F4) (gk (fun _=>undef) (L0 0 args)) G M):
  Fc P g args G M Q:=⟨qc,fun w hw=>calls_of_wp hf hb (Fc.body hn hr hl h w hw)⟩
section
variable {E:Env} {f:Fr} {G:GH} {M:MH} {ops rest:List Oper} {q:Bool} {K:Kt} {d:Nat} {ty:TypeId} {pos:String} {aft:Array Edge} {v:Value} {x y:Operand} {t t':TypeId} {k:IntKind} {m n:Int}
theorem az.form{α:Type}{e:fB α}{l:List α}(h:az e G v l):∃a c,v=.slice a l.length c:=by
 obtain⟨a,cap,h1,_⟩:=h
 exact⟨a,cap,h1⟩
def jF (P:Program) (t:TypeId):Option (List (Nat×Nat)):=
 match P.underlying t with
 |some (.struct fs)=>fs.toList.mapM fun f=>(P.info? f.type).map fun i=>(f.offset,i.size)
 |_=>none
def Tv (pl:List (Nat×Nat)) (L:List Value):List (Nat×List Value)→List Value
 |[]=>L
 |(i,cs)::r=>match pl[i]? with
  |some (o,_)=>Tv pl (setAt L o cs) r
  |none=>L
def aae (pl:List (Nat×Nat)) (n:Nat):List (Nat×List Value)→Bool
 |[]=>true
 |(i,cs)::r=>(match pl[i]? with
  |some (o,k)=>Nat.beq cs.length k&&Nat.ble (o+k) n
  |none=>false)&&aae pl n r
theorem zi(l:List Value)(o:Nat)(vs:List Value)(h:o+vs.length≤l.length):(setAt l o vs).length=l.length:=by
 rw [lU l o vs h]
 simp;omega
theorem Tw(cs:List Value):∀(o:Nat) (L:List Value),o+cs.length≤L.length→(cs.zipIdx.foldl (fun(a:Array Value) (p:Value×Nat)=>a.setIfInBounds (o+p.2) p.1) L.toArray)=(setAt L o cs).toArray:=by
 intro o L h
 suffices ∀(cs:List Value) (j:Nat) (L:List Value),o+j+cs.length≤L.length→(cs.zipIdx j).foldl (fun(a:Array Value) (p:Value×Nat)=>a.setIfInBounds (o+p.2) p.1) L.toArray=(setAt L (o+j) cs).toArray by
  simpa using this cs 0 L (by simpa using h)
 intro cs
 induction cs with
 |nil=>intro j L _;cases L<;>cases h:(o+j)<;>simp [setAt]
 |cons c cs ih=>
  intro j L h
  simp only [List.zipIdx_cons,wm,List.setIfInBounds_toArray]
  rw [ih (j+1) _ (by simp at h⊢;omega)]
  congr 1
  simp only [jo]at h
  rw [lU _ _ _ (by simp;omega),lU _ _ _ (by simp;omega)]
  apply N3
  intro i
  simp only [List.getElem?_append,bV,cg,jo,mF,oA,List.getElem?_set,List.getElem?_cons,bP]
  have e1:min (o+(j+1)) L.length=o+j+1:=aa
  have e2:min (o+j) L.length=o+j:=aa
  rw [e1,e2]
  by_cases h1:i<o+j
  ·rw [if_pos aa,if_pos aa,if_pos aa,if_neg aa,if_pos aa,if_pos aa,if_pos aa]
  ·by_cases h2:i=o+j
   ·subst h2
    rw [if_pos aa,if_pos aa,if_pos aa,if_pos aa,if_pos aa,if_pos aa,if_neg aa,if_pos aa]
   ·by_cases h3:i<o+j+1+cs.length
    ·rw [if_pos aa,if_neg aa,if_pos aa,if_neg aa,if_neg aa]
     congr 1
    ·rw [if_neg aa,if_neg aa,if_neg aa]
     congr 1;omega
theorem fill_eq{pl:List (Nat×Nat)} :∀(ps:List (Nat×Value)) (L:List Value),aae pl L.length (ps.map fun p=>(p.1,p.2.cells.toList))=true→
  Instr.fill (fun i=>pl[i]?) L.toArray ps=some (Tv pl L (ps.map fun p=>(p.1,p.2.cells.toList))).toArray
 |[],L,_=>by simp [Instr.fill,Tv]
 |(i,v)::ps,L,h=>by
  simp only [cA,aae,cm]at h
  obtain⟨h1,h2⟩:=h
  cases hp:pl[i]? with
  |none=>simp [hp]at h1
  |some p=>
   obtain⟨o,k⟩:=p
   simp only [hp,cm,Nat.ble_eq]at h1
   obtain⟨h3,h4⟩:=h1
   have h3:=tP h3
   have h5:v.cells.size=k:=by simpa using h3
   have h6:=fill_eq ps (setAt L o v.cells.toList) (by rw [zi _ _ _ aa];exact h2)
   simp only [Instr.fill,hp,cA,Tv]
   rw [if_neg (by simp [h5];omega)]
   have h7:=Tw v.cells.toList o L aa
   rw [show(v.cells.zipIdx.foldl (fun cs (x:Value×Nat)=>cs.setIfInBounds (o+x.2) x.1) L.toArray)=(setAt L o v.cells.toList).toArray from by
    rw [←h7]
    rw [←Array.foldl_toList,Array.toList_zipIdx]]
   exact h6
theorem aY{pl:List (Nat×Nat)}{z L:List Value}{parts:List (Nat×Operand)}{ps:List (Nat×List Value)}(ht:jF E.P t=some pl)(hz:eg E.P t=some z)
  (hp:(parts.map fun p=>(p.1,(ev f p.2).cells.toList))=ps)(hb:aae pl z.length ps=true)(hL:Tv pl z ps=L):
  Ok E f G M ⟨some d,.build t parts.toArray,ty,pos,aft,none⟩ (.agg L.toArray):=fun w _=>by
 subst hp
 subst hL
 simp only [eg,qF,qK]at hz
 obtain⟨zv,⟨ez,h1,h2⟩,rfl⟩:=hz
 unfold jF at ht
 split at ht
 ·rename_i fs h3
  have h4:∀(l:List Field) (pl:List (Nat×Nat)),(l.mapM fun f=>(E.P.info? f.type).map fun i=>(f.offset,i.size))=some pl→
    (l.mapM fun f=>(do pure (f.offset,←sizeOf f.type):Sem (Nat×Nat))).run E.P w=.ok pl w:=by
   intro l
   induction l with
   |nil=>intro pl h;simp at h;subst h;simp
   |cons a l ih=>
    intro pl h
    simp only [List.mapM_cons,Option.bind_eq_bind,qK,qF]at h
    obtain⟨p,⟨i,h5,rfl⟩,pl',h6,h7⟩:=h
    simp at h7
    subst h7
    have:=ih pl' h6
    have hs:(sizeOf a.type).run E.P w=.ok i.size w:=by simp [sizeOf,typeInfo,h5]
    simp only [List.mapM_cons,Sem.run_bind,hs,Result.andThen_ok,Sem.run_pure,this]
  have h5:=h4 _ _ ht
  have h6:(fs.mapM fun f=>(do pure (f.offset,←sizeOf f.type):Sem (Nat×Nat))).run E.P w=.ok pl.toArray w:=by
   rw [←N2 (xs:=fs),List.mapM_toArray]
   simp only [Sem.run_map,h5]
   rfl
  have h7:=fill_eq (pl:=pl) (parts.map fun p=>(p.1,ev f p.2)) zv.cells.toList (by simpa [lS,N4]using hb)
  simp only [lS,N4]at h7
  simp only [execOp,Instr.build,zeroValue,typeInfo,Sem.run_bind,Result.andThen_ok,h1,h2,Sem.run_pure,run_program,run_underlying h3,h6,yq]
  have h8:(fun(i:Nat)=>pl.toArray[i]?)=(fun(i:Nat)=>pl[i]?):=by funext i;simp
  simp only [N2]at h7
  rw [h8,h7]
  simp
 ·cases ht
end
def gT:List Value→List Value→Bool
 |[],[]=>true
 | .string a::r,.string b::s=>decide (a=b)&&gT r s
 | .int _ a::r,.int _ b::s=>decide (a=b)&&gT r s
 | .bool a::r,.bool b::s=>decide (a=b)&&gT r s
 |_,_=>false
def al1 (P:Program) (t:TypeId):Option TypeDesc:=
 match P.underlying t with
 |some .bool=>some .bool
 |some (.int k)=>some (.int k)
 |some .string=>some .string
 |_=>none
def Ea (P:Program):Nat→List Field→Option (List TypeDesc)
 |_,[]=>some []
 | i, f :: fs => if f.name = "_" ∨ f.offset ≠ i then none else (al1 P f.type).bind fun k => (Ea P (i + 1) fs).map (k :: ·)
def HH (P:Program) (t:TypeId):Option (List TypeDesc):=
 match P.underlying t with
 |some (.struct fs)=>if P.stoodInHeld t||P.eqGuardType P.depth t then none else Ea P 0 fs.toList
 |_=>none
def kindOk:TypeDesc→Value→Bool
 | .string,.string _=>true
 | .bool,.bool _=>true
 | .int k,.int k' _=>decide (k=k')
 |_,_=>false
def nF:List TypeDesc→List Value→Bool
 |[],[]=>true
 |k::ks,v::vs=>kindOk k v&&nF ks vs
 |_,_=>false
theorem FP{P:Program}(n:Nat)(w:World):∀(fs:List Field) (i:Nat) (ks:List TypeDesc) (X Y L1 L2:List Value),Ea P i fs=some ks→X.length=i→Y.length=i→nF ks L1=true→nF ks L2=true→
  (Op.eqFields (n+1) (X++L1).toArray (Y++L2).toArray fs).run P w=.ok (gT L1 L2) w
 |[],i,ks,X,Y,L1,L2,h,hx,hy,h1,h2=>by
  simp only [Ea,tK]at h
  subst h
  cases L1<;>simp [nF]at h1
  cases L2<;>simp [nF]at h2
  simp [Op.eqFields,gT]
 |f::fs,i,ks,X,Y,L1,L2,h,hx,hy,h1,h2=>by
  simp only [Ea]at h
  split at h
  ·cases h
  ·rename_i hn
   simp only [not_or,Classical.not_not]at hn
   obtain⟨hn,ho⟩:=hn
   obtain⟨k,hk,h3⟩:=qK.1 h
   obtain⟨ks',h4,rfl⟩:=qF.1 h3
   cases L1 with
   |nil=>simp [nF]at h1
   |cons a L1=>
    cases L2 with
    |nil=>simp [nF]at h2
    |cons b L2=>
     simp only [nF,cm]at h1 h2
     have ih:=FP n w fs (i+1) ks' (X++[a]) (Y++[b]) L1 L2 h4 (by simp [hx]) (by simp [hy]) h1.2 h2.2
     simp only [ci,wv]at ih
     have ga:(X++a::L1).toArray[f.offset]?=some a:=by simp [ho,←hx]
     have gb:(Y++b::L2).toArray[f.offset]?=some b:=by simp [ho,←hy]
     unfold al1 at hk
     cases hu:P.underlying f.type with
     |none=>simp [hu]at hk
     |some dd=>
      have pa:∀(c:Value) (Z:Array Value),Z[f.offset]?=some c→dd=k→(part f.type Z f.offset).run P w=.ok c w:=fun c Z hc e=>by
       subst e
       cases dd<;>simp [hu]at hk<;>simp [part,isAgg,run_underlying hu,hc]
      have hdk:dd=k:=by cases dd<;>simp [hu]at hk<;>exact hk
      have e1:=pa a _ ga hdk
      have e2:=pa b _ gb hdk
      subst hdk
      have hq:(Op.equalIn (n+1) f.type a b).run P w=.ok (gT [a] [b]) w:=by
       cases dd<;>simp [hu]at hk
       ·cases a<;>simp [kindOk]at h1
        cases b<;>simp [kindOk]at h2
        rw [run_equalIn_bool' w n f.type _ _ hu]
        simp [gT];rfl
       ·cases a<;>simp [kindOk]at h1
        cases b<;>simp [kindOk]at h2
        obtain⟨rfl,_⟩:=h1
        obtain⟨rfl,_⟩:=h2
        rw [run_equalIn_int w n f.type _ _ _ _ hu]
        simp [gT];rfl
       ·cases a<;>simp [kindOk]at h1
        cases b<;>simp [kindOk]at h2
        rw [run_equalIn_string w n f.type _ _ hu,beq_toList]
        simp [gT]
      simp only [Op.eqFields,hn,ne_eq,not_false_eq_true,if_true,Sem.run_bind,e1,e2,hq,Result.andThen_ok]
      have hc:gT (a::L1) (b::L2)=(gT [a] [b]&&gT L1 L2):=by
       cases a<;>cases b<;>simp [gT]
      rw [hc]
      cases gT [a] [b]
      ·simp
      ·simp [ih]
section
variable {E:Env} {f:Fr} {G:GH} {M:MH} {d:Nat} {ty:TypeId} {pos:String} {aft:Array Edge} {x y:Operand} {t t':TypeId}
variable {L1:List Value} {L2:List Value} {ks:List TypeDesc}
theorem aff{P:Program}(hk:HH P t=some ks)(h1:nF ks L1=true)(h2:nF ks L2=true)(w:World):
  (Op.equal t (.agg L1.toArray) (.agg L2.toArray)).run P w=.ok (gT L1 L2) w∧P.eqGuardType P.depth t=false:=by
 unfold HH at hk
 split at hk
 ·rename_i fs hu
  split at hk
  ·cases hk
  ·rename_i hg
   simp only [kU,not_or,Bool.not_eq_true]at hg
   have hf:P.fieldsOf t=fs:=by simp [Program.fieldsOf,hu]
   have h3:=run_equalIn_struct (P:=P) w 9999 t L1.toArray L2.toArray (by rw [hf];exact hu) hg.1
   have h4:=FP (P:=P) 9998 w fs.toList 0 ks [] [] L1 L2 hk rfl rfl h1 h2
   rw [hf]at h3
   exact⟨h3.trans h4,hg.2⟩
 ·cases hk
theorem aqg(hk:HH E.P t=some ks)(hx:ev f x=.agg L1.toArray)(hy:ev f y=.agg L2.toArray)(h1:nF ks L1=true)(h2:nF ks L2=true):
  Ok E f G M ⟨some d,.binOp .neq t x y t',ty,pos,aft,none⟩ (.bool (!gT L1 L2)):=fun w _=>by
 obtain⟨h3,h4⟩:=aff hk h1 h2 w
 have h5:(binOp .neq t (.agg L1.toArray) (.agg L2.toArray)).run E.P w=.ok (.bool (!gT L1 L2)) w:=by simp only [binOp];simp [h3]
 simp [execOp,hx,hy,eqGuard,h4,h5]
end
section
variable {E:Env} {f:Fr} {G:GH} {M:MH} {d:Nat} {ty:TypeId} {pos:String} {aft:Array Edge} {x y:Operand} {t t':TypeId} {m n:Int}
theorem Kd(ht:E.P.underlying t=some (.int .i64))(ht':E.P.underlying t'=some (.int .u64))(hx:ev f x=.int .i64 m)(hb:0≤m∧m≤9223372036854775807):
  Ok E f G M ⟨some d,.convert t t' x,ty,pos,aft,none⟩ (.int .u64 m):=fun w _=>by
 have:=IntWalk.u64_in m aa
 simp [execOp,hx,convert,run_underlying ht,run_underlying ht',Conv.intToInt,this]
theorem Ke(ht:E.P.underlying t=some (.int .u64))(ht':E.P.underlying t'=some (.int .i64))(hx:ev f x=.int .u64 m)(hb:0≤m∧m≤9223372036854775807):
  Ok E f G M ⟨some d,.convert t t' x,ty,pos,aft,none⟩ (.int .i64 m):=fun w _=>by
 have:=IntWalk.i64_in m aa
 simp [execOp,hx,convert,run_underlying ht,run_underlying ht',Conv.intToInt,this]
theorem OV{k:IntKind}(hx:ev f x=.int .u64 m)(hy:ev f y=.int k 1)(_hb:0≤m∧m≤9223372036854775807):
  Ok E f G M ⟨some d,.binOp .shr t x y t',ty,pos,aft,none⟩ (.int .u64 (m / 2)):=fun w _=>by
 have h2:m.fdiv (2^min 1 IntKind.u64.bits)=m / 2:=by
  rw [show(2:Int)^min 1 IntKind.u64.bits=2 from rfl,Int.fdiv_eq_ediv_of_nonneg _ aa]
 simp [execOp,hx,hy,eqGuard,binOp,Op.shift,h2]
end
theorem Nk(sz:Nat):∀(ps:List (Nat×Value)) (i:Nat) (A Z:List Value),A.length=i*sz→Z.length=ps.length*sz→ps.map (·.1)=List.range' i ps.length→(∀p∈ps,p.2.cells.size=sz)→
  Instr.fill (fun i=>some (i*sz,sz)) (A++Z).toArray ps=some (A++(ps.map fun p=>p.2.cells.toList).flatten).toArray
 |[],i,A,Z,_,hz,_,_=>by
  have:Z=[]:=kj (by simpa using hz)
  simp [Instr.fill,this]
 |(j,v)::ps,i,A,Z,ha,hz,hi,hs=>by
  simp only [cA,jo,List.range'_succ,List.cons.injEq]at hi
  obtain⟨rfl,hi⟩:=hi
  have h1:v.cells.size=sz:=hs (j,v) (by simp)
  have hz':Z.length=sz+ps.length*sz:=by rw [hz];simp [fz,Nat.add_comm]
  simp only [Instr.fill]
  rw [if_neg (by simp [h1,ha,hz'])]
  have h2:=Tw v.cells.toList (j*sz) (A++Z) (by simp [h1,ha,hz'])
  rw [show(v.cells.zipIdx.foldl (fun cs (x:Value×Nat)=>cs.setIfInBounds (j*sz+x.2) x.1) (A++Z).toArray)=(setAt (A++Z) (j*sz) v.cells.toList).toArray from by
   rw [←h2,←Array.foldl_toList,Array.toList_zipIdx]]
  rw [lU _ _ _ (by simp [h1,ha,hz'])]
  have e1:(A++Z).take (j*sz)=A:=by rw [←ha];exact HC
  have e2:(A++Z).drop (j*sz+v.cells.toList.length)=Z.drop sz:=by
   rw [←ha,NR];simp [h1]
  rw [e1,e2]
  rw [Nk sz ps (j+1) (A++v.cells.toList) (Z.drop sz) (by simp [h1,ha,fz]) (by simp [hz']) hi (fun p hp=>hs p (by simp [hp]))]
  simp
def fG {α:Type} (e:fB α) (G:GH):List (List Value)→List α→Prop
 |[],[]=>True
 |cs::css,a::l=>e.R G cs a∧fG e G css l
 |_,_=>False
theorem fG.spec{α:Type}{e:fB α}{G:GH} :∀ {css:List (List Value)} {l:List α},fG e G css l→css.length=l.length∧∀i (h:i<l.length),∃cs,css[i]?=some cs∧e.R G cs l[i]
 |[],[],_=>⟨rfl,fun i h=>absurd h (by simp)⟩
 |cs::css,a::l,h=>by
  obtain⟨h1,h2⟩:=fG.spec h.2
  refine⟨by simp [h1],fun i hi=> ?_⟩
  cases i with
  |zero=>exact⟨cs,rfl,h.1⟩
  |succ i=>simpa using h2 i (by simpa using hi)
variable {G:GH} {α:Type}
theorem fG.mono{e:fB α}{G':GH}(hl:Le G G'):∀ {css:List (List Value)} {l:List α},fG e G css l→fG e G' css l
 |[],[],_=>trivial
 |_::_,_::_,h=>⟨e.mono hl h.1,fG.mono hl h.2⟩
theorem tv{k:Nat} :∀ {css:List (List Value)} {i:Nat} {cs:List Value},(∀c∈css,c.length=k)→css[i]?=some cs→∀j,j<cs.length→css.flatten[i*k+j]?=cs[j]?
 |[],_,_,_,h,_,_=>by simp at h
 |c::css,0,cs,hk,h,j,hj=>by
  simp at h;subst h
  simp [rH hj]
 |c::css,i+1,cs,hk,h,j,hj=>by
  have h1:=hk c (by simp)
  have:=tv (css:=css) (fun c hc=>hk c (by simp [hc])) (by simpa using h) j hj
  rw [rI,rV (by rw [h1,fz];omega),h1,←this]
  congr 1
  rw [fz];omega
theorem fG.lens{e:fB α} :∀ {css:List (List Value)} {l:List α},fG e G css l→∀c∈css,c.length=e.k
 |[],[],_,_,hc=>by simp at hc
 |cs::css,a::l,h,c,hc=>by
  rcases dK.1 hc with rfl|hc
  ·exact e.len h.1
  ·exact fG.lens h.2 c hc
theorem az.LC{e:fB α}{b:Nat}{c:Array Value}{T:TypeId}{fr:Nat×Nat}{css:List (List Value)}{l:List α}{n cap:Nat}(hb:G b=some (.cells c T fr))(hc:∀i,i<css.flatten.length→c[i]?=css.flatten[i]?)
  (hR:fG e G css l)(hn:n=l.length)(h1:l.length≤cap)(h2:cap≤maxLen)(h3:l.length*e.w≤140737488355328):az e G (.slice (some ⟨b,0,none⟩) n cap) l:=by
 subst hn
 refine⟨some ⟨b,0,none⟩,cap,rfl,h1,⟨h2,h3⟩,(fun h=>nomatch h),fun i hi=> ?_⟩
 obtain⟨h4,h5⟩:=hR.spec
 obtain⟨cs,h6,h7⟩:=h5 i hi
 refine⟨cs,⟨b,0,l.length,cap,rfl,c,T,fr,hb,fun j hj=> ?_⟩,h7⟩
 have h8:=tv hR.lens h6 j hj
 have h9:i*e.k+j<css.flatten.length:=by
  have:(css.flatten[i*e.k+j]?).isSome=true:=by rw [h8];simp [hj]
  simpa using this
 rw [rQ,hc _ h9,h8]
section
variable {E:Env} {f:Fr} {G:GH} {M:MH} {ops rest:List Oper} {K:Kt} {d:Nat} {ty:TypeId} {pos:String} {aft:Array Edge} {t t':TypeId}
variable {b:Bool} {css:List (List Value)} {sz:Nat}
theorem W.bsl{len:Nat}{parts:List (Nat×Operand)}{z:List Value}(ht:cW E.P t=some t')(hk:gO E.P t'=some (b,sz))(hz:eg E.P t'=some z)
  (hp:(parts.map fun p=>(ev f p.2).cells.toList)=css)(hi:parts.map (·.1)=List.range' 0 len)(hs:css.all (fun c=>Nat.beq c.length sz)=true)(hl:Nat.ble (len*sz) 16777216=true)(sI:Nat.beq z.length sz=true)
  (k:∀bl,W E ops.toArray false rest (jP f d (.slice (some ⟨bl,0,none⟩) len len)) G ((bl,.cells css.flatten.toArray t' (0,0))::M) K)(hd:Nat.blt d E.n=true:=by rfl):
  W E ops.toArray false (⟨some d,.buildSlice t len parts.toArray,ty,pos,aft,none⟩::rest) f G M K:=by
 intro a w Q hir hr hK
 have hlen:parts.length=len:=by have:=ax List.length hi;simpa using this
 simp only [eg,qF,qK]at hz
 obtain⟨zv,⟨ez,h1,h2⟩,rfl⟩:=hz
 have hzs:zv.cells.size=sz:=by have:=tP sI;simpa using this
 have hl':len*sz≤2^24:=by simpa using hl
 have kr:∀p∈parts.map fun p=>(p.1,ev f p.2),p.2.cells.size=sz:=fun p hp'=>by
  obtain⟨q,hq,rfl⟩:=cB.1 hp'
  have h3:=ym.1 hs ((ev f q.2).cells.toList) (by rw [←hp];exact kn hq)
  have:=tP h3
  simpa using this
 have hzv:(zeroValue t').run E.P w=.ok zv w:=by simp [zeroValue,typeInfo,h1,h2]
 have axP:∀z':Array Value,Instr.fill (fun i=>some (i*sz,sz)) ((Array.range (len*sz)).map (z'[· % z'.size]!)) (parts.map fun p=>(p.1,ev f p.2))=some css.flatten.toArray:=fun z'=>by
  have h3:=Nk sz (parts.map fun p=>(p.1,ev f p.2)) 0 [] ((Array.range (len*sz)).map (z'[· % z'.size]!)).toList (by simp) (by simp [hlen]) (by simpa [hlen,lS,N4]using hi) kr
  simp only [iU,N2,lS,N4]at h3
  rw [hp]at h3
  exact h3
 have gU:(execOp (ev f) ⟨some d,.buildSlice t len parts.toArray,ty,pos,aft,none⟩).run E.P w=.ok (.value (.slice (some ⟨w.heap.size,0,none⟩) len len)) (w.alloc (.cells css.flatten.toArray t' (0,0))):=by
  simp only [execOp,Instr.buildSlice,Sem.run_bind,run_underlying (cR ht),Result.andThen_ok,fZ hk]
  rw [if_neg aa]
  by_cases h0:len*sz=0
  ·have h4:=axP #[]
   simp only [yq,Sem.run_bind,Sem.run_pure,Result.andThen_ok,if_pos h0,h4]
   simp [newRow]
  ·have h4:=axP zv.cells
   simp only [yq,Sem.run_bind,Sem.run_pure,Result.andThen_ok,if_neg h0,hzv,h4]
   simp [newRow]
 refine wpList_plain rfl fun K' iG=> ?_
 unfold Oper.wp
 rw [hir.eval,gU]
 exact iG _ _ (k _ _ _ Q (hir.put hd _) (hr.alloc _) hK)
theorem W.Nh{l:List Oper}{p:Nat×Obj}(k:Le G (put G p.1 p.2)→W E ops.toArray false l f (put G p.1 p.2) M K):W E ops.toArray false l f G (p::M) K:=fun a w Q hi hr hK=>
 k hr.Nh.2 a w Q hi hr.Nh.1 hK
theorem W.lit{α:Type}{e:fB α}{l:List α}{len:Nat}{parts:List (Nat×Operand)}{z:List Value}(ht:cW E.P t=some t')(hk:gO E.P t'=some (b,sz))(hz:eg E.P t'=some z)
  (hp:(parts.map fun p=>(ev f p.2).cells.toList)=css)(hi:parts.map (·.1)=List.range' 0 len)(hs:css.all (fun c=>Nat.beq c.length sz)=true)(hl:Nat.ble (len*sz) 16777216=true)(zR:Nat.ble len 16777216=true)(sI:Nat.beq z.length sz=true)(hR:fG e G css l)
  (k:∀bl G',Le G G'→az e G' (.slice (some ⟨bl,0,none⟩) len len) l→W E ops.toArray false rest (jP f d (.slice (some ⟨bl,0,none⟩) len len)) G' M K)(hd:Nat.blt d E.n=true:=by rfl):
  W E ops.toArray false (⟨some d,.buildSlice t len parts.toArray,ty,pos,aft,none⟩::rest) f G M K:=by
 refine W.bsl ht hk hz hp hi hs hl sI (fun bl=>W.Nh fun hle=> ?_) hd
 have h1:parts.length=len:=by have:=ax List.length hi;simpa using this
 have h2:=hR.spec.1
 have h3:css.length=len:=by rw [←hp];simpa using h1
 have h4:len≤16777216:=by simpa using zR
 exact k bl _ hle (az.LC (E6 _ _ _) (fun i hi=>by simp) (hR.mono hle) aa aa (by simp [maxLen];omega) (gg (Nat.mul_le_mul (by omega:l.length≤16777216) e.wle) (by decide)))
end
def WD (E:Env) (ops:Array Oper) (dS:Nat) (bS:Array Bool) (f:Fr) (G:GH) (M Mk:MH) (K:Kt):Prop:=
 Mk.Sublist M→∀a w (Q:Exit→Act→World→Prop),Is E.n a f→E.real G M w→(∀c a w,¬Q (.panic c) a w)→(∀f G M a w,Is E.n a f→E.real G M w→K f G M→Q .normal a w)→wpAnyH E.P .any ops Q (E.real G Mk) dS bS a w
theorem BG{P:Program}{md:Region.Mode}{ops:Array Oper}{Q:Exit→Act→World→Prop}{S S':World→Prop}(hs:∀w,S w→S' w):∀(dS:Nat) (bS:Array Bool) (a:Act) (w:World),wpAnyH P md ops Q S dS bS a w→wpAnyH P md ops Q S' dS bS a w
 |0,_,_,_,h=>h
 |dS+1,_,_,_,h=>⟨h.1,fun i hi=>wpOp_mono (fun a' w' h'=>⟨hs _ h'.1,BG hs dS _ a' w' h'.2⟩) (h.2 i hi)⟩
section
variable {E:Env} {f:Fr} {G:GH} {M Mk:MH} {ops:Array Oper} {K:Kt} {Q:Exit→Kt} {dS:Nat} {bS:Array Bool}
theorem WC.aCE{id:Nat}{l:List Oper}(Mk:MH)(pw:Mk.Sublist M)(hm:E.P.follows .mixedOrders=true)(hq:∀c f G M,¬Q (.panic c) f G M)(h:WD E l.toArray l.toArray.size (Array.replicate l.toArray.size false) f G M Mk (Q .normal)):
  WC E (.region id l.toArray true) Q f G M:=fun a w hi hr=>
 wp_region_held (S:=E.real G Mk) hm (h pw a _ _ hi hr.drew (fun c a w ⟨_,_,_,_,_,h⟩=>hq _ _ _ _ h) (fun _ _ _ _ _ h1 h2 h3=>⟨_,_,_,h1,h2,h3⟩))
theorem WD.done(hr:Region.ready .any ops bS=[])(h:K f G M):WD E ops dS bS f G M Mk K:=fun _ a w Q hi hw _ hK=>
 wpAnyH_done hr (hK _ _ _ _ _ hi hw h) dS
variable {o:Oper}
theorem WD.take(i:Nat){d:Nat}{v:Value}(ho:ops[i]?=some o)(WH:o.dst=some d)(hg:o.guard=none)(hs:Region.noSelect ops=true)(hf:Region.free .any ops bS i=true)
  (hr:(Region.ready .any ops bS).contains i=true)(dI:Ok E f G Mk o v)(h:WD E ops dS (bS.setIfInBounds i true) (jP f d v) G M Mk K)(hd:Nat.blt d E.n=true:=by rfl):WD E ops (dS+1) bS f G M Mk K:=by
 intro pw a w Q hi hw hp hK
 have hS:E.real G Mk w:=⟨hw.r.sub pw,hw.le,hw.nw⟩
 refine wpAnyH_take ho hs hf hr (fun c a w h=>absurd h (hp _ _ _)) (v:=v) ?_ hS ?_
 ·refine .inl ⟨by simp [Region.wanted,hg],fun w' zj=> ?_⟩
  rw [hi.eval]
  exact dI w' zj
 ·rw [WH]
  exact h pw _ w Q (hi.put hd v) hw hp hK
theorem Nl{P:Program}{a:Act}{next next':Act→World→Prop}{Q Q':Exit→Act→World→Prop}{r:Result Next}(h:o.upon P a next Q' r)(hn:∀a w,next a w→next' a w)(hq:∀e a w,e≠ .normal→Q' e a w→Q e a w):o.upon P a next' Q r:=by
 cases r with
 |ok n w'=>
  cases n<;>simp only [Oper.upon]at h⊢
  case value u=>exact hn _ _ h
  case skip=>exact hn _ _ h
  case defer d=>exact hn _ _ h
  case enter f args=>
   refine Calls.mono h fun e w'' he=> ?_
   cases e with
   |returned u=>exact hn _ _ he
   |panicked c=>exact hq _ _ _ (by simp) he
   |outgrown=>obtain⟨a,w,h⟩:=he;exact⟨a,w,hq _ _ _ (by simp) h⟩
  case row row args=>exact Rows.mono h fun u w'' he=>hn _ _ he
 |halt x w'=>
  cases x<;>simp only [Oper.upon]at h⊢
  case panic u=>exact hq _ _ _ (by simp) h
end
def axQ (T:TypeId) (k:Nat) (v:Value) (n:Nat) (xs:List Value) (Ms:MH):Prop:=
 xs.length=n*k∧((v=.slice none 0 0∧n=0∧Ms=[])∨
  ∃b cap cur,v=.slice (some ⟨b,0,none⟩) n cap∧n≤cap∧cap≤maxLen∧cur.size=cap*k∧cur.toList.take (n*k)=xs∧Ms=[(b,.cells cur T (0,0))])
def aE {α:Type} (e:fB α) (T:TypeId) (G:GH) (v:Value) (l:List α) (Ms:MH):Prop:=
 ∃css,fG e G css l∧axQ T e.k v l.length css.flatten Ms∧l.length*e.w≤140737488355328
section
variable {α:Type} {e:fB α} {T:TypeId} {G G':GH} {v:Value} {l:List α} {Ms:MH}
theorem aE.mono(hl:Le G G')(h:aE e T G v l Ms):aE e T G' v l Ms:=by
 obtain⟨css,h1,h2⟩:=h
 exact⟨css,h1.mono hl,h2⟩
theorem aE.nil:aE e T G (.slice none 0 0) [] []:=⟨[],trivial,⟨by simp,.inl ⟨rfl,rfl,rfl⟩⟩,by simp⟩
theorem aE.form(h:aE e T G v l Ms):∃a c,v=.slice a l.length c:=by
 obtain⟨css,h1,⟨h2,h3⟩,h4⟩:=h
 rcases h3 with⟨rfl,hn,_⟩|⟨b,cap,cur,rfl,_⟩
 ·exact⟨none,0,by rw [hn]⟩
 ·exact⟨_,_,rfl⟩
theorem aE.bytes(h:aE e T G v l Ms):l.length*e.w≤140737488355328:=by obtain⟨css,h1,h2,h3⟩:=h;exact h3
theorem aE.bq(h:aE e T G v l Ms):l.length≤140737488355328:=gg (AA _ e.Ni) h.bytes
end
variable {G:GH} {α:Type}
theorem fG.append{e:fB α} :∀ {c1:List (List Value)} {l1:List α} {c2:List (List Value)} {l2:List α},fG e G c1 l1→fG e G c2 l2→fG e G (c1++c2) (l1++l2)
 |[],[],_,_,_,h=>h
 |_::_,_::_,_,_,h,h2=>⟨h.1,fG.append h.2 h2⟩
theorem fG.one{e:fB α} :∀ {css:List (List Value)} {l:List α},fG e G css l→∀u∈css.flatten,u.oneCell'=true
 |[],[],_,u,hu=>by simp at hu
 |cs::css,a::l,h,u,hu=>by
  simp only [rI,cP]at hu
  rcases hu with hu|hu
  ·exact e.one h.1 u hu
  ·exact fG.one h.2 u hu
theorem fG.dY{e:fB α} :∀ {css:List (List Value)} {l:List α},fG e G css l→css.flatten.length=l.length*e.k
 |[],[],_=>by simp
 |cs::css,a::l,h=>by
  simp only [rI,bP,fG.dY h.2,e.len h.1,jo,fz]
  omega
theorem As{k:Nat} :∀ {css:List (List Value)} {j:Nat} {u:Value},(∀c∈css,c.length=k)→css.flatten[j]?=some u→∃i o cs,css[i]?=some cs∧cs[o]?=some u∧j=i*k+o∧o<k
 |[],j,u,_,h=>by simp at h
 |c::css,j,u,hk,h=>by
  have h1:=hk c (by simp)
  simp only [rI]at h
  by_cases hj:j<c.length
  ·rw [rH hj]at h
   exact⟨0,j,c,rfl,h,by simp,aa⟩
  ·rw [rV aa]at h
   obtain⟨i,o,cs,h2,h3,h4,h5⟩:=As (fun c hc=>hk c (by simp [hc])) h
   exact⟨i+1,o,cs,by simpa using h2,h3,by rw [fz];omega,h5⟩
theorem az.cells{e:fB α}{v:Value}{l:List α}(h:az e G v l):∃a c css,v=.slice a l.length c∧fG e G css l∧(a=none→l=[])∧
  ∀(E:Env) (M:MH) (w:World),E.real G M w→∀ad,a=some ad→∀j u,css.flatten[j]?=some u→w.cell? (ad.add j)=some u:=by
 obtain⟨a,cap,rfl,h1,h2,h3,h4⟩:=h
 have key:∀m,m≤l.length→∃css,fG e G css (l.take m)∧∀i cs,css[i]?=some cs→jd G (.slice a l.length cap) e.k i cs:=by
  intro m
  induction m with
  |zero=>exact fun _=>⟨[],by simp [fG],fun i cs h=>by simp at h⟩
  |succ m ih=>
   intro hm
   obtain⟨css,h5,h6⟩:=ih aa
   obtain⟨cs,h7,h8⟩:=h4 m aa
   refine⟨css++[cs],by rw [iA aa];exact h5.append ⟨h8,trivial⟩,fun i c hi=> ?_⟩
   have hl:css.length=m:=by have:=h5.spec.1;simp at this;omega
   by_cases him:i<css.length
   ·rw [rH him]at hi;exact h6 i c hi
   ·rw [rV aa]at hi
    have:i=m:=by
     rcases rO (i-css.length) 1 with h9|h9
     ·omega
     ·rw [rE (by simpa using h9)]at hi;cases hi
    subst this
    simp [hl]at hi
    subst hi
    exact h7
 obtain⟨css,h5,h6⟩:=key l.length (bZ _)
 rw [rT]at h5
 refine⟨a,cap,css,rfl,h5,fun ha=> ?_,fun E M w hr ad had j u hj=> ?_⟩
 ·subst ha
  have:=h3 rfl
  exact kj aa
 ·obtain⟨i,o,cs,h7,h8,rfl,h9⟩:=As h5.lens hj
  obtain⟨b,oo,len,aNj,ir,ov⟩:=h6 i cs h7
  simp only [Value.slice.injEq]at ir
  obtain⟨jC,_,_⟩:=ir
  rw [jC]at had
  cases had
  rw [Addr.add_lit]
  have:=ov.cell hr h8
  rwa [N1]at this
section
variable {E:Env} {f:Fr} {G:GH} {M:MH} {ops rest:List Oper} {q:Bool} {K:Kt} {Q:Exit→Kt} {d:Nat} {ty:TypeId} {pos:String} {aft:Array Edge} {t t':TypeId} {x y:Operand}
theorem Env.real.perm{M':MH}{w:World}(h:E.real G M w)(hp:M'.Perm M):E.real G M' w:=⟨h.r.perm hp,h.le,h.nw⟩
theorem Env.real.sub{M':MH}{w:World}(h:E.real G M w)(hp:M'.Sublist M):E.real G M' w:=⟨h.r.sub hp,h.le,h.nw⟩
variable {B:MH} {T:TypeId}
theorem nI{w:World}{b:Nat}{cur:Array Value}{L:List Value}(hr:E.real G ((b,.cells cur T (0,0))::B) w):E.real G ((b,.cells L.toArray T (0,0))::B) (w.setRow b L.toArray):=by
 have h1:uI ((b,Obj.cells cur T (0,0))::B) 0=some (b,.cells cur.toList.toArray T (0,0)):=by simp [uI]
 exact J4 (i:=0) hr h1
variable {Ms:MH} {bb:Bool} {u:Value} {v:Value} {α:Type}
theorem axR{w:World}{e:fB α}{ty:TypeId}{z:List Value}{l1 l2:List α}(ht:cW E.P t=some t')(hk:gO E.P t'=some (bb,e.k))(hz:eg E.P t'=some z)(sI:z.length=e.k)(hb:jb E.P t'=some e.w)
  (ho:aE e t' G v l1 Ms)(hu:az e G u l2)(kr:(l1.length+l2.length)*e.w≤140737488355328)(hr:E.real G (Ms++B) w):
  ∃v' kQ w',(Builtin.append_ #[t,t] ty #[v,u]).run E.P w=.ok v' w'∧aE e t' G v' (l1++l2) kQ∧E.real G (kQ++B) w':=by
 obtain⟨a,c,vt,rfl,hA2,ha0,aiS⟩:=hu.cells
 obtain⟨Eb,hA1,⟨zS,hv⟩,aTU⟩:=ho
 have wi:=cR ht
 have BH:∃ez zv,E.P.info? t'=some ez∧ez.zero=some zv∧ez.size=e.k∧ez.bytes=e.w∧zv.cells.size=e.k:=by
  simp only [eg,qF,qK]at hz
  obtain⟨zv,⟨ez,h1,h2⟩,rfl⟩:=hz
  have h3:=fZ hk w
  simp [sizeOf,typeInfo,h1]at h3
  simp only [jb,h1,yr,tK]at hb
  exact⟨ez,zv,h1,h2,h3,hb,by simpa using sI⟩
 obtain⟨ez,zv,tw,jY,xY,hi4,hi5⟩:=BH
 have aNl:=hA1.append hA2
 have aFF:(Eb++vt).flatten=Eb.flatten++vt.flatten:=by simp
 have Ip:vt.flatten.length=l2.length*ez.size:=by rw [hA2.dY,xY]
 have aTV:l1.length+l2.length≤140737488355328:=gg (AA _ e.Ni) kr
 have same:∀cap,l2=[]→l1.length≤cap→∀base,(Builtin.append_ #[t,t] ty #[.slice base l1.length cap,.slice a l2.length c]).run E.P w=.ok (.slice base l1.length cap) w:=fun cap h0 hc base=>by
  subst h0
  cases a<;>cases base<;>simp [Builtin.append_,run_underlying wi,sizeOf,typeInfo,tw,Builtin.lenOf,Builtin.firstCells,loadCells,loadCellsFrom,hc,storeCells]
 have al2:∀v' kQ,axQ t' e.k v' (l1.length+l2.length) (Eb.flatten++vt.flatten) kQ→aE e t' G v' (l1++l2) kQ:=fun v' kQ h=>⟨Eb++vt,aNl,by rw [aFF];simpa using h,by simpa using kr⟩
 have grown:∀uT,uT<l1.length+l2.length→axQ t' e.k (.slice (some ⟨w.heap.size,0,none⟩) (l1.length+l2.length) (grownCap w (l1.length+l2.length) uT t')) (l1.length+l2.length) (Eb.flatten++vt.flatten)
   [(w.heap.size,.cells (Eb.flatten.toArray++vt.flatten.toArray++Builtin.zeroCells zv.cells (grownCap w (l1.length+l2.length) uT t'-(l1.length+l2.length))) t' (0,0))]:=fun uT _=>by
  have RX:=grownCap_ge w (l1.length+l2.length) uT t'
  have hcm:=grownCap_le_maxLen w (l1.length+l2.length) uT t' (by simp only [maxLen];omega)
  have al3:(Eb.flatten++vt.flatten).length=(l1.length+l2.length)*e.k:=by rw [bP,zS,hA2.dY,fz]
  refine⟨al3,.inr ⟨_,_,_,rfl,RX,hcm,?_,?_,rfl⟩⟩
  ·simp only [W4,uA,size_zeroCells,hi5]
   rw [zS,hA2.dY,←fz,←fz]
   congr 1;omega
  ·simp only [Array.toList_append,qB]
   rw [←al3]
   exact HC
 have hrB:E.real G B w:=hr.sub (cH _ _)
 have axS:∀o,E.real G ([(w.heap.size,o)]++B) (w.drew.alloc o):=fun o=>(hrB.drew).alloc o
 rcases hv with⟨rfl,hn,rfl⟩|⟨b,cap,cur,rfl,h1,h2,h3,h4,rfl⟩
 ·have fC:l1=[]:=kj hn
  subst fC
  have Fb:Eb.flatten=[]:=kj (by simpa using zS)
  by_cases h0:l2=[]
  ·subst h0
   exact⟨_,[],w,same 0 rfl (bZ _) none,aE.nil,hr⟩
  ·cases a with
   |none=>exact absurd (ha0 rfl) h0
   |some ad=>
    have BY:0<l2.length:=List.length_pos_iff.2 h0
    have hg:=grown 0 (by simpa using BY)
    simp only [Em,rQ,Fb,iU]at hg kr
    have tU:=run_append_nil (P:=E.P) w t ty t' ez zv wi tw jY ad l2.length c vt.flatten Ip (fun j v hj=>aiS E _ w hr ad rfl j v hj) BY aa (by rw [hi4];omega)
    refine⟨_,[(w.heap.size,.cells (vt.flatten.toArray++Builtin.zeroCells zv.cells (grownCap w l2.length 0 t'-l2.length)) t' (0,0))],_,tU,?_,?_⟩
    ·have h9:=al2 _ _ (by simpa [Fb]using hg)
     simpa using h9
    ·have:=axS (.cells (vt.flatten.toArray++Builtin.zeroCells zv.cells (grownCap w l2.length 0 t'-l2.length)) t' (0,0))
     simpa using this
 ·have ow:w.heap[b]?=some (.cells cur t' (0,0)):=hr.r.mu (b,.cells cur t' (0,0)) (by simp)
  have holds:∀j u,Eb.flatten[j]?=some u→w.cell? ((⟨b,0,none⟩:Addr).add j)=some u:=fun j u hj=>by
   rw [Addr.add_lit,rQ]
   rw [←h4,mF]at hj
   split at hj
   ·simp [World.cell?,ow]
    simpa using hj
   ·cases hj
  by_cases h0:l2=[]
  ·subst h0
   refine⟨_,[(b,.cells cur t' (0,0))],w,same cap rfl h1 _,?_,hr⟩
   have Im:vt.flatten=[]:=kj (by simpa using hA2.dY)
   have:=al2 (.slice (some ⟨b,0,none⟩) l1.length cap) [(b,.cells cur t' (0,0))] ⟨by rw [Im];simpa using zS,.inr ⟨b,cap,cur,by simp,by simpa using h1,h2,h3,by rw [Im];simpa using h4,rfl⟩⟩
   simpa using this
  ·cases a with
   |none=>exact absurd (ha0 rfl) h0
   |some ad=>
    by_cases gn:l1.length+l2.length≤cap
    ·have Vf:l1.length*ez.size+vt.flatten.length≤cur.size:=by rw [Ip,h3,xY,←fz];exact ic _ gn
     have tU:=run_append_room (P:=E.P) w t ty t' ez wi tw b l1.length cap cur ow ad l2.length c vt.flatten Ip (fun j v hj=>aiS E _ w hr ad rfl j v hj) hA2.one gn Vf
     refine⟨_,_,_,tU,al2 _ _ ⟨by rw [bP,zS,hA2.dY,fz],.inr ⟨b,cap,_,rfl,gn,h2,?_,?_,rfl⟩⟩,nI hr⟩
     ·simp only [uA,bP,bV,cv,WN]
      omega
     ·rw [xY,h4]
      have al3:(Eb.flatten++vt.flatten).length=(l1.length+l2.length)*e.k:=by rw [bP,zS,hA2.dY,fz]
      simp only [qB]
      rw [←al3]
      exact HC
    ·have tU:=run_append_grow (P:=E.P) w t ty t' ez zv wi tw jY ⟨b,0,none⟩ l1.length cap Eb.flatten (by rw [zS,xY]) holds ad l2.length c vt.flatten Ip (fun j v hj=>aiS E _ w hr ad rfl j v hj) aa aa (growslice_fits aa (by rw [hi4];exact kr))
     exact⟨_,_,_,tU,al2 _ _ (grown cap aa),axS _⟩
theorem W.app{e:fB α}{z:List Value}{l1 l2:List α}(ht:cW E.P t=some t')(hk:gO E.P t'=some (bb,e.k))(hz:eg E.P t'=some z)(sI:Nat.beq z.length e.k=true)(hb:jb E.P t'=some e.w)
  (hx:ev f x=v)(hy:ev f y=u)(ho:aE e t' G v l1 Ms)(hu:az e G u l2)(hM:(Ms++B).Perm M)(kr:(l1.length+l2.length)*e.w≤140737488355328)
  (k:∀v' kQ,aE e t' G v' (l1++l2) kQ→W E ops.toArray false rest (jP f d v') G (kQ++B) K)(hd:Nat.blt d E.n=true:=by rfl):
  W E ops.toArray false (⟨some d,.call { callee:=.builtin .append,args:= #[x,y],argTypes:= #[t,t] },ty,pos,aft,none⟩::rest) f G M K:=by
 intro a w Q hi hr hK
 obtain⟨v',kQ,w',h1,h2,h3⟩:=axR (ty:=ty) ht hk hz (tP sI) hb ho hu kr (hr.perm hM)
 have gU:(execOp (ev f) ⟨some d,.call { callee:=.builtin .append,args:= #[x,y],argTypes:= #[t,t] },ty,pos,aft,none⟩).run E.P w=.ok (.value v') w':=by
  simp [execOp,resolve,invoke,builtin,hx,hy,h1]
 refine wpList_plain rfl fun K' iG=> ?_
 unfold Oper.wp
 rw [hi.eval,gU]
 exact iG _ _ (k v' kQ h2 _ w' Q (hi.put hd v') h3 hK)
theorem aaO{e:fB α}{l:List α}(ht:cW E.P t=some t')(ho:aE e T G v l Ms)(hx:ev f x=v):
  Ok E f G M ⟨some d,.call { callee:=.builtin .len,args:= #[x],argTypes:= #[t] },ty,pos,aft,none⟩ (.int .i64 l.length):=fun _ _=>by
 obtain⟨a,c,rfl⟩:=ho.form
 simp [execOp,resolve,invoke,builtin,hx,Builtin.len_,run_underlying (cR ht),goInt]
theorem WI{e:fB α}{l:List α}(ho:aE e T G v l Ms)(hd:∀p∈Ms,G p.1=none):∃G',Le G G'∧az e G' v l∧∀w,E.real G (Ms++B) w→E.real G' B w:=by
 obtain⟨css,h1,⟨h2,h3⟩,h4⟩:=ho
 rcases h3 with⟨rfl,hn,rfl⟩|⟨b,cap,cur,rfl,h5,h6,h7,h8,rfl⟩
 ·have:l=[]:=kj hn
  subst this
  exact⟨G,Le.rfl,az.nil,fun w h=>h⟩
 ·have hg:G b=none:=hd (b,.cells cur T (0,0)) (by simp)
  refine⟨put G b (.cells cur T (0,0)),aab hg,?_,fun w h=>h.Nh.1⟩
  refine az.LC (E6 _ _ _) (fun i hi=> ?_) (h1.mono (aab hg)) rfl h5 h6 h4
  rw [h2]at hi
  rw [←h8,mF,if_pos hi]
  simp
theorem W.perm{M':MH}{lo:List Oper}(hs:M'.Perm M)(h:W E ops.toArray false lo f G M' K):W E ops.toArray false lo f G M K:=fun a w Q hi hr hK=>h a w Q hi (hr.perm hs) hK
theorem aw4:Ok E f G M ⟨some d,.move x,ty,pos,aft,none⟩ (ev f x):=fun _ _=>by simp [execOp]
theorem W.du{e:fB α}{l:List α}{lo:List Oper}(ho:aE e T G v l Ms)(hM:(Ms++B).Perm M)(k:∀G',Le G G'→az e G' v l→W E ops.toArray false lo f G' B K):W E ops.toArray false lo f G M K:=by
 intro a w Q hi hr hK
 have AQ:=hr.perm hM
 obtain⟨G',h1,h2,h3⟩:=WI (E:=E) (B:=B) ho (fun p hp=>AQ.r.wJ p (by simp [hp]))
 exact k G' h1 h2 a w Q hi (h3 w AQ) hK
theorem WC.du{e:fB α}{l:List α}{c:Code}(ho:aE e T G v l Ms)(hM:(Ms++B).Perm M)(k:∀G',Le G G'→az e G' v l→WC E c Q f G' B):WC E c Q f G M:=by
 intro a w hi hr
 have AQ:=hr.perm hM
 obtain⟨G',h1,h2,h3⟩:=WI (E:=E) (B:=B) ho (fun p hp=>AQ.r.wJ p (by simp [hp]))
 exact k G' h1 h2 a w hi (h3 w AQ)
end
variable {B:MH} {Ms:MH} {X:MH}
theorem ag{p:Nat×Obj}(h:(Ms++B).Perm X):(Ms++(p::B)).Perm (p::X):=tL.trans (h.cons p)
theorem bJ{N:MH}(h:(Ms++B).Perm X):(Ms++(N++B)).Perm (N++X):=by
 have h1:(Ms++(N++B)).Perm (N++(Ms++B)):=by
  rw [←ci,←ci];exact tN.append_right B
 exact h1.trans (h.append_left N)
def fm (v:Value) (k lo hi:Nat):Value:=
 match v with
 | .slice a _ c=>.slice (if c=lo then a else a.map (·.add (lo*k))) (hi-lo) (c-lo)
 |v=>v
theorem az.slice{α:Type}{e:fB α}{G:GH}{v:Value}{l:List α}(h:az e G v l){lo hi:Nat}(h1:lo≤hi)(h2:hi≤l.length):az e G (fm v e.k lo hi) ((l.take hi).drop lo):=by
 obtain⟨a,c,rfl,h3,⟨h4,h5⟩,h6,h7⟩:=h
 have hlen:((l.take hi).drop lo).length=hi-lo:=by simp;omega
 refine⟨if c=lo then a else a.map (·.add (lo*e.k)),c-lo,by rw [hlen];rfl,aa,⟨aa,gg (ic _ aa) h5⟩,fun hn=> ?_,fun i CV=> ?_⟩
 ·split at hn
  ·have:=h6 hn;omega
  ·cases a with
   |none=>have:=h6 rfl;omega
   |some a=>cases hn
 ·rw [hlen]at CV
  obtain⟨cs,⟨b,o,len,cap,h8,h9⟩,ir⟩:=h7 (lo+i) aa
  simp only [Value.slice.injEq]at h8
  obtain⟨rfl,rfl,rfl⟩:=h8
  refine⟨cs,⟨b,o+lo*e.k,hi-lo,c-lo,?_,?_⟩,?_⟩
  ·simp only [fm]
   rw [if_neg aa]
   simp only [yr,Addr.add_lit]
  ·rw [show o+lo*e.k+i*e.k=o+(lo+i)*e.k from by rw [fz];omega];exact h9
  ·simpa using ir
def vv (f:Fr) (aNm n:Nat):Option Operand→Prop
 |none=>n=aNm
 |some x=>∃k m,ev f x=.int k m∧m=(n:Int)
theorem nG{P:Program}{f:Fr}{x:Operand}{n y:Nat}{code:BoundsCode}(h:vv f 0 n (some x))(hy:n≤y)(w:World):(Instr.sliceBound (ev f x) y code).run P w=.ok n w:=by
 obtain⟨k,m,h1,rfl⟩:=h
 simp [Instr.sliceBound,h1,asIntOf,hy]
section
variable {E:Env} {f:Fr} {G:GH} {M:MH} {ops rest:List Oper} {q:Bool} {K:Kt} {d:Nat} {ty:TypeId} {pos:String} {aft:Array Edge} {t t':TypeId} {t2:TypeId} {x y:Operand}
variable {bb:Bool} {α:Type}
theorem ok_slice{e:fB α}{l:List α}{v:Value}{lo hi:Option Operand}(a b:Nat)(ht:cW E.P t=some t')(hk:gO E.P t'=some (bb,e.k))(hs:az e G v l)(hx:ev f x=v)(eG:vv f 0 a lo)(ji:vv f l.length b hi)(rY:a≤b∧b≤l.length):
  Ok E f G M ⟨some d,.slice t x lo hi none,ty,pos,aft,none⟩ (fm v e.k a b):=fun w _=>by
 obtain⟨ad,c,rfl,h3,⟨h4,h5⟩,h6,h7⟩:=hs
 obtain⟨h1,h2⟩:=rY
 have hb:(Instr.sliceBounds true l.length c (lo.map (ev f)) (hi.map (ev f)) none).run E.P w=.ok (a,b,c) w:=by
  cases lo with
  |none=>
   simp only [vv]at eG
   subst eG
   cases hi with
   |none=>simp only [vv]at ji;subst ji;simp [Instr.sliceBounds]
   |some y=>
    have:=nG (P:=E.P) (f:=f) (x:=y) (n:=b) (y:=c) (code:=.sliceAcap) ji aa w
    simp [Instr.sliceBounds,this]
  |some z=>
   have hz:=nG (P:=E.P) (f:=f) (x:=z) (n:=a) (y:=b) (code:=.sliceB) eG h1 w
   cases hi with
   |none=>simp only [vv]at ji;subst ji;simp [Instr.sliceBounds,hz]
   |some y=>
    have:=nG (P:=E.P) (f:=f) (x:=y) (n:=b) (y:=c) (code:=.sliceAcap) ji aa w
    simp [Instr.sliceBounds,this,hz]
 simp only [execOp,Instr.sliceAt,Instr.slice,Sem.run_bind,run_underlying (cR ht),Result.andThen_ok,HD,hx]
 simp [run_underlying (cR ht),hb,fZ hk,fm]
theorem uv(ht:cW E.P t=some t')(hx:ev f x=.slice none 0 0):Ok E f G M ⟨some d,.call { callee:=.builtin .cap,args:= #[x],argTypes:= #[t] },ty,pos,aft,none⟩ (.int .i64 0):=fun _ _=>by
 simp [execOp,resolve,invoke,builtin,hx,Builtin.cap_,run_underlying (cR ht),goInt]
theorem Bw{n:Nat}(ht:cW E.P t=some t')(hk:gO E.P t'=some (bb,n))(hx:ev f x=.slice none 0 0)(hy:ev f y=.int .i64 0):Ok E f G M ⟨some d,.slice t x none (some y) none,ty,pos,aft,none⟩ (.slice none 0 0):=fun w _=>by
 have hb:(Instr.sliceBounds true 0 0 none (some (.int .i64 0)) none).run E.P w=.ok (0,0,0) w:=by
  simp [Instr.sliceBounds,Instr.sliceBound,asIntOf]
 simp only [execOp,Instr.sliceAt,Instr.slice,Sem.run_bind,run_underlying (cR ht),Result.andThen_ok,HD,hx]
 simp [run_underlying (cR ht),hb,fZ hk,hy]
theorem Hh{n len cap:Nat}{b:Nat}(ht:cW E.P t=some t')(hk:gO E.P t'=some (bb,n))(hx:ev f x=.slice (some ⟨b,0,none⟩) len cap)(hy:ev f y=.int .i64 0):
  Ok E f G M ⟨some d,.slice t x none (some y) none,ty,pos,aft,none⟩ (.slice (some ⟨b,0,none⟩) 0 cap):=fun w _=>by
 have hb:(Instr.sliceBounds true len cap none (some (.int .i64 0)) none).run E.P w=.ok (0,0,cap) w:=by
  simp [Instr.sliceBounds,Instr.sliceBound,asIntOf]
 simp only [execOp,Instr.sliceAt,Instr.slice,Sem.run_bind,run_underlying (cR ht),Result.andThen_ok,HD,hx]
 simp [run_underlying (cR ht),hb,fZ hk,hy,Addr.add]
theorem W.Tm{e:fB α}{z:List Value}{tn:TypeId}{n:Nat}(ht:cW E.P t=some t')(hk:gO E.P t'=some (bb,e.k))(hz:eg E.P t'=some z)(sI:Nat.beq z.length e.k=true)(hb:jb E.P t'=some e.w)(hn:E.P.underlying tn=some (.int .i64))
  (hx:ev f x=.slice none 0 0)(hy:ev f y=.int .i64 (n:Int))(h0:0<n)(kr:n*e.w≤140737488355328)(hkp:Nat.blt 0 e.k=true)
  (k:∀b cap Ms,aE e t' G (.slice (some ⟨b,0,none⟩) 0 cap) ([]:List α) Ms→W E ops.toArray false rest (jP f d (.slice (some ⟨b,0,none⟩) n cap)) G (Ms++M) K)(hd:Nat.blt d E.n=true:=by rfl):
  W E ops.toArray false (⟨some d,.call { callee:=.builtin .append,args:= #[x,y],argTypes:= #[t,tn] },ty,pos,aft,none⟩::rest) f G M K:=by
 intro a w Q hi hr hK
 have wi:=cR ht
 have BH:∃ez zv,E.P.info? t'=some ez∧ez.zero=some zv∧ez.size=e.k∧ez.bytes=e.w∧zv.cells.size=e.k:=by
  simp only [eg,qF,qK]at hz
  obtain⟨zv,⟨ez,h1,h2⟩,rfl⟩:=hz
  have h3:=fZ hk w
  simp [sizeOf,typeInfo,h1]at h3
  simp only [jb,h1,yr,tK]at hb
  exact⟨ez,zv,h1,h2,h3,hb,by simpa using tP sI⟩
 obtain⟨ez,zv,tw,jY,xY,hi4,hi5⟩:=BH
 have hw0:=e.Ni
 have hle:n≤140737488355328:=gg (AA _ hw0) kr
 have RX:=grownCap_ge w n 0 t'
 have hcm:=grownCap_le_maxLen w n 0 t' (by simp only [maxLen];omega)
 have aPT:IntKind.i64.wrap (n:Int)=n:=by simp [IntKind.wrap,IntKind.bits,IntKind.signed];omega
 obtain⟨cur,qz,gU⟩:∃cur:Array Value,cur.size=grownCap w n 0 t'*e.k∧(execOp (ev f) ⟨some d,.call { callee:=.builtin .append,args:= #[x,y],argTypes:= #[t,tn] },ty,pos,aft,none⟩).run E.P w=.ok (.value (.slice (some ⟨w.heap.size,0,none⟩) n (grownCap w n 0 t'))) (w.drew.alloc (.cells cur t' (0,0))):=by
  have hk0:0<e.k:=by have:=hkp;simp [Nat.blt]at this;omega
  have tU:=Lib.run_append_nil_zeros w t tn ty t' ez zv .i64 .i64 wi hn tw jY n h0 aa aa (by rw [hi4];omega)
  refine⟨Builtin.zeroCells zv.cells n++Builtin.zeroCells zv.cells (grownCap w n 0 t'-n),?_,?_⟩
  ·simp only [W4,size_zeroCells,hi5]
   rw [←fz]
   congr 1;omega
  ·simp only [execOp,resolve,invoke,builtin,Sem.run_bind,Sem.run_pure,Result.andThen_ok,yq,cA,lG,hx,hy,tU]
 refine wpList_plain rfl fun K' iG=> ?_
 unfold Oper.wp
 rw [hi.eval,gU]
 refine iG _ _ (k _ _ [(w.heap.size,.cells cur t' (0,0))] ⟨[],trivial,⟨by simp,.inr ⟨_,_,cur,rfl,by simp,hcm,qz,by simp,rfl⟩⟩,by simp⟩ _ _ Q (hi.put hd _) ?_ hK)
 exact(hr.drew).alloc _
variable {ad:Option Addr}
theorem oB{n c:Nat}(ht:cW E.P t=some t')(hx:ev f x=.slice ad n c)(hy:ev f y=.slice none 0 0):Ok E f G M ⟨some d,.binOp .eql t x y t2,ty,pos,aft,none⟩ (.bool ad.isNone):=fun w _=>by
 have h:∀m,(Op.equalIn (m+1) t (.slice ad n c) (.slice none 0 0)).run E.P w=.ok ad.isNone w:=fun m=>by
  cases ad<;>simp [Op.equalIn,run_underlying (cR ht)]
 have h2:(binOp .eql t (.slice ad n c) (.slice none 0 0)).run E.P w=.ok (.bool ad.isNone) w:=by
  simp only [binOp]
  simp [Op.equal,Op.maxDepth,h 9999]
 simp [execOp,hx,hy,eqGuard,h2]
theorem az.isNone{e:fB α}{l:List α}{n c:Nat}(hs:az e G (.slice ad n c) l)(h:ad.isNone=true):l=[]:=by
 obtain⟨a,cap,h1,h2,h3,h4,h5⟩:=hs
 simp only [Value.slice.injEq]at h1
 obtain⟨rfl,rfl,rfl⟩:=h1
 cases ad with
 |none=>have:=h4 rfl;exact kj aa
 |some a=>cases h
theorem W.HR{e:fB α}{b:Bool}{z:List Value}(ht:cW E.P t=some t')(hk:gO E.P t'=some (b,e.k))(hz:eg E.P t'=some z)(sI:Nat.beq z.length e.k=true)
  (k:∀v Ms,aE e t' G v ([]:List α) Ms→W E ops.toArray false rest (jP f d v) G (Ms++M) K)(hd:Nat.blt d E.n=true:=by rfl):
  W E ops.toArray false (⟨some d,.buildSlice t 0 #[],ty,pos,aft,none⟩::rest) f G M K:=by
 refine W.bsl (parts:=[]) (css:=[]) ht hk hz rfl rfl rfl (by simp) sI (fun bl=> ?_) hd
 exact k _ [(bl,.cells (List.flatten []).toArray t' (0,0))] ⟨[],trivial,⟨by simp,.inr ⟨bl,0,_,rfl,by simp,by simp [maxLen],by simp,by simp,rfl⟩⟩,by simp⟩
end
def JK {α:Type} (e:fB α):fB (List α) where
 k:=1
 w:=24
 R:=fun G cs l=>∃v,cs=[v]∧az e G v l
 mono:=fun hl h=>let ⟨v,h1,h2⟩:=h;⟨v,h1,h2.mono hl⟩
 len:=fun h=>by obtain⟨v,rfl,_⟩:=h;rfl
 one:=fun h u hu=>by obtain⟨v,rfl,h⟩:=h;simp at hu;subst hu;exact h.one
end Go.Fw
