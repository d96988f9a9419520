/- Runs of steps that ask for no choice, in one word. Nothing of the program is named here. No condition. -/
import Derived.Test.YtfhnamngaofccaaGreatQiX2
set_option linter.unusedVariables false
set_option linter.unusedSimpArgs false
set_option linter.unnecessarySimpa false
set_option linter.unusedSectionVars false
namespace Go.Fw
open Go Go.RowKit
abbrev iV (n:Int):Value:=.int .i64 n
abbrev aT (n:Nat):Value:=.int .i64 (n:Int)
abbrev sV (s:ByteArray):Value:=.string s
abbrev lV (a:Option Addr) (n c:Nat):Value:=.slice a n c
abbrev aq (b:Nat):Value:=.pointer (some ⟨b,0,none⟩)
abbrev aj (T:TypeId) (L:List Value):Obj:=.cells (List.toArray L) T (0,0)
abbrev gR:List Value:=[.int .i64 0,.int .i64 0,.slice none 0 0,.slice none 0 0,.string ⟨#[]⟩,.bool false,.int .i64 0,.int .i64 0,.slice none 0 0,.slice none 0 0]
variable {E:Env} {G:GH} {K:Kt} {M:MH} {Mk:MH} {aft:Array Edge} {f:Fr} {cR:Nat} {bF:Array Bool} {op:Op} {ops:Array Oper} {pos:String} {ty:TypeId}
theorem WD.tk(i:Nat){d:Nat}{v:Value}(ho:ops[i]?=some ⟨some d,op,ty,pos,aft,none⟩)(nJ:Ok E f G Mk ⟨some d,op,ty,pos,aft,none⟩ v)
    (h:WD E ops cR (bF.setIfInBounds i true) (gw f d v) G M Mk K)(hs:Region.noSelect ops=true:=by kernel_rfl)(hf:Region.free .any ops bF i=true:=by kernel_rfl)(hr:(Region.ready .any ops bF).contains i=true:=by kernel_rfl)(hd:Nat.blt d E.n=true:=by rfl):WD E ops (cR+1) bF f G M Mk K:=
  WD.take i ho rfl rfl hs hf hr nJ h hd
theorem WD.n9{G':GH}{M':MH}(a:Le G G')(b:Mk.Sublist M')(h:WD E ops cR bF f G' M' Mk K):Le G G'∧Mk.Sublist M'∧∃qz:MH,qz.Sublist M'∧Mk.Sublist qz∧WD E ops cR bF f G' M' qz K:=⟨a,b,Mk,b,List.Sublist.refl _,h⟩
variable {dst:Option Nat}
theorem WD.a1(i:Nat)(ho:ops[i]?=some ⟨dst,op,ty,pos,aft,none⟩)
    (h:W E [(⟨dst,op,ty,pos,aft,none⟩:Oper)].toArray false [(⟨dst,op,ty,pos,aft,none⟩:Oper)] f G M (fun f' G' M'=>Le G G'∧Mk.Sublist M'∧∃qz,qz.Sublist M'∧Mk.Sublist qz∧WD E ops cR (bF.setIfInBounds i true) f' G' M' qz K))
    (hr:Region.ready .any ops bF=[i]:=by kernel_rfl):WD E ops (cR+1) bF f G M Mk K:=WD.any [i] hr rfl ⟨⟨_,ho,rfl,h⟩,trivial⟩
theorem WD.ap{i:Nat}(h:W E [(⟨dst,op,ty,pos,aft,none⟩:Oper)].toArray false [(⟨dst,op,ty,pos,aft,none⟩:Oper)] f G M K)(ho:ops[i]?=some ⟨dst,op,ty,pos,aft,none⟩:=by rfl):
    ∃o,ops[i]?=some o∧o.guard=none∧W E [o].toArray false [o] f G M K:=⟨_,ho,rfl,h⟩
section
variable {E:Env} {Q:Exit→Kt} {f:Fr} {G:GH} {M:MH} {x y:Code} {c:Operand} {p:Prop} {inst:Decidable p} {ops:List Oper} {q:Bool} {l:List Oper} {K:Kt}
theorem WC.cd(ht:decide p=true→p→WC E x Q f G M)(hf:decide p=false→¬p→WC E y Q f G M)(hc:ev f c=.bool (decide p):=by rfl):WC E (.cond c x y) Q f G M:=WC.cond hc (fun h=>ht h (of_decide_eq_true h)) (fun h=>hf h (of_decide_eq_false h))
theorem WC.cn(ht:(!decide p)=true→¬p→WC E x Q f G M)(hf:(!decide p)=false→p→WC E y Q f G M)(hc:ev f c=.bool (!decide p):=by rfl):WC E (.cond c x y) Q f G M:=WC.cond hc (fun h=>ht h (Fa h)) (fun h=>hf h (Fb h))
theorem W.sd(dj:Nat)(ht:decide p=true→p→W E ops.toArray q l f G M K)(hf:decide p=false→¬p→W E ops.toArray q l f G M K)(hc:f dj=.bool (decide p):=by rfl):W E ops.toArray q l f G M K:=W.sp dj hc (fun h=>ht h (of_decide_eq_true h)) (fun h=>hf h (of_decide_eq_false h))
theorem W.sm(dj:Nat)(ht:(!decide p)=true→¬p→W E ops.toArray q l f G M K)(hf:(!decide p)=false→p→W E ops.toArray q l f G M K)(hc:f dj=.bool (!decide p):=by rfl):W E ops.toArray q l f G M K:=W.sp dj hc (fun h=>ht h (Fa h)) (fun h=>hf h (Fb h))
end
theorem Fc.go{P:Program}{g:FuncId}{fn:Func}{c:Code}{n:Nat}{args:List Value}{G:GH}{M:MH}{Q:Value→GH→MH→Prop}(rs:List ResultVar)(hf:P.funcs[g]?=some fn)(hn:fn.ntmps=n)(hb:fn.body=some c)
    (h:∀w0,WC ⟨P,n,w0,fun b=>b∈M.map (·.1),G⟩ c (fun e f G' M'=>(e=.normal∨e=.ret)∧∃vs,mW P f M' rs vs∧∃wP,wP.Sublist M'∧Q (pack vs) G' wP) (dO (fun _=>undef) (An 0 args)) G M)
    (hr : fn.results.toList = rs := by rfl)(hl : Nat.ble args.length n = true := by rfl)(hN : (fn.name == "runtime.NumGoroutine") = false := by decide) : Fc P g args G M Q :=
  Fc.intro (qh hf (by rw [hb];rfl) hN) hf hb hn hr hl h
class ZS {α:Type} (e:dV α) (c:outParam (α→List Value)):Prop where
  h:∀G cs a,e.R G cs a→cs=c a
class SS {α:Type} (e:dV α) (c:outParam (α→List Value)) (p:outParam (α→Prop)):Prop where
  h:∀G cs a,e.R G cs a→cs=c a∧p a
instance : ZS dg (fun s => [.string s.b]) := ⟨fun _ _ _ h => h⟩
instance : ZS bA (fun p => [.string p.key.b, .string p.val.b]) := ⟨fun _ _ _ h => h⟩
instance : SS bY (fun n => [.int .i64 n]) i64 := ⟨fun _ _ _ h => h⟩
instance : SS bQ (fun m => [.int .i64 m.aO, .int .i64 m.kind, .string m.key.b, .string m.hi.b, .bool m.bT, .string m.val.b]) aA.Ok := ⟨fun _ _ _ h => h⟩
section
variable {α:Type} {e:dV α} {G:GH} {v:Value} {l:List α} {c:α→List Value} {p:α→Prop} {T:TypeId} {Ms:MH} {P:Prop} {i:Nat}
theorem ax.a1(h:ax e G v l) [hE:ZS e c](hi:i<l.length)(k:gf G v e.k i (c l[i])→P):P:=by obtain⟨cs,h1,h2⟩:=h.at hi;rw [hE.h _ _ _ h2]at h1;exact k h1
theorem ax.a2(h:ax e G v l) [hE:SS e c p](hi:i<l.length)(k:gf G v e.k i (c l[i])→p l[i]→P):P:=by obtain⟨cs,h1,h2⟩:=h.at hi;obtain⟨h3,h4⟩:=hE.h _ _ _ h2;rw [h3]at h1;exact k h1 h4
theorem aP.a1(h:aP e T G v l Ms) [hE:ZS e c](hi:i<l.length)(k:sH Ms v e.k i (c l[i])→P):P:=by obtain⟨cs,h1,h2⟩:=h.at hi;rw [hE.h _ _ _ h2]at h1;exact k h1
theorem aP.a2(h:aP e T G v l Ms) [hE:SS e c p](hi:i<l.length)(k:sH Ms v e.k i (c l[i])→p l[i]→P):P:=by obtain⟨cs,h1,h2⟩:=h.at hi;obtain⟨h3,h4⟩:=hE.h _ _ _ h2;rw [h3]at h1;exact k h1 h4
abbrev NdK (n:Nd) (a1:Option Addr) (c1:Nat) (a2:Option Addr) (c2:Nat) (a3:Option Addr) (c3:Nat) (a4:Option Addr) (c4:Nat):List Value:=[.int .i64 n.slot,.int .i64 n.level,.slice a1 n.ab.length c1,.slice a2 n.kids.length c2,.string n.high.b,.bool n.cW,.int .i64 n.right,.int .i64 n.seen,.slice a3 n.af.length c3,.slice a4 n.rows.length c4]
theorem ax.aN{l:List Nd}(h:ax bU G v l)(hi:i<l.length)(k:∀a1 c1 a2 c2 a3 c3 a4 c4,gf G v bU.k i [.int .i64 l[i].slot,.int .i64 l[i].level,.slice a1 l[i].ab.length c1,.slice a2 l[i].kids.length c2,.string l[i].high.b,.bool l[i].cW,.int .i64 l[i].right,.int .i64 l[i].seen,.slice a3 l[i].af.length c3,.slice a4 l[i].rows.length c4]→ax dg G (.slice a1 l[i].ab.length c1) l[i].ab→ax bY G (.slice a2 l[i].kids.length c2) l[i].kids→ax bQ G (.slice a3 l[i].af.length c3) l[i].af→ax bA G (.slice a4 l[i].rows.length c4) l[i].rows→l[i].Ok→P):P:=by
  obtain⟨cs,h1,a1,c1,a2,c2,a3,c3,a4,c4,h2,q1,q2,q3,q4,q5⟩:=h.at hi;rw [h2]at h1;exact k _ _ _ _ _ _ _ _ h1 q1 q2 q3 q4 q5
theorem aP.aN{l:List Nd}(h:aP bU T G v l Ms)(hi:i<l.length)(k:∀a1 c1 a2 c2 a3 c3 a4 c4,sH Ms v bU.k i [.int .i64 l[i].slot,.int .i64 l[i].level,.slice a1 l[i].ab.length c1,.slice a2 l[i].kids.length c2,.string l[i].high.b,.bool l[i].cW,.int .i64 l[i].right,.int .i64 l[i].seen,.slice a3 l[i].af.length c3,.slice a4 l[i].rows.length c4]→ax dg G (.slice a1 l[i].ab.length c1) l[i].ab→ax bY G (.slice a2 l[i].kids.length c2) l[i].kids→ax bQ G (.slice a3 l[i].af.length c3) l[i].af→ax bA G (.slice a4 l[i].rows.length c4) l[i].rows→l[i].Ok→P):P:=by
  obtain⟨cs,h1,a1,c1,a2,c2,a3,c3,a4,c4,h2,q1,q2,q3,q4,q5⟩:=h.at hi;rw [h2]at h1;exact k _ _ _ _ _ _ _ _ h1 q1 q2 q3 q4 q5
end
section
variable {E:Env} {f:Fr} {G:GH} {M:MH} {ops rest:List Oper} {K:Kt} {d:Nat} {ty:TypeId} {pos:String} {aft:Array Edge} {g:FuncId} {args:List Operand} {nL:Array TypeId} {vs:List Value}
theorem W.cS{α:Type}{e:dV α}{l:List α}{F:Value→Value}(hc:Fc E.P g vs G [] (fun v G' M'=>M'=[]∧∃u,v=F u∧ax e G' u l))(ha:args.map (ev f)=vs)
    (k:∀a c G',Le G G'→ax e G' (.slice a l.length c) l→W E ops.toArray false rest (gw f d (F (.slice a l.length c))) G' M K)(hd:Nat.blt d E.n=true:=by rfl):
    W E ops.toArray false (⟨some d,.call { callee:=.value (.func g),args:=args.toArray,argTypes:=nL },ty,pos,aft,none⟩::rest) f G M K:=
  W.call (Mp:=[]) hc ha (List.Perm.refl _) (fun v G' M' hl ⟨h1,u,h2,h3⟩=>by
    obtain⟨a,c,h4⟩:=h3.form
    subst h1 h4 h2
    exact k a c G' hl h3) hd
theorem W.cN{n:Nd}{F:List Value→Value}(hc:Fc E.P g vs G [] (fun v G' M'=>M'=[]∧∃u,v=F u∧ba G' u n))(ha:args.map (ev f)=vs)
    (k:∀a1 c1 a2 c2 a3 c3 a4 c4 G',Le G G'→ax dg G' (.slice a1 n.ab.length c1) n.ab→ax bY G' (.slice a2 n.kids.length c2) n.kids→ax bQ G' (.slice a3 n.af.length c3) n.af→ax bA G' (.slice a4 n.rows.length c4) n.rows→n.Ok→
      W E ops.toArray false rest (gw f d (F (NdK n a1 c1 a2 c2 a3 c3 a4 c4))) G' M K)(hd:Nat.blt d E.n=true:=by rfl):
    W E ops.toArray false (⟨some d,.call { callee:=.value (.func g),args:=args.toArray,argTypes:=nL },ty,pos,aft,none⟩::rest) f G M K:=
  W.call (Mp:=[]) hc ha (List.Perm.refl _) (fun v G' M' hl ⟨h1,u,h2,a1,c1,a2,c2,a3,c3,a4,c4,h3,q1,q2,q3,q4,q5⟩=>by
    subst h1 h3 h2
    exact k _ _ _ _ _ _ _ _ G' hl q1 q2 q3 q4 q5) hd
theorem W.cM{β:Type}{s:β}{F:β→List Value→List Value→Value}{A B:β→Nd}(hc:Fc E.P g vs G [] (fun v G' M'=>M'=[]∧∃r,r=s∧∃u w,v=F r u w∧ba G' u (A r)∧ba G' w (B r)))(ha:args.map (ev f)=vs)
    (k:∀a1 c1 a2 c2 a3 c3 a4 c4 b1 d1 b2 d2 b3 d3 b4 d4 G',Le G G'→ax dg G' (.slice a1 (A s).ab.length c1) (A s).ab→ax bY G' (.slice a2 (A s).kids.length c2) (A s).kids→ax bQ G' (.slice a3 (A s).af.length c3) (A s).af→ax bA G' (.slice a4 (A s).rows.length c4) (A s).rows→(A s).Ok→
      ax dg G' (.slice b1 (B s).ab.length d1) (B s).ab→ax bY G' (.slice b2 (B s).kids.length d2) (B s).kids→ax bQ G' (.slice b3 (B s).af.length d3) (B s).af→ax bA G' (.slice b4 (B s).rows.length d4) (B s).rows→(B s).Ok→
      W E ops.toArray false rest (gw f d (F s (NdK (A s) a1 c1 a2 c2 a3 c3 a4 c4) (NdK (B s) b1 d1 b2 d2 b3 d3 b4 d4))) G' M K)(hd:Nat.blt d E.n=true:=by rfl):
    W E ops.toArray false (⟨some d,.call { callee:=.value (.func g),args:=args.toArray,argTypes:=nL },ty,pos,aft,none⟩::rest) f G M K:=
  W.call (Mp:=[]) hc ha (List.Perm.refl _) (fun v G' M' hl ⟨h1,r,hr,u,w,h2,⟨a1,c1,a2,c2,a3,c3,a4,c4,h3,q1,q2,q3,q4,q5⟩,b1,d1,b2,d2,b3,d3,b4,d4,p3,p5,p6,p7,p8,p9⟩=>by
    subst hr h1 h3 p3 h2
    exact k _ _ _ _ _ _ _ _ _ _ _ _ _ _ _ _ G' hl q1 q2 q3 q4 q5 p5 p6 p7 p8 p9) hd
end
structure Cn (n:Nat) (B:Prop):Prop where
  h:B
structure Hd9 (A:Prop):Prop where
  h:A
theorem Cn.st{n:Nat}{B B':Prop}(f:B'→B)(k:Cn n B'):Cn (n+1) B:=⟨f k.h⟩
class jC (P:Program) (t:TypeId) (b:outParam Bool) (j:outParam Nat):Prop where
  h:eC P t=some (b,j)
class BQ (P:Program) (t:TypeId) (t':outParam TypeId):Prop where
  h:cB P t=some t'
class eN (P:Program) (t:TypeId) (j:Nat) (off:outParam Nat):Prop where
  h:bD P t j=some off
class StK (P:Program) (t:TypeId):Prop where
  h:P.underlying t=some .string
class BoK (P:Program) (t:TypeId):Prop where
  h:P.underlying t=some .bool
class sI (M:MH) (b:Nat) (i:outParam Nat) (L:outParam (List Value)) (T:outParam TypeId):Prop where
  h:qA M i=some (b,.cells L.toArray T (0,0))
instance sI.hd {b : Nat} {L : List Value} {T : TypeId} {M : MH} : sI ((b, .cells (List.toArray L) T (0, 0)) :: M) b 0 L T := ⟨rfl⟩
instance (priority := 900) sI.tl {c : Nat × Obj} {M : MH} {b i : Nat} {L : List Value} {T : TypeId} [h : sI M b i L T] : sI (c :: M) b (i + 1) L T := ⟨h.h⟩
instance (priority := 800) sI.nl {M : MH} {b i : Nat} {L : List Value} {T : TypeId} [h : sI M b i L T] : sI ([] ++ M) b i L T := ⟨h.h⟩
instance (priority := 700) sI.ap {c : Nat × Obj} {M N : MH} {b i : Nat} {L : List Value} {T : TypeId} [h : sI (c :: (M ++ N)) b i L T] : sI ((c :: M) ++ N) b i L T := ⟨h.h⟩
class qB (L:List Value) (o:Nat) (v:Value) (L':outParam (List Value)):Prop where
  h:setAt L o [v]=L'∧o+1≤L.length
instance qB.z {x : Value} {L : List Value} {v : Value} : qB (x :: L) 0 v (v :: L) := ⟨by cases L <;> simp [setAt], by simp⟩
instance (priority := 900) qB.s {x : Value} {L : List Value} {o : Nat} {v : Value} {L' : List Value} [h : qB L o v L'] : qB (x :: L) (o + 1) v (x :: L') := ⟨by simp only [setAt, h.h.1], by have := h.h.2; simp only [List.length_cons]; omega⟩
instance (priority := 800) qB.z0 {x : Value} {L : List Value} {v : Value} : qB (x :: L) (0 + 0) v (v :: L) := ⟨by cases L <;> simp [setAt], by simp⟩
instance (priority := 700) qB.p {L : List Value} {a c : Nat} {v : Value} {L' : List Value} [h : qB L (a + c) v L'] : qB L (a + c + 0) v L' := ⟨h.h⟩
class wQ (M:MH) (b o:Nat) (v:Value) (T:outParam TypeId) (M':outParam MH):Prop where
  h:∃i L L',qA M i=some (b,.cells (List.toArray L) T (0,0))∧setAt L o [v]=L'∧o+1≤L.length∧mn M i (.cells (List.toArray L') T (0,0))=M'
instance wQ.hd {b o : Nat} {L L' : List Value} {v : Value} {T : TypeId} {M : MH} [h : qB L o v L'] : wQ ((b, .cells (List.toArray L) T (0, 0)) :: M) b o v T ((b, .cells (List.toArray L') T (0, 0)) :: M) :=
  ⟨0,L,L',rfl,h.h.1,h.h.2,rfl⟩
instance (priority := 900) wQ.tl {c : Nat × Obj} {M M' : MH} {b o : Nat} {v : Value} {T : TypeId} [h : wQ M b o v T M'] : wQ (c :: M) b o v T (c :: M') := by
  obtain⟨i,L,L',h1,h2,h3,h4⟩:=h.h
  exact⟨i+1,L,L',h1,h2,h3,by simp only [mn,h4]⟩
instance (priority := 800) wQ.nl {M M' : MH} {b o : Nat} {v : Value} {T : TypeId} [h : wQ M b o v T M'] : wQ ([] ++ M) b o v T M' := ⟨h.h⟩
instance (priority := 700) wQ.ap {c : Nat × Obj} {M N M' : MH} {b o : Nat} {v : Value} {T : TypeId} [h : wQ (c :: (M ++ N)) b o v T M'] : wQ ((c :: M) ++ N) b o v T M' := ⟨h.h⟩
class wR (M:MH) (b:Nat) (L':List Value) (L:outParam (List Value)) (T:outParam TypeId) (M':outParam MH):Prop where
  h:∃i,qA M i=some (b,.cells (List.toArray L) T (0,0))∧mn M i (.cells (List.toArray L') T (0,0))=M'
instance wR.hd {b : Nat} {L L' : List Value} {T : TypeId} {M : MH} : wR ((b, .cells (List.toArray L) T (0, 0)) :: M) b L' L T ((b, .cells (List.toArray L') T (0, 0)) :: M) := ⟨0, rfl, rfl⟩
instance (priority := 900) wR.tl {c : Nat × Obj} {M M' : MH} {b : Nat} {L L' : List Value} {T : TypeId} [h : wR M b L' L T M'] : wR (c :: M) b L' L T (c :: M') := by
  obtain⟨i,h1,h2⟩:=h.h
  exact⟨i+1,h1,by simp only [mn,h2]⟩
instance (priority := 800) wR.nl {M M' : MH} {b : Nat} {L L' : List Value} {T : TypeId} [h : wR M b L' L T M'] : wR ([] ++ M) b L' L T M' := ⟨h.h⟩
instance (priority := 700) wR.ap {c : Nat × Obj} {M N M' : MH} {b : Nat} {L L' : List Value} {T : TypeId} [h : wR (c :: (M ++ N)) b L' L T M'] : wR ((c :: M) ++ N) b L' L T M' := ⟨h.h⟩
instance (priority := 600) sI.z {c : Nat} {u w : Obj} {M : MH} {b i : Nat} {L : List Value} {T : TypeId} [h : sI ((c, w) :: M) b i L T] : sI (mn ((c, u) :: M) 0 w) b i L T := ⟨h.h⟩
instance (priority := 500) sI.sc {p : Nat × Obj} {w : Obj} {M : MH} {k : Nat} {b i : Nat} {L : List Value} {T : TypeId} [h : sI (p :: mn M k w) b i L T] : sI (mn (p :: M) (k + 1) w) b i L T := ⟨h.h⟩
instance (priority := 600) wQ.z {c : Nat} {u w : Obj} {M : MH} {b o : Nat} {v : Value} {T : TypeId} {M' : MH} [h : wQ ((c, w) :: M) b o v T M'] : wQ (mn ((c, u) :: M) 0 w) b o v T M' := ⟨h.h⟩
instance (priority := 500) wQ.sc {p : Nat × Obj} {w : Obj} {M : MH} {k : Nat} {b o : Nat} {v : Value} {T : TypeId} {M' : MH} [h : wQ (p :: mn M k w) b o v T M'] : wQ (mn (p :: M) (k + 1) w) b o v T M' := ⟨h.h⟩
instance (priority := 600) wR.z {c : Nat} {u w : Obj} {M : MH} {b : Nat} {L L' : List Value} {T : TypeId} {M' : MH} [h : wR ((c, w) :: M) b L' L T M'] : wR (mn ((c, u) :: M) 0 w) b L' L T M' := ⟨h.h⟩
instance (priority := 500) wR.sc {p : Nat × Obj} {w : Obj} {M : MH} {k : Nat} {b : Nat} {L L' : List Value} {T : TypeId} {M' : MH} [h : wR (p :: mn M k w) b L' L T M'] : wR (mn (p :: M) (k + 1) w) b L' L T M' := ⟨h.h⟩
section
variable {E:Env} {f:Fr} {G:GH} {M:MH} {ops rest:List Oper} {q:Bool} {K:Kt} {d:Nat} {op:Op} {ty:TypeId} {pos:String} {aft:Array Edge} {v:Value} {x y:Operand} {t t':TypeId} {b o:Nat}
variable {L:List Value} {T:TypeId} {i:Nat}
theorem ayr [hT:jC E.P t false 1](hx:ev f x=.pointer (some ⟨b,o,none⟩)) [hM:sI M b i L T](hv:L[o]?=some v):Ok E f G M ⟨some d,.load t x,ty,pos,aft,none⟩ v:=
  zm (vs:=[v]) hT.h hx hM.h (by
    have hl:=(List.getElem?_eq_some_iff.1 hv)
    obtain⟨h1,h2⟩:=hl
    rw [List.drop_eq_getElem_cons h1,h2];simp) rfl (fun _=>rfl)
variable {j:Nat}
theorem ays [hT:jC E.P t true j](hx:ev f x=.pointer (some ⟨b,o,none⟩))(ho:o=0) [hM:sI M b i L T](hj:L.length=j):Ok E f G M ⟨some d,.load t x,ty,pos,aft,none⟩ (.agg L.toArray):=
  zm (vs:=L) hT.h hx hM.h (by subst ho hj;simp) hj (fun h=>by cases h)
class wi (L:List Value) (o j:Nat) (vs:outParam (List Value)):Prop where
  h:(L.drop o).take j=vs∧vs.length=j
instance wi.n {L : List Value} : wi L 0 0 [] := ⟨by simp, rfl⟩
instance wi.c {x : Value} {L : List Value} {j : Nat} {vs : List Value} [h : wi L 0 j vs] : wi (x :: L) 0 (j + 1) (x :: vs) := ⟨by have := h.h.1; simp only [List.drop_zero] at this; simp [this], by simp [h.h.2]⟩
instance wi.s {x : Value} {L : List Value} {o j : Nat} {vs : List Value} [h : wi L o j vs] : wi (x :: L) (o + 1) j vs := ⟨by simpa using h.h.1, h.h.2⟩
instance wi.z {L : List Value} {j : Nat} {vs : List Value} [h : wi L 0 j vs] : wi L (0 + 0) j vs := ⟨h.h⟩
theorem ayt{vs:List Value} [hT:jC E.P t true j](hx:ev f x=.pointer (some ⟨b,o,none⟩)) [hM:sI M b i L T] [hC:wi L o j vs]:Ok E f G M ⟨some d,.load t x,ty,pos,aft,none⟩ (.agg vs.toArray):=
  zm (vs:=vs) hT.h hx hM.h hC.h.1 hC.h.2 (fun h=>by cases h)
variable {cs:List Value} {kk:Nat} {u:Value}
theorem ayu [hT:jC E.P t false 1](hx:ev f x=.pointer (some (j1 u kk i o)))(he:gf G u kk i cs)(hv:cs[o]?=some v):Ok E f G M ⟨some d,.load t x,ty,pos,aft,none⟩ v:=
  qv (vs:=[v]) hT.h he hx (by
    have hl:=(List.getElem?_eq_some_iff.1 hv)
    obtain⟨h1,h2⟩:=hl
    rw [List.drop_eq_getElem_cons h1,h2];simp) rfl (fun _=>rfl)
theorem ayv [hT:jC E.P t true j](hx:ev f x=.pointer (some (j1 u kk i o)))(ho:o=0)(he:gf G u kk i cs)(hj:cs.length=j):Ok E f G M ⟨some d,.load t x,ty,pos,aft,none⟩ (.agg cs.toArray):=
  qv (vs:=cs) hT.h he hx (by subst ho hj;simp) hj (fun h=>by cases h)
variable {off:Nat}
theorem ayw [hF:eN E.P t j off](hx:ev f x=.pointer (some ⟨b,o,none⟩)):Ok E f G M ⟨some d,.fieldAddr t x j,ty,pos,aft,none⟩ (.pointer (some ⟨b,o+off,none⟩)):=Hc hF.h hx
theorem ayx [hF:eN E.P t j off](hx:ev f x=.pointer (some (j1 u kk i o)))(hv:∃a n c,u=.slice (some a) n c):Ok E f G M ⟨some d,.fieldAddr t x j,ty,pos,aft,none⟩ (.pointer (some (j1 u kk i (o+off)))):=ZT hF.h hx hv
variable {M':MH}
theorem W.s1 [hT:jC E.P t false 1](hx:ev f x=.pointer (some ⟨b,o,none⟩))(hy:ev f y=v)(hc:v.cells.toList=[v])(h1:Value.oneCell' v=true) [hM:wQ M b o v T M']
    (k:W E ops.toArray false rest f G M' K):W E ops.toArray false (⟨none,.store t x y,ty,pos,aft,none⟩::rest) f G M K:=by
  obtain⟨i,L,L',a1,a2,a3,a4⟩:=hM.h
  exact W.store hT.h hx a1 hy hc rfl (by simp [h1]) (Nat.ble_eq▸a3) a2 (a4▸k)
theorem W.sA{L':List Value} [hT:jC E.P t true j](hx:ev f x=.pointer (some ⟨b,o,none⟩))(ho:o=0)(hy:ev f y=.agg L'.toArray)(h1:L'.all Value.oneCell'=true) [hM:wR M b L' L T M'](hl:L.length=j)(ZU:L'.length=j)
    (k:W E ops.toArray false rest f G M' K):W E ops.toArray false (⟨none,.store t x y,ty,pos,aft,none⟩::rest) f G M K:=by
  obtain⟨i,a1,a2⟩:=hM.h
  subst ho
  exact W.store (vs:=L') hT.h hx a1 hy (by simp [Value.cells]) ZU h1 (Nat.ble_eq▸(by omega:0+j≤L.length)) (by rw [jf _ _ _ (by omega)];simp [hl,ZU]) (a2▸k)
variable {α:Type} {e:dV α} {l:List α} {m:Int} {k:IntKind}
theorem ayy [hT:BQ E.P t t'](hx:ev f x=v)(hs:ax e G v l):
    Ok E f G M ⟨some d,.call { callee:=.builtin .len,args:= #[x],argTypes:= #[t] },ty,pos,aft,none⟩ (.int .i64 l.length):=uR hT.h hs hx
theorem atd [hT:BQ E.P t t']{Ms:MH}(hx:ev f x=v)(ho:aP e T G v l Ms):
    Ok E f G M ⟨some d,.call { callee:=.builtin .len,args:= #[x],argTypes:= #[t] },ty,pos,aft,none⟩ (.int .i64 l.length):=ajH hT.h ho hx
theorem ate [hT:StK E.P t]{a:ByteArray}(hx:ev f x=.string a):
    Ok E f G M ⟨some d,.call { callee:=.builtin .len,args:= #[x],argTypes:= #[t] },ty,pos,aft,none⟩ (.int .i64 a.size):=ajI hT.h hx
theorem ayz{bb:Bool}{n c:Nat}{a:Option Addr} [hT:BQ E.P t t'] [hK:jC E.P t' bb j](hx:ev f x=.slice a n c)(hs:ax e G (.slice a n c) l)(hj:j=e.k)(hy:ev f y=.int k m)(hi:m=((i:Nat):Int))(hl:i<l.length):
    Ok E f G M ⟨some d,.indexAddr t x y,ty,pos,aft,none⟩ (.pointer (some (j1 (.slice a n c) e.k i 0))):=aY hT.h (hj▸hK.h) hs hx hy ⟨hi,hl⟩
end
variable {α:Type}
theorem aGE{x:α} :(some x).isSome=true:=rfl
theorem aGF{x:α} :(some x).isNone=false:=rfl
theorem aGG:(none:Option α).isNone=true:=rfl
theorem aGH:(none:Option α).isSome=false:=rfl
variable {a:Bool}
theorem nb9(h:a=true):(!a)=false:=by rw [h];rfl
theorem nc9(h:a=false):(!a)=true:=by rw [h];rfl
theorem nF9:(!false)=true:=rfl
theorem nT9:(!true)=false:=rfl
theorem Li{b:Bool}(h:a=b:=by first|with_reducible assumption|with_reducible rfl|with_reducible exact aGE|with_reducible exact aGF|with_reducible exact nF9|with_reducible exact nT9|with_reducible exact aGG|with_reducible exact aGH|exact nb9 (by with_reducible assumption)|exact nc9 (by with_reducible assumption)|decide):a=b:=h
variable {M:MH} {P:Program} {f:Fr}
theorem aGI:mW P f M [] []:=trivial
variable {rs:List ResultVar} {v:Value} {vs:List Value}
theorem aGJ{t:Nat}(hx:f t=v)(k:mW P f M rs vs):mW P f M (.tmp t::rs) (v::vs):=⟨hx,k⟩
variable {T:TypeId}
theorem aGK{L:List Value}{a b i k:Nat}{t:TypeId}{bb:Bool}(hx:f a=.pointer (some ⟨b,0,none⟩))(hM:sI M b i L T)(hT:jC P t bb k)(h1:bb=false→k=1)(hl:L.length=k)(h:mW P f M rs vs):mW P f M (.cell a t::rs) (AN bb L::vs):=
  ⟨⟨_,_,_,_,_,hx,fJ hM.h,hT.h,h1,hl,rfl⟩,h⟩
theorem rsl(h:mW P f M rs vs:=by
  repeat (first
    |exact aGI
    |((with_reducible apply aGJ);exact rfl)
    |((with_reducible apply aGK);exact rfl;infer_instance;infer_instance;simp;exact rfl))):mW P f M rs vs:=h
theorem aZ{l:List (Nat×Value)}(h:Has f l:=by
  repeat (first
    |exact trivial
    |refine⟨by first|rfl|exact iv (by dsimp only;omega)|exact iv (by omega),?_⟩)):Has f l:=h
theorem aS{A B:GH}(h:Le A B:=by repeat (first|exact Le.rfl|assumption|refine Le.trans ?_ (by assumption))):Le A B:=h
variable {G:GH} {G':GH}
theorem ax.mo{e:dV α}{l:List α}(h:ax e G v l)(hl:Le G G'):ax e G' v l:=h.mono hl
theorem aP.mo{e:dV α}{l:List α}{Ms:MH}(h:aP e T G v l Ms)(hl:Le G G'):aP e T G' v l Ms:=h.mono hl
theorem ax.go{e:dV α}{l:List α}(h:ax e G v l:=by first|assumption|exact ax.mo (by assumption) aS):ax e G v l:=h
theorem Cn.mX{E:Env}{ops:Array Oper}{q:Bool}{l:List Oper}{K:Kt}{n:Nat}(h:Cn n (W E ops q l f G M K)):Cn n (W E ops q l f G M K):=h
section
variable {E:Env} {f:Fr} {G:GH} {M:MH} {ops rest:List Oper} {q:Bool} {K:Kt} {d n:Nat} {op:Op} {ty:TypeId} {pos:String} {aft:Array Edge} {v:Value} {x y z:Operand} {t t':TypeId} {Q:Exit→Kt} {c c':Code} {b:Bool} {j dj:Nat}
theorem ayA{j:Nat}(h:Ok E f G M ⟨some d,.fieldAddr t x j,ty,pos,aft,none⟩ v):Ok E f G M ⟨some d,.fieldAddr t x j,ty,pos,aft,none⟩ v:=h
theorem ayB(h:Ok E f G M ⟨some d,.load t x,ty,pos,aft,none⟩ v):Ok E f G M ⟨some d,.load t x,ty,pos,aft,none⟩ v:=h
theorem ayC(h:Ok E f G M ⟨some d,.pick x y z,ty,pos,aft,none⟩ v):Ok E f G M ⟨some d,.pick x y z,ty,pos,aft,none⟩ v:=h
theorem ayD{o:BinOp}(h:Ok E f G M ⟨some d,.binOp o t x y t',ty,pos,aft,none⟩ v):Ok E f G M ⟨some d,.binOp o t x y t',ty,pos,aft,none⟩ v:=h
theorem ayE{c:Call}(h:Ok E f G M ⟨some d,.call c,ty,pos,aft,none⟩ v):Ok E f G M ⟨some d,.call c,ty,pos,aft,none⟩ v:=h
theorem Cn.ok(h:Ok E f G M ⟨some d,op,ty,pos,aft,none⟩ v)(hd:Nat.blt d E.n=true)(k:Cn n (W E ops.toArray q rest (gw f d v) G M K)):Cn (n+1) (W E ops.toArray q (⟨some d,op,ty,pos,aft,none⟩::rest) f G M K):=⟨W.ok h k.h hd⟩
theorem Cn.noF(hj:(ops.toArray[j]?).bind (·.dst)=some dj)(hb:f dj=.bool b)(hn:b=true)(hd:Nat.blt d E.n=true)(k:Cn n (W E ops.toArray q rest (gw f d undef) G M K)):Cn (n+1) (W E ops.toArray q (⟨some d,op,ty,pos,aft,some (j,false)⟩::rest) f G M K):=⟨W.no hj hb (by rw [hn];rfl) k.h hd⟩
theorem Cn.noT(hj:(ops.toArray[j]?).bind (·.dst)=some dj)(hb:f dj=.bool b)(hn:b=false)(hd:Nat.blt d E.n=true)(k:Cn n (W E ops.toArray q rest (gw f d undef) G M K)):Cn (n+1) (W E ops.toArray q (⟨some d,op,ty,pos,aft,some (j,true)⟩::rest) f G M K):=⟨W.no hj hb (by rw [hn];rfl) k.h hd⟩
theorem Cn.yes{o:Option Nat}{w:Bool}(hj:(ops.toArray[j]?).bind (·.dst)=some dj)(hb:f dj=.bool b)(hn:b=w)(hd:Nat.blt dj E.n=true)(k:Cn n (W E ops.toArray q (⟨o,op,ty,pos,aft,none⟩::rest) f G M K)):Cn (n+1) (W E ops.toArray q (⟨o,op,ty,pos,aft,some (j,w)⟩::rest) f G M K):=⟨W.yes hj hb hn k.h hd⟩
theorem Cn.Pm{w:Bool}(hj:(ops.toArray[j]?).bind (·.dst)=some dj)(hb:f dj=undef)(hd:Nat.blt d E.n=true)(k:Cn n (W E ops.toArray q rest (gw f d undef) G M K)):Cn (n+1) (W E ops.toArray q (⟨some d,op,ty,pos,aft,some (j,w)⟩::rest) f G M K):=⟨W.Pm hj hb k.h hd⟩
theorem Cn.nil(k:Cn n (K f G M)):Cn (n+1) (W E ops.toArray q [] f G M K):=⟨W.nil k.h⟩
variable {id:Nat}
theorem Cn.rg{l:List Oper}(k:Cn n (W E l.toArray false l f G M (Q .normal))):Cn (n+1) (WC E (.region id l.toArray false) Q f G M):=⟨WC.region k.h⟩
theorem Cn.sq(k:Cn n (WC E c (wS (WC E c' Q) Q) f G M)):Cn (n+1) (WC E (.seq c c') Q f G M):=⟨WC.seq k.h⟩
theorem Cn.bk(k:Cn n (WC E c (DD id Q) f G M)):Cn (n+1) (WC E (.block id c) Q f G M):=⟨WC.block k.h⟩
theorem Cn.sk(k:Cn n (Q .normal f G M)):Cn (n+1) (WC E .skip Q f G M):=⟨WC.skip k.h⟩
theorem Cn.rt(k:Cn n (Q .ret f G M)):Cn (n+1) (WC E .ret Q f G M):=⟨WC.ret k.h⟩
theorem Cn.xt(k:Cn n (Q (.exit id) f G M)):Cn (n+1) (WC E (.exit id) Q f G M):=⟨WC.exit k.h⟩
theorem Cn.cT(hc:ev f x=.bool b)(hb:b=true)(k:Cn n (WC E c Q f G M)):Cn (n+1) (WC E (.cond x c c') Q f G M):=⟨WC.adz hc hb k.h⟩
theorem Cn.cF(hc:ev f x=.bool b)(hb:b=false)(k:Cn n (WC E c' Q f G M)):Cn (n+1) (WC E (.cond x c c') Q f G M):=⟨WC.atf hc hb k.h⟩
theorem Cn.tn(k:Cn n (K f G M)):Cn (n+1) (wS K Q .normal f G M):=⟨nU k.h⟩
theorem Cn.tx(k:Cn n (Q (.exit id) f G M)):Cn (n+1) (wS K Q (.exit id) f G M):=⟨ayF k.h⟩
theorem Cn.tr(k:Cn n (Q .ret f G M)):Cn (n+1) (wS K Q .ret f G M):=⟨ajJ k.h⟩
theorem Cn.bn(k:Cn n (Q .normal f G M)):Cn (n+1) (DD id Q .normal f G M):=⟨AO k.h⟩
theorem Cn.br(k:Cn n (Q .ret f G M)):Cn (n+1) (DD id Q .ret f G M):=⟨ayG k.h⟩
theorem Cn.bh(k:Cn n (Q .normal f G M)):Cn (n+1) (DD id Q (.exit id) f G M):=⟨ayH k.h⟩
theorem Cn.rr{P:Program}{rs:List ResultVar}{vs:List Value}{R:List Value→MH→Prop}(hr:mW P f M rs vs)(k:Cn n (R vs [])):Cn (n+1) ((Exit.ret=.normal∨Exit.ret=.ret)∧∃vs,mW P f M rs vs∧∃M',M'.Sublist M∧R vs M'):=⟨.inr rfl,vs,hr,[],List.nil_sublist _,k.h⟩
theorem Cn.bm{DE:Nat}(hn:Nat.beq DE id=false)(k:Cn n (Q (.exit DE) f G M)):Cn (n+1) (DD id Q (.exit DE) f G M):=⟨ayI k.h hn⟩
end
theorem ok9{E:Env}{f:Fr}{G:GH}{M:MH}{o:Oper}{v:Value}(h:Ok E f G M o v:=by
  first
  | (with_reducible apply ayA
     first
     |exact ayw rfl
     |exact ayx rfl (by first|exact gf.form (by assumption)|exact sH.form (by assumption)))
  | (with_reducible apply ayB
     first
     |exact ayr rfl rfl
     |exact ays rfl rfl rfl
     |exact ayt rfl
     |exact ayu rfl (by first|assumption|exact gf.mo (by assumption) aS) (by rfl)
     |exact ayv rfl rfl (by first|assumption|exact gf.mo (by assumption) aS) (by rfl)
     |((with_reducible apply aQx);infer_instance;exact rfl;(first|assumption|exact gf.mo (by assumption) aS);infer_instance))
  | (with_reducible apply ayC
     first
     |exact nV rfl Li
     |exact jD rfl Li)
  | (with_reducible apply ayD
     first
     |((with_reducible apply Gt);exact rfl;exact rfl)
     |((with_reducible apply db);exact rfl;exact rfl;first|omega|(dsimp only;omega))
     |((with_reducible apply adA);exact rfl;exact rfl)
     |((with_reducible apply Pn);exact rfl;exact rfl)
     |((with_reducible apply atg);exact rfl;exact rfl)
     |((with_reducible apply Po);exact rfl;exact rfl)
     |((with_reducible apply Gu);exact rfl;exact rfl)
     |((with_reducible apply kG);exact rfl;exact rfl;first|omega|(dsimp only;omega))
     |((with_reducible apply ajK);exact rfl;exact rfl)
     |((with_reducible apply ajL);exact rfl;exact rfl)
     |((with_reducible apply ajM);exact rfl;exact rfl))
  | (with_reducible apply ayE
     first
     |exact ate rfl
     |exact ayy rfl ax.go
     |exact atd rfl (by first|assumption|exact aP.mo (by assumption) aS))
  |with_reducible apply SU
  |with_reducible apply He
  |((with_reducible apply SV);exact rfl;exact rfl)
  |((with_reducible apply ath);exact rfl)
  |((with_reducible apply ajN);exact rfl)
  |exact ayz rfl ax.go (by rfl) rfl rfl (by omega)):Ok E f G M o v:=h
structure Cd (l:List Nat) (B:Prop):Prop where
  h:B
section
variable {E:Env} {f:Fr} {G:GH} {M Mk:MH} {ops:Array Oper} {K:Kt} {cR F:Nat} {bF:Array Bool} {i d j dj:Nat} {l:List Nat} {op:Op} {ty t T:TypeId} {pos:String} {aft:Array Edge} {v:Value} {x y:Operand} {b o:Nat} {w u:Bool}
theorem Cd.tk(hr:(Region.ready .any ops bF).contains i=true)(hf:Region.free .any ops bF i=true)(hs:Region.noSelect ops=true)(hF:F=cR+1)(ho:ops[i]?=some ⟨some d,op,ty,pos,aft,none⟩)(nJ:Ok E f G Mk ⟨some d,op,ty,pos,aft,none⟩ v)(hd:Nat.blt d E.n=true)
    (k:Cd l (WD E ops cR (bF.setIfInBounds i true) (gw f d v) G M Mk K)):Cd (i::l) (WD E ops F bF f G M Mk K):=⟨hF▸WD.take i ho rfl rfl hs hf hr nJ k.h hd⟩
theorem Cd.tY(hr:(Region.ready .any ops bF).contains i=true)(hf:Region.free .any ops bF i=true)(hs:Region.noSelect ops=true)(hF:F=cR+1)(ho:ops[i]?=some ⟨some d,op,ty,pos,aft,some (j,w)⟩)(hj:(ops[j]?).bind (·.dst)=some dj)(hb:f dj=.bool u)(hw:u=w)(nJ:Ok E f G Mk ⟨some d,op,ty,pos,aft,none⟩ v)(hd:Nat.blt d E.n=true)(AP:Nat.blt dj E.n=true)
    (k:Cd l (WD E ops cR (bF.setIfInBounds i true) (gw f d v) G M Mk K)):Cd (i::l) (WD E ops F bF f G M Mk K):=⟨hF▸WD.ayJ i dj ho rfl rfl hj hb hw hs hf hr nJ k.h hd AP⟩
theorem Cd.tF(hr:(Region.ready .any ops bF).contains i=true)(hf:Region.free .any ops bF i=true)(hs:Region.noSelect ops=true)(hF:F=cR+1)(ho:ops[i]?=some ⟨some d,op,ty,pos,aft,some (j,false)⟩)(hj:(ops[j]?).bind (·.dst)=some dj)(hb:f dj=.bool u)(hw:u=true)(hd:Nat.blt d E.n=true)(AP:Nat.blt dj E.n=true)
    (k:Cd l (WD E ops cR (bF.setIfInBounds i true) (gw f d undef) G M Mk K)):Cd (i::l) (WD E ops F bF f G M Mk K):=⟨hF▸WD.takeN i dj ho rfl rfl hj hb (by rw [hw];rfl) hs hf hr k.h hd AP⟩
theorem Cd.tT(hr:(Region.ready .any ops bF).contains i=true)(hf:Region.free .any ops bF i=true)(hs:Region.noSelect ops=true)(hF:F=cR+1)(ho:ops[i]?=some ⟨some d,op,ty,pos,aft,some (j,true)⟩)(hj:(ops[j]?).bind (·.dst)=some dj)(hb:f dj=.bool u)(hw:u=false)(hd:Nat.blt d E.n=true)(AP:Nat.blt dj E.n=true)
    (k:Cd l (WD E ops cR (bF.setIfInBounds i true) (gw f d undef) G M Mk K)):Cd (i::l) (WD E ops F bF f G M Mk K):=⟨hF▸WD.takeN i dj ho rfl rfl hj hb (by rw [hw];rfl) hs hf hr k.h hd AP⟩
variable {M':MH}
theorem Cd.st(hr:Region.ready .any ops bF=[i])(hF:F=cR+1)(ho:ops[i]?=some ⟨none,op,ty,pos,aft,none⟩)
    (hw:∀K,W E [(⟨none,op,ty,pos,aft,none⟩:Oper)].toArray false [] f G M' K→W E [(⟨none,op,ty,pos,aft,none⟩:Oper)].toArray false [(⟨none,op,ty,pos,aft,none⟩:Oper)] f G M K)
    (hs:Mk.Sublist M')(k:Cd l (WD E ops cR (bF.setIfInBounds i true) f G M' Mk K)):Cd (i::l) (WD E ops F bF f G M Mk K):=⟨hF▸WD.a1 i ho (hw _ (W.nil (WD.n9 Le.rfl hs k.h))) hr⟩
variable {A:MH} {B:MH}
theorem aGL(h:A.Sublist B):A.Sublist ([]++B):=h
theorem sb9(h:A.Sublist B:=by
  repeat (first
    |with_reducible exact List.nil_sublist _
    |with_reducible exact List.Sublist.refl _
    |with_reducible apply List.Sublist.cons_cons
    |with_reducible apply aGL
    |with_reducible apply aTr
    |with_reducible apply aTs
    |with_reducible apply aTt
    |apply List.Sublist.cons)):A.Sublist B:=h
theorem W.nn{G':GH}{aGM:List Oper}{q:Bool}(h:WD E ops cR bF f G' M' Mk K)(hl:Le G G':=by exact aS)(hs:Mk.Sublist M':=by exact sb9):
    W E aGM.toArray q [] f G' M' (fun f' G' M'=>Le G G'∧Mk.Sublist M'∧∃qz,qz.Sublist M'∧Mk.Sublist qz∧WD E ops cR bF f' G' M' qz K):=W.nil (WD.n9 hl hs h)
class ajO (P:Program):Prop where
  h:P.follows .mixedOrders=true
variable {Q:Exit→Kt} {id:Nat}
theorem WC.dw{l:List Oper}(mY:Mk.Sublist M) [hm:ajO E.P](h:WD E l.toArray l.toArray.size (Array.replicate l.toArray.size false) f G M Mk (Q .normal))(hq:∀c f G M,¬Q (.panic c) f G M:=by rintro _ _ _ _ ⟨h|h,_⟩<;>cases h):
    WC E (.region id l.toArray true) Q f G M:=WC.ayK Mk mY hm.h hq h
theorem Cn.dn{n:Nat}(hr:Region.ready .any ops bF=[])(k:Cn n (K f G M)):Cn (n+1) (WD E ops cR bF f G M Mk K):=⟨WD.done hr k.h⟩
theorem Cn.dq{n:Nat}{l:List Oper} [hm:ajO E.P](hB:Region.lexB .any l.toArray=true)(k:Cn n (W E l.toArray true l f G M (Q .normal))):Cn (n+1) (WC E (.region id l.toArray true) Q f G M):=⟨WC.draw hm.h hB k.h⟩
end
variable {A:Prop} {B:Prop}
theorem d9(l:List Nat)(h:A)(k:Hd9 A→Cd l B:=by
  intro h9
  repeat (first
    | (with_reducible apply Cd.tk
       kernel_rfl
       kernel_rfl
       kernel_rfl
       exact rfl
       exact rfl
       exact ok9
       exact rfl)
    | (with_reducible apply Cd.st
       kernel_rfl
       exact rfl
       exact rfl
       first
       |exact fun K h=>W.s1 rfl (v:=.int _ _) rfl rfl rfl h
       |exact fun K h=>W.s1 rfl (v:=.slice _ _ _) rfl rfl rfl h
       |exact fun K h=>W.s1 rfl (v:=.string _) rfl rfl rfl h
       |exact fun K h=>W.s1 rfl (v:=.bool _) rfl rfl rfl h
       |exact fun K h=>W.s1 rfl (v:=.pointer _) rfl rfl rfl h
       |exact fun K h=>W.sA rfl rfl rfl rfl (by rfl) (by rfl) h
       exact sb9)
    | (with_reducible apply Cd.tY
       kernel_rfl
       kernel_rfl
       kernel_rfl
       exact rfl
       exact rfl
       exact rfl
       exact rfl
       exact Li
       exact ok9
       exact rfl
       exact rfl)
    | (with_reducible apply Cd.tF
       kernel_rfl
       kernel_rfl
       kernel_rfl
       exact rfl
       exact rfl
       exact rfl
       exact rfl
       exact Li
       exact rfl
       exact rfl)
    | (with_reducible apply Cd.tT
       kernel_rfl
       kernel_rfl
       kernel_rfl
       exact rfl
       exact rfl
       exact rfl
       exact rfl
       exact Li
       exact rfl
       exact rfl))
  exact(⟨h9.h⟩:Cd [] _)):B:=(k ⟨h⟩).h
theorem g9(n:Nat)(h:A)(k:Hd9 A→Cn n B:=by
  intro h9
  repeat (first
    |((with_reducible apply Cn.ok);exact ok9;exact rfl)
    | (with_reducible apply Cn.noF
       exact rfl
       exact rfl
       exact Li
       exact rfl)
    | (with_reducible apply Cn.yes
       exact rfl
       exact rfl
       exact Li
       exact rfl)
    | (with_reducible apply Cn.noT
       exact rfl
       exact rfl
       exact Li
       exact rfl)
    |with_reducible apply Cn.nil
    |with_reducible apply Cn.rg
    |with_reducible apply Cn.sq
    |with_reducible apply Cn.tn
    | (with_reducible apply Cn.mX
       first
       |refine Cn.st (fun h=>W.s1 rfl (v:=.int _ _) rfl rfl rfl h) ?_
       |refine Cn.st (fun h=>W.s1 rfl (v:=.slice _ _ _) rfl rfl rfl h) ?_
       |refine Cn.st (fun h=>W.s1 rfl (v:=.string _) rfl rfl rfl h) ?_
       |refine Cn.st (fun h=>W.s1 rfl (v:=.bool _) rfl rfl rfl h) ?_
       |refine Cn.st (fun h=>W.s1 rfl (v:=.pointer _) rfl rfl rfl h) ?_
       |refine Cn.st (fun h=>W.sA rfl rfl rfl rfl (by rfl) (by rfl) h) ?_
       | (with_reducible apply Cn.Pm
          exact rfl
          exact rfl
          exact rfl))
    |((with_reducible apply Cn.dn);kernel_rfl)
    |((with_reducible apply Cn.dq);kernel_rfl)
    |with_reducible apply Cn.bk
    |with_reducible apply Cn.sk
    |with_reducible apply Cn.rt
    |with_reducible apply Cn.xt
    |with_reducible apply Cn.bn
    |with_reducible apply Cn.tx
    |with_reducible apply Cn.bh
    |with_reducible apply Cn.tr
    |with_reducible apply Cn.br
    |((with_reducible apply Cn.cT);exact rfl;exact Li)
    |((with_reducible apply Cn.cF);exact rfl;exact Li)
    |((with_reducible apply Cn.bm);exact rfl)
    | (with_reducible apply Cn.rr
       exact rsl))
  exact(⟨h9.h⟩:Cn 0 _)):B:=(k ⟨h⟩).h
end Go.Fw

namespace Go.Fw
open Go
def iq {α:Type} (w:α→Int):List α→Int→Int→Int
 |[],n,_=>n
 |s::l,n,most=>if n≤most then iq w l (n+w s) most else n
variable {m:Int} {α:Type}
theorem Fe{w:α→Int}{l:List α}{k:Nat}{n:Int}(hk:k<l.length)(h:n≤m):iq w (l.drop k) n m=iq w (l.drop (k+1)) (n+w l[k]) m:=by
 rw [List.drop_eq_getElem_cons hk,iq,if_pos h]
theorem Ff{w:α→Int}{l:List α}{n:Int}(h:¬n≤m):iq w l n m=n:=by
 cases l with
 |nil=>rfl
 |cons a l=>rw [iq,if_neg h]
theorem Hf{w:α→Int}{l:List α}{k:Nat}{n:Int}(hk:¬k<l.length):iq w (l.drop k) n m=n:=by
 rw [List.drop_eq_nil_of_le aa];rfl
theorem AQ{α:Type}{w:α→Int}(hw:∀a,0≤w a):∀ {l:List α} {n m:Int},0≤n→iq w l n m≤m→n≤m∧∀a∈l,w a≤m
 |[],n,m,h0,h=>⟨by simpa [iq]using h,fun a ha=>by cases ha⟩
 |s::l,n,m,h0,h=>by
  rw [iq]at h
  split at h
  ·rename_i hc
   have h1:=AQ hw (by have:=hw s;omega) h
   refine⟨hc,fun a ha=> ?_⟩
   rcases List.mem_cons.1 ha with rfl|ha
   ·have:=h1.1;omega
   ·exact h1.2 a ha
  ·omega
theorem AR{α:Type}{w:α→Int}(hw:∀a,1≤w a):∀ {l:List α} {n m:Int},iq w l n m≤m→n+l.length≤iq w l n m
 |[],n,m,_=>by simp [iq]
 |s::l,n,m,h=>by
  rw [iq]at h⊢
  split
  ·rename_i hc
   rw [if_pos hc]at h
   have h1:=AR hw h
   have h2:=hw s
   simp only [List.length_cons]
   omega
  ·rename_i hc
   rw [if_neg hc]at h
   omega
def bp.w (p:bp):Int:=1+p.key.b.size+p.val.b.size
def aA.w (m:aA):Int:=1+m.key.b.size+m.hi.b.size+m.val.b.size
theorem bp.AS(p:bp):1≤p.w:=by unfold bp.w;omega
theorem aA.AS(m:aA):1≤m.w:=by unfold aA.w;omega
theorem bp.ajP(p:bp):p.w≤281474976710657:=by have:=p.key.le;have:=p.val.le;unfold bp.w;omega
theorem aA.ajP(m:aA):m.w≤422212465065985:=by have:=m.key.le;have:=m.hi.le;have:=m.val.le;unfold aA.w;omega
variable {a:bp} {b:bp}
theorem bp.ZV(h:(!dy [.string a.key.b,.string a.val.b] [.string b.key.b,.string b.val.b])=false):a=b:=by
 cases a;cases b
 simpa [dy,ah.dv]using h
theorem bp.ZW(h:(!dy [.string a.key.b,.string a.val.b] [.string b.key.b,.string b.val.b])=true):a≠b:=by
 intro e;subst e;simp [dy]at h
variable {a:aA} {b:aA}
theorem aA.ZV(h:(!dy [.int .i64 a.aO,.int .i64 a.kind,.string a.key.b,.string a.hi.b,.bool a.bT,.string a.val.b] [.int .i64 b.aO,.int .i64 b.kind,.string b.key.b,.string b.hi.b,.bool b.bT,.string b.val.b])=false):a=b:=by
 cases a;cases b
 simpa [dy,ah.dv]using h
theorem aA.ZW(h:(!dy [.int .i64 a.aO,.int .i64 a.kind,.string a.key.b,.string a.hi.b,.bool a.bT,.string a.val.b] [.int .i64 b.aO,.int .i64 b.kind,.string b.key.b,.string b.hi.b,.bool b.bT,.string b.val.b])=true):a≠b:=by
 intro e;subst e;simp [dy]at h
def bC (l:List bp):Prop:=∀i (h:i<l.length),(l[i].key.b.size≤16∧l[i].val.b.size≤16)∧(0<i→(l[i-1]'aa).key.lt l[i].key=true)
instance (l : List bp) : Decidable (bC l) := by unfold bC; infer_instance
def ah.next (a:ah):ah:=if h:(a.b++⟨#[0]⟩).size≤140737488355328 then⟨a.b++⟨#[0]⟩,h⟩else a
variable {a:ah}
theorem ah.BR(h:a.b.size<140737488355328):a.next.b=a.b++⟨#[0]⟩:=by
 have h1:(a.b++⟨#[0]⟩).size≤140737488355328:=by rw [ByteArray.size_append];show _+1≤_;omega
 rw [ah.next,dif_pos h1]
def aA.span (m:aA):Span:=if m.kind=4 then⟨m.key,m.hi,m.bT⟩else⟨m.key,m.key.next,false⟩
def Span.bE (a b:Span):Span:=Span.norm ⟨if a.lo.lt b.lo=true then b.lo else a.lo,if b.bT=false∧(a.bT=true∨b.hi.lt a.hi=true)then b.hi else a.hi,a.bT&&b.bT⟩
def aA.clip (m:aA) (s:Span):aA×Bool:=
 if(m.span.bE s).empty=true then(⟨0,0,ah.nil,ah.nil,false,ah.nil⟩,false)
 else if m.kind=4 then({ m with key:=(m.span.bE s).lo,hi:=(m.span.bE s).hi,bT:=(m.span.bE s).bT },true)else(m,true)
def aA.size (m:aA):Int:=if m.kind=4 then 36 else 4+m.key.b.size+m.val.b.size
theorem ah.min_eq(a b:ah):a.min b=if b.lt a=true then b else a:=by
 unfold ah.min
 cases h:b.lt a
 ·cases h2:a.lt b
  ·obtain rfl:=ah.gW h h2;simp
  ·simp
 ·have h3:=ah.lt_asymm h
  rw [h3]
  have h4:a≠b:=by rintro rfl;rw [ah.lt_irrefl]at h;cases h
  simp [h4]
theorem DF(a b:Span):Span.norm ⟨a.lo.max b.lo,if a.bT=true then b.hi else if b.bT=true then a.hi else a.hi.min b.hi,a.bT&&b.bT⟩=Span.bE a b:=by
 unfold Span.bE
 rw [ah.min_eq]
 cases h1:a.bT<;>cases h2:b.bT<;>simp [ah.max]
 simp [Span.norm,Span.empty]
variable {m:aA}
theorem kH{s:Span}(h:(m.span.bE s).empty=true):m.clip s=(⟨0,0,ah.nil,ah.nil,false,ah.nil⟩,false):=if_pos h
theorem kI{s:Span}(h:(m.span.bE s).empty=false)(k:m.kind=4):m.clip s=({ m with key:=(m.span.bE s).lo,hi:=(m.span.bE s).hi,bT:=(m.span.bE s).bT },true):=by
 rw [aA.clip,if_neg (by simp [h]),if_pos k]
theorem uS{s:Span}(h:(m.span.bE s).empty=false)(k:¬m.kind=4):m.clip s=(m,true):=by
 rw [aA.clip,if_neg (by simp [h]),if_neg k]
def aK (s:Span) (l:List aA):List aA:=l.filterMap fun m=>if(m.clip s).2=true then some (m.clip s).1 else none
variable {i:Nat} {l:List aA}
theorem Hg{s:Span}(h:i<l.length)(hc:(l[i].clip s).2=true):aK s (l.take (i+1))=aK s (l.take i)++[(l[i].clip s).1]:=by
 rw [aK,List.take_succ_eq_append_getElem h,List.filterMap_append];simp [aK,hc]
theorem Hh{s:Span}(h:i<l.length)(hc:(l[i].clip s).2=false):aK s (l.take (i+1))=aK s (l.take i):=by
 rw [aK,List.take_succ_eq_append_getElem h,List.filterMap_append];simp [aK,hc]
theorem zn{s:Span} :(aK s l).length≤l.length:=List.length_filterMap_le _ _
theorem o7{s:Span}(h:m.Ok):(m.clip s).1.Ok:=by
 unfold aA.clip
 split
 ·exact⟨⟨by decide,by decide⟩,⟨by decide,by decide⟩⟩
 ·split
  ·exact h
  ·exact h
def eF (a b:ByteArray):Nat→Nat→Nat
 |0,k=>k
 |n+1,k=>if k<a.size∧k<b.size∧a[k]?=b[k]? then eF a b n (k+1)else k
def bZ (a b:ah):Nat:=eF a.b b.b a.b.size 0
theorem kJ{a b:ByteArray} :∀ {n k j:Nat},j≤k+n→k≤j→j≤a.size→j≤b.size→(∀i,i<j→a[i]?=b[i]?)→eF a b n k=eF a b (n+k-j) j
 |0,k,j,h1,h2,_,_,_=>by
  obtain rfl:j=k:=aa
  simp
 |n+1,k,j,h1,h2,h3,h4,h5=>by
  by_cases e:k=j
  ·subst e;simp
  ·rw [eF,if_pos ⟨aa,aa,h5 k aa⟩,kJ (n:=n) (k:=k+1) (j:=j) aa aa h3 h4 h5]
   congr 1;omega
variable {b:ah}
theorem SW{k:Nat}(h:∀i,i<k→a.b[i]?=b.b[i]?)(h1:k<a.b.size)(h2:k<b.b.size)(hn:a.b[k]?≠b.b[k]?):bZ a b=k:=by
 rw [bZ,kJ (j:=k) aa aa aa aa h]
 obtain⟨m,hm⟩:∃m,a.b.size+0-k=m+1:=⟨a.b.size-k-1,aa⟩
 rw [hm,eF,if_neg (by simp [hn])]
theorem Pp{k:Nat}(h1:k≤a.b.size)(h2:k≤b.b.size)(h:∀i,i<k→a.b[i]?=b.b[i]?)(he:k=a.b.size∨k=b.b.size):bZ a b=k:=by
 rw [bZ,kJ (j:=k) aa aa h1 h2 h]
 cases hm:a.b.size+0-k with
 |zero=>rfl
 |succ m=>rw [eF,if_neg aa]
theorem xg(a b:ByteArray):∀n k,k≤a.size→k≤b.size→eF a b n k≤a.size∧eF a b n k≤b.size
 |0,k,h1,h2=>⟨h1,h2⟩
 |n+1,k,h1,h2=>by
  rw [eF]
  split
  ·rename_i h;exact xg a b n (k+1) aa aa
  ·exact⟨h1,h2⟩
theorem xh(a b:ah):bZ a b≤a.b.size∧bZ a b≤b.b.size:=xg _ _ _ _ aa aa
theorem wj{a b:ByteArray} :∀ {n k:Nat},(∀i,i<k→a[i]?=b[i]?)→∀i,i<eF a b n k→a[i]?=b[i]?
 |0,k,h=>h
 |n+1,k,h=>by
  rw [eF]
  split
  ·rename_i hc
   exact wj fun i hi=>by
    by_cases e:i=k
    ·subst e;exact hc.2.2
    ·exact h i aa
  ·exact h
theorem mr(a b:ah):∀i,i<bZ a b→a.b[i]?=b.b[i]?:=wj fun i hi=>by omega
theorem Pq{k:Nat}(h:∀i,i<k→a.b[i]?=b.b[i]?)(h1:k<a.b.size)(h2:k<b.b.size)(hn:¬((a.b[k]'h1).toNat:Int)=(b.b[k]'h2).toNat):bZ a b=k:=
 SW h h1 h2 fun e=>hn (by
  rw [getElem?_pos a.b k h1,getElem?_pos b.b k h2]at e
  simp only [Option.some.injEq]at e
  rw [e])
theorem AT(h:a.lt b=true):bZ a b<b.b.size:=by
 obtain⟨h1,h2⟩:=xh a b
 by_cases e:bZ a b=b.b.size
 ·have:=ta (mr a b) (.inr e) h1 h2
  rw [show blt a.b b.b=true from h]at this
  simp at this
  omega
 ·omega
def fl (a b:ah):ah×Bool:=if a.lt b=true then(b.cut 0 (bZ a b+1),true)else(ah.nil,false)
theorem xi(h:a.lt b=true):fl a b=(b.cut 0 (bZ a b+1),true):=if_pos h
theorem Fg(h:a.lt b=false):fl a b=(ah.nil,false):=if_neg (by simp [h])
theorem mw{n:Nat}(h:n≤b.b.size):(b.cut 0 n).b.size=n:=by
 show(b.b.extract 0 n).size=n
 rw [ByteArray.size_extract];omega
theorem Hi{n:Nat}(h:n≤b.b.size)(hi:i<n):(b.cut 0 n).b[i]?=b.b[i]?:=by
 have h1:i<(b.cut 0 n).b.size:=by rw [mw h];exact hi
 rw [getElem?_pos _ i h1,getElem?_pos _ i aa]
 have h2:∀hh,(b.b.extract 0 n)[i]'hh=b.b[i]'aa:=fun hh=>by rw [ByteArray.getElem_extract];simp
 exact congrArg some (h2 h1)
theorem BS{n:Nat}(hn:n≤b.b.size):a.lt (b.cut 0 n)=(a.lt b&&decide (bZ a b<n)):=by
 obtain⟨h1,h2⟩:=xh a b
 have hs:=mw hn
 by_cases hk:bZ a b<n
 ·have hp:∀i,i<bZ a b→a.b[i]?=(b.cut 0 n).b[i]?:=fun i hi=>by rw [Hi hn aa];exact mr a b i hi
  rw [decide_eq_true hk,Bool.and_true]
  show blt a.b (b.cut 0 n).b=blt a.b b.b
  by_cases ha:bZ a b=a.b.size
  ·rw [←ta hp (.inl ha) aa aa,←ta (mr a b) (.inl ha) aa aa,hs]
   rw [decide_eq_true aa,decide_eq_true aa]
  ·have iB:bZ a b<a.b.size:=aa
   have uT:bZ a b<b.b.size:=aa
   have hlc:bZ a b<(b.cut 0 n).b.size:=aa
   have hg:=Hi hn hk
   rw [getElem?_pos (b.cut 0 n).b (bZ a b) hlc,getElem?_pos b.b (bZ a b) uT]at hg
   simp only [Option.some.injEq]at hg
   have lR:(a.b[bZ a b]'iB).toNat≠(b.b[bZ a b]'uT).toNat:=fun e=>by
    have h5:bZ a b+1≤bZ a b:=by
     have h6:∀i,i<bZ a b+1→a.b[i]?=b.b[i]?:=fun i hi=>by
      by_cases e2:i=bZ a b
      ·rw [e2,getElem?_pos a.b _ iB,getElem?_pos b.b _ uT,UInt8.toNat.inj e]
      ·exact mr a b i aa
     have h7:bZ a b=eF a.b b.b (a.b.size+0-(bZ a b+1)) (bZ a b+1):=by
      conv=>lhs;unfold bZ
      exact kJ aa aa aa aa h6
     have h8:∀n k,k≤eF a.b b.b n k:=by
      intro n
      induction n with
      |zero=>intro k;exact Nat.le_refl _
      |succ n ih=>
       intro k
       rw [eF]
       split
       ·exact Nat.le_trans (Nat.le_succ k) (ih (k+1))
       ·exact Nat.le_refl _
     have:=h8 (a.b.size+0-(bZ a b+1)) (bZ a b+1)
     omega
    omega
   rw [←Pr hp iB hlc (by rw [hg];exact lR),←Pr (mr a b) iB uT lR,hg]
 ·have hp:∀i,i<n→a.b[i]?=(b.cut 0 n).b[i]?:=fun i hi=>by rw [Hi hn hi];exact mr a b i aa
  rw [decide_eq_false hk,Bool.and_false]
  show blt a.b (b.cut 0 n).b=false
  rw [←ta hp (.inr hs.symm) aa aa,hs]
  exact decide_eq_false aa
theorem SX{k:Nat}(hk:k≤b.b.size)(h:a.lt (b.cut 0 k)=true)(hm:∀j,j<k→a.lt (b.cut 0 j)=false):fl a b=(b.cut 0 k,true):=by
 rw [BS hk]at h
 simp only [Bool.and_eq_true,decide_eq_true_eq]at h
 obtain⟨h1,h2⟩:=h
 rw [xi h1]
 by_cases e:bZ a b+1=k
 ·rw [e]
 ·have h3:=hm (bZ a b+1) aa
  rw [BS aa,h1,decide_eq_true aa]at h3
  cases h3
theorem SY(hm:∀j,j≤b.b.size→a.lt (b.cut 0 j)=false):fl a b=(ah.nil,false):=by
 cases h1:a.lt b
 ·exact Fg h1
 ·have h2:=AT h1
  have h3:=hm (bZ a b+1) aa
  rw [BS aa,h1,decide_eq_true aa]at h3
  cases h3
def nW (l:List bp):List bp×List bp×ah×Bool:=
 if l.length<2 then([],[],ah.nil,false)
 else(l.take ((l.length+1) / 2),l.drop ((l.length+1) / 2),(fl (l.getD ((l.length+1) / 2-1) default).key (l.getD ((l.length+1) / 2) default).key).1,true)
theorem SZ{l:List bp}(h:l.length<2):nW l=([],[],ah.nil,false):=if_pos h
theorem S0{l:List bp}(h:¬l.length<2):nW l=(l.take ((l.length+1) / 2),l.drop ((l.length+1) / 2),(fl (l[(l.length+1) / 2-1]'aa).key (l[(l.length+1) / 2]'aa).key).1,true):=by
 rw [nW,if_neg h,DG aa,DG aa]
def Nd.Hj (m:Int) (n:Nd):Prop:=iq bp.w n.rows 0 m≤m∧kq n.ab 0 m≤m∧(n.kids.length:Int)≤m∧iq aA.w n.af 0 m≤m∧(n.high.b.size:Int)≤m
instance (m : Int) (n : Nd) : Decidable (n.Hj m) := by unfold Nd.Hj; infer_instance
def xj (l:List Nd) (n m:Int):Prop:=(l.length:Int)≤n∧∀i (h:i<l.length),l[i].Hj m
instance (l : List Nd) (n m : Int) : Decidable (xj l n m) := by unfold xj; infer_instance
def aA.R (m:aA):Prop:=(1≤m.aO∧m.key.b.size≤16∧m.val.b.size≤16∧m.hi.b.size≤16)∧
 if m.kind=4 then m.val=ah.nil∧(m.bT=false∨m.hi=ah.nil)∧m.span.empty=false
 else m.hi=ah.nil∧m.bT=false∧(m.kind=1∨m.kind=2∨(m.kind=3∧m.val=ah.nil))
instance (m : aA) : Decidable m.R := by unfold aA.R; infer_instance
def dD (l:List aA):Prop:=∀i (h:i<l.length),l[i].R∧(0<i→(l[i-1]'aa).aO<l[i].aO)
instance (l : List aA) : Decidable (dD l) := by unfold dD; infer_instance
def dh (n:Nd):Nd×Nd×ah×Bool:=
 if n.level=0 then({ n with rows:=(nW n.rows).1 },{ n with rows:=(nW n.rows).2.1 },(nW n.rows).2.2.1,(nW n.rows).2.2.2)
 else if ee n.ab n.kids.length=false then(n,n,ah.nil,false)
 else({ n with ab:=(gg n.ab n.kids).1,kids:=(gg n.ab n.kids).2.1,af:=aK ⟨ah.nil,(gg n.ab n.kids).2.2.1,false⟩ n.af },
  { n with ab:=(gg n.ab n.kids).2.2.2.1,kids:=(gg n.ab n.kids).2.2.2.2.1,af:=aK ⟨(gg n.ab n.kids).2.2.1,ah.nil,true⟩ n.af },
  (gg n.ab n.kids).2.2.1,(gg n.ab n.kids).2.2.2.2.2)
theorem nX{n:Nd}(h:n.level=0):dh n=({ n with rows:=(nW n.rows).1 },{ n with rows:=(nW n.rows).2.1 },(nW n.rows).2.2.1,(nW n.rows).2.2.2):=if_pos h
theorem qC{n:Nd}(h:¬n.level=0)(h2:ee n.ab n.kids.length=false):dh n=(n,n,ah.nil,false):=by rw [dh,if_neg h,if_pos h2]
theorem nY{n:Nd}(h:¬n.level=0)(h2:ee n.ab n.kids.length=true):dh n=({ n with ab:=(gg n.ab n.kids).1,kids:=(gg n.ab n.kids).2.1,af:=aK ⟨ah.nil,(gg n.ab n.kids).2.2.1,false⟩ n.af },
  { n with ab:=(gg n.ab n.kids).2.2.2.1,kids:=(gg n.ab n.kids).2.2.2.2.1,af:=aK ⟨(gg n.ab n.kids).2.2.1,ah.nil,true⟩ n.af },
  (gg n.ab n.kids).2.2.1,(gg n.ab n.kids).2.2.2.2.2):=by rw [dh,if_neg h,if_neg (by simp [h2])]
def Nd.zero:Nd:=⟨0,0,[],[],ah.nil,false,0,0,[],[]⟩
theorem Nd.c6:Nd.zero.Ok:=⟨⟨by decide,by decide⟩,⟨by decide,by decide⟩,⟨by decide,by decide⟩,⟨by decide,by decide⟩⟩
def aB (n:Nd) (i:Int):Nd×Nd×ah×Bool:=
 if(dh n).2.2.2=true then({ (dh n).1 with high:=(dh n).2.2.1,cW:=false,right:=i },{ (dh n).2.1 with slot:=i },(dh n).2.2.1,true)
 else(Nd.zero,Nd.zero,ah.nil,false)
variable {i:Int}
theorem iH{n:Nd}(h:(dh n).2.2.2=true):aB n i=({ (dh n).1 with high:=(dh n).2.2.1,cW:=false,right:=i },{ (dh n).2.1 with slot:=i },(dh n).2.2.1,true):=if_pos h
theorem nZ{n:Nd}(h:(dh n).2.2.2=false):aB n i=(Nd.zero,Nd.zero,ah.nil,false):=if_neg (by simp [h])
theorem tc{n:Nd}{s:ah}(h:n.Ok)(hi:i64 i):Nd.Ok { n with high:=s,cW:=false,right:=i } :=⟨h.1,h.2.1,hi,h.2.2.2⟩
theorem qw{n:Nd}(h:n.Ok)(hi:i64 i):Nd.Ok { n with slot:=i } :=⟨hi,h.2.1,h.2.2.1,h.2.2.2⟩
def bI (l:List aA):Int:=(l.map aA.size).sum
theorem Fh{k:Nat}(h:k<l.length):bI (l.take (k+1))=bI (l.take k)+(l[k]).size:=by
 rw [bI,List.take_succ_eq_append_getElem h,List.map_append,List.sum_append]
 show _+((l[k]).size+0)=_
 rw [Int.add_zero];rfl
theorem o8(h:m.key.b.size≤16∧m.val.b.size≤16):4≤m.size∧m.size≤36:=by
 unfold aA.size;split<;>omega
def Nd.has (n:Nd) (k:ah):Bool:=n.cW||k.lt n.high
def Nd.Hk (leaf:Int) (n:Nd):Prop:=(n.ab.length+n.kids.length+n.af.length=0)∧(n.rows.length:Int)≤leaf∧bC n.rows∧∀i (h:i<n.rows.length),n.has n.rows[i].key=true
instance (m : Int) (n : Nd) : Decidable (n.Hk m) := by unfold Nd.Hk; infer_instance
def Nd.fits (n:Nd) (m:aA):Prop:=m.aO≤n.seen∧(n.cW=true∨(m.span.bT=false∧n.high.lt m.span.hi=false))
instance (n : Nd) (m : aA) : Decidable (n.fits m) := by unfold Nd.fits; infer_instance
def Nd.parts (n:Nd) (k:ah):Prop:=k≠ah.nil∧k.b.size≤16∧n.has k=true
instance (n : Nd) (k : ah) : Decidable (n.parts k) := by unfold Nd.parts; infer_instance
def Nd.kK (bu bud:Int) (n:Nd):Prop:=(n.rows.length=0∧2≤n.kids.length∧(n.kids.length:Int)≤bu)∧ee n.ab n.kids.length=true∧dD n.af∧bI n.af≤bud∧
 (∀i (h:i<n.kids.length),0≤n.kids[i])∧(∀i (h:i<n.ab.length),n.parts n.ab[i])∧∀i (h:i<n.af.length),n.fits n.af[i]
instance (f b : Int) (n : Nd) : Decidable (n.kK f b) := by unfold Nd.kK; infer_instance
def Nd.R (bu leaf bud:Int) (n:Nd):Prop:=(0≤n.slot∧0≤n.level∧0≤n.seen)∧(n.cW=true→n.high=ah.nil∧n.right= -1)∧(n.cW=false→n.high≠ah.nil∧n.high.b.size≤16∧0≤n.right)∧
 if n.level=0 then n.Hk leaf else n.kK bu bud
instance (f l b : Int) (n : Nd) : Decidable (n.R f l b) := by unfold Nd.R; infer_instance
def Nd.sound (n:Nd):Prop:=xj [n] 1 2000∧if n.level=0 then bC n.rows else dD n.af
instance (n : Nd) : Decidable n.sound := by unfold Nd.sound; infer_instance
theorem dD.ayL(h:dD l):∀m∈l,m.key.b.size≤16∧m.val.b.size≤16:=fun m hm=>by
 obtain⟨i,hi,rfl⟩:=List.getElem_of_mem hm
 have:=(h i hi).1.1
 exact⟨this.2.1,this.2.2.1⟩
theorem uU{n:Nd}(h0:n.level=0)(h:n.rows.length<2):aB n i=(Nd.zero,Nd.zero,ah.nil,false):=
 nZ (by rw [nX h0];show(nW n.rows).2.2.2=false;rw [SZ h])
theorem uV{n:Nd}(h0:n.level=0)(h:¬n.rows.length<2):aB n i=
    ({ n with rows:=n.rows.take ((n.rows.length+1) / 2),high:=(fl (n.rows[(n.rows.length+1) / 2-1]'aa).key (n.rows[(n.rows.length+1) / 2]'aa).key).1,cW:=false,right:=i },
     { n with rows:=n.rows.drop ((n.rows.length+1) / 2),slot:=i },(fl (n.rows[(n.rows.length+1) / 2-1]'aa).key (n.rows[(n.rows.length+1) / 2]'aa).key).1,true):=by
  have hh:=nX h0
  rw [S0 h]at hh
  rw [iH (by rw [hh]),hh]
theorem og{n:Nd}(h0:¬n.level=0)(h:n.kids.length<4∨ee n.ab n.kids.length=false):aB n i=(Nd.zero,Nd.zero,ah.nil,false):=by
 refine nZ ?_
 cases hr:ee n.ab n.kids.length
 ·rw [qC h0 hr]
 ·rw [nY h0 hr]
  show(gg n.ab n.kids).2.2.2.2.2=false
  rw [DH (by rcases h with h|h;exact .inl h;rw [h]at hr;cases hr)]
theorem uW{n:Nd}(h0:¬n.level=0)(h:¬n.kids.length<4)(hr:ee n.ab n.kids.length=true)(hl:n.kids.length=n.ab.length+1):aB n i=
    ({ n with ab:=n.ab.take ((n.kids.length+1) / 2-1),kids:=n.kids.take ((n.kids.length+1) / 2),af:=aK ⟨ah.nil,n.ab[(n.kids.length+1) / 2-1]'aa,false⟩ n.af,high:=n.ab[(n.kids.length+1) / 2-1]'aa,cW:=false,right:=i },
     { n with ab:=n.ab.drop ((n.kids.length+1) / 2),kids:=n.kids.drop ((n.kids.length+1) / 2),af:=aK ⟨n.ab[(n.kids.length+1) / 2-1]'aa,ah.nil,true⟩ n.af,slot:=i },n.ab[(n.kids.length+1) / 2-1]'aa,true):=by
  have hh:=nY h0 hr
  rw [LI aa]at hh
  rw [iH (by rw [hh]),hh]
theorem bC.lt{l:List bp}(hr:bC l):∀(j i:Nat) (kn:i<j) (hj:j<l.length),l[i].key.lt l[j].key=true
 |0,i,h,_=>by omega
 |j+1,i,h,hj=>by
  have h1:l[j].key.lt l[j+1].key=true:=(hr (j+1) hj).2 aa
  by_cases e:i=j
  ·subst e;exact h1
  ·exact ah.lt_trans (bC.lt hr j i aa aa) h1
theorem bC.take{l:List bp}(h:bC l)(n:Nat):bC (l.take n):=fun i hi=>by
 simp at hi
 have:=h i aa
 refine⟨by simpa using this.1,fun h0=>by simpa using this.2 h0⟩
theorem bC.drop{l:List bp}(h:bC l)(n:Nat):bC (l.drop n):=fun i hi=>by
 simp at hi
 have:=h (n+i) aa
 refine⟨by simpa using this.1,fun h0=> ?_⟩
 have h2:=this.2 aa
 simp only [List.getElem_drop]
 have e:n+(i-1)=n+i-1:=aa
 simp only [e];exact h2
theorem Hl:∀ {a k:List UInt8},Op.bytesLess a k=true→Op.bytesLess k (a++[0])=false
 |_,[],h=>by cases ‹List UInt8› <;>simp [Op.bytesLess]at h
 |[],y::k,h=>by
  simp only [List.nil_append,Op.bytesLess,Bool.or_eq_false_iff,Bool.and_eq_false_iff,decide_eq_false_iff_not]
  refine⟨fun h=> ?_,.inr (by cases k<;>trivial)⟩
  exact absurd (UInt8.lt_iff_toNat_lt.1 h) (by simp)
 |x::a,y::k,h=>by
  simp only [Op.bytesLess,Bool.or_eq_true,Bool.and_eq_true,decide_eq_true_eq,beq_iff_eq]at h
  simp only [List.cons_append,Op.bytesLess,Bool.or_eq_false_iff,Bool.and_eq_false_iff,decide_eq_false_iff_not,beq_eq_false_iff_ne]
  rcases h with h|⟨rfl,h⟩
  ·exact⟨fun h2=>UInt8.lt_asymm h h2,.inl fun e=>by subst e;exact UInt8.lt_irrefl _ h⟩
  ·exact⟨UInt8.lt_irrefl _,.inr (Hl h)⟩
theorem ah.ajQ{k:ah}(ha:a.b.size<140737488355328)(h:a.lt k=true):k.lt a.next=false:=by
 show Op.bytesLess k.b.toList a.next.b.toList=false
 have e:a.next.b.toList=a.b.toList++[0]:=by
  rw [ah.BR ha,ByteArray.toList_eq,ByteArray.toList_eq];simp
 rw [e];exact Hl h
theorem dD.iff:dD l↔(∀m∈l,m.R)∧l.Pairwise fun a b=>a.aO<b.aO:=by
 constructor
 ·intro h
  refine⟨fun m hm=> ?_,List.pairwise_iff_getElem.2 fun i j hi hj kn=> ?_⟩
  ·obtain⟨i,hi,rfl⟩:=List.getElem_of_mem hm;exact(h i hi).1
  ·induction j with
   |zero=>omega
   |succ j ih=>
    have h1:l[j].aO<l[j+1].aO:=(h (j+1) hj).2 aa
    by_cases e:i=j
    ·subst e;exact h1
    ·have:=ih aa aa;omega
 ·rintro⟨h1,h2⟩ i hi
  exact⟨h1 _ (List.getElem_mem hi),fun h0=>List.pairwise_iff_getElem.1 h2 (i-1) i aa hi aa⟩
theorem iI{s:Span}(h:m∈aK s l):∃a∈l,(a.clip s).2=true∧(a.clip s).1=m:=by
 obtain⟨a,ha,h⟩:=List.mem_filterMap.1 h
 split at h
 ·rename_i hc;exact⟨a,ha,hc,by simpa using h⟩
 ·cases h
theorem fA{s:Span}(h:(m.clip s).2=true):(m.span.bE s).empty=false∧(m.clip s).1=if m.kind=4 then { m with key:=(m.span.bE s).lo,hi:=(m.span.bE s).hi,bT:=(m.span.bE s).bT } else m:=by
 cases he:(m.span.bE s).empty
 ·refine⟨rfl,?_⟩
  by_cases k:m.kind=4
  ·rw [kI he k,if_pos k]
  ·rw [uS he k,if_neg k]
 ·rw [kH he]at h;cases h
theorem eG{s:Span}(h:(m.clip s).2=true):(m.clip s).1.aO=m.aO:=by
 rw [(fA h).2];split<;>rfl
theorem Hm{s:Span}(h:(m.clip s).2=true):(m.clip s).1.size=m.size:=by
 rw [(fA h).2]
 unfold aA.size
 split
 ·rfl
 ·rfl
theorem Fi(s:Span):s.norm.empty=s.empty:=by
 unfold Span.norm
 by_cases h:s.empty=true
 ·rw [if_pos h,h];simp [Span.empty,Span.zero,ah.lt_irrefl]
 ·rw [if_neg h];split
  ·rename_i ho;simp [Span.empty,ho]
  ·rfl
theorem xk{s:Span}{n:Nat}(h1:s.lo.b.size≤n)(h2:s.hi.b.size≤n):s.norm.lo.b.size≤n∧s.norm.hi.b.size≤n:=by
 have h0:ah.nil.b.size=0:=rfl
 unfold Span.norm
 split
 ·exact⟨by show ah.nil.b.size≤n;omega,by show ah.nil.b.size≤n;omega⟩
 ·split
  ·exact⟨h1,by show ah.nil.b.size≤n;omega⟩
  ·exact⟨h1,h2⟩
theorem agq{s:Span} :s.norm.bT=false∨s.norm.hi=ah.nil:=by
 unfold Span.norm
 split
 ·exact .inl rfl
 ·split
  ·exact .inr rfl
  ·rename_i h;exact .inl (by simpa using h)
theorem uX{s:Span}(hm:m.R)(h1:s.lo.b.size≤16)(h2:s.hi.b.size≤16)(h:(m.clip s).2=true):(m.clip s).1.R:=by
 obtain⟨he,e⟩:=fA h
 rw [e]
 by_cases k:m.kind=4
 ·rw [if_pos k]
  obtain⟨⟨q1,q2,q3,q4⟩,q5⟩:=hm
  rw [if_pos k]at q5
  have hs:m.span=⟨m.key,m.hi,m.bT⟩:=if_pos k
  have hz:(m.span.bE s).lo.b.size≤16∧(m.span.bE s).hi.b.size≤16:=by
   rw [hs]
   exact xk (by show(if _ then _ else _:ah).b.size≤16;split;exact h1;exact q2) (by show(if _ then _ else _:ah).b.size≤16;split;exact h2;exact q4)
  refine⟨⟨q1,hz.1,q3,hz.2⟩,?_⟩
  show if m.kind=4 then _ else _
  rw [if_pos k]
  refine⟨q5.1,agq,?_⟩
  show Span.empty (if m.kind=4 then _ else _)=false
  rw [if_pos k];exact he
 ·rw [if_neg k];exact hm
theorem S3{s:Span}(hl:dD l)(h1:s.lo.b.size≤16)(h2:s.hi.b.size≤16):dD (aK s l):=by
 rw [dD.iff]at hl⊢
 refine⟨fun m hm=> ?_,?_⟩
 ·obtain⟨a,ha,hc,rfl⟩:=iI hm
  exact uX (hl.1 a ha) h1 h2 hc
 ·refine List.Pairwise.filterMap _ (fun a b mZ c hc d hd=> ?_) hl.2
  split at hc
  ·split at hd
   ·rename_i k1 k2
    cases hc;cases hd
    rw [eG k1,eG k2];exact mZ
   ·cases hd
  ·cases hc
theorem rT:bI (m::l)=m.size+bI l:=by simp [bI]
theorem xm{s:Span} :∀ {l:List aA},bI (aK s l)≤bI l∧0≤bI (aK s l)
 |[]=>⟨Int.le_refl _,Int.le_refl _⟩
 |m::l=>by
  have ih:=xm (s:=s) (l:=l)
  have h0:0≤m.size:=by unfold aA.size;split<;>omega
  cases hc:(m.clip s).2
  ·have e:aK s (m::l)=aK s l:=by simp [aK,hc]
   rw [e,rT];omega
  ·have e:aK s (m::l)=(m.clip s).1::aK s l:=by simp [aK,hc]
   rw [e,rT,rT,Hm hc];omega
theorem Hn{s:Span}(h:s.empty=false)(ho:s.bT=false):s.norm=s:=by
 unfold Span.norm
 rw [if_neg (by simp [h]),if_neg (by simp [ho])]
theorem ZX{n:Nd}{k:ah}{i:Int}(hm:m.R)(hf:m.aO≤n.seen)(h:(m.clip ⟨ah.nil,k,false⟩).2=true):
  (m.clip ⟨ah.nil,k,false⟩).1.aO≤n.seen∧((m.clip ⟨ah.nil,k,false⟩).1.span.bT=false∧k.lt (m.clip ⟨ah.nil,k,false⟩).1.span.hi=false):=by
 refine⟨by rw [eG h];exact hf,?_⟩
 obtain⟨he,e⟩:=fA h
 have hb:(m.span.bE ⟨ah.nil,k,false⟩)=⟨if m.span.lo.lt ah.nil=true then ah.nil else m.span.lo,if m.span.bT=true∨k.lt m.span.hi=true then k else m.span.hi,false⟩:=by
  unfold Span.bE
  rw [Hn]
  ·simp
  ·rw [←Fi];exact he
  ·simp
 rw [e]
 by_cases k4:m.kind=4
 ·rw [if_pos k4]
  show(if m.kind=4 then _ else _:Span).bT=false∧k.lt (if m.kind=4 then _ else _:Span).hi=false
  rw [if_pos k4]
  rw [hb]
  refine⟨rfl,?_⟩
  show k.lt (if _ then k else m.span.hi)=false
  split
  ·exact ah.lt_irrefl _
  ·rename_i hn;cases hk:k.lt m.span.hi
   ·rfl
   ·exact absurd (.inr hk) hn
 ·rw [if_neg k4]
  have rL:m.span=⟨m.key,m.key.next,false⟩:=if_neg k4
  rw [hb,rL]at he
  rw [rL]
  refine⟨rfl,?_⟩
  show k.lt m.key.next=false
  cases hk:k.lt m.key.next
  ·rfl
  ·simp [Span.empty,hk,ah.nil_le]at he
   have:=ah.ajQ (by have:=hm.1.2.1;omega) he
   rw [this]at hk;cases hk
theorem S4{n:Nd}{k:ah}(hf:n.fits m)(h:(m.clip ⟨k,ah.nil,true⟩).2=true):n.fits (m.clip ⟨k,ah.nil,true⟩).1:=by
 refine⟨by rw [eG h];exact hf.1,?_⟩
 rcases hf.2 with ht|⟨ho,hh⟩
 ·exact .inl ht
 ·refine .inr ?_
  obtain⟨he,e⟩:=fA h
  rw [e]
  by_cases k4:m.kind=4
  ·rw [if_pos k4]
   show(if m.kind=4 then _ else _:Span).bT=false∧n.high.lt (if m.kind=4 then _ else _:Span).hi=false
   rw [if_pos k4]
   have hb:(m.span.bE ⟨k,ah.nil,true⟩)=⟨if m.span.lo.lt k=true then k else m.span.lo,m.span.hi,false⟩:=by
    unfold Span.bE
    rw [Hn]
    ·simp [ho]
    ·rw [←Fi];exact he
    ·simp [ho]
   rw [hb]
   exact⟨rfl,hh⟩
  ·rw [if_neg k4];exact⟨ho,hh⟩
theorem xn(h:a.lt b=true)(hb:b.b.size≤16):(fl a b).1≠ah.nil∧(fl a b).1.b.size≤16∧a.lt (fl a b).1=true∧b.lt (fl a b).1=false:=by
 have h1:=AT h
 rw [xi h]
 have hs:(b.cut 0 (bZ a b+1)).b.size=bZ a b+1:=mw aa
 refine⟨fun e=> ?_,by show(b.cut 0 (bZ a b+1)).b.size≤16;omega,?_,?_⟩
 ·have e:b.cut 0 (bZ a b+1)=ah.nil:=e
  rw [e]at hs;have:ah.nil.b.size=0:=rfl;omega
 ·show a.lt (b.cut 0 (bZ a b+1))=true
  rw [BS aa,h];simp
 ·show b.lt (b.cut 0 (bZ a b+1))=false
  rw [BS aa,ah.lt_irrefl];rfl
theorem LJ{n:Nd}{bu leaf bud slot:Int}(hR:n.R bu leaf bud)(hs:0≤slot)(nJ:(aB n slot).2.2.2=true):
  (aB n slot).1.R bu leaf bud∧(aB n slot).2.1.R bu leaf bud∧(aB n slot).1.kids.length+(aB n slot).2.1.kids.length=n.kids.length∧(aB n slot).1.rows.length+(aB n slot).2.1.rows.length=n.rows.length:=by
 obtain⟨⟨q1,q2,q3⟩,q4,q5,q6⟩:=hR
 by_cases h0:n.level=0
 ·rw [if_pos h0]at q6
  obtain⟨r1,r2,r3,r4⟩:=q6
  by_cases hl:n.rows.length<2
  ·rw [uU h0 hl]at nJ;cases nJ
  ·have iB:=bC.lt r3 ((n.rows.length+1) / 2) ((n.rows.length+1) / 2-1) aa aa
   obtain⟨b1,b2,b3,b4⟩:=xn iB (r3 ((n.rows.length+1) / 2) aa).1.1
   rw [uV h0 hl]
   refine⟨⟨⟨q1,q2,q3⟩,(fun h=>by cases h),fun _=>⟨b1,b2,hs⟩,?_⟩,⟨⟨hs,q2,q3⟩,q4,q5,?_⟩,by show n.kids.length+n.kids.length=n.kids.length;omega,by show(n.rows.take _).length+(n.rows.drop _).length=_;simp;omega⟩
   ·rw [if_pos (show _=(0:Int)from h0)]
    refine⟨r1,?_,r3.take _,fun i hi=> ?_⟩
    ·show((n.rows.take _).length:Int)≤leaf
     simp only [List.length_take];omega
    ·have BU:i<(n.rows.take ((n.rows.length+1) / 2)).length:=hi
     simp only [List.length_take]at BU
     show(false||ah.lt (n.rows.take _)[i].key _)=true
     rw [Bool.false_or,List.getElem_take]
     by_cases e:i=(n.rows.length+1) / 2-1
     ·subst e;exact b3
     ·exact ah.lt_trans (bC.lt r3 ((n.rows.length+1) / 2-1) i aa aa) b3
   ·rw [if_pos (show _=(0:Int)from h0)]
    refine⟨r1,?_,r3.drop _,fun i hi=> ?_⟩
    ·show((n.rows.drop _).length:Int)≤leaf
     simp only [List.length_drop];omega
    ·have BU:i<(n.rows.drop ((n.rows.length+1) / 2)).length:=hi
     simp only [List.length_drop]at BU
     show n.has (n.rows.drop _)[i].key=true
     rw [List.getElem_drop]
     exact r4 _ aa
 ·rw [if_neg h0]at q6
  obtain⟨⟨r1,r2,r3⟩,r4,r5,r6,r7,r8,r9⟩:=q6
  by_cases hl:n.kids.length<4
  ·rw [og h0 (.inl hl)]at nJ;cases nJ
  ·obtain⟨hr,hc⟩:=cE r4
   have hk:=r8 ((n.kids.length+1) / 2-1) aa
   have j3:=hk.2.1
   have xo:ah.nil.b.size≤16:=by decide
   rw [uW h0 hl r4 hc]
   refine⟨⟨⟨q1,q2,q3⟩,(fun h=>by cases h),fun _=>⟨hk.1,j3,hs⟩,?_⟩,⟨⟨hs,q2,q3⟩,q4,q5,?_⟩,by show(n.kids.take _).length+(n.kids.drop _).length=_;simp;omega,by show n.rows.length+n.rows.length=n.rows.length;omega⟩
   ·rw [if_neg (show ¬_=(0:Int)from h0)]
    refine⟨⟨r1,?_,?_⟩,?_,?_,?_,?_,?_,?_⟩
    ·show 2≤(n.kids.take _).length
     simp only [List.length_take];omega
    ·show((n.kids.take _).length:Int)≤bu
     simp only [List.length_take];omega
    ·exact qD (BV hr _) (by show(n.kids.take _).length=(n.ab.take _).length+1;simp only [List.length_take];omega)
    ·exact S3 r5 xo j3
    ·exact Int.le_trans xm.1 r6
    ·intro i hi
     have BU:i<(n.kids.take ((n.kids.length+1) / 2)).length:=hi
     simp only [List.length_take]at BU
     show 0≤(n.kids.take _)[i]
     rw [List.getElem_take];exact r7 i aa
    ·intro i hi
     have BU:i<(n.ab.take ((n.kids.length+1) / 2-1)).length:=hi
     simp only [List.length_take]at BU
     have hp:=r8 i aa
     show Nd.parts _ ((n.ab.take _)[i])
     rw [List.getElem_take]
     exact⟨hp.1,hp.2.1,by show(false||_)=true;rw [Bool.false_or];exact g0 hr _ i aa aa⟩
    ·intro i hi
     obtain⟨a,ha,Ps,e⟩:=iI (List.getElem_mem (l:=aK ⟨ah.nil,n.ab[(n.kids.length+1) / 2-1]'aa,false⟩ n.af) hi)
     obtain⟨j,hj,rfl⟩:=List.getElem_of_mem ha
     have hf:=ZX (n:=n) (i:=0) (r5 j hj).1 (r9 j hj).1 Ps
     rw [e]at hf
     exact⟨hf.1,.inr hf.2⟩
   ·rw [if_neg (show ¬_=(0:Int)from h0)]
    refine⟨⟨r1,?_,?_⟩,?_,?_,?_,?_,?_,?_⟩
    ·show 2≤(n.kids.drop _).length
     simp only [List.length_drop];omega
    ·show((n.kids.drop _).length:Int)≤bu
     simp only [List.length_drop];omega
    ·exact qD (BW hr _) (by show(n.kids.drop _).length=(n.ab.drop _).length+1;simp only [List.length_drop];omega)
    ·exact S3 r5 j3 xo
    ·exact Int.le_trans xm.1 r6
    ·intro i hi
     have BU:i<(n.kids.drop ((n.kids.length+1) / 2)).length:=hi
     simp only [List.length_drop]at BU
     show 0≤(n.kids.drop _)[i]
     rw [List.getElem_drop];exact r7 _ aa
    ·intro i hi
     have BU:i<(n.ab.drop ((n.kids.length+1) / 2)).length:=hi
     simp only [List.length_drop]at BU
     show Nd.parts _ ((n.ab.drop _)[i])
     rw [List.getElem_drop]
     exact r8 _ aa
    ·intro i hi
     obtain⟨a,ha,Ps,e⟩:=iI (List.getElem_mem (l:=aK ⟨n.ab[(n.kids.length+1) / 2-1]'aa,ah.nil,true⟩ n.af) hi)
     obtain⟨j,hj,rfl⟩:=List.getElem_of_mem ha
     have hf:=S4 (r9 j hj) Ps
     rw [e]at hf
     exact hf
def Pt {α:Type} (l:List α):List α:=l.drop (l.length-16)
theorem ZY(l:List α):(Pt l).length=min l.length 16:=by simp [Pt];omega
def DI (b:ByteArray):ByteArray:=b.extract (b.size-16) b.size
theorem S5(b:ByteArray):(DI b).data.toList=Pt b.data.toList:=by
 simp only [DI,Pt,ByteArray.data_extract,Array.toList_extract,List.extract_eq_take_drop,Array.length_toList]
 show List.take (b.data.size-(b.data.size-16)) (List.drop (b.data.size-16) b.data.toList)=_
 rw [List.take_of_length_le (by simp)]
theorem adB{a b:ByteArray}(h:a.data.toList=b.data.toList):a=b:=by
 cases a;cases b
 simp only [ByteArray.mk.injEq]
 exact Array.toList_inj.1 h
theorem xp(b:ByteArray):(DI b).size=min b.size 16:=by
 have h:=congrArg List.length (S5 b)
 rw [ZY]at h
 simpa using h
theorem LK(a b:ByteArray):(a++b).data.toList=a.data.toList++b.data.toList:=by simp [ByteArray.data_append]
def ah.tail (s:ah):ah:=⟨DI s.b,by rw [xp];omega⟩
def ah.cat (a b:ah):ah:=if h:(a.b++b.b).size≤140737488355328 then⟨a.b++b.b,h⟩else a
theorem ah.Pu(h:a.b.size+b.b.size≤140737488355328):(a.cat b).b=a.b++b.b:=by
 have h1:(a.b++b.b).size≤140737488355328:=by rw [ByteArray.size_append];exact h
 rw [ah.cat,dif_pos h1]
def ah.add (a b:ah):ah:=⟨DI (a.b++b.b),by rw [xp];omega⟩
theorem ah.DJ(h:a.b.size+b.b.size≤140737488355328):(a.cat b).tail=a.add b:=by
 apply ah.ext';simp only [ah.tail,ah.add];rw [ah.Pu h]
theorem ah.agr(a b:ah):(a.add b).b.size≤16:=by show(DI _).size≤16;rw [xp];omega
theorem ah.mw(s:ah)(i j:Nat):(s.cut i j).b.size=Min.min j s.b.size-i:=by simp [ah.cut,ByteArray.size_extract]
variable {i:Nat} {j:Nat}
theorem ah.ajR{s:ah}(h:j≤i):(s.cut i j).b=⟨#[]⟩:=by
 apply adB
 simp only [ah.cut,ByteArray.data_extract,Array.toList_extract,List.extract_eq_take_drop]
 rw [show j-i=0 from by omega];rfl
theorem ah.ajS{s:ah}{a b c:Nat}(h1:a≤b)(h2:b≤c)(h3:c≤s.b.size):(s.cut a b).b++(s.cut b c).b=(s.cut a c).b:=by
 apply adB
 rw [LK]
 simp only [ah.cut,ByteArray.data_extract,Array.toList_extract,List.extract_eq_take_drop]
 rw [show c-a=(b-a)+(c-b)from by omega,List.take_add,List.drop_drop,show a+(b-a)=b from by omega]
theorem ah.ajT{s:ah}{k:Nat}(h:k<s.b.size):(s.cut (s.b.size-1-k) (s.b.size-k)).b++(s.cut (s.b.size-k) s.b.size).b=(s.cut (s.b.size-(k+1)) s.b.size).b:=by
 rw [ah.ajS aa aa (Nat.le_refl _),show s.b.size-1-k=s.b.size-(k+1)from by omega]
structure ct where
 kind:Int
 val:ah
 deriving DecidableEq
def ct.cells (e:ct):List Value:=[.int .i64 e.kind,.string e.val.b]
def ct.zero:ct:=⟨0,ah.nil⟩
def iS (has:Bool) (v:ah):Option ah:=if has=true then some v else none
def ct.apply (e:ct) (o:Option ah):Option ah:=
 if e.kind=1 then some e.val else if e.kind=3 then none else if e.kind=2 then some ((o.getD ah.nil).add e.val)else o
def aA.on (m:aA) (k:ah):ct:=
 if m.span.has k=false∨m.kind<1∨4<m.kind then ct.zero else if 3≤m.kind then⟨3,ah.nil⟩else⟨m.kind,m.val⟩
def cV (l:List bp) (k:ah):Option ah:=(l.find? fun p=>decide (p.key=k)).map bp.val
theorem uY(p:bp)(l:List bp)(k:ah):cV (p::l) k=if p.key=k then some p.val else cV l k:=by
 unfold cV;rw [List.find?_cons];by_cases h:p.key=k<;>simp [h]
theorem BX(q:ah→Bool)(k:ah):∀(l:List bp),cV (l.filter fun p=>q p.key) k=if q k=true then cV l k else none
 |[]=>by simp [cV]
 |p::l=>by
  have ih:=BX q k l
  by_cases h:q p.key=true
  ·rw [List.filter_cons_of_pos (p:=fun p:bp=>q p.key) h,uY,uY,ih]
   by_cases e:p.key=k
   ·subst e;simp [h]
   ·simp [e]
  ·rw [List.filter_cons_of_neg (p:=fun p:bp=>q p.key) h,ih,uY]
   by_cases e:p.key=k
   ·subst e;simp [h]
   ·simp [e]
variable {l:List bp}
theorem S6(hi:i<l.length)(h:∀j (hj:j<l.length),j<i→l[j].key≠l[i].key):cV l l[i].key=some l[i].val:=by
 induction l generalizing i with
 |nil=>simp at hi
 |cons p l ih=>
  rw [uY]
  cases i with
  |zero=>simp
  |succ i=>
   have h0:=h 0 (by simp) aa
   simp only [List.getElem_cons_zero,List.getElem_cons_succ]at h0
   simp only [List.getElem_cons_succ]
   rw [if_neg h0]
   exact ih (by simpa using hi) (fun j hj oh=>by have:=h (j+1) (by simpa using hj) aa;simpa using this)
theorem S7{k:ah}(h:∀j (hj:j<l.length),l[j].key≠k):cV l k=none:=by
 unfold cV
 rw [Option.map_eq_none_iff,List.find?_eq_none]
 intro p hp
 obtain⟨j,hj,rfl⟩:=List.getElem_of_mem hp
 simpa using h j hj
def iJ (l:List bp) (k:ah) (e:ct):List bp:=
 (l.filter fun p=>p.key.lt k)++(match e.apply (cV l k)with|some v=>[⟨k,v⟩]|none=>[])++(l.filter fun p=>k.lt p.key)
def takeN (l:List bp) (m:aA):List bp:=if m.kind=4 then l.filter fun p=> !m.span.has p.key else iJ l m.key (m.on m.key)
def cJ (l:List bp) (ms:List aA):List bp:=ms.foldl takeN l
variable {x:ah}
theorem ajU{k:ah}(hk:k.b.size<140737488355328):x.lt k.next=true↔k.lt x=false:=by
 have e:k.next.b.toList=k.b.toList++[0]:=by
  rw [ah.BR hk,ByteArray.toList_eq,ByteArray.toList_eq,LK]
 show Op.bytesLess x.b.toList k.next.b.toList=true↔Op.bytesLess k.b.toList x.b.toList=false
 rw [e]
 generalize k.b.toList=a
 generalize x.b.toList=b
 clear e hk
 induction a generalizing b with
 |nil=>
  cases b with
  |nil=>simp [Op.bytesLess]
  |cons y b=>
   simp only [List.nil_append,Op.bytesLess,Bool.or_eq_true,Bool.and_eq_true,decide_eq_true_eq,beq_iff_eq,Bool.true_eq_false,iff_false]
   rintro(h|⟨_,h⟩)
   ·exact absurd h (by simp)
   ·cases b<;>simp [Op.bytesLess]at h
 |cons z a ih=>
  cases b with
  |nil=>simp [Op.bytesLess]
  |cons y b=>
   simp only [List.cons_append,Op.bytesLess,Bool.or_eq_true,Bool.and_eq_true,decide_eq_true_eq,beq_iff_eq,Bool.or_eq_false_iff,Bool.and_eq_false_iff,decide_eq_false_iff_not,beq_eq_false_iff_ne,ih]
   constructor
   ·rintro(h|⟨rfl,h⟩)
    ·exact⟨UInt8.not_lt.2 (UInt8.le_of_lt h),.inl (fun e=>by subst e;exact absurd h (UInt8.lt_irrefl _))⟩
    ·exact⟨UInt8.lt_irrefl _,.inr h⟩
   ·rintro⟨h1,h2⟩
    rcases h2 with h2|h2
    ·exact .inl (UInt8.lt_of_le_of_ne (UInt8.not_lt.1 h1) (fun e=>h2 e.symm))
    ·by_cases e:y=z
     ·exact .inr ⟨e,h2⟩
     ·exact .inl (UInt8.lt_of_le_of_ne (UInt8.not_lt.1 h1) e)
theorem qE{k:ah}(hk:k.b.size<140737488355328):(Span.has ⟨k,k.next,false⟩ x)=decide (x=k):=by
 rw [Bool.eq_iff_iff]
 simp only [Span.has,Bool.false_or,Bool.and_eq_true,Bool.not_eq_true',decide_eq_true_eq]
 rw [ajU hk]
 constructor
 ·rintro⟨h1,h2⟩;exact ah.gW h1 h2
 ·rintro rfl;exact⟨ah.lt_irrefl _,ah.lt_irrefl _⟩
def gI (l:List bp):Prop:=l.Pairwise fun a b=>a.key.lt b.key=true
theorem gI.lt(h:gI l)(kn:i<j)(hj:j<l.length):(l[i]'aa).key.lt l[j].key=true:=
 List.pairwise_iff_getElem.1 h i j aa hj kn
theorem gI.ajV(h:∀i (h:i<l.length),0<i→(l[i-1]'aa).key.lt l[i].key=true):gI l:=by
 refine List.pairwise_iff_getElem.2 fun i j hi hj kn=> ?_
 induction j with
 |zero=>omega
 |succ j ih=>
  have h1:=h (j+1) hj aa
  simp only [Nat.add_sub_cancel]at h1
  by_cases e:i=j
  ·subst e;exact h1
  ·exact ah.lt_trans (ih aa aa) h1
def Fits (p:bp):Prop:=p.key.b.size≤16∧p.val.b.size≤16
theorem kr:bC l↔(∀p∈l,Fits p)∧gI l:=by
 constructor
 ·intro h
  refine⟨fun p hp=> ?_,gI.ajV fun i hi h0=>(h i hi).2 h0⟩
  obtain⟨i,hi,rfl⟩:=List.getElem_of_mem hp
  exact(h i hi).1
 ·rintro⟨h1,h2⟩ i hi
  exact⟨h1 _ (List.getElem_mem hi),fun h0=>h2.lt aa hi⟩
def dQ (l:List bp) (k:ah):Nat:=(l.filter fun p=>p.key.lt k).length
theorem BY(l:List bp)(k:ah):dQ l k≤l.length:=List.length_filter_le _ _
theorem Ho{k:ah}(hi:i≤l.length)(h1:∀j (h:j<l.length),j<i→l[j].key.lt k=true)(h2:∀j (h:j<l.length),i≤j→l[j].key.lt k=false):
  (l.filter fun p=>p.key.lt k)=l.take i:=by
 have e:l=l.take i++l.drop i:=(List.take_append_drop i l).symm
 rw [show(l.filter fun p=>p.key.lt k)=(l.take i++l.drop i).filter (fun p=>p.key.lt k)from by rw [←e],List.filter_append]
 have f1:(l.take i).filter (fun p=>p.key.lt k)=l.take i:=by
  rw [List.filter_eq_self]
  intro a ha
  obtain⟨j,hj,rfl⟩:=List.getElem_of_mem ha
  simp only [List.length_take]at hj
  rw [List.getElem_take,h1 j aa aa]
 have f2:(l.drop i).filter (fun p=>p.key.lt k)=[]:=by
  rw [List.filter_eq_nil_iff]
  intro a ha
  obtain⟨j,hj,rfl⟩:=List.getElem_of_mem ha
  simp only [List.length_drop]at hj
  rw [List.getElem_drop,h2 (i+j) aa aa];simp
 rw [f1,f2,List.append_nil]
theorem BZ{k:ah}(hi:i≤l.length)(h1:∀j (h:j<l.length),j<i→l[j].key.lt k=true)(h2:∀j (h:j<l.length),i≤j→l[j].key.lt k=false):dQ l k=i:=by
 unfold dQ;rw [Ho hi h1 h2];simp [hi]
theorem gI.below(hr:gI l){m:Nat}(hm:m<l.length){k:ah}(h:l[m].key.lt k=true)(q:Nat)(hq:q<l.length)(hqm:q<m+1):l[q].key.lt k=true:=by
 by_cases e:q=m
 ·subst e;exact h
 ·exact ah.lt_trans (hr.lt aa hm) h
theorem gI.ZZ(hr:gI l){m:Nat}(hm:m<l.length){k:ah}(h:l[m].key.lt k=false)(q:Nat)(hq:q<l.length)(hqm:m≤q):l[q].key.lt k=false:=by
 by_cases e:q=m
 ·subst e;exact h
 ·cases h1:l[q].key.lt k
  ·rfl
  ·rw [ah.lt_trans (hr.lt aa hq) h1]at h;cases h
theorem gI.fnd(hr:gI l)(k:ah):(∀j (h:j<l.length),j<dQ l k→l[j].key.lt k=true)∧(∀j (h:j<l.length),dQ l k≤j→l[j].key.lt k=false):=by
 suffices ∃i,i≤l.length∧(∀j (h:j<l.length),j<i→l[j].key.lt k=true)∧(∀j (h:j<l.length),i≤j→l[j].key.lt k=false)by
  obtain⟨i,h0,h1,h2⟩:=this
  rw [BZ h0 h1 h2];exact⟨h1,h2⟩
 induction l with
 |nil=>exact⟨0,by simp,fun j h=>by simp at h,fun j h=>by simp at h⟩
 |cons p l ih=>
  have oi:gI l:=(List.pairwise_cons.1 hr).2
  cases hp:p.key.lt k
  ·exact⟨0,by simp,fun j _ h=>by omega,fun j h _=>hr.ZZ (m:=0) (by simp) (by simpa using hp) j h aa⟩
  ·obtain⟨i,h0,h1,h2⟩:=ih oi
   refine⟨i+1,by simp;omega,fun j h hj=> ?_,fun j h hj=> ?_⟩
   ·cases j with
    |zero=>simpa using hp
    |succ j=>simpa using h1 j (by simpa using h) aa
   ·cases j with
    |zero=>omega
    |succ j=>simpa using h2 j (by simpa using h) aa
theorem gI.get(hr:gI l)(hi:i<l.length):cV l l[i].key=some l[i].val:=
 S6 hi fun j hj oh e=>by have:=hr.lt oh hi;rw [e,ah.lt_irrefl]at this;cases this
theorem gI.has(hr:gI l)(k:ah):(cV l k).isSome=decide (∃h:dQ l k<l.length,l[dQ l k].key=k):=by
 rw [Bool.eq_iff_iff,decide_eq_true_iff]
 constructor
 ·intro h
  have hf:=hr.fnd k
  have hex:∃j,∃hj:j<l.length,l[j].key=k:=by
   refine Decidable.byContradiction fun hc=> ?_
   rw [S7 (fun j hj e=>hc ⟨j,hj,e⟩)]at h
   cases h
  obtain⟨j,hj,e⟩:=hex
  have h1:dQ l k≤j:=by
   rcases Nat.lt_or_ge j (dQ l k)with h2|h2
   ·have:=hf.1 j hj h2;rw [e,ah.lt_irrefl]at this;cases this
   ·exact h2
  by_cases h3:dQ l k=j
  ·exact⟨aa,by simp only [h3];exact e⟩
  ·have h4:=hr.lt (i:=dQ l k) (j:=j) aa hj
   rw [e,hf.2 _ aa (Nat.le_refl _)]at h4;cases h4
 ·rintro⟨h,e⟩
  have:=hr.get h
  rw [e]at this
  rw [this];rfl
theorem gI.val(hr:gI l){k:ah}(h:dQ l k<l.length)(e:l[dQ l k].key=k):cV l k=some l[dQ l k].val:=by
 have:=hr.get h;rwa [e]at this
theorem gI.front(hr:gI l)(k:ah):(l.filter fun p=>p.key.lt k)=l.take (dQ l k):=Ho (BY l k) (hr.fnd k).1 (hr.fnd k).2
theorem gI.back(hr:gI l){k:ah}(hi:i≤l.length)(h1:∀j (h:j<l.length),j<i→k.lt l[j].key=false)(h2:∀j (h:j<l.length),i≤j→k.lt l[j].key=true):(l.filter fun p=>k.lt p.key)=l.drop i:=by
 have e:l=l.take i++l.drop i:=(List.take_append_drop i l).symm
 rw [show(l.filter fun p=>k.lt p.key)=(l.take i++l.drop i).filter (fun p=>k.lt p.key)from by rw [←e],List.filter_append]
 have f1:(l.take i).filter (fun p=>k.lt p.key)=[]:=by
  rw [List.filter_eq_nil_iff]
  intro a ha
  obtain⟨j,hj,rfl⟩:=List.getElem_of_mem ha
  simp only [List.length_take]at hj
  rw [List.getElem_take,h1 j aa aa];simp
 have f2:(l.drop i).filter (fun p=>k.lt p.key)=l.drop i:=by
  rw [List.filter_eq_self]
  intro a ha
  obtain⟨j,hj,rfl⟩:=List.getElem_of_mem ha
  simp only [List.length_drop]at hj
  rw [List.getElem_drop,h2 (i+j) aa aa]
 rw [f1,f2,List.nil_append]
theorem gI.xq(hr:gI l){k:ah}(h:(cV l k).isSome=false):(l.filter fun p=>k.lt p.key)=l.drop (dQ l k):=by
 rw [hr.has k]at h
 have h:=of_decide_eq_false h
 have hf:=hr.fnd k
 refine hr.back (BY l k) (fun j hj oh=>ah.lt_asymm (hf.1 j hj oh)) (fun j hj kn=> ?_)
 cases h1:k.lt l[j].key
 ·have h2:l[j].key=k:=ah.gW (hf.2 j hj kn) h1
  by_cases e:j=dQ l k
  ·subst e;exact absurd ⟨hj,h2⟩ h
  ·have h3:=hr.lt (i:=dQ l k) (j:=j) aa hj
   rw [h2,hf.2 _ aa (Nat.le_refl _)]at h3;cases h3
 ·rfl
theorem gI.td(hr:gI l){k:ah}(hi:dQ l k<l.length)(e:l[dQ l k].key=k):(l.filter fun p=>k.lt p.key)=l.drop (dQ l k+1):=by
 have hf:=hr.fnd k
 refine hr.back aa (fun j hj oh=> ?_) (fun j hj kn=> ?_)
 ·by_cases e2:j=dQ l k
  ·subst e2;rw [e];exact ah.lt_irrefl _
  ·exact ah.lt_asymm (hf.1 j hj aa)
 ·have h3:=hr.lt (i:=dQ l k) (j:=j) aa hj
  rwa [e]at h3
variable {e:ct} {v:ah}
theorem ags(hr:gI l){k:ah}(hi:dQ l k<l.length)(hk:l[dQ l k].key=k)(hv:e.apply (cV l k)=some v):l.set (dQ l k) ⟨l[dQ l k].key,v⟩=iJ l k e:=by
 unfold iJ
 rw [hv,hr.front,hr.td hi hk,List.set_eq_take_append_cons_drop,if_pos hi,hk]
 simp
theorem agt(hr:gI l){k:ah}(hn:(cV l k).isSome=false)(hv:e.apply (cV l k)=some v):l.take (dQ l k)++[⟨k,v⟩]++l.drop (dQ l k)=iJ l k e:=by
 unfold iJ
 rw [hv,hr.front,hr.xq hn]
theorem agu(hr:gI l){k:ah}(hi:dQ l k<l.length)(hk:l[dQ l k].key=k)(hv:e.apply (cV l k)=none):l.take (dQ l k)++l.drop (dQ l k+1)=iJ l k e:=by
 unfold iJ
 rw [hv,hr.front,hr.td hi hk];simp
theorem agv(hr:gI l){k:ah}(hn:(cV l k).isSome=false)(hv:e.apply (cV l k)=none):l=iJ l k e:=by
 unfold iJ
 rw [hv,hr.front,hr.xq hn];simp
theorem gI.filter{l:List bp}(h:gI l)(p:bp→Bool):gI (l.filter p):=List.Pairwise.filter p h
theorem gI.with{l:List bp}(h:gI l)(k:ah)(e:ct):gI (iJ l k e):=by
 unfold iJ gI
 have ha:∀a∈l.filter (fun p=>p.key.lt k),a.key.lt k=true:=fun a ha=>(List.mem_filter.1 ha).2
 have hb:∀b∈l.filter (fun p=>k.lt p.key),k.lt b.key=true:=fun b hb=>(List.mem_filter.1 hb).2
 have hm:∀m∈(match e.apply (cV l k)with|some v=>[(⟨k,v⟩:bp)]|none=>[]),m.key=k:=fun m hm=>by
  cases h1:e.apply (cV l k)with
  |none=>rw [h1]at hm;cases hm
  |some v=>rw [h1]at hm;simp only [List.mem_singleton]at hm;rw [hm]
 refine List.pairwise_append.2 ⟨List.pairwise_append.2 ⟨h.filter _,?_,fun a h1 m h2=>by rw [hm m h2];exact ha a h1⟩,h.filter _,fun a h1 b h2=> ?_⟩
 ·cases e.apply (cV l k)<;>simp
 ·rcases List.mem_append.1 h1 with h1|h1
  ·exact ah.lt_trans (ha a h1) (hb b h2)
  ·rw [hm a h1];exact hb b h2
theorem LL{k:ah}(h:cV l k=some v):⟨k,v⟩∈l:=by
 unfold cV at h
 obtain⟨p,hp,e⟩:=Option.map_eq_some_iff.1 h
 have h1:=List.mem_of_find?_eq_some hp
 have h2:=List.find?_some hp
 have h3:p.key=k:=of_decide_eq_true h2
 subst h3;subst e;exact h1
theorem Z0{k:ah}(h:∀p∈l,Fits p)(hk:k.b.size≤16)(he:e.val.b.size≤16):∀p∈iJ l k e,Fits p:=by
 intro p hp
 unfold iJ at hp
 rcases List.mem_append.1 hp with hp|hp
 ·rcases List.mem_append.1 hp with hp|hp
  ·exact h p (List.mem_filter.1 hp).1
  ·cases hv:e.apply (cV l k)with
   |none=>rw [hv]at hp;cases hp
   |some v=>
    rw [hv]at hp
    simp only [List.mem_singleton]at hp
    subst hp
    refine⟨hk,?_⟩
    show v.b.size≤16
    unfold ct.apply at hv
    split at hv
    ·cases hv;exact he
    ·split at hv
     ·cases hv
     ·split at hv
      ·cases hv;exact ah.agr _ _
      ·exact(h _ (LL hv)).2
 ·exact h p (List.mem_filter.1 hp).1
theorem Gv(k:ah)(h:m.val.b.size≤16):(m.on k).val.b.size≤16:=by
 unfold aA.on
 split
 ·show(ByteArray.mk #[]).size≤16;decide
 ·split
  ·show(ByteArray.mk #[]).size≤16;decide
  ·exact h
theorem bC.with{l:List bp}{k:ah}{e:ct}(h:bC l)(hk:k.b.size≤16)(he:e.val.b.size≤16):bC (iJ l k e):=by
 obtain⟨h1,h2⟩:=kr.1 h
 exact kr.2 ⟨Z0 h1 hk he,h2.with k e⟩
theorem bC.filter{l:List bp}(h:bC l)(p:bp→Bool):bC (l.filter p):=by
 obtain⟨h1,h2⟩:=kr.1 h
 exact kr.2 ⟨fun a ha=>h1 a (List.mem_filter.1 ha).1,h2.filter p⟩
theorem bC.Z1(h:bC l)(hk:m.key.b.size≤16)(he:m.val.b.size≤16):bC (takeN l m):=by
 unfold takeN
 split
 ·exact h.filter _
 ·exact h.with hk (Gv _ he)
variable {ms:List aA}
theorem bC.fold:∀ {l:List bp},bC l→(∀m∈ms,m.key.b.size≤16∧m.val.b.size≤16)→bC (cJ l ms):=by
 induction ms with
 |nil=>exact fun h _=>h
 |cons m ms ih=>exact fun h hm=>ih (h.Z1 (hm m (by simp)).1 (hm m (by simp)).2) (fun m h=>hm m (by simp [h]))
theorem bC.Pv(h:bC l):gI l:=(kr.1 h).2
theorem gI.LM(hr:gI l)(k:ah)(e:ct):(iJ l k e).length≤l.length+1:=by
 unfold iJ
 rw [hr.front]
 cases h:(cV l k).isSome
 ·rw [hr.xq h]
  cases e.apply (cV l k)<;>simp<;>omega
 ·rw [hr.has k]at h
  obtain⟨h1,h2⟩:=of_decide_eq_true h
  rw [hr.td h1 h2]
  cases e.apply (cV l k)<;>simp<;>omega
theorem bC.LN(h:bC l)(m:aA):(takeN l m).length≤l.length+1:=by
 unfold takeN
 split
 ·have:=List.length_filter_le (fun p:bp=> !m.span.has p.key) l;omega
 ·exact h.Pv.LM _ _
theorem rU{p:α→Bool}{l:List α}(hi:i<l.length)(h:p l[i]=true):(l.take (i+1)).filter p=(l.take i).filter p++[l[i]]:=by
 rw [List.take_succ_eq_append_getElem hi,List.filter_append];simp [h]
theorem qi{p:α→Bool}{l:List α}(hi:i<l.length)(h:p l[i]=false):(l.take (i+1)).filter p=(l.take i).filter p:=by
 rw [List.take_succ_eq_append_getElem hi,List.filter_append];simp [h]
theorem tf(p:α→Bool)(l:List α)(i:Nat):((l.take i).filter p).length≤l.length:=by
 have:=List.length_filter_le p (l.take i);rw [List.length_take]at this;omega
def qF (o:Option ah) (k:ah):List bp:=match o with|some v=>[⟨k,v⟩]|none=>[]
theorem Hp(o:Option ah)(k:ah):(qF o k).length≤1:=by cases o<;>simp [qF]
variable {o:Option ah}
theorem Z2{k:ah}(h:o.isSome=true):qF o k=[⟨k,o.getD ah.nil⟩]:=by cases o<;>simp_all [qF]
theorem Z3{k:ah}(h:o.isSome=false):qF o k=[]:=by cases o<;>simp_all [qF]
theorem lS(l:List bp)(k:ah)(e:ct):iJ l k e=(l.filter fun p=>p.key.lt k)++qF (e.apply (cV l k)) k++(l.filter fun p=>k.lt p.key):=by
 unfold iJ qF;cases e.apply (cV l k)<;>rfl
theorem DK(o:Option ah):iS o.isSome (o.getD ah.nil)=o:=by cases o<;>rfl
theorem rV{k:Nat}(h:k<ms.length):cJ l (ms.take (k+1))=takeN (cJ l (ms.take k)) ms[k]:=by
 rw [List.take_succ_eq_append_getElem h,cJ,List.foldl_append];rfl
theorem bC.val(h:bC l)(k:ah):((cV l k).getD ah.nil).b.size≤16:=by
 cases hg:cV l k with
 |none=>show(ByteArray.mk #[]).size≤_;decide
 |some v=>exact((kr.1 h).1 _ (LL hg)).2
def tg (a b:ah):Int:=if a.lt b=true then-1 else if b.lt a=true then 1 else 0
theorem DL:tg a b<0↔a.lt b=true:=by
 unfold tg;split
 ·simp_all
 ·split<;>simp_all
theorem Z4:tg a b=0↔a=b:=by
 unfold tg;split
 ·rename_i h;simp only [Int.reduceNeg,Int.reduceEq,false_iff];rintro rfl;rw [ah.lt_irrefl]at h;cases h
 ·rename_i h;split
  ·rename_i h2;simp only [Int.reduceEq,false_iff];rintro rfl;rw [ah.lt_irrefl]at h2;cases h2
  ·rename_i h2;simp only [true_iff];exact ah.gW (by simpa using h) (by simpa using h2)
theorem B0:decide (tg a b=0)=decide (a=b):=decide_eq_decide.2 Z4
theorem S8(h:¬tg a b<0):a.lt b=false:=by
 cases h1:a.lt b
 ·rfl
 ·exact absurd (DL.2 h1) h
end Go.Fw
namespace Go.Fw
section
variable {α:Type} [Inhabited α]
def nth (l:List α) (k:Nat):α:=l.getD k default
variable {l:List α}
theorem ke{k:Nat}(h:k<l.length):nth l k=l[k]:=by simp [nth,List.getD,List.getElem?_eq_getElem h]
def ir (l:List α) (i j:Nat):List α:=(l.set i (nth l j)).set j (nth l i)
theorem dR(l:List α)(i j:Nat):(ir l i j).length=l.length:=by simp [ir]
variable {i:Nat}
theorem S9{k:Nat}{a:α}(h:i<l.length):nth (l.set i a) k=if k=i then a else nth l k:=by
 simp only [nth,List.getD,List.getElem?_set]
 by_cases e:i=k
 ·subst e;simp [h]
 ·rw [if_neg e,if_neg (fun x=>e x.symm)]
variable {j:Nat}
theorem kL(hi:i<l.length)(hj:j<l.length)(k:Nat):nth (ir l i j) k=if k=j then nth l i else if k=i then nth l j else nth l k:=by
 rw [ir,S9 (by simpa using hj),S9 hi]
theorem Fj(hi:i<l.length)(hj:j<l.length):(ir l i j).Perm l:=by
 have h:=Array.swap_perm (xs:=l.toArray) (i:=i) (j:=j) (by simpa using hi) (by simpa using hj)
 rw [Array.perm_iff_toList_perm]at h
 simpa [ir,ke hi,ke hj,Array.swap_def]using h
structure LO (lt:α→α→Bool):Prop where
 asymm:∀ {a b},lt a b=true→lt b a=false
 trans:∀ {a b c},lt b a=false→lt c b=false→lt c a=false
variable {lt:α→α→Bool}
theorem LO.irrefl(h:LO lt)(a:α):lt a a=false:=by
 cases e:lt a a
 ·rfl
 ·exact e.symm.trans (h.asymm e)
def Z5 (lt:α→α→Bool) (l:List α) (n s:Nat):Prop:=∀c,0<c→c<n→s≤(c-1) / 2→lt (nth l c) (nth l ((c-1) / 2))=false
abbrev tj (lt:α→α→Bool) (l:List α):Prop:=Z5 lt l l.length 0
def ju (lt:α→α→Bool) (l:List α) (i n:Nat):Nat:=if 2*i+2<n∧lt (nth l (2*i+2)) (nth l (2*i+1))=true then 2*i+2 else 2*i+1
def fB (lt:α→α→Bool):Nat→List α→Nat→Nat→List α
 |0,l,_,_=>l
 |f+1,l,i,n=>if n≤2*i+1 then l else if lt (nth l (ju lt l i n)) (nth l i)=false then l else fB lt f (ir l i (ju lt l i n)) (ju lt l i n) n
theorem xr{n:Nat}(h:¬n≤2*i+1):ju lt l i n<n∧i<ju lt l i n∧(ju lt l i n-1) / 2=i∧ju lt l i n≤2*i+2∧2*i+1≤ju lt l i n:=by
 unfold ju;split<;>omega
theorem oY:∀(f:Nat) (l:List α) (i n:Nat),(fB lt f l i n).length=l.length
 |0,_,_,_=>rfl
 |f+1,l,i,n=>by
  unfold fB;split
  ·rfl
  ·split
   ·rfl
   ·rw [oY f,dR]
theorem Fk:∀(f:Nat) (l:List α) (i n:Nat),n≤l.length→(fB lt f l i n).Perm l
 |0,_,_,_,_=>List.Perm.refl _
 |f+1,l,i,n,h=>by
  unfold fB;split
  ·exact List.Perm.refl _
  ·rename_i h1
   split
   ·exact List.Perm.refl _
   ·have:=xr (lt:=lt) (l:=l) h1
    exact(Fk f _ _ n (by rw [dR];exact h)).trans (Fj aa aa)
theorem uZ:∀(f:Nat) (l:List α) (i n k:Nat),n≤l.length→n≤k→nth (fB lt f l i n) k=nth l k
 |0,_,_,_,_,_,_=>rfl
 |f+1,l,i,n,k,h,hk=>by
  unfold fB;split
  ·rfl
  ·rename_i h1
   split
   ·rfl
   ·have:=xr (lt:=lt) (l:=l) h1
    rw [uZ f _ _ n k (by rw [dR];exact h) hk,kL aa aa,if_neg aa,if_neg aa]
def ayM (lt:α→α→Bool) (l:List α) (n s i:Nat):Prop:=
 (∀c,0<c→c<n→s≤(c-1) / 2→(c-1) / 2≠i→lt (nth l c) (nth l ((c-1) / 2))=false)∧(∀c,0<c→c<n→(c-1) / 2=i→0<i→s≤(i-1) / 2→lt (nth l c) (nth l ((i-1) / 2))=false)
theorem Fl(ho:LO lt):∀(f:Nat) (l:List α) (i n s:Nat),ayM lt l n s i→s≤i→n≤l.length→n≤i+f→Z5 lt (fB lt f l i n) n s
 |0,l,i,n,s,h,hs,hn,hf=>fun c h0 hc h1=>h.1 c h0 hc h1 aa
 |f+1,l,i,n,s,h,hs,hn,hf=>by
  unfold fB
  split
  ·exact fun c h0 hc h1=>h.1 c h0 hc h1 aa
  ·rename_i h1
   obtain⟨k1,k2,k3,k4,k5⟩:=xr (lt:=lt) (l:=l) h1
   have hk:∀c,0<c→c<n→(c-1) / 2=i→lt (nth l c) (nth l (ju lt l i n))=false:=fun c h0 hc hp=>by
    have Ps:c=2*i+1∨c=2*i+2:=aa
    unfold ju
    by_cases hb:2*i+2<n∧lt (nth l (2*i+2)) (nth l (2*i+1))=true
    ·rw [if_pos hb]
     rcases Ps with rfl|rfl
     ·exact ho.asymm hb.2
     ·exact ho.irrefl _
    ·rw [if_neg hb]
     rcases Ps with rfl|rfl
     ·exact ho.irrefl _
     ·cases e:lt (nth l (2*i+2)) (nth l (2*i+1))with
      |false=>rfl
      |true=>exact absurd ⟨hc,e⟩ hb
   split
   ·rename_i h2
    intro c h0 hc h3
    by_cases e:(c-1) / 2=i
    ·rw [e];exact ho.trans h2 (hk c h0 hc e)
    ·exact h.1 c h0 hc h3 e
   ·rename_i h2
    have h2:lt (nth l (ju lt l i n)) (nth l i)=true:=by cases e:lt (nth l (ju lt l i n)) (nth l i)with|false=>exact absurd e h2|true=>rfl
    generalize hj:ju lt l i n=j at*
    refine Fl ho f _ j n s ⟨fun c h0 hc h3 h4=> ?_,fun c h0 hc hp hj0 h3=> ?_⟩ aa (by rw [dR];exact hn) aa
    ·rw [kL aa aa,kL aa aa,if_neg h4]
     by_cases e:(c-1) / 2=i
     ·rw [if_pos e]
      by_cases e2:c=j
      ·rw [if_pos e2];exact ho.asymm h2
      ·rw [if_neg e2,if_neg aa];exact hk c h0 hc e
     ·rw [if_neg e]
      have hcj:c≠j:=fun x=>e (by rw [x];exact k3)
      rw [if_neg hcj]
      by_cases e3:c=i
      ·rw [if_pos e3]
       subst e3
       exact h.2 j aa k1 k3 h0 h3
      ·rw [if_neg e3];exact h.1 c h0 hc h3 e
    ·rw [kL aa aa,kL aa aa,if_neg aa,if_neg aa,k3,if_neg aa,if_pos rfl]
     have:=h.1 c h0 hc aa aa
     rwa [hp]at this
theorem LP(ho:LO lt){l:List α}{n:Nat}(h:Z5 lt l n 0):∀(c:Nat),c<n→lt (nth l c) (nth l 0)=false
 |0,_=>ho.irrefl _
 |c+1,hc=>by
  have h1:=h (c+1) aa hc aa
  have h2:=LP ho h ((c+1-1) / 2) aa
  exact ho.trans h2 h1
termination_by c=>c
def qd (lt:α→α→Bool) (l:List α):List α:=(fB lt l.length (ir l 0 (l.length-1)) 0 (l.length-1)).take (l.length-1)
theorem LQ{n k:Nat}(h:k<n):nth (l.take n) k=nth l k:=by simp [nth,List.getD,List.getElem?_take,h]
theorem agw(ho:LO lt)(h:tj lt l)(hl:0<l.length):tj lt (qd lt l)∧(nth l 0::qd lt l).Perm l∧(qd lt l).length=l.length-1:=by
 have hd:(fB lt l.length (ir l 0 (l.length-1)) 0 (l.length-1)).length=l.length:=by rw [oY,dR]
 have hlen:(qd lt l).length=l.length-1:=by unfold qd;rw [List.length_take,hd];omega
 refine⟨?_,?_,hlen⟩
 ·unfold tj
  rw [hlen]
  intro c h0 hc h1
  unfold qd
  rw [LQ hc,LQ aa]
  refine Fl ho l.length _ 0 (l.length-1) 0 ⟨fun c h0 hc _ lR=> ?_,fun c _ _ _ h0=>by omega⟩ (Nat.le_refl _) (by rw [dR];omega) aa c h0 hc h1
  rw [kL aa aa,kL aa aa,if_neg aa,if_neg aa,if_neg aa,if_neg lR]
  exact h c h0 aa aa
 ·have hp:(fB lt l.length (ir l 0 (l.length-1)) 0 (l.length-1)).Perm l:=
   (Fk _ _ _ _ (by rw [dR];omega)).trans (Fj aa aa)
  have DM:nth (fB lt l.length (ir l 0 (l.length-1)) 0 (l.length-1)) (l.length-1)=nth l 0:=by
   rw [uZ _ _ _ _ _ (by rw [dR];omega) (Nat.le_refl _),kL aa aa,if_pos rfl]
  refine List.Perm.trans ?_ hp
  generalize hm:fB lt l.length (ir l 0 (l.length-1)) 0 (l.length-1)=m at*
  have e:m=m.take (l.length-1)++[nth l 0]:=by
   conv=>lhs;rw [←List.take_append_drop (l.length-1) m]
   congr 1
   rw [List.drop_eq_getElem_cons aa,List.drop_eq_nil_of_le aa,←DM,ke aa]
  unfold qd
  rw [hm]
  conv=>rhs;rw [e]
  exact(List.perm_append_singleton _ _).symm
end
end Go.Fw
namespace Go.Fw
open Go Go.RowKit
def ayN:dV Span where
 k:=3
 w:=40
 R:=fun _ cs s=>cs=[.string s.lo.b,.string s.hi.b,.bool s.bT]
 mono:=fun _ h=>h
 len:=fun h=>by rw [h];rfl
 one:=fun h u hu=>by rw [h]at hu;simp at hu;rcases hu with rfl|rfl|rfl<;>rfl
def aGN:dV ct where
 k:=2
 w:=24
 R:=fun _ cs e=>cs=[.int .i64 e.kind,.string e.val.b]∧i64 e.kind
 mono:=fun _ h=>h
 len:=fun h=>by rw [h.1];rfl
 one:=fun h u hu=>by rw [h.1]at hu;simp at hu;rcases hu with rfl|rfl<;>rfl
end Go.Fw
