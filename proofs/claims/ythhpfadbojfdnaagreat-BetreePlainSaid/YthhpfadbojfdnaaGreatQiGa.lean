/- Runs of steps that ask for no choice, in one word. Nothing of the program is named here. No condition. -/
import Derived.Test.YthhpfadbojfdnaaGreatQiX2
set_option linter.unusedVariables false
set_option linter.unusedSimpArgs false
set_option linter.unnecessarySimpa false
set_option linter.unusedSectionVars false
namespace Go.Fw
open Go Go.RowKit
abbrev iV (n:Int):Value:=.int .i64 n
abbrev aK (n:Nat):Value:=.int .i64 (n:Int)
abbrev sV (s:ByteArray):Value:=.string s
abbrev lV (a:Option Addr) (n c:Nat):Value:=.slice a n c
abbrev aC (b:Nat):Value:=.pointer (some ⟨b,0,none⟩)
abbrev ar (T:TypeId) (L:List Value):Obj:=.cells (List.toArray L) T (0,0)
abbrev xf:List Value:=[.int .i64 0,.int .i64 0,.slice none 0 0,.slice none 0 0,.string ⟨#[]⟩,.bool false,.int .i64 0,.int .i64 0,.slice none 0 0,.slice none 0 0]
variable {E:Env} {G:GH} {M:MH} {Mk:MH} {aft:Array Edge} {f:Fr} {dS:Nat} {bS:Array Bool} {op:Op} {ops:Array Oper} {ty:TypeId}
theorem WD.tk{K:Kt}(i:Nat){pos:String}{d:Nat}{v:Value}(ho:ops[i]?=some ⟨some d,op,ty,pos,aft,none⟩)(dI:Ok E f G Mk ⟨some d,op,ty,pos,aft,none⟩ v)
    (h:WD E ops dS (bS.setIfInBounds i true) (jP f d v) G M Mk K)(hs:Region.noSelect ops=true:=by kernel_rfl)(hf:Region.free .any ops bS i=true:=by kernel_rfl)(hr:(Region.ready .any ops bS).contains i=true:=by kernel_rfl)(hd:Nat.blt d E.n=true:=by rfl):WD E ops (dS+1) bS f G M Mk K:=
  WD.take i ho rfl rfl hs hf hr dI h hd
theorem WD.n9{G':GH}{M':MH}{K:Kt}(a:Le G G')(b:Mk.Sublist M')(h:WD E ops dS bS f G' M' Mk K):Le G G'∧Mk.Sublist M'∧∃xg:MH,xg.Sublist M'∧Mk.Sublist xg∧WD E ops dS bS f G' M' xg K:=⟨a,b,Mk,b,WJ _,h⟩
variable {dst:Option Nat}
theorem WD.a1{K:Kt}(i:Nat){pos:String}(ho:ops[i]?=some ⟨dst,op,ty,pos,aft,none⟩)
    (h:W E [(⟨dst,op,ty,pos,aft,none⟩:Oper)].toArray false [(⟨dst,op,ty,pos,aft,none⟩:Oper)] f G M (fun f' G' M'=>Le G G'∧Mk.Sublist M'∧∃xg,xg.Sublist M'∧Mk.Sublist xg∧WD E ops dS (bS.setIfInBounds i true) f' G' M' xg K))
    (hr:Region.ready .any ops bS=[i]:=by kernel_rfl):WD E ops (dS+1) bS f G M Mk K:=WD.any [i] hr rfl ⟨⟨_,ho,rfl,h⟩,trivial⟩
theorem WD.ap{K:Kt}{i:Nat}{pos:String}(h:W E [(⟨dst,op,ty,pos,aft,none⟩:Oper)].toArray false [(⟨dst,op,ty,pos,aft,none⟩:Oper)] f G M K)(ho:ops[i]?=some ⟨dst,op,ty,pos,aft,none⟩:=by rfl):
    ∃o,ops[i]?=some o∧o.guard=none∧W E [o].toArray false [o] f G M K:=⟨_,ho,rfl,h⟩
section
variable {E:Env} {Q:Exit→Kt} {f:Fr} {G:GH} {M:MH} {x y:Code} {c:Operand} {p:Prop} {inst:Decidable p} {ops:List Oper} {q:Bool} {l:List Oper} {K:Kt}
theorem WC.cd(ht:decide p=true→p→WC E x Q f G M)(hf:decide p=false→¬p→WC E y Q f G M)(hc:ev f c=.bool (decide p):=by rfl):WC E (.cond c x y) Q f G M:=WC.cond hc (fun h=>ht h (jW h)) (fun h=>hf h (Au h))
theorem WC.cn(ht:(!decide p)=true→¬p→WC E x Q f G M)(hf:(!decide p)=false→p→WC E y Q f G M)(hc:ev f c=.bool (!decide p):=by rfl):WC E (.cond c x y) Q f G M:=WC.cond hc (fun h=>ht h (aqO h)) (fun h=>hf h (aqP h))
theorem W.sd(dj:Nat)(ht:decide p=true→p→W E ops.toArray q l f G M K)(hf:decide p=false→¬p→W E ops.toArray q l f G M K)(hc:f dj=.bool (decide p):=by rfl):W E ops.toArray q l f G M K:=W.sp dj hc (fun h=>ht h (jW h)) (fun h=>hf h (Au h))
theorem W.sm(dj:Nat)(ht:(!decide p)=true→¬p→W E ops.toArray q l f G M K)(hf:(!decide p)=false→p→W E ops.toArray q l f G M K)(hc:f dj=.bool (!decide p):=by rfl):W E ops.toArray q l f G M K:=W.sp dj hc (fun h=>ht h (aqO h)) (fun h=>hf h (aqP h))
end
theorem Fc.go{P:Program}{g:FuncId}{fn:Func}{c:Code}{n:Nat}{args:List Value}{G:GH}{M:MH}{Q:Value→GH→MH→Prop}(rs:List ResultVar)(hf:P.funcs[g]?=some fn)(hn:fn.ntmps=n)(hb:fn.body=some c)
    (h:∀w0,WC ⟨P,n,w0,fun b=>b∈M.map (·.1),G⟩ c (fun e f G' M'=>(e=.normal∨e=.ret)∧∃vs,uP P f M' rs vs∧∃F4,F4.Sublist M'∧Q (pack vs) G' F4) (gk (fun _=>undef) (L0 0 args)) G M)
    (hr : fn.results.toList = rs := by rfl)(hl : Nat.ble args.length n = true := by rfl)(hN : (fn.name == "runtime.NumGoroutine") = false := by decide) : Fc P g args G M Q :=
  Fc.intro (lh hf (by rw [hb];rfl) hN) hf hb hn hr hl h
class EqE {α:Type} (e:fB α) (c:outParam (α→List Value)):Prop where
  h:∀G cs a,e.R G cs a→cs=c a
class EqP {α:Type} (e:fB α) (c:outParam (α→List Value)) (p:outParam (α→Prop)):Prop where
  h:∀G cs a,e.R G cs a→cs=c a∧p a
instance : EqE cy (fun s => [.string s.b]) := ⟨fun _ _ _ h => h⟩
instance : EqE aU (fun p => [.string p.key.b, .string p.val.b]) := ⟨fun _ _ _ h => h⟩
instance : EqP bE (fun n => [.int .i64 n]) i64 := ⟨fun _ _ _ h => h⟩
instance : EqP dy (fun m => [.int .i64 m.aW, .int .i64 m.kind, .string m.key.b, .string m.hi.b, .bool m.bQ, .string m.val.b]) aD.Ok := ⟨fun _ _ _ h => h⟩
section
variable {α:Type} {e:fB α} {G:GH} {v:Value} {l:List α} {c:α→List Value} {p:α→Prop} {T:TypeId} {Ms:MH} {P:Prop} {i:Nat}
theorem az.a1(h:az e G v l) [hE:EqE e c](hi:i<l.length)(k:jd G v e.k i (c l[i])→P):P:=by obtain⟨cs,h1,h2⟩:=h.at hi;rw [hE.h _ _ _ h2]at h1;exact k h1
theorem az.a2(h:az e G v l) [hE:EqP e c p](hi:i<l.length)(k:jd G v e.k i (c l[i])→p l[i]→P):P:=by obtain⟨cs,h1,h2⟩:=h.at hi;obtain⟨h3,h4⟩:=hE.h _ _ _ h2;rw [h3]at h1;exact k h1 h4
theorem aE.a1(h:aE e T G v l Ms) [hE:EqE e c](hi:i<l.length)(k:CR Ms v e.k i (c l[i])→P):P:=by obtain⟨cs,h1,h2⟩:=h.at hi;rw [hE.h _ _ _ h2]at h1;exact k h1
theorem aE.a2(h:aE e T G v l Ms) [hE:EqP e c p](hi:i<l.length)(k:CR Ms v e.k i (c l[i])→p l[i]→P):P:=by obtain⟨cs,h1,h2⟩:=h.at hi;obtain⟨h3,h4⟩:=hE.h _ _ _ h2;rw [h3]at h1;exact k h1 h4
abbrev NdK (n:Nd) (a1:Option Addr) (c1:Nat) (a2:Option Addr) (c2:Nat) (a3:Option Addr) (c3:Nat) (a4:Option Addr) (c4:Nat):List Value:=[.int .i64 n.slot,.int .i64 n.level,.slice a1 n.ab.length c1,.slice a2 n.kids.length c2,.string n.high.b,.bool n.fp,.int .i64 n.right,.int .i64 n.seen,.slice a3 n.aj.length c3,.slice a4 n.rows.length c4]
theorem az.aN{l:List Nd}(h:az dm G v l)(hi:i<l.length)(k:∀a1 c1 a2 c2 a3 c3 a4 c4,jd G v dm.k i [.int .i64 l[i].slot,.int .i64 l[i].level,.slice a1 l[i].ab.length c1,.slice a2 l[i].kids.length c2,.string l[i].high.b,.bool l[i].fp,.int .i64 l[i].right,.int .i64 l[i].seen,.slice a3 l[i].aj.length c3,.slice a4 l[i].rows.length c4]→az cy G (.slice a1 l[i].ab.length c1) l[i].ab→az bE G (.slice a2 l[i].kids.length c2) l[i].kids→az dy G (.slice a3 l[i].aj.length c3) l[i].aj→az aU G (.slice a4 l[i].rows.length c4) l[i].rows→l[i].Ok→P):P:=by
  obtain⟨cs,h1,a1,c1,a2,c2,a3,c3,a4,c4,h2,q1,q2,q3,q4,q5⟩:=h.at hi;rw [h2]at h1;exact k _ _ _ _ _ _ _ _ h1 q1 q2 q3 q4 q5
theorem aE.aN{l:List Nd}(h:aE dm T G v l Ms)(hi:i<l.length)(k:∀a1 c1 a2 c2 a3 c3 a4 c4,CR Ms v dm.k i [.int .i64 l[i].slot,.int .i64 l[i].level,.slice a1 l[i].ab.length c1,.slice a2 l[i].kids.length c2,.string l[i].high.b,.bool l[i].fp,.int .i64 l[i].right,.int .i64 l[i].seen,.slice a3 l[i].aj.length c3,.slice a4 l[i].rows.length c4]→az cy G (.slice a1 l[i].ab.length c1) l[i].ab→az bE G (.slice a2 l[i].kids.length c2) l[i].kids→az dy G (.slice a3 l[i].aj.length c3) l[i].aj→az aU G (.slice a4 l[i].rows.length c4) l[i].rows→l[i].Ok→P):P:=by
  obtain⟨cs,h1,a1,c1,a2,c2,a3,c3,a4,c4,h2,q1,q2,q3,q4,q5⟩:=h.at hi;rw [h2]at h1;exact k _ _ _ _ _ _ _ _ h1 q1 q2 q3 q4 q5
end
section
variable {E:Env} {f:Fr} {G:GH} {M:MH} {ops rest:List Oper} {K:Kt} {d:Nat} {ty:TypeId} {pos:String} {aft:Array Edge} {g:FuncId} {args:List Operand} {tV:Array TypeId} {vs:List Value}
theorem W.cS{α:Type}{e:fB α}{l:List α}{F:Value→Value}(hc:Fc E.P g vs G [] (fun v G' M'=>M'=[]∧∃u,v=F u∧az e G' u l))(ha:args.map (ev f)=vs)
    (k:∀a c G',Le G G'→az e G' (.slice a l.length c) l→W E ops.toArray false rest (jP f d (F (.slice a l.length c))) G' M K)(hd:Nat.blt d E.n=true:=by rfl):
    W E ops.toArray false (⟨some d,.call { callee:=.value (.func g),args:=args.toArray,argTypes:=tV },ty,pos,aft,none⟩::rest) f G M K:=
  W.call (Mp:=[]) hc ha (tJ _) (fun v G' M' hl ⟨h1,u,h2,h3⟩=>by
    obtain⟨a,c,h4⟩:=h3.form
    subst h1 h4 h2
    exact k a c G' hl h3) hd
theorem W.cN{n:Nd}{F:List Value→Value}(hc:Fc E.P g vs G [] (fun v G' M'=>M'=[]∧∃u,v=F u∧cc G' u n))(ha:args.map (ev f)=vs)
    (k:∀a1 c1 a2 c2 a3 c3 a4 c4 G',Le G G'→az cy G' (.slice a1 n.ab.length c1) n.ab→az bE G' (.slice a2 n.kids.length c2) n.kids→az dy G' (.slice a3 n.aj.length c3) n.aj→az aU G' (.slice a4 n.rows.length c4) n.rows→n.Ok→
      W E ops.toArray false rest (jP f d (F (NdK n a1 c1 a2 c2 a3 c3 a4 c4))) G' M K)(hd:Nat.blt d E.n=true:=by rfl):
    W E ops.toArray false (⟨some d,.call { callee:=.value (.func g),args:=args.toArray,argTypes:=tV },ty,pos,aft,none⟩::rest) f G M K:=
  W.call (Mp:=[]) hc ha (tJ _) (fun v G' M' hl ⟨h1,u,h2,a1,c1,a2,c2,a3,c3,a4,c4,h3,q1,q2,q3,q4,q5⟩=>by
    subst h1 h3 h2
    exact k _ _ _ _ _ _ _ _ G' hl q1 q2 q3 q4 q5) hd
theorem W.cM{β:Type}{s:β}{F:β→List Value→List Value→Value}{A B:β→Nd}(hc:Fc E.P g vs G [] (fun v G' M'=>M'=[]∧∃r,r=s∧∃u w,v=F r u w∧cc G' u (A r)∧cc G' w (B r)))(ha:args.map (ev f)=vs)
    (k:∀a1 c1 a2 c2 a3 c3 a4 c4 b1 d1 b2 d2 b3 d3 b4 d4 G',Le G G'→az cy G' (.slice a1 (A s).ab.length c1) (A s).ab→az bE G' (.slice a2 (A s).kids.length c2) (A s).kids→az dy G' (.slice a3 (A s).aj.length c3) (A s).aj→az aU G' (.slice a4 (A s).rows.length c4) (A s).rows→(A s).Ok→
      az cy G' (.slice b1 (B s).ab.length d1) (B s).ab→az bE G' (.slice b2 (B s).kids.length d2) (B s).kids→az dy G' (.slice b3 (B s).aj.length d3) (B s).aj→az aU G' (.slice b4 (B s).rows.length d4) (B s).rows→(B s).Ok→
      W E ops.toArray false rest (jP f d (F s (NdK (A s) a1 c1 a2 c2 a3 c3 a4 c4) (NdK (B s) b1 d1 b2 d2 b3 d3 b4 d4))) G' M K)(hd:Nat.blt d E.n=true:=by rfl):
    W E ops.toArray false (⟨some d,.call { callee:=.value (.func g),args:=args.toArray,argTypes:=tV },ty,pos,aft,none⟩::rest) f G M K:=
  W.call (Mp:=[]) hc ha (tJ _) (fun v G' M' hl ⟨h1,r,hr,u,w,h2,⟨a1,c1,a2,c2,a3,c3,a4,c4,h3,q1,q2,q3,q4,q5⟩,b1,d1,b2,d2,b3,d3,b4,d4,p3,p5,p6,p7,p8,p9⟩=>by
    subst hr h1 h3 p3 h2
    exact k _ _ _ _ _ _ _ _ _ _ _ _ _ _ _ _ G' hl q1 q2 q3 q4 q5 p5 p6 p7 p8 p9) hd
end
structure Cn (n:Nat) (B:Prop):Prop where
  h:B
structure Hd9 (A:Prop):Prop where
  h:A
theorem Cn.st{n:Nat}{B B':Prop}(f:B'→B)(k:Cn n B'):Cn (n+1) B:=⟨f k.h⟩
class nO (P:Program) (t:TypeId) (b:outParam Bool) (j:outParam Nat):Prop where
  h:gO P t=some (b,j)
class Cl (P:Program) (t:TypeId) (t':outParam TypeId):Prop where
  h:cW P t=some t'
class io (P:Program) (t:TypeId) (j:Nat) (off:outParam Nat):Prop where
  h:o0 P t j=some off
class StK (P:Program) (t:TypeId):Prop where
  h:P.underlying t=some .string
class BoK (P:Program) (t:TypeId):Prop where
  h:P.underlying t=some .bool
class yU (M:MH) (b:Nat) (i:outParam Nat) (L:outParam (List Value)) (T:outParam TypeId):Prop where
  h:uI M i=some (b,.cells L.toArray T (0,0))
instance yU.hd {b : Nat} {L : List Value} {T : TypeId} {M : MH} : yU ((b, .cells (List.toArray L) T (0, 0)) :: M) b 0 L T := ⟨rfl⟩
instance (priority := 900) yU.tl {c : Nat × Obj} {M : MH} {b i : Nat} {L : List Value} {T : TypeId} [h : yU M b i L T] : yU (c :: M) b (i + 1) L T := ⟨h.h⟩
instance (priority := 800) yU.nl {M : MH} {b i : Nat} {L : List Value} {T : TypeId} [h : yU M b i L T] : yU ([] ++ M) b i L T := ⟨h.h⟩
instance (priority := 700) yU.ap {c : Nat × Obj} {M N : MH} {b i : Nat} {L : List Value} {T : TypeId} [h : yU (c :: (M ++ N)) b i L T] : yU ((c :: M) ++ N) b i L T := ⟨h.h⟩
class xh (L:List Value) (o:Nat) (v:Value) (L':outParam (List Value)):Prop where
  h:setAt L o [v]=L'∧o+1≤L.length
instance xh.z {x : Value} {L : List Value} {v : Value} : xh (x :: L) 0 v (v :: L) := ⟨by cases L <;> simp [setAt], by simp⟩
instance (priority := 900) xh.s {x : Value} {L : List Value} {o : Nat} {v : Value} {L' : List Value} [h : xh L o v L'] : xh (x :: L) (o + 1) v (x :: L') := ⟨by simp only [setAt, h.h.1], by have := h.h.2; simp only [jo]; omega⟩
instance (priority := 800) xh.z0 {x : Value} {L : List Value} {v : Value} : xh (x :: L) (0 + 0) v (v :: L) := ⟨by cases L <;> simp [setAt], by simp⟩
instance (priority := 700) xh.p {L : List Value} {a c : Nat} {v : Value} {L' : List Value} [h : xh L (a + c) v L'] : xh L (a + c + 0) v L' := ⟨h.h⟩
class Cp (M:MH) (b o:Nat) (v:Value) (T:outParam TypeId) (M':outParam MH):Prop where
  h:∃i L L',uI M i=some (b,.cells (List.toArray L) T (0,0))∧setAt L o [v]=L'∧o+1≤L.length∧qY M i (.cells (List.toArray L') T (0,0))=M'
instance Cp.hd {b o : Nat} {L L' : List Value} {v : Value} {T : TypeId} {M : MH} [h : xh L o v L'] : Cp ((b, .cells (List.toArray L) T (0, 0)) :: M) b o v T ((b, .cells (List.toArray L') T (0, 0)) :: M) :=
  ⟨0,L,L',rfl,h.h.1,h.h.2,rfl⟩
instance (priority := 900) Cp.tl {c : Nat × Obj} {M M' : MH} {b o : Nat} {v : Value} {T : TypeId} [h : Cp M b o v T M'] : Cp (c :: M) b o v T (c :: M') := by
  obtain⟨i,L,L',h1,h2,h3,h4⟩:=h.h
  exact⟨i+1,L,L',h1,h2,h3,by simp only [qY,h4]⟩
instance (priority := 800) Cp.nl {M M' : MH} {b o : Nat} {v : Value} {T : TypeId} [h : Cp M b o v T M'] : Cp ([] ++ M) b o v T M' := ⟨h.h⟩
instance (priority := 700) Cp.ap {c : Nat × Obj} {M N M' : MH} {b o : Nat} {v : Value} {T : TypeId} [h : Cp (c :: (M ++ N)) b o v T M'] : Cp ((c :: M) ++ N) b o v T M' := ⟨h.h⟩
class Cq (M:MH) (b:Nat) (L':List Value) (L:outParam (List Value)) (T:outParam TypeId) (M':outParam MH):Prop where
  h:∃i,uI M i=some (b,.cells (List.toArray L) T (0,0))∧qY M i (.cells (List.toArray L') T (0,0))=M'
instance Cq.hd {b : Nat} {L L' : List Value} {T : TypeId} {M : MH} : Cq ((b, .cells (List.toArray L) T (0, 0)) :: M) b L' L T ((b, .cells (List.toArray L') T (0, 0)) :: M) := ⟨0, rfl, rfl⟩
instance (priority := 900) Cq.tl {c : Nat × Obj} {M M' : MH} {b : Nat} {L L' : List Value} {T : TypeId} [h : Cq M b L' L T M'] : Cq (c :: M) b L' L T (c :: M') := by
  obtain⟨i,h1,h2⟩:=h.h
  exact⟨i+1,h1,by simp only [qY,h2]⟩
instance (priority := 800) Cq.nl {M M' : MH} {b : Nat} {L L' : List Value} {T : TypeId} [h : Cq M b L' L T M'] : Cq ([] ++ M) b L' L T M' := ⟨h.h⟩
instance (priority := 700) Cq.ap {c : Nat × Obj} {M N M' : MH} {b : Nat} {L L' : List Value} {T : TypeId} [h : Cq (c :: (M ++ N)) b L' L T M'] : Cq ((c :: M) ++ N) b L' L T M' := ⟨h.h⟩
instance (priority := 600) yU.z {c : Nat} {u w : Obj} {M : MH} {b i : Nat} {L : List Value} {T : TypeId} [h : yU ((c, w) :: M) b i L T] : yU (qY ((c, u) :: M) 0 w) b i L T := ⟨h.h⟩
instance (priority := 500) yU.sc {p : Nat × Obj} {w : Obj} {M : MH} {k : Nat} {b i : Nat} {L : List Value} {T : TypeId} [h : yU (p :: qY M k w) b i L T] : yU (qY (p :: M) (k + 1) w) b i L T := ⟨h.h⟩
instance (priority := 600) Cp.z {c : Nat} {u w : Obj} {M : MH} {b o : Nat} {v : Value} {T : TypeId} {M' : MH} [h : Cp ((c, w) :: M) b o v T M'] : Cp (qY ((c, u) :: M) 0 w) b o v T M' := ⟨h.h⟩
instance (priority := 500) Cp.sc {p : Nat × Obj} {w : Obj} {M : MH} {k : Nat} {b o : Nat} {v : Value} {T : TypeId} {M' : MH} [h : Cp (p :: qY M k w) b o v T M'] : Cp (qY (p :: M) (k + 1) w) b o v T M' := ⟨h.h⟩
instance (priority := 600) Cq.z {c : Nat} {u w : Obj} {M : MH} {b : Nat} {L L' : List Value} {T : TypeId} {M' : MH} [h : Cq ((c, w) :: M) b L' L T M'] : Cq (qY ((c, u) :: M) 0 w) b L' L T M' := ⟨h.h⟩
instance (priority := 500) Cq.sc {p : Nat × Obj} {w : Obj} {M : MH} {k : Nat} {b : Nat} {L L' : List Value} {T : TypeId} {M' : MH} [h : Cq (p :: qY M k w) b L' L T M'] : Cq (qY (p :: M) (k + 1) w) b L' L T M' := ⟨h.h⟩
section
variable {E:Env} {f:Fr} {G:GH} {M:MH} {ops rest:List Oper} {q:Bool} {K:Kt} {d:Nat} {op:Op} {ty:TypeId} {pos:String} {aft:Array Edge} {v:Value} {x y:Operand} {t t':TypeId} {b o:Nat}
variable {L:List Value} {T:TypeId} {i:Nat}
theorem aCm [hT:nO E.P t false 1](hx:ev f x=.pointer (some ⟨b,o,none⟩)) [hM:yU M b i L T](hv:L[o]?=some v):Ok E f G M ⟨some d,.load t x,ty,pos,aft,none⟩ v:=
  zn (vs:=[v]) hT.h hx hM.h (by
    have hl:=(vz.1 hv)
    obtain⟨h1,h2⟩:=hl
    rw [iW h1,h2];simp) rfl (fun _=>rfl)
variable {j:Nat}
theorem aCn [hT:nO E.P t true j](hx:ev f x=.pointer (some ⟨b,o,none⟩))(ho:o=0) [hM:yU M b i L T](hj:L.length=j):Ok E f G M ⟨some d,.load t x,ty,pos,aft,none⟩ (.agg L.toArray):=
  zn (vs:=L) hT.h hx hM.h (by subst ho hj;simp) hj (fun h=>by cases h)
class zF (L:List Value) (o j:Nat) (vs:outParam (List Value)):Prop where
  h:(L.drop o).take j=vs∧vs.length=j
instance zF.n {L : List Value} : zF L 0 0 [] := ⟨by simp, rfl⟩
instance zF.c {x : Value} {L : List Value} {j : Nat} {vs : List Value} [h : zF L 0 j vs] : zF (x :: L) 0 (j + 1) (x :: vs) := ⟨by have := h.h.1; simp only [yk] at this; simp [this], by simp [h.h.2]⟩
instance zF.s {x : Value} {L : List Value} {o j : Nat} {vs : List Value} [h : zF L o j vs] : zF (x :: L) (o + 1) j vs := ⟨by simpa using h.h.1, h.h.2⟩
instance zF.z {L : List Value} {j : Nat} {vs : List Value} [h : zF L 0 j vs] : zF L (0 + 0) j vs := ⟨h.h⟩
variable {vs:List Value}
theorem aCo [hT:nO E.P t true j](hx:ev f x=.pointer (some ⟨b,o,none⟩)) [hM:yU M b i L T] [hC:zF L o j vs]:Ok E f G M ⟨some d,.load t x,ty,pos,aft,none⟩ (.agg vs.toArray):=
  zn (vs:=vs) hT.h hx hM.h hC.h.1 hC.h.2 (fun h=>by cases h)
variable {cs:List Value} {kk:Nat} {u:Value}
theorem aCp [hT:nO E.P t false 1](hx:ev f x=.pointer (some (mN u kk i o)))(he:jd G u kk i cs)(hv:cs[o]?=some v):Ok E f G M ⟨some d,.load t x,ty,pos,aft,none⟩ v:=
  rb (vs:=[v]) hT.h he hx (by
    have hl:=(vz.1 hv)
    obtain⟨h1,h2⟩:=hl
    rw [iW h1,h2];simp) rfl (fun _=>rfl)
theorem aCq [hT:nO E.P t true j](hx:ev f x=.pointer (some (mN u kk i o)))(ho:o=0)(he:jd G u kk i cs)(hj:cs.length=j):Ok E f G M ⟨some d,.load t x,ty,pos,aft,none⟩ (.agg cs.toArray):=
  rb (vs:=cs) hT.h he hx (by subst ho hj;simp) hj (fun h=>by cases h)
theorem aCr(hT:nO E.P t true j)(hx:ev f x=.pointer (some (mN u kk i o)))(he:jd G u kk i cs)(hC:zF cs o j vs):Ok E f G M ⟨some d,.load t x,ty,pos,aft,none⟩ (.agg vs.toArray):=
  rb (vs:=vs) hT.h he hx hC.h.1 hC.h.2 (fun h=>by cases h)
variable {off:Nat}
theorem aCs [hF:io E.P t j off](hx:ev f x=.pointer (some ⟨b,o,none⟩)):Ok E f G M ⟨some d,.fieldAddr t x j,ty,pos,aft,none⟩ (.pointer (some ⟨b,o+off,none⟩)):=FT hF.h hx
theorem aCt [hF:io E.P t j off](hx:ev f x=.pointer (some (mN u kk i o)))(hv:∃a n c,u=.slice (some a) n c):Ok E f G M ⟨some d,.fieldAddr t x j,ty,pos,aft,none⟩ (.pointer (some (mN u kk i (o+off)))):=afA hF.h hx hv
variable {M':MH}
theorem W.s1 [hT:nO E.P t false 1](hx:ev f x=.pointer (some ⟨b,o,none⟩))(hy:ev f y=v)(hc:v.cells.toList=[v])(h1:Value.oneCell' v=true) [hM:Cp M b o v T M']
    (k:W E ops.toArray false rest f G M' K):W E ops.toArray false (⟨none,.store t x y,ty,pos,aft,none⟩::rest) f G M K:=by
  obtain⟨i,L,L',a1,a2,a3,a4⟩:=hM.h
  exact W.store hT.h hx a1 hy hc rfl (by simp [h1]) (Nat.ble_eq▸a3) a2 (a4▸k)
theorem W.sA{L':List Value} [hT:nO E.P t true j](hx:ev f x=.pointer (some ⟨b,o,none⟩))(ho:o=0)(hy:ev f y=.agg L'.toArray)(h1:L'.all Value.oneCell'=true) [hM:Cq M b L' L T M'](hl:L.length=j)(hl':L'.length=j)
    (k:W E ops.toArray false rest f G M' K):W E ops.toArray false (⟨none,.store t x y,ty,pos,aft,none⟩::rest) f G M K:=by
  obtain⟨i,a1,a2⟩:=hM.h
  subst ho
  exact W.store (vs:=L') hT.h hx a1 hy (by simp [Value.cells]) hl' h1 (Nat.ble_eq▸(by omega:0+j≤L.length)) (by rw [lU _ _ _ (by omega)];simp [hl,hl']) (a2▸k)
variable {α:Type} {e:fB α} {l:List α} {m:Int} {k:IntKind}
theorem aCu [hT:Cl E.P t t'](hx:ev f x=v)(hs:az e G v l):
    Ok E f G M ⟨some d,.call { callee:=.builtin .len,args:= #[x],argTypes:= #[t] },ty,pos,aft,none⟩ (.int .i64 l.length):=rW hT.h hs hx
theorem ax5 [hT:Cl E.P t t']{Ms:MH}(hx:ev f x=v)(ho:aE e T G v l Ms):
    Ok E f G M ⟨some d,.call { callee:=.builtin .len,args:= #[x],argTypes:= #[t] },ty,pos,aft,none⟩ (.int .i64 l.length):=aaO hT.h ho hx
theorem ax6 [hT:StK E.P t]{a:ByteArray}(hx:ev f x=.string a):
    Ok E f G M ⟨some d,.call { callee:=.builtin .len,args:= #[x],argTypes:= #[t] },ty,pos,aft,none⟩ (.int .i64 a.size):=aqQ hT.h hx
theorem aCv{bb:Bool}{n c:Nat}{a:Option Addr} [hT:Cl E.P t t'] [hK:nO E.P t' bb j](hx:ev f x=.slice a n c)(hs:az e G (.slice a n c) l)(hj:j=e.k)(hy:ev f y=.int k m)(hi:m=((i:Nat):Int))(hl:i<l.length):
    Ok E f G M ⟨some d,.indexAddr t x y,ty,pos,aft,none⟩ (.pointer (some (mN (.slice a n c) e.k i 0))):=bd hT.h (hj▸hK.h) hs hx hy ⟨hi,hl⟩
end
variable {α:Type}
theorem aGV{x:α} :(some x).isSome=true:=rfl
theorem aGW{x:α} :(some x).isNone=false:=rfl
theorem nF9:(!false)=true:=rfl
theorem nT9:(!true)=false:=rfl
theorem TJ{a b:Bool}(h:a=b:=by first|with_reducible assumption|with_reducible rfl|with_reducible exact aGV|with_reducible exact aGW|with_reducible exact nF9|with_reducible exact nT9|with_reducible exact aQa|with_reducible exact aQb|exact nb9 (by with_reducible assumption)|exact nc9 (by with_reducible assumption)|decide):a=b:=h
variable {M:MH} {P:Program} {f:Fr}
theorem aGX:uP P f M [] []:=trivial
variable {rs:List ResultVar} {v:Value} {vs:List Value}
theorem aGY{t:Nat}(hx:f t=v)(k:uP P f M rs vs):uP P f M (.tmp t::rs) (v::vs):=⟨hx,k⟩
variable {T:TypeId}
theorem aGZ{L:List Value}{a b i k:Nat}{t:TypeId}{bb:Bool}(hx:f a=.pointer (some ⟨b,0,none⟩))(hM:yU M b i L T)(hT:nO P t bb k)(h1:bb=false→k=1)(hl:L.length=k)(h:uP P f M rs vs):uP P f M (.cell a t::rs) (HO bb L::vs):=
  ⟨⟨_,_,_,_,_,hx,cY hM.h,hT.h,h1,hl,rfl⟩,h⟩
theorem rsl(h:uP P f M rs vs:=by
  repeat (first
    |exact aGX
    |((with_reducible apply aGY);exact rfl)
    |((with_reducible apply aGZ);exact rfl;infer_instance;infer_instance;simp;exact rfl))):uP P f M rs vs:=h
theorem ct{l:List (Nat×Value)}(h:Has f l:=by
  repeat (first
    |exact trivial
    |refine⟨by first|rfl|exact iv (by dsimp only;omega)|exact iv (by omega),?_⟩)):Has f l:=h
theorem aO{A B:GH}(h:Le A B:=by repeat (first|exact Le.rfl|assumption|refine Le.trans ?_ (by assumption))):Le A B:=h
variable {G:GH} {G':GH}
theorem az.mo{e:fB α}{l:List α}(h:az e G v l)(hl:Le G G'):az e G' v l:=h.mono hl
theorem aE.mo{e:fB α}{l:List α}{Ms:MH}(h:aE e T G v l Ms)(hl:Le G G'):aE e T G' v l Ms:=h.mono hl
theorem az.go{e:fB α}{l:List α}(h:az e G v l:=by first|assumption|exact az.mo (by assumption) aO):az e G v l:=h
theorem Cn.xi{E:Env}{ops:Array Oper}{q:Bool}{l:List Oper}{K:Kt}{n:Nat}(h:Cn n (W E ops q l f G M K)):Cn n (W E ops q l f G M K):=h
section
variable {E:Env} {f:Fr} {G:GH} {M:MH} {ops rest:List Oper} {q:Bool} {K:Kt} {d n:Nat} {op:Op} {ty:TypeId} {pos:String} {aft:Array Edge} {v:Value} {x y z:Operand} {t t':TypeId} {Q:Exit→Kt} {c c':Code} {b:Bool} {j dj:Nat}
theorem aCw{j:Nat}(h:Ok E f G M ⟨some d,.fieldAddr t x j,ty,pos,aft,none⟩ v):Ok E f G M ⟨some d,.fieldAddr t x j,ty,pos,aft,none⟩ v:=h
theorem aCx(h:Ok E f G M ⟨some d,.load t x,ty,pos,aft,none⟩ v):Ok E f G M ⟨some d,.load t x,ty,pos,aft,none⟩ v:=h
theorem aCy(h:Ok E f G M ⟨some d,.pick x y z,ty,pos,aft,none⟩ v):Ok E f G M ⟨some d,.pick x y z,ty,pos,aft,none⟩ v:=h
theorem aCz{o:BinOp}(h:Ok E f G M ⟨some d,.binOp o t x y t',ty,pos,aft,none⟩ v):Ok E f G M ⟨some d,.binOp o t x y t',ty,pos,aft,none⟩ v:=h
theorem aCA{c:Call}(h:Ok E f G M ⟨some d,.call c,ty,pos,aft,none⟩ v):Ok E f G M ⟨some d,.call c,ty,pos,aft,none⟩ v:=h
theorem Cn.ok(h:Ok E f G M ⟨some d,op,ty,pos,aft,none⟩ v)(hd:Nat.blt d E.n=true)(k:Cn n (W E ops.toArray q rest (jP f d v) G M K)):Cn (n+1) (W E ops.toArray q (⟨some d,op,ty,pos,aft,none⟩::rest) f G M K):=⟨W.ok h k.h hd⟩
theorem Cn.noF(hj:(ops.toArray[j]?).bind (·.dst)=some dj)(hb:f dj=.bool b)(hn:b=true)(hd:Nat.blt d E.n=true)(k:Cn n (W E ops.toArray q rest (jP f d undef) G M K)):Cn (n+1) (W E ops.toArray q (⟨some d,op,ty,pos,aft,some (j,false)⟩::rest) f G M K):=⟨W.no hj hb (by rw [hn];rfl) k.h hd⟩
theorem Cn.noT(hj:(ops.toArray[j]?).bind (·.dst)=some dj)(hb:f dj=.bool b)(hn:b=false)(hd:Nat.blt d E.n=true)(k:Cn n (W E ops.toArray q rest (jP f d undef) G M K)):Cn (n+1) (W E ops.toArray q (⟨some d,op,ty,pos,aft,some (j,true)⟩::rest) f G M K):=⟨W.no hj hb (by rw [hn];rfl) k.h hd⟩
theorem Cn.yes{o:Option Nat}{w:Bool}(hj:(ops.toArray[j]?).bind (·.dst)=some dj)(hb:f dj=.bool b)(hn:b=w)(hd:Nat.blt dj E.n=true)(k:Cn n (W E ops.toArray q (⟨o,op,ty,pos,aft,none⟩::rest) f G M K)):Cn (n+1) (W E ops.toArray q (⟨o,op,ty,pos,aft,some (j,w)⟩::rest) f G M K):=⟨W.yes hj hb hn k.h hd⟩
theorem Cn.nou{w:Bool}(hj:(ops.toArray[j]?).bind (·.dst)=some dj)(hb:f dj=undef)(hd:Nat.blt d E.n=true)(k:Cn n (W E ops.toArray q rest (jP f d undef) G M K)):Cn (n+1) (W E ops.toArray q (⟨some d,op,ty,pos,aft,some (j,w)⟩::rest) f G M K):=⟨W.nou hj hb k.h hd⟩
theorem Cn.nil(k:Cn n (K f G M)):Cn (n+1) (W E ops.toArray q [] f G M K):=⟨W.nil k.h⟩
variable {id:Nat}
theorem Cn.rg{l:List Oper}(k:Cn n (W E l.toArray false l f G M (Q .normal))):Cn (n+1) (WC E (.region id l.toArray false) Q f G M):=⟨WC.region k.h⟩
theorem Cn.sq(k:Cn n (WC E c (Ck (WC E c' Q) Q) f G M)):Cn (n+1) (WC E (.seq c c') Q f G M):=⟨WC.seq k.h⟩
theorem Cn.bk(k:Cn n (WC E c (Cr id Q) f G M)):Cn (n+1) (WC E (.block id c) Q f G M):=⟨WC.block k.h⟩
theorem Cn.sk(k:Cn n (Q .normal f G M)):Cn (n+1) (WC E .skip Q f G M):=⟨WC.skip k.h⟩
theorem Cn.rt(k:Cn n (Q .ret f G M)):Cn (n+1) (WC E .ret Q f G M):=⟨WC.ret k.h⟩
theorem Cn.xt(k:Cn n (Q (.exit id) f G M)):Cn (n+1) (WC E (.exit id) Q f G M):=⟨WC.exit k.h⟩
theorem Cn.cT(hc:ev f x=.bool b)(hb:b=true)(k:Cn n (WC E c Q f G M)):Cn (n+1) (WC E (.cond x c c') Q f G M):=⟨WC.Xc hc hb k.h⟩
theorem Cn.cF(hc:ev f x=.bool b)(hb:b=false)(k:Cn n (WC E c' Q f G M)):Cn (n+1) (WC E (.cond x c c') Q f G M):=⟨WC.ax7 hc hb k.h⟩
theorem Cn.tn(k:Cn n (K f G M)):Cn (n+1) (Ck K Q .normal f G M):=⟨jH k.h⟩
theorem Cn.tx(k:Cn n (Q (.exit id) f G M)):Cn (n+1) (Ck K Q (.exit id) f G M):=⟨afB k.h⟩
theorem Cn.tr(k:Cn n (Q .ret f G M)):Cn (n+1) (Ck K Q .ret f G M):=⟨ap6 k.h⟩
theorem Cn.bn(k:Cn n (Q .normal f G M)):Cn (n+1) (Cr id Q .normal f G M):=⟨pI k.h⟩
theorem Cn.br(k:Cn n (Q .ret f G M)):Cn (n+1) (Cr id Q .ret f G M):=⟨aCB k.h⟩
theorem Cn.bh(k:Cn n (Q .normal f G M)):Cn (n+1) (Cr id Q (.exit id) f G M):=⟨aqR k.h⟩
theorem Cn.rr{P:Program}{rs:List ResultVar}{vs:List Value}{R:List Value→MH→Prop}(hr:uP P f M rs vs)(k:Cn n (R vs [])):Cn (n+1) ((Exit.ret=.normal∨Exit.ret=.ret)∧∃vs,uP P f M rs vs∧∃M',M'.Sublist M∧R vs M'):=⟨.inr rfl,vs,hr,[],NF _,k.h⟩
theorem Cn.bm{Kv:Nat}(hn:Nat.beq Kv id=false)(k:Cn n (Q (.exit Kv) f G M)):Cn (n+1) (Cr id Q (.exit Kv) f G M):=⟨aCC k.h hn⟩
end
theorem ok9{E:Env}{f:Fr}{G:GH}{M:MH}{o:Oper}{v:Value}(h:Ok E f G M o v:=by
  first
  | (with_reducible apply aCw
     first
     |exact aCs rfl
     |exact aCt rfl (by first|exact jd.form (by assumption)|exact CR.form (by assumption)))
  | (with_reducible apply aCx
     first
     |exact aCm rfl rfl
     |exact aCn rfl rfl rfl
     |exact aCo rfl
     |exact aCp rfl (by first|assumption|exact jd.mo (by assumption) aO) (by rfl)
     |exact aCq rfl rfl (by first|assumption|exact jd.mo (by assumption) aO) (by rfl)
     |((with_reducible apply aCr);infer_instance;exact rfl;(first|assumption|exact jd.mo (by assumption) aO);infer_instance))
  | (with_reducible apply aCy
     first
     |exact OY rfl TJ
     |exact OZ rfl TJ)
  | (with_reducible apply aCz
     first
     |((with_reducible apply Eo);exact rfl;exact rfl)
     |((with_reducible apply dZ);exact rfl;exact rfl;first|omega|(dsimp only;omega))
     |((with_reducible apply Xq);exact rfl;exact rfl)
     |((with_reducible apply Xd);exact rfl;exact rfl)
     |((with_reducible apply ax8);exact rfl;exact rfl)
     |((with_reducible apply ax9);exact rfl;exact rfl)
     |((with_reducible apply aya);exact rfl;exact rfl)
     |((with_reducible apply lm);exact rfl;exact rfl;first|omega|(dsimp only;omega))
     |((with_reducible apply aqS);exact rfl;exact rfl)
     |((with_reducible apply aqT);exact rfl;exact rfl)
     |((with_reducible apply aqU);exact rfl;exact rfl))
  | (with_reducible apply aCA
     first
     |exact ax6 rfl
     |exact aCu rfl az.go
     |exact ax5 rfl (by first|assumption|exact aE.mo (by assumption) aO))
  |with_reducible apply aaP
  |with_reducible apply PG
  |((with_reducible apply aaQ);exact rfl;exact rfl)
  |((with_reducible apply ayb);exact rfl)
  |((with_reducible apply zG);exact rfl)
  |exact aCv rfl az.go (by rfl) rfl rfl (by omega)):Ok E f G M o v:=h
structure Cd (l:List Nat) (B:Prop):Prop where
  h:B
section
variable {E:Env} {f:Fr} {G:GH} {M Mk:MH} {ops:Array Oper} {K:Kt} {dS F:Nat} {bS:Array Bool} {i d j dj:Nat} {l:List Nat} {op:Op} {ty t T:TypeId} {pos:String} {aft:Array Edge} {v:Value} {x y:Operand} {b o:Nat} {w u:Bool}
theorem Cd.tk(hr:(Region.ready .any ops bS).contains i=true)(hf:Region.free .any ops bS i=true)(hs:Region.noSelect ops=true)(hF:F=dS+1)(ho:ops[i]?=some ⟨some d,op,ty,pos,aft,none⟩)(dI:Ok E f G Mk ⟨some d,op,ty,pos,aft,none⟩ v)(hd:Nat.blt d E.n=true)
    (k:Cd l (WD E ops dS (bS.setIfInBounds i true) (jP f d v) G M Mk K)):Cd (i::l) (WD E ops F bS f G M Mk K):=⟨hF▸WD.take i ho rfl rfl hs hf hr dI k.h hd⟩
theorem Cd.tY(hr:(Region.ready .any ops bS).contains i=true)(hf:Region.free .any ops bS i=true)(hs:Region.noSelect ops=true)(hF:F=dS+1)(ho:ops[i]?=some ⟨some d,op,ty,pos,aft,some (j,w)⟩)(hj:(ops[j]?).bind (·.dst)=some dj)(hb:f dj=.bool u)(hw:u=w)(dI:Ok E f G Mk ⟨some d,op,ty,pos,aft,none⟩ v)(hd:Nat.blt d E.n=true)(J8:Nat.blt dj E.n=true)
    (k:Cd l (WD E ops dS (bS.setIfInBounds i true) (jP f d v) G M Mk K)):Cd (i::l) (WD E ops F bS f G M Mk K):=⟨hF▸WD.aCD i dj ho rfl rfl hj hb hw hs hf hr dI k.h hd J8⟩
theorem Cd.tT(hr:(Region.ready .any ops bS).contains i=true)(hf:Region.free .any ops bS i=true)(hs:Region.noSelect ops=true)(hF:F=dS+1)(ho:ops[i]?=some ⟨some d,op,ty,pos,aft,some (j,true)⟩)(hj:(ops[j]?).bind (·.dst)=some dj)(hb:f dj=.bool u)(hw:u=false)(hd:Nat.blt d E.n=true)(J8:Nat.blt dj E.n=true)
    (k:Cd l (WD E ops dS (bS.setIfInBounds i true) (jP f d undef) G M Mk K)):Cd (i::l) (WD E ops F bS f G M Mk K):=⟨hF▸WD.takeN i dj ho rfl rfl hj hb (by rw [hw];rfl) hs hf hr k.h hd J8⟩
variable {M':MH}
theorem Cd.st(hr:Region.ready .any ops bS=[i])(hF:F=dS+1)(ho:ops[i]?=some ⟨none,op,ty,pos,aft,none⟩)
    (hw:∀K,W E [(⟨none,op,ty,pos,aft,none⟩:Oper)].toArray false [] f G M' K→W E [(⟨none,op,ty,pos,aft,none⟩:Oper)].toArray false [(⟨none,op,ty,pos,aft,none⟩:Oper)] f G M K)
    (hs:Mk.Sublist M')(k:Cd l (WD E ops dS (bS.setIfInBounds i true) f G M' Mk K)):Cd (i::l) (WD E ops F bS f G M Mk K):=⟨hF▸WD.a1 i ho (hw _ (W.nil (WD.n9 Le.rfl hs k.h))) hr⟩
variable {A:MH} {B:MH}
theorem aG0(h:A.Sublist B):A.Sublist ([]++B):=h
theorem sb9(h:A.Sublist B:=by
  repeat (first
    |with_reducible exact NF _
    |with_reducible exact WJ _
    |with_reducible apply List.Sublist.cons_cons
    |with_reducible apply aG0
    |with_reducible apply aQc
    |with_reducible apply aQd
    |with_reducible apply aQe
    |apply List.Sublist.cons)):A.Sublist B:=h
theorem W.nn{G':GH}{aG1:List Oper}{q:Bool}(h:WD E ops dS bS f G' M' Mk K)(hl:Le G G':=by exact aO)(hs:Mk.Sublist M':=by exact sb9):
    W E aG1.toArray q [] f G' M' (fun f' G' M'=>Le G G'∧Mk.Sublist M'∧∃xg,xg.Sublist M'∧Mk.Sublist xg∧WD E ops dS bS f' G' M' xg K):=W.nil (WD.n9 hl hs h)
class ap7 (P:Program):Prop where
  h:P.follows .mixedOrders=true
variable {Q:Exit→Kt} {id:Nat}
theorem WC.dw{l:List Oper}(pw:Mk.Sublist M) [hm:ap7 E.P](h:WD E l.toArray l.toArray.size (Array.replicate l.toArray.size false) f G M Mk (Q .normal))(hq:∀c f G M,¬Q (.panic c) f G M:=by rintro _ _ _ _ ⟨h|h,_⟩<;>cases h):
    WC E (.region id l.toArray true) Q f G M:=WC.aCE Mk pw hm.h hq h
theorem Cn.dn{n:Nat}(hr:Region.ready .any ops bS=[])(k:Cn n (K f G M)):Cn (n+1) (WD E ops dS bS f G M Mk K):=⟨WD.done hr k.h⟩
theorem Cn.dq{n:Nat}{l:List Oper} [hm:ap7 E.P](hB:Region.lexB .any l.toArray=true)(k:Cn n (W E l.toArray true l f G M (Q .normal))):Cn (n+1) (WC E (.region id l.toArray true) Q f G M):=⟨WC.draw hm.h hB k.h⟩
end
variable {A:Prop} {B:Prop}
theorem d9(l:List Nat)(h:A)(k:Hd9 A→Cd l B:=by
  intro h9
  repeat (first
    | (with_reducible apply Cd.tk
       kernel_rfl
       kernel_rfl
       kernel_rfl
       exact rfl
       exact rfl
       exact ok9
       exact rfl)
    | (with_reducible apply Cd.st
       kernel_rfl
       exact rfl
       exact rfl
       first
       |exact fun K h=>W.s1 rfl (v:=.int _ _) rfl rfl rfl h
       |exact fun K h=>W.s1 rfl (v:=.slice _ _ _) rfl rfl rfl h
       |exact fun K h=>W.s1 rfl (v:=.string _) rfl rfl rfl h
       |exact fun K h=>W.s1 rfl (v:=.bool _) rfl rfl rfl h
       |exact fun K h=>W.s1 rfl (v:=.pointer _) rfl rfl rfl h
       |exact fun K h=>W.sA rfl rfl rfl rfl (by rfl) (by rfl) h
       exact sb9)
    | (with_reducible apply Cd.tY
       kernel_rfl
       kernel_rfl
       kernel_rfl
       exact rfl
       exact rfl
       exact rfl
       exact rfl
       exact TJ
       exact ok9
       exact rfl
       exact rfl)
    | (with_reducible apply Cd.tF
       kernel_rfl
       kernel_rfl
       kernel_rfl
       exact rfl
       exact rfl
       exact rfl
       exact rfl
       exact TJ
       exact rfl
       exact rfl)
    | (with_reducible apply Cd.tT
       kernel_rfl
       kernel_rfl
       kernel_rfl
       exact rfl
       exact rfl
       exact rfl
       exact rfl
       exact TJ
       exact rfl
       exact rfl))
  exact(⟨h9.h⟩:Cd [] _)):B:=(k ⟨h⟩).h
theorem g9(n:Nat)(h:A)(k:Hd9 A→Cn n B:=by
  intro h9
  repeat (first
    |((with_reducible apply Cn.ok);exact ok9;exact rfl)
    | (with_reducible apply Cn.noF
       exact rfl
       exact rfl
       exact TJ
       exact rfl)
    | (with_reducible apply Cn.yes
       exact rfl
       exact rfl
       exact TJ
       exact rfl)
    | (with_reducible apply Cn.noT
       exact rfl
       exact rfl
       exact TJ
       exact rfl)
    |with_reducible apply Cn.nil
    |with_reducible apply Cn.rg
    |with_reducible apply Cn.sq
    |with_reducible apply Cn.tn
    | (with_reducible apply Cn.xi
       first
       |refine Cn.st (fun h=>W.s1 rfl (v:=.int _ _) rfl rfl rfl h) ?_
       |refine Cn.st (fun h=>W.s1 rfl (v:=.slice _ _ _) rfl rfl rfl h) ?_
       |refine Cn.st (fun h=>W.s1 rfl (v:=.string _) rfl rfl rfl h) ?_
       |refine Cn.st (fun h=>W.s1 rfl (v:=.bool _) rfl rfl rfl h) ?_
       |refine Cn.st (fun h=>W.s1 rfl (v:=.pointer _) rfl rfl rfl h) ?_
       |refine Cn.st (fun h=>W.sA rfl rfl rfl rfl (by rfl) (by rfl) h) ?_
       | (with_reducible apply Cn.nou
          exact rfl
          exact rfl
          exact rfl))
    |((with_reducible apply Cn.dn);kernel_rfl)
    |((with_reducible apply Cn.dq);kernel_rfl)
    |with_reducible apply Cn.bk
    |with_reducible apply Cn.sk
    |with_reducible apply Cn.rt
    |with_reducible apply Cn.xt
    |with_reducible apply Cn.bn
    |with_reducible apply Cn.tx
    |with_reducible apply Cn.bh
    |with_reducible apply Cn.tr
    |with_reducible apply Cn.br
    |((with_reducible apply Cn.cT);exact rfl;exact TJ)
    |((with_reducible apply Cn.cF);exact rfl;exact TJ)
    |((with_reducible apply Cn.bm);exact rfl)
    | (with_reducible apply Cn.rr
       exact rsl))
  exact(⟨h9.h⟩:Cn 0 _)):B:=(k ⟨h⟩).h
end Go.Fw

namespace Go.Fw
open Go
def afC {α:Type} (w:α→Int):List α→Int→Int→Int
 |[],n,_=>n
 |s::l,n,Ii=>if n≤Ii then afC w l (n+w s) Ii else n
def aG.w (p:aG):Int:=1+p.key.b.size+p.val.b.size
def aD.w (m:aD):Int:=1+m.key.b.size+m.hi.b.size+m.val.b.size
variable {a:aG} {b:aG}
theorem aG.aCj(h:(!gT [.string a.key.b,.string a.val.b] [.string b.key.b,.string b.val.b])=false):a=b:=by
 cases a;cases b
 simpa [gT,af.AF]using h
theorem aG.aCi(h:(!gT [.string a.key.b,.string a.val.b] [.string b.key.b,.string b.val.b])=true):a≠b:=by
 intro e;subst e;simp [gT]at h
def bc (l:List aG):Prop:=∀i (h:i<l.length),(l[i].key.b.size≤16∧l[i].val.b.size≤16)∧(0<i→(l[i-1]'aa).key.lt l[i].key=true)
instance (l : List aG) : Decidable (bc l) := by unfold bc; infer_instance
def af.next (a:af):af:=if h:(a.b++⟨#[0]⟩).size≤140737488355328 then⟨a.b++⟨#[0]⟩,h⟩else a
variable {a:af}
theorem af.N6(h:a.b.size<140737488355328):a.next.b=a.b++⟨#[0]⟩:=by
 have h1:(a.b++⟨#[0]⟩).size≤140737488355328:=by rw [ByteArray.size_append];show _+1≤_;omega
 rw [af.next,dif_pos h1]
def aD.span (m:aD):Span:=if m.kind=4 then⟨m.key,m.hi,m.bQ⟩else⟨m.key,m.key.next,false⟩
def Span.bH (a b:Span):Span:=Span.norm ⟨if a.lo.lt b.lo=true then b.lo else a.lo,if b.bQ=false∧(a.bQ=true∨b.hi.lt a.hi=true)then b.hi else a.hi,a.bQ&&b.bQ⟩
def aD.clip (m:aD) (s:Span):aD×Bool:=
 if(m.span.bH s).empty=true then(⟨0,0,af.nil,af.nil,false,af.nil⟩,false)
 else if m.kind=4 then({ m with key:=(m.span.bH s).lo,hi:=(m.span.bH s).hi,bQ:=(m.span.bH s).bQ },true)else(m,true)
def aD.size (m:aD):Int:=if m.kind=4 then 36 else 4+m.key.b.size+m.val.b.size
theorem af.min_eq(a b:af):a.min b=if b.lt a=true then b else a:=by
 unfold af.min
 cases h:b.lt a
 ·cases h2:a.lt b
  ·obtain rfl:=af.iw h h2;simp
  ·simp
 ·have h3:=af.lt_asymm h
  rw [h3]
  have h4:a≠b:=by rintro rfl;rw [af.lt_irrefl]at h;cases h
  simp [h4]
theorem Kg(a b:Span):Span.norm ⟨a.lo.max b.lo,if a.bQ=true then b.hi else if b.bQ=true then a.hi else a.hi.min b.hi,a.bQ&&b.bQ⟩=Span.bH a b:=by
 unfold Span.bH
 rw [af.min_eq]
 cases h1:a.bQ<;>cases h2:b.bQ<;>simp [af.max]
 simp [Span.norm,Span.empty]
variable {m:aD}
theorem uB{s:Span}(h:(m.span.bH s).empty=true):m.clip s=(⟨0,0,af.nil,af.nil,false,af.nil⟩,false):=if_pos h
theorem uC{s:Span}(h:(m.span.bH s).empty=false)(k:m.kind=4):m.clip s=({ m with key:=(m.span.bH s).lo,hi:=(m.span.bH s).hi,bQ:=(m.span.bH s).bQ },true):=by
 rw [aD.clip,if_neg (by simp [h]),if_pos k]
theorem N7{s:Span}(h:(m.span.bH s).empty=false)(k:¬m.kind=4):m.clip s=(m,true):=by
 rw [aD.clip,if_neg (by simp [h]),if_neg k]
def aB (s:Span) (l:List aD):List aD:=l.filterMap fun m=>if(m.clip s).2=true then some (m.clip s).1 else none
variable {i:Nat} {l:List aD}
theorem aqV{s:Span}(h:i<l.length)(hc:(l[i].clip s).2=true):aB s (l.take (i+1))=aB s (l.take i)++[(l[i].clip s).1]:=by
 rw [aB,iA h,Hk];simp [aB,hc]
theorem aqW{s:Span}(h:i<l.length)(hc:(l[i].clip s).2=false):aB s (l.take (i+1))=aB s (l.take i):=by
 rw [aB,iA h,Hk];simp [aB,hc]
theorem zH{s:Span} :(aB s l).length≤l.length:=WK _ _
theorem PH{s:Span}(h:m.Ok):(m.clip s).1.Ok:=by
 unfold aD.clip
 split
 ·exact⟨⟨by decide,by decide⟩,⟨by decide,by decide⟩⟩
 ·split
  ·exact h
  ·exact h
def gl (a b:ByteArray):Nat→Nat→Nat
 |0,k=>k
 |n+1,k=>if k<a.size∧k<b.size∧a[k]?=b[k]? then gl a b n (k+1)else k
def c8 (a b:af):Nat:=gl a.b b.b a.b.size 0
theorem pd{a b:ByteArray} :∀ {n k j:Nat},j≤k+n→k≤j→j≤a.size→j≤b.size→(∀i,i<j→a[i]?=b[i]?)→gl a b n k=gl a b (n+k-j) j
 |0,k,j,h1,h2,_,_,_=>by
  obtain rfl:j=k:=aa
  simp
 |n+1,k,j,h1,h2,h3,h4,h5=>by
  by_cases e:k=j
  ·subst e;simp
  ·rw [gl,if_pos ⟨aa,aa,h5 k aa⟩,pd (n:=n) (k:=k+1) (j:=j) aa aa h3 h4 h5]
   congr 1;omega
variable {b:af} {k:Nat}
theorem aaR(h:∀i,i<k→a.b[i]?=b.b[i]?)(h1:k<a.b.size)(h2:k<b.b.size)(hn:a.b[k]?≠b.b[k]?):c8 a b=k:=by
 rw [c8,pd (j:=k) aa aa aa aa h]
 obtain⟨m,hm⟩:∃m,a.b.size+0-k=m+1:=⟨a.b.size-k-1,aa⟩
 rw [hm,gl,if_neg (by simp [hn])]
theorem Xr(h1:k≤a.b.size)(h2:k≤b.b.size)(h:∀i,i<k→a.b[i]?=b.b[i]?)(he:k=a.b.size∨k=b.b.size):c8 a b=k:=by
 rw [c8,pd (j:=k) aa aa h1 h2 h]
 cases hm:a.b.size+0-k with
 |zero=>rfl
 |succ m=>rw [gl,if_neg aa]
theorem CS(a b:ByteArray):∀n k,k≤a.size→k≤b.size→gl a b n k≤a.size∧gl a b n k≤b.size
 |0,k,h1,h2=>⟨h1,h2⟩
 |n+1,k,h1,h2=>by
  rw [gl]
  split
  ·rename_i h;exact CS a b n (k+1) aa aa
  ·exact⟨h1,h2⟩
theorem CT(a b:af):c8 a b≤a.b.size∧c8 a b≤b.b.size:=CS _ _ _ _ aa aa
theorem BV{a b:ByteArray} :∀ {n k:Nat},(∀i,i<k→a[i]?=b[i]?)→∀i,i<gl a b n k→a[i]?=b[i]?
 |0,k,h=>h
 |n+1,k,h=>by
  rw [gl]
  split
  ·rename_i hc
   exact BV fun i hi=>by
    by_cases e:i=k
    ·subst e;exact hc.2.2
    ·exact h i aa
  ·exact h
theorem rf(a b:af):∀i,i<c8 a b→a.b[i]?=b.b[i]?:=BV fun i hi=>by omega
theorem Xs(h:∀i,i<k→a.b[i]?=b.b[i]?)(h1:k<a.b.size)(h2:k<b.b.size)(hn:¬((a.b[k]'h1).toNat:Int)=(b.b[k]'h2).toNat):c8 a b=k:=
 aaR h h1 h2 fun e=>hn (by
  rw [vA a.b k h1,vA b.b k h2]at e
  simp only [tK]at e
  rw [e])
theorem PI(h:a.lt b=true):c8 a b<b.b.size:=by
 obtain⟨h1,h2⟩:=CT a b
 by_cases e:c8 a b=b.b.size
 ·have:=Ij (rf a b) (.inr e) h1 h2
  rw [show blt a.b b.b=true from h]at this
  simp at this
  omega
 ·omega
def js (a b:af):af×Bool:=if a.lt b=true then(b.cut 0 (c8 a b+1),true)else(af.nil,false)
theorem L3(h:a.lt b=true):js a b=(b.cut 0 (c8 a b+1),true):=if_pos h
theorem L4(h:a.lt b=false):js a b=(af.nil,false):=if_neg (by simp [h])
theorem Kw{n:Nat}(h:n≤b.b.size):(b.cut 0 n).b.size=n:=by
 show(b.b.extract 0 n).size=n
 rw [ByteArray.size_extract];omega
theorem PJ{n:Nat}(h:n≤b.b.size)(hi:i<n):(b.cut 0 n).b[i]?=b.b[i]?:=by
 have h1:i<(b.cut 0 n).b.size:=by rw [Kw h];exact hi
 rw [vA _ i h1,vA _ i aa]
 have h2:∀hh,(b.b.extract 0 n)[i]'hh=b.b[i]'aa:=fun hh=>by rw [ByteArray.getElem_extract];simp
 exact ax some (h2 h1)
theorem ajr{n:Nat}(hn:n≤b.b.size):a.lt (b.cut 0 n)=(a.lt b&&decide (c8 a b<n)):=by
 obtain⟨h1,h2⟩:=CT a b
 have hs:=Kw hn
 by_cases hk:c8 a b<n
 ·have hp:∀i,i<c8 a b→a.b[i]?=(b.cut 0 n).b[i]?:=fun i hi=>by rw [PJ hn aa];exact rf a b i hi
  rw [dB hk,Hl]
  show blt a.b (b.cut 0 n).b=blt a.b b.b
  by_cases ha:c8 a b=a.b.size
  ·rw [←Ij hp (.inl ha) aa aa,←Ij (rf a b) (.inl ha) aa aa,hs]
   rw [dB aa,dB aa]
  ·have ko:c8 a b<a.b.size:=aa
   have hlb:c8 a b<b.b.size:=aa
   have hlc:c8 a b<(b.cut 0 n).b.size:=aa
   have hg:=PJ hn hk
   rw [vA (b.cut 0 n).b (c8 a b) hlc,vA b.b (c8 a b) hlb]at hg
   simp only [tK]at hg
   have ig:(a.b[c8 a b]'ko).toNat≠(b.b[c8 a b]'hlb).toNat:=fun e=>by
    have h5:c8 a b+1≤c8 a b:=by
     have h6:∀i,i<c8 a b+1→a.b[i]?=b.b[i]?:=fun i hi=>by
      by_cases e2:i=c8 a b
      ·rw [e2,vA a.b _ ko,vA b.b _ hlb,UInt8.toNat.inj e]
      ·exact rf a b i aa
     have h7:c8 a b=gl a.b b.b (a.b.size+0-(c8 a b+1)) (c8 a b+1):=by
      conv=>lhs;unfold c8
      exact pd aa aa aa aa h6
     have h8:∀n k,k≤gl a.b b.b n k:=by
      intro n
      induction n with
      |zero=>intro k;exact bZ _
      |succ n ih=>
       intro k
       rw [gl]
       split
       ·exact gg (Nat.le_succ k) (ih (k+1))
       ·exact bZ _
     have:=h8 (a.b.size+0-(c8 a b+1)) (c8 a b+1)
     omega
    omega
   rw [←ajs hp ko hlc (by rw [hg];exact ig),←ajs (rf a b) ko hlb ig,hg]
 ·have hp:∀i,i<n→a.b[i]?=(b.cut 0 n).b[i]?:=fun i hi=>by rw [PJ hn hi];exact rf a b i aa
  rw [gr hk,Bool.and_false]
  show blt a.b (b.cut 0 n).b=false
  rw [←Ij hp (.inr hs.symm) aa aa,hs]
  exact gr aa
def iY (l:List aG):List aG×List aG×af×Bool:=
 if l.length<2 then([],[],af.nil,false)
 else(l.take ((l.length+1) / 2),l.drop ((l.length+1) / 2),(js (l.getD ((l.length+1) / 2-1) default).key (l.getD ((l.length+1) / 2) default).key).1,true)
variable {l:List aG}
theorem PK(h:l.length<2):iY l=([],[],af.nil,false):=if_pos h
theorem sg(h:¬l.length<2):iY l=(l.take ((l.length+1) / 2),l.drop ((l.length+1) / 2),(js (l[(l.length+1) / 2-1]'aa).key (l[(l.length+1) / 2]'aa).key).1,true):=by
 rw [iY,if_neg h,Kx aa,Kx aa]
def Nd.afD (m:Int) (n:Nd):Prop:=afC aG.w n.rows 0 m≤m∧aqX n.ab 0 m≤m∧(n.kids.length:Int)≤m∧afC aD.w n.aj 0 m≤m∧(n.high.b.size:Int)≤m
instance (m : Int) (n : Nd) : Decidable (n.afD m) := by unfold Nd.afD; infer_instance
def afE (l:List Nd) (n m:Int):Prop:=(l.length:Int)≤n∧∀i (h:i<l.length),l[i].afD m
instance (l : List Nd) (n m : Int) : Decidable (afE l n m) := by unfold afE; infer_instance
def aD.R (m:aD):Prop:=(1≤m.aW∧m.key.b.size≤16∧m.val.b.size≤16∧m.hi.b.size≤16)∧
 if m.kind=4 then m.val=af.nil∧(m.bQ=false∨m.hi=af.nil)∧m.span.empty=false
 else m.hi=af.nil∧m.bQ=false∧(m.kind=1∨m.kind=2∨(m.kind=3∧m.val=af.nil))
instance (m : aD) : Decidable m.R := by unfold aD.R; infer_instance
def fq (l:List aD):Prop:=∀i (h:i<l.length),l[i].R∧(0<i→(l[i-1]'aa).aW<l[i].aW)
instance (l : List aD) : Decidable (fq l) := by unfold fq; infer_instance
def ch (n:Nd):Nd×Nd×af×Bool:=
 if n.level=0 then({ n with rows:=(iY n.rows).1 },{ n with rows:=(iY n.rows).2.1 },(iY n.rows).2.2.1,(iY n.rows).2.2.2)
 else if fA n.ab n.kids.length=false then(n,n,af.nil,false)
 else({ n with ab:=(je n.ab n.kids).1,kids:=(je n.ab n.kids).2.1,aj:=aB ⟨af.nil,(je n.ab n.kids).2.2.1,false⟩ n.aj },
  { n with ab:=(je n.ab n.kids).2.2.2.1,kids:=(je n.ab n.kids).2.2.2.2.1,aj:=aB ⟨(je n.ab n.kids).2.2.1,af.nil,true⟩ n.aj },
  (je n.ab n.kids).2.2.1,(je n.ab n.kids).2.2.2.2.2)
theorem mO{n:Nd}(h:n.level=0):ch n=({ n with rows:=(iY n.rows).1 },{ n with rows:=(iY n.rows).2.1 },(iY n.rows).2.2.1,(iY n.rows).2.2.2):=if_pos h
theorem qN{n:Nd}(h:¬n.level=0)(h2:fA n.ab n.kids.length=false):ch n=(n,n,af.nil,false):=by rw [ch,if_neg h,if_pos h2]
theorem mQ{n:Nd}(h:¬n.level=0)(h2:fA n.ab n.kids.length=true):ch n=({ n with ab:=(je n.ab n.kids).1,kids:=(je n.ab n.kids).2.1,aj:=aB ⟨af.nil,(je n.ab n.kids).2.2.1,false⟩ n.aj },
  { n with ab:=(je n.ab n.kids).2.2.2.1,kids:=(je n.ab n.kids).2.2.2.2.1,aj:=aB ⟨(je n.ab n.kids).2.2.1,af.nil,true⟩ n.aj },
  (je n.ab n.kids).2.2.1,(je n.ab n.kids).2.2.2.2.2):=by rw [ch,if_neg h,if_neg (by simp [h2])]
def Nd.zero:Nd:=⟨0,0,[],[],af.nil,false,0,0,[],[]⟩
theorem Nd.oF:Nd.zero.Ok:=⟨⟨by decide,by decide⟩,⟨by decide,by decide⟩,⟨by decide,by decide⟩,⟨by decide,by decide⟩⟩
def aS (n:Nd) (i:Int):Nd×Nd×af×Bool:=
 if(ch n).2.2.2=true then({ (ch n).1 with high:=(ch n).2.2.1,fp:=false,right:=i },{ (ch n).2.1 with slot:=i },(ch n).2.2.1,true)
 else(Nd.zero,Nd.zero,af.nil,false)
variable {i:Int}
theorem gG{n:Nd}(h:(ch n).2.2.2=true):aS n i=({ (ch n).1 with high:=(ch n).2.2.1,fp:=false,right:=i },{ (ch n).2.1 with slot:=i },(ch n).2.2.1,true):=if_pos h
theorem tW{n:Nd}(h:(ch n).2.2.2=false):aS n i=(Nd.zero,Nd.zero,af.nil,false):=if_neg (by simp [h])
theorem zI{n:Nd}{s:af}(h:n.Ok)(hi:i64 i):Nd.Ok { n with high:=s,fp:=false,right:=i } :=⟨h.1,h.2.1,hi,h.2.2.2⟩
theorem wO{n:Nd}(h:n.Ok)(hi:i64 i):Nd.Ok { n with slot:=i } :=⟨hi,h.2.1,h.2.2.1,h.2.2.2⟩
def bX (l:List aD):Int:=(l.map aD.size).sum
theorem aaS{l:List aD}(h:k<l.length):bX (l.take (k+1))=bX (l.take k)+(l[k]).size:=by
 rw [bX,iA h,bU,NG]
 show _+((l[k]).size+0)=_
 rw [Int.add_zero];rfl
theorem Ik(h:m.key.b.size≤16∧m.val.b.size≤16):4≤m.size∧m.size≤36:=by
 unfold aD.size;split<;>omega
def Nd.has (n:Nd) (k:af):Bool:=n.fp||k.lt n.high
def Nd.Xt (leaf:Int) (n:Nd):Prop:=(n.ab.length+n.kids.length+n.aj.length=0)∧(n.rows.length:Int)≤leaf∧bc n.rows∧∀i (h:i<n.rows.length),n.has n.rows[i].key=true
instance (m : Int) (n : Nd) : Decidable (n.Xt m) := by unfold Nd.Xt; infer_instance
def Nd.fits (n:Nd) (m:aD):Prop:=m.aW≤n.seen∧(n.fp=true∨(m.span.bQ=false∧n.high.lt m.span.hi=false))
instance (n : Nd) (m : aD) : Decidable (n.fits m) := by unfold Nd.fits; infer_instance
def Nd.parts (n:Nd) (k:af):Prop:=k≠af.nil∧k.b.size≤16∧n.has k=true
instance (n : Nd) (k : af) : Decidable (n.parts k) := by unfold Nd.parts; infer_instance
def Nd.pe (fan aT:Int) (n:Nd):Prop:=(n.rows.length=0∧2≤n.kids.length∧(n.kids.length:Int)≤fan)∧fA n.ab n.kids.length=true∧fq n.aj∧bX n.aj≤aT∧
 (∀i (h:i<n.kids.length),0≤n.kids[i])∧(∀i (h:i<n.ab.length),n.parts n.ab[i])∧∀i (h:i<n.aj.length),n.fits n.aj[i]
instance (f b : Int) (n : Nd) : Decidable (n.pe f b) := by unfold Nd.pe; infer_instance
def Nd.R (fan leaf aT:Int) (n:Nd):Prop:=(0≤n.slot∧0≤n.level∧0≤n.seen)∧(n.fp=true→n.high=af.nil∧n.right= -1)∧(n.fp=false→n.high≠af.nil∧n.high.b.size≤16∧0≤n.right)∧
 if n.level=0 then n.Xt leaf else n.pe fan aT
instance (f l b : Int) (n : Nd) : Decidable (n.R f l b) := by unfold Nd.R; infer_instance
def Nd.sound (n:Nd):Prop:=afE [n] 1 2000∧if n.level=0 then bc n.rows else fq n.aj
instance (n : Nd) : Decidable n.sound := by unfold Nd.sound; infer_instance
theorem PL{n:Nd}(h0:n.level=0)(h:n.rows.length<2):aS n i=(Nd.zero,Nd.zero,af.nil,false):=
 tW (by rw [mO h0];show(iY n.rows).2.2.2=false;rw [PK h])
theorem PM{n:Nd}(h0:n.level=0)(h:¬n.rows.length<2):aS n i=
    ({ n with rows:=n.rows.take ((n.rows.length+1) / 2),high:=(js (n.rows[(n.rows.length+1) / 2-1]'aa).key (n.rows[(n.rows.length+1) / 2]'aa).key).1,fp:=false,right:=i },
     { n with rows:=n.rows.drop ((n.rows.length+1) / 2),slot:=i },(js (n.rows[(n.rows.length+1) / 2-1]'aa).key (n.rows[(n.rows.length+1) / 2]'aa).key).1,true):=by
  have hh:=mO h0
  rw [sg h]at hh
  rw [gG (by rw [hh]),hh]
theorem PN{n:Nd}(h0:¬n.level=0)(h:n.kids.length<4∨fA n.ab n.kids.length=false):aS n i=(Nd.zero,Nd.zero,af.nil,false):=by
 refine tW ?_
 cases hr:fA n.ab n.kids.length
 ·rw [qN h0 hr]
 ·rw [mQ h0 hr]
  show(je n.ab n.kids).2.2.2.2.2=false
  rw [Ky (by rcases h with h|h;exact .inl h;rw [h]at hr;cases hr)]
theorem PO{n:Nd}(h0:¬n.level=0)(h:¬n.kids.length<4)(hr:fA n.ab n.kids.length=true)(hl:n.kids.length=n.ab.length+1):aS n i=
    ({ n with ab:=n.ab.take ((n.kids.length+1) / 2-1),kids:=n.kids.take ((n.kids.length+1) / 2),aj:=aB ⟨af.nil,n.ab[(n.kids.length+1) / 2-1]'aa,false⟩ n.aj,high:=n.ab[(n.kids.length+1) / 2-1]'aa,fp:=false,right:=i },
     { n with ab:=n.ab.drop ((n.kids.length+1) / 2),kids:=n.kids.drop ((n.kids.length+1) / 2),aj:=aB ⟨n.ab[(n.kids.length+1) / 2-1]'aa,af.nil,true⟩ n.aj,slot:=i },n.ab[(n.kids.length+1) / 2-1]'aa,true):=by
  have hh:=mQ h0 hr
  rw [Kz aa]at hh
  rw [gG (by rw [hh]),hh]
theorem bc.lt{l:List aG}(hr:bc l):∀(j i:Nat) (tS:i<j) (hj:j<l.length),l[i].key.lt l[j].key=true
 |0,i,h,_=>by omega
 |j+1,i,h,hj=>by
  have h1:l[j].key.lt l[j+1].key=true:=(hr (j+1) hj).2 aa
  by_cases e:i=j
  ·subst e;exact h1
  ·exact af.lt_trans (bc.lt hr j i aa aa) h1
theorem bc.take(h:bc l)(n:Nat):bc (l.take n):=fun i hi=>by
 simp at hi
 have:=h i aa
 refine⟨by simpa using this.1,fun h0=>by simpa using this.2 h0⟩
theorem bc.drop(h:bc l)(n:Nat):bc (l.drop n):=fun i hi=>by
 simp at hi
 have:=h (n+i) aa
 refine⟨by simpa using this.1,fun h0=> ?_⟩
 have h2:=this.2 aa
 simp only [pB]
 have e:n+(i-1)=n+i-1:=aa
 simp only [e];exact h2
theorem PQ:∀ {a k:List UInt8},Op.bytesLess a k=true→Op.bytesLess k (a++[0])=false
 |_,[],h=>by cases ‹List UInt8› <;>simp [Op.bytesLess]at h
 |[],y::k,h=>by
  simp only [iU,Op.bytesLess,rM,wj,lR]
  refine⟨fun h=> ?_,.inr (by cases k<;>trivial)⟩
  exact absurd (UInt8.lt_iff_toNat_lt.1 h) (by simp)
 |x::a,y::k,h=>by
  simp only [Op.bytesLess,kU,cm,fJ,Hm]at h
  simp only [pC,Op.bytesLess,rM,wj,lR,WL]
  rcases h with h|⟨rfl,h⟩
  ·exact⟨fun h2=>UInt8.lt_asymm h h2,.inl fun e=>by subst e;exact NH _ h⟩
  ·exact⟨NH _,.inr (PQ h)⟩
variable {k:af}
theorem af.aqY(ha:a.b.size<140737488355328)(h:a.lt k=true):k.lt a.next=false:=by
 show Op.bytesLess k.b.toList a.next.b.toList=false
 have e:a.next.b.toList=a.b.toList++[0]:=by
  rw [af.N6 ha,ByteArray.toList_eq,ByteArray.toList_eq];simp
 rw [e];exact PQ h
variable {l:List aD}
theorem fq.iff:fq l↔(∀m∈l,m.R)∧l.Pairwise fun a b=>a.aW<b.aW:=by
 constructor
 ·intro h
  refine⟨fun m hm=> ?_,wk.2 fun i j hi hj tS=> ?_⟩
  ·obtain⟨i,hi,rfl⟩:=cj hm;exact(h i hi).1
  ·induction j with
   |zero=>omega
   |succ j ih=>
    have h1:l[j].aW<l[j+1].aW:=(h (j+1) hj).2 aa
    by_cases e:i=j
    ·subst e;exact h1
    ·have:=ih aa aa;omega
 ·rintro⟨h1,h2⟩ i hi
  exact⟨h1 _ (bN hi),fun h0=>wk.1 h2 (i-1) i aa hi aa⟩
theorem mS{s:Span}(h:m∈aB s l):∃a∈l,(a.clip s).2=true∧(a.clip s).1=m:=by
 obtain⟨a,ha,h⟩:=wl.1 h
 split at h
 ·rename_i hc;exact⟨a,ha,hc,by simpa using h⟩
 ·cases h
theorem jh{s:Span}(h:(m.clip s).2=true):(m.span.bH s).empty=false∧(m.clip s).1=if m.kind=4 then { m with key:=(m.span.bH s).lo,hi:=(m.span.bH s).hi,bQ:=(m.span.bH s).bQ } else m:=by
 cases he:(m.span.bH s).empty
 ·refine⟨rfl,?_⟩
  by_cases k:m.kind=4
  ·rw [uC he k,if_pos k]
  ·rw [N7 he k,if_neg k]
 ·rw [uB he]at h;cases h
theorem gM{s:Span}(h:(m.clip s).2=true):(m.clip s).1.aW=m.aW:=by
 rw [(jh h).2];split<;>rfl
theorem PR{s:Span}(h:(m.clip s).2=true):(m.clip s).1.size=m.size:=by
 rw [(jh h).2]
 unfold aD.size
 split
 ·rfl
 ·rfl
theorem L5(s:Span):s.norm.empty=s.empty:=by
 unfold Span.norm
 by_cases h:s.empty=true
 ·rw [if_pos h,h];simp [Span.empty,Span.zero,af.lt_irrefl]
 ·rw [if_neg h];split
  ·rename_i ho;simp [Span.empty,ho]
  ·rfl
theorem yx{s:Span}{n:Nat}(h1:s.lo.b.size≤n)(h2:s.hi.b.size≤n):s.norm.lo.b.size≤n∧s.norm.hi.b.size≤n:=by
 have h0:af.nil.b.size=0:=rfl
 unfold Span.norm
 split
 ·exact⟨by show af.nil.b.size≤n;omega,by show af.nil.b.size≤n;omega⟩
 ·split
  ·exact⟨h1,by show af.nil.b.size≤n;omega⟩
  ·exact⟨h1,h2⟩
theorem amn{s:Span} :s.norm.bQ=false∨s.norm.hi=af.nil:=by
 unfold Span.norm
 split
 ·exact .inl rfl
 ·split
  ·exact .inr rfl
  ·rename_i h;exact .inl (by simpa using h)
theorem AP{s:Span}(hm:m.R)(h1:s.lo.b.size≤16)(h2:s.hi.b.size≤16)(h:(m.clip s).2=true):(m.clip s).1.R:=by
 obtain⟨he,e⟩:=jh h
 rw [e]
 by_cases k:m.kind=4
 ·rw [if_pos k]
  obtain⟨⟨q1,q2,q3,q4⟩,q5⟩:=hm
  rw [if_pos k]at q5
  have hs:m.span=⟨m.key,m.hi,m.bQ⟩:=if_pos k
  have hz:(m.span.bH s).lo.b.size≤16∧(m.span.bH s).hi.b.size≤16:=by
   rw [hs]
   exact yx (by show(if _ then _ else _:af).b.size≤16;split;exact h1;exact q2) (by show(if _ then _ else _:af).b.size≤16;split;exact h2;exact q4)
  refine⟨⟨q1,hz.1,q3,hz.2⟩,?_⟩
  show if m.kind=4 then _ else _
  rw [if_pos k]
  refine⟨q5.1,amn,?_⟩
  show Span.empty (if m.kind=4 then _ else _)=false
  rw [if_pos k];exact he
 ·rw [if_neg k];exact hm
theorem aaT{s:Span}(hl:fq l)(h1:s.lo.b.size≤16)(h2:s.hi.b.size≤16):fq (aB s l):=by
 rw [fq.iff]at hl⊢
 refine⟨fun m hm=> ?_,?_⟩
 ·obtain⟨a,ha,hc,rfl⟩:=mS hm
  exact AP (hl.1 a ha) h1 h2 hc
 ·refine List.Pairwise.filterMap _ (fun a b rY c hc d hd=> ?_) hl.2
  split at hc
  ·split at hd
   ·rename_i k1 k2
    cases hc;cases hd
    rw [gM k1,gM k2];exact rY
   ·cases hd
  ·cases hc
theorem yy:bX (m::l)=m.size+bX l:=by simp [bX]
theorem CU{s:Span} :∀ {l:List aD},bX (aB s l)≤bX l∧0≤bX (aB s l)
 |[]=>⟨eI _,eI _⟩
 |m::l=>by
  have ih:=CU (s:=s) (l:=l)
  have h0:0≤m.size:=by unfold aD.size;split<;>omega
  cases hc:(m.clip s).2
  ·have e:aB s (m::l)=aB s l:=by simp [aB,hc]
   rw [e,yy];omega
  ·have e:aB s (m::l)=(m.clip s).1::aB s l:=by simp [aB,hc]
   rw [e,yy,yy,PR hc];omega
theorem PS{s:Span}(h:s.empty=false)(ho:s.bQ=false):s.norm=s:=by
 unfold Span.norm
 rw [if_neg (by simp [h]),if_neg (by simp [ho])]
theorem afF{n:Nd}{i:Int}(hm:m.R)(hf:m.aW≤n.seen)(h:(m.clip ⟨af.nil,k,false⟩).2=true):
  (m.clip ⟨af.nil,k,false⟩).1.aW≤n.seen∧((m.clip ⟨af.nil,k,false⟩).1.span.bQ=false∧k.lt (m.clip ⟨af.nil,k,false⟩).1.span.hi=false):=by
 refine⟨by rw [gM h];exact hf,?_⟩
 obtain⟨he,e⟩:=jh h
 have hb:(m.span.bH ⟨af.nil,k,false⟩)=⟨if m.span.lo.lt af.nil=true then af.nil else m.span.lo,if m.span.bQ=true∨k.lt m.span.hi=true then k else m.span.hi,false⟩:=by
  unfold Span.bH
  rw [PS]
  ·simp
  ·rw [←L5];exact he
  ·simp
 rw [e]
 by_cases k4:m.kind=4
 ·rw [if_pos k4]
  show(if m.kind=4 then _ else _:Span).bQ=false∧k.lt (if m.kind=4 then _ else _:Span).hi=false
  rw [if_pos k4]
  rw [hb]
  refine⟨rfl,?_⟩
  show k.lt (if _ then k else m.span.hi)=false
  split
  ·exact af.lt_irrefl _
  ·rename_i hn;cases hk:k.lt m.span.hi
   ·rfl
   ·exact absurd (.inr hk) hn
 ·rw [if_neg k4]
  have lW:m.span=⟨m.key,m.key.next,false⟩:=if_neg k4
  rw [hb,lW]at he
  rw [lW]
  refine⟨rfl,?_⟩
  show k.lt m.key.next=false
  cases hk:k.lt m.key.next
  ·rfl
  ·simp [Span.empty,hk,af.nil_le]at he
   have:=af.aqY (by have:=hm.1.2.1;omega) he
   rw [this]at hk;cases hk
theorem aaU{n:Nd}(hf:n.fits m)(h:(m.clip ⟨k,af.nil,true⟩).2=true):n.fits (m.clip ⟨k,af.nil,true⟩).1:=by
 refine⟨by rw [gM h];exact hf.1,?_⟩
 rcases hf.2 with ht|⟨ho,hh⟩
 ·exact .inl ht
 ·refine .inr ?_
  obtain⟨he,e⟩:=jh h
  rw [e]
  by_cases k4:m.kind=4
  ·rw [if_pos k4]
   show(if m.kind=4 then _ else _:Span).bQ=false∧n.high.lt (if m.kind=4 then _ else _:Span).hi=false
   rw [if_pos k4]
   have hb:(m.span.bH ⟨k,af.nil,true⟩)=⟨if m.span.lo.lt k=true then k else m.span.lo,m.span.hi,false⟩:=by
    unfold Span.bH
    rw [PS]
    ·simp [ho]
    ·rw [←L5];exact he
    ·simp [ho]
   rw [hb]
   exact⟨rfl,hh⟩
  ·rw [if_neg k4];exact⟨ho,hh⟩
theorem sh(h:a.lt b=true)(hb:b.b.size≤16):(js a b).1≠af.nil∧(js a b).1.b.size≤16∧a.lt (js a b).1=true∧b.lt (js a b).1=false:=by
 have h1:=PI h
 rw [L3 h]
 have hs:(b.cut 0 (c8 a b+1)).b.size=c8 a b+1:=Kw aa
 refine⟨fun e=> ?_,by show(b.cut 0 (c8 a b+1)).b.size≤16;omega,?_,?_⟩
 ·have e:b.cut 0 (c8 a b+1)=af.nil:=e
  rw [e]at hs;have:af.nil.b.size=0:=rfl;omega
 ·show a.lt (b.cut 0 (c8 a b+1))=true
  rw [ajr aa,h];simp
 ·show b.lt (b.cut 0 (c8 a b+1))=false
  rw [ajr aa,af.lt_irrefl];rfl
theorem Un{n:Nd}{fan leaf aT slot:Int}(hR:n.R fan leaf aT)(hs:0≤slot)(dI:(aS n slot).2.2.2=true):
  (aS n slot).1.R fan leaf aT∧(aS n slot).2.1.R fan leaf aT∧(aS n slot).1.kids.length+(aS n slot).2.1.kids.length=n.kids.length∧(aS n slot).1.rows.length+(aS n slot).2.1.rows.length=n.rows.length:=by
 obtain⟨⟨q1,q2,q3⟩,q4,q5,q6⟩:=hR
 by_cases h0:n.level=0
 ·rw [if_pos h0]at q6
  obtain⟨r1,r2,r3,r4⟩:=q6
  by_cases hl:n.rows.length<2
  ·rw [PL h0 hl]at dI;cases dI
  ·have ko:=bc.lt r3 ((n.rows.length+1) / 2) ((n.rows.length+1) / 2-1) aa aa
   obtain⟨b1,b2,b3,b4⟩:=sh ko (r3 ((n.rows.length+1) / 2) aa).1.1
   rw [PM h0 hl]
   refine⟨⟨⟨q1,q2,q3⟩,(fun h=>by cases h),fun _=>⟨b1,b2,hs⟩,?_⟩,⟨⟨hs,q2,q3⟩,q4,q5,?_⟩,by show n.kids.length+n.kids.length=n.kids.length;omega,by show(n.rows.take _).length+(n.rows.drop _).length=_;simp;omega⟩
   ·rw [if_pos (show _=(0:Int)from h0)]
    refine⟨r1,?_,r3.take _,fun i hi=> ?_⟩
    ·show((n.rows.take _).length:Int)≤leaf
     simp only [bV];omega
    ·have CV:i<(n.rows.take ((n.rows.length+1) / 2)).length:=hi
     simp only [bV]at CV
     show(false||af.lt (n.rows.take _)[i].key _)=true
     rw [uy,nL]
     by_cases e:i=(n.rows.length+1) / 2-1
     ·subst e;exact b3
     ·exact af.lt_trans (bc.lt r3 ((n.rows.length+1) / 2-1) i aa aa) b3
   ·rw [if_pos (show _=(0:Int)from h0)]
    refine⟨r1,?_,r3.drop _,fun i hi=> ?_⟩
    ·show((n.rows.drop _).length:Int)≤leaf
     simp only [cv];omega
    ·have CV:i<(n.rows.drop ((n.rows.length+1) / 2)).length:=hi
     simp only [cv]at CV
     show n.has (n.rows.drop _)[i].key=true
     rw [pB]
     exact r4 _ aa
 ·rw [if_neg h0]at q6
  obtain⟨⟨r1,r2,r3⟩,r4,r5,r6,r7,r8,r9⟩:=q6
  by_cases hl:n.kids.length<4
  ·rw [PN h0 (.inl hl)]at dI;cases dI
  ·obtain⟨hr,hc⟩:=dp r4
   have hk:=r8 ((n.kids.length+1) / 2-1) aa
   have ni:=hk.2.1
   have AO:af.nil.b.size≤16:=by decide
   rw [PO h0 hl r4 hc]
   refine⟨⟨⟨q1,q2,q3⟩,(fun h=>by cases h),fun _=>⟨hk.1,ni,hs⟩,?_⟩,⟨⟨hs,q2,q3⟩,q4,q5,?_⟩,by show(n.kids.take _).length+(n.kids.drop _).length=_;simp;omega,by show n.rows.length+n.rows.length=n.rows.length;omega⟩
   ·rw [if_neg (show ¬_=(0:Int)from h0)]
    refine⟨⟨r1,?_,?_⟩,?_,?_,?_,?_,?_,?_⟩
    ·show 2≤(n.kids.take _).length
     simp only [bV];omega
    ·show((n.kids.take _).length:Int)≤fan
     simp only [bV];omega
    ·exact xj (Il hr _) (by show(n.kids.take _).length=(n.ab.take _).length+1;simp only [bV];omega)
    ·exact aaT r5 AO ni
    ·exact Hn CU.1 r6
    ·intro i hi
     have CV:i<(n.kids.take ((n.kids.length+1) / 2)).length:=hi
     simp only [bV]at CV
     show 0≤(n.kids.take _)[i]
     rw [nL];exact r7 i aa
    ·intro i hi
     have CV:i<(n.ab.take ((n.kids.length+1) / 2-1)).length:=hi
     simp only [bV]at CV
     have hp:=r8 i aa
     show Nd.parts _ ((n.ab.take _)[i])
     rw [nL]
     exact⟨hp.1,hp.2.1,by show(false||_)=true;rw [uy];exact jt hr _ i aa aa⟩
    ·intro i hi
     obtain⟨a,ha,Im,e⟩:=mS (bN (l:=aB ⟨af.nil,n.ab[(n.kids.length+1) / 2-1]'aa,false⟩ n.aj) hi)
     obtain⟨j,hj,rfl⟩:=cj ha
     have hf:=afF (n:=n) (i:=0) (r5 j hj).1 (r9 j hj).1 Im
     rw [e]at hf
     exact⟨hf.1,.inr hf.2⟩
   ·rw [if_neg (show ¬_=(0:Int)from h0)]
    refine⟨⟨r1,?_,?_⟩,?_,?_,?_,?_,?_,?_⟩
    ·show 2≤(n.kids.drop _).length
     simp only [cv];omega
    ·show((n.kids.drop _).length:Int)≤fan
     simp only [cv];omega
    ·exact xj (Io hr _) (by show(n.kids.drop _).length=(n.ab.drop _).length+1;simp only [cv];omega)
    ·exact aaT r5 ni AO
    ·exact Hn CU.1 r6
    ·intro i hi
     have CV:i<(n.kids.drop ((n.kids.length+1) / 2)).length:=hi
     simp only [cv]at CV
     show 0≤(n.kids.drop _)[i]
     rw [pB];exact r7 _ aa
    ·intro i hi
     have CV:i<(n.ab.drop ((n.kids.length+1) / 2)).length:=hi
     simp only [cv]at CV
     show Nd.parts _ ((n.ab.drop _)[i])
     rw [pB]
     exact r8 _ aa
    ·intro i hi
     obtain⟨a,ha,Im,e⟩:=mS (bN (l:=aB ⟨n.ab[(n.kids.length+1) / 2-1]'aa,af.nil,true⟩ n.aj) hi)
     obtain⟨j,hj,rfl⟩:=cj ha
     have hf:=aaU (r9 j hj) Im
     rw [e]at hf
     exact hf
def vH {α:Type} (l:List α):List α:=l.drop (l.length-16)
variable {α:Type}
theorem afG(l:List α):(vH l).length=min l.length 16:=by simp [vH];omega
theorem aaV(x b:List α):vH (vH x++b)=vH (x++b):=by
 simp only [vH,bP,cv]
 by_cases h:x.length≤16
 ·rw [show x.length-16=0 from by omega];simp
 ·rw [show x.length-(x.length-16)+b.length-16=b.length from by omega,show x.length+b.length-16=(x.length-16)+b.length from by omega,←Aw,
   WM (by omega:x.length-16≤x.length)]
theorem Xu(x y:List α):vH (x++vH y)=vH (x++y):=by
 simp only [vH,bP,cv]
 by_cases h:y.length≤16
 ·rw [show y.length-16=0 from by omega];simp
 ·rw [show x.length+(y.length-(y.length-16))-16=x.length from by omega,show x.length+y.length-16=x.length+(y.length-16)from by omega]
  rw [WM (bZ _),←Aw,WM (bZ _)]
  simp
def vI (b:ByteArray):ByteArray:=b.extract (b.size-16) b.size
theorem oG(b:ByteArray):(vI b).data.toList=vH b.data.toList:=by
 simp only [vI,vH,ByteArray.data_extract,Array.toList_extract,List.extract_eq_take_drop,WN]
 show List.take (b.data.size-(b.data.size-16)) (List.drop (b.data.size-16) b.data.toList)=_
 rw [fI (by simp)]
theorem Xv{a b:ByteArray}(h:a.data.toList=b.data.toList):a=b:=by
 cases a;cases b
 simp only [ByteArray.mk.injEq]
 exact Ho.1 h
theorem CW(b:ByteArray):(vI b).size=min b.size 16:=by
 have h:=ax List.length (oG b)
 rw [afG]at h
 simpa using h
theorem wP(a b:ByteArray):(a++b).data.toList=a.data.toList++b.data.toList:=by simp [ByteArray.data_append]
theorem aaW(x b:ByteArray):vI (vI x++b)=vI (x++b):=by
 apply Xv;rw [oG,oG,wP,wP,oG,aaV]
theorem Xw(x y:ByteArray):vI (x++vI y)=vI (x++y):=by
 apply Xv;rw [oG,oG,wP,wP,oG,Xu]
theorem afH(a b c:ByteArray):a++b++c=a++(b++c):=by
 apply Xv;simp only [wP,ci]
def af.tail (s:af):af:=⟨vI s.b,by rw [CW];omega⟩
def af.cat (a b:af):af:=if h:(a.b++b.b).size≤140737488355328 then⟨a.b++b.b,h⟩else a
theorem af.aqd(h:a.b.size+b.b.size≤140737488355328):(a.cat b).b=a.b++b.b:=by
 have h1:(a.b++b.b).size≤140737488355328:=by rw [ByteArray.size_append];exact h
 rw [af.cat,dif_pos h1]
def af.add (a b:af):af:=⟨vI (a.b++b.b),by rw [CW];omega⟩
theorem af.al9(h:a.b.size+b.b.size≤140737488355328):(a.cat b).tail=a.add b:=by
 apply af.ext';simp only [af.tail,af.add];rw [af.aqd h]
theorem af.add_assoc(x a b:af):(x.add a).add b=x.add (a.add b):=by
 apply af.ext';simp only [af.add];rw [aaW,Xw,afH]
theorem af.Uo(a b:af):(a.add b).b.size≤16:=by show(vI _).size≤16;rw [CW];omega
structure bG where
 kind:Int
 val:af
 deriving DecidableEq
def bG.cells (e:bG):List Value:=[.int .i64 e.kind,.string e.val.b]
def bG.zero:bG:=⟨0,af.nil⟩
def kG (has:Bool) (v:af):Option af:=if has=true then some v else none
def bG.apply (e:bG) (o:Option af):Option af:=
 if e.kind=1 then some e.val else if e.kind=3 then none else if e.kind=2 then some ((o.getD af.nil).add e.val)else o
def bG.then (a b:bG):bG:=
 if b.kind=0 then a else if b.kind≠2∨a.kind=0 then b else⟨if a.kind=2 then 2 else 1,(if a.kind=3 then af.nil else a.val).add b.val⟩
def bG.K (e:bG):Prop:=0≤e.kind∧e.kind≤3
theorem bG.L6(o:Option af):bG.zero.apply o=o:=rfl
theorem bG.aaX{a b:bG}(ha:a.K)(hb:b.K)(o:Option af):(a.then b).apply o=b.apply (a.apply o):=by
 obtain⟨a1,a2⟩:=ha
 obtain⟨b1,b2⟩:=hb
 obtain⟨k,v⟩:=a
 obtain⟨j,u⟩:=b
 simp only at a1 a2 b1 b2
 have hk:k=0∨k=1∨k=2∨k=3:=aa
 have hj:j=0∨j=1∨j=2∨j=3:=aa
 rcases hj with rfl|rfl|rfl|rfl<;>rcases hk with rfl|rfl|rfl|rfl<;>simp [bG.then,bG.apply,af.add_assoc]
theorem bG.ayc{a b:bG}(ha:a.K)(hb:b.K):(a.then b).K:=by
 unfold bG.then
 split
 ·exact ha
 ·split
  ·exact hb
  ·unfold bG.K;dsimp only;split<;>omega
def aD.on (m:aD) (k:af):bG:=
 if m.span.has k=false∨m.kind<1∨4<m.kind then bG.zero else if 3≤m.kind then⟨3,af.nil⟩else⟨m.kind,m.val⟩
theorem aD.aAr(m:aD)(k:af):(m.on k).K:=by
 unfold aD.on
 split
 ·exact⟨by decide,by decide⟩
 ·split
  ·exact⟨by decide,by decide⟩
  ·constructor<;>dsimp only<;>omega
def ln (l:List aD) (k:af):bG:=l.foldl (fun e m=>e.then (m.on k)) bG.zero
theorem foldl_apply(k:af):∀(l:List aD) (e:bG) (o:Option af),e.K→(l.foldl (fun e m=>e.then (m.on k)) e).apply o=l.foldl (fun o m=>(m.on k).apply o) (e.apply o)
 |[],e,o,h=>rfl
 |m::l,e,o,h=>by
  rw [wm,wm,foldl_apply k l _ o (bG.ayc h (m.aAr k)),bG.aaX h (m.aAr k)]
theorem CX(l:List aD)(k:af)(o:Option af):(ln l k).apply o=l.foldl (fun o m=>(m.on k).apply o) o:=foldl_apply k l _ o ⟨by decide,by decide⟩
variable {i:Nat}
theorem O6(k:af)(h:i<l.length):ln (l.take (i+1)) k=(ln (l.take i) k).then (l[i].on k):=by
 rw [iA h,ln,Eh];rfl
def bz (l:List aG) (k:af):Option af:=(l.find? fun p=>decide (p.key=k)).map aG.val
theorem fM(p:aG)(l:List aG)(k:af):bz (p::l) k=if p.key=k then some p.val else bz l k:=by
 unfold bz;rw [List.find?_cons];by_cases h:p.key=k<;>simp [h]
theorem mV:∀(l m:List aG) (k:af),bz (l++m) k=(bz l k).or (bz m k)
 |[],m,k=>by simp [bz]
 |p::l,m,k=>by
  rw [pC,fM,fM,mV l m k]
  split<;>simp
theorem pf(q:af→Bool)(k:af):∀(l:List aG),bz (l.filter fun p=>q p.key) k=if q k=true then bz l k else none
 |[]=>by simp [bz]
 |p::l=>by
  have ih:=pf q k l
  by_cases h:q p.key=true
  ·rw [oz (p:=fun p:aG=>q p.key) h,fM,fM,ih]
   by_cases e:p.key=k
   ·subst e;simp [h]
   ·simp [e]
  ·rw [nM (p:=fun p:aG=>q p.key) h,ih,fM]
   by_cases e:p.key=k
   ·subst e;simp [h]
   ·simp [e]
variable {l:List aG}
theorem aqZ(hi:i<l.length)(h:∀j (hj:j<l.length),j<i→l[j].key≠l[i].key):bz l l[i].key=some l[i].val:=by
 induction l generalizing i with
 |nil=>simp at hi
 |cons p l ih=>
  rw [fM]
  cases i with
  |zero=>simp
  |succ i=>
   have h0:=h 0 (by simp) aa
   simp only [WO,NI]at h0
   simp only [NI]
   rw [if_neg h0]
   exact ih (by simpa using hi) (fun j hj wC=>by have:=h (j+1) (by simpa using hj) aa;simpa using this)
theorem aaY(h:∀j (hj:j<l.length),l[j].key≠k):bz l k=none:=by
 unfold bz
 rw [Option.map_eq_none_iff,List.find?_eq_none]
 intro p hp
 obtain⟨j,hj,rfl⟩:=cj hp
 simpa using h j hj
def bW (l:List aG) (k:af) (e:bG):List aG:=
 (l.filter fun p=>p.key.lt k)++(match e.apply (bz l k)with|some v=>[⟨k,v⟩]|none=>[])++(l.filter fun p=>k.lt p.key)
def takeN (l:List aG) (m:aD):List aG:=if m.kind=4 then l.filter fun p=> !m.span.has p.key else bW l m.key (m.on m.key)
def cq (l:List aG) (ms:List aD):List aG:=ms.foldl takeN l
def fe (l:List aG) (s:Span) (aCF:Int):List aG:=(l.filter fun p=>s.has p.key).take aCF.toNat
theorem afI(l:List aG)(k:af)(e:bG)(k':af):bz (bW l k e) k'=if k'=k then e.apply (bz l k)else bz l k':=by
 unfold bW
 rw [mV,mV,pf (fun x=>x.lt k),pf (fun x=>k.lt x)]
 by_cases h:k'=k
 ·subst h
  simp only [af.lt_irrefl,if_true]
  cases e.apply (bz l k')with
  |none=>simp [bz]
  |some v=>simp [fM]
 ·rw [if_neg h]
  have hm:bz (match e.apply (bz l k)with|some v=>[⟨k,v⟩]|none=>[]) k'=none:=by
   cases e.apply (bz l k)with
   |none=>rfl
   |some v=>simp only [fM];rw [if_neg (fun x=>h x.symm)];rfl
  rw [hm]
  cases h1:k'.lt k
  ·cases h2:k.lt k'
   ·exact absurd (af.iw h1 h2) h
   ·simp
  ·rw [af.lt_asymm h1];simp
variable {x:af}
theorem aq0(hk:k.b.size<140737488355328):x.lt k.next=true↔k.lt x=false:=by
 have e:k.next.b.toList=k.b.toList++[0]:=by
  rw [af.N6 hk,ByteArray.toList_eq,ByteArray.toList_eq,wP]
 show Op.bytesLess x.b.toList k.next.b.toList=true↔Op.bytesLess k.b.toList x.b.toList=false
 rw [e]
 generalize k.b.toList=a
 generalize x.b.toList=b
 clear e hk
 induction a generalizing b with
 |nil=>
  cases b with
  |nil=>simp [Op.bytesLess]
  |cons y b=>
   simp only [iU,Op.bytesLess,kU,cm,fJ,Hm,Bool.true_eq_false,iff_false]
   rintro(h|⟨_,h⟩)
   ·exact absurd h (by simp)
   ·cases b<;>simp [Op.bytesLess]at h
 |cons z a ih=>
  cases b with
  |nil=>simp [Op.bytesLess]
  |cons y b=>
   simp only [pC,Op.bytesLess,kU,cm,fJ,Hm,rM,wj,lR,WL,ih]
   constructor
   ·rintro(h|⟨rfl,h⟩)
    ·exact⟨Hp.2 (UInt8.le_of_lt h),.inl (fun e=>by subst e;exact absurd h (NH _))⟩
    ·exact⟨NH _,.inr h⟩
   ·rintro⟨h1,h2⟩
    rcases h2 with h2|h2
    ·exact .inl (UInt8.lt_of_le_of_ne (Hp.1 h1) (fun e=>h2 e.symm))
    ·by_cases e:y=z
     ·exact .inr ⟨e,h2⟩
     ·exact .inl (UInt8.lt_of_le_of_ne (Hp.1 h1) e)
theorem mW(hk:k.b.size<140737488355328):(Span.has ⟨k,k.next,false⟩ x)=decide (x=k):=by
 rw [eZ]
 simp only [Span.has,uy,cm,kV,fJ]
 rw [aq0 hk]
 constructor
 ·rintro⟨h1,h2⟩;exact af.iw h1 h2
 ·rintro rfl;exact⟨af.lt_irrefl _,af.lt_irrefl _⟩
theorem PT(hk:m.key.b.size<140737488355328)(h1:1≤m.kind)(h4:m.kind≤4)(k:af):bz (takeN l m) k=(m.on k).apply (bz l k):=by
 unfold takeN
 by_cases h:m.kind=4
 ·rw [if_pos h,pf (fun x=> !m.span.has x)]
  unfold aD.on
  cases hs:m.span.has k
  ·simp [bG.L6]
  ·simp [h,bG.apply]
 ·rw [if_neg h,afI]
  have lW:∀x,m.span.has x=decide (x=m.key):=fun x=>by rw [aD.span,if_neg h];exact mW hk
  by_cases e:k=m.key
  ·subst e;simp
  ·rw [if_neg e,aD.on,lW k]
   simp [e,bG.L6]
theorem afJ:∀ {ms:List aD} {l:List aG},(∀m∈ms,m.key.b.size<140737488355328∧1≤m.kind∧m.kind≤4)→bz (cq l ms) k=(ln ms k).apply (bz l k):=by
 intro ms
 suffices ∀l:List aG,(∀m∈ms,m.key.b.size<140737488355328∧1≤m.kind∧m.kind≤4)→bz (cq l ms) k=ms.foldl (fun o m=>(m.on k).apply o) (bz l k)from
  fun {l} h=>by rw [CX];exact this l h
 induction ms with
 |nil=>intro l _;rfl
 |cons m ms ih=>
  intro l h
  obtain⟨h1,h2,h3⟩:=h m (by simp)
  rw [cq,wm,wm,←PT h1 h2 h3]
  exact ih _ (fun m hm=>h m (by simp [hm]))
def gW (l:List aG):Prop:=l.Pairwise fun a b=>a.key.lt b.key=true
theorem gW.lt(h:gW l){j:Nat}(tS:i<j)(hj:j<l.length):(l[i]'aa).key.lt l[j].key=true:=
 wk.1 h i j aa hj tS
theorem gW.aq1(h:∀i (h:i<l.length),0<i→(l[i-1]'aa).key.lt l[i].key=true):gW l:=by
 refine wk.2 fun i j hi hj tS=> ?_
 induction j with
 |zero=>omega
 |succ j ih=>
  have h1:=h (j+1) hj aa
  simp only [Nat.add_sub_cancel]at h1
  by_cases e:i=j
  ·subst e;exact h1
  ·exact af.lt_trans (ih aa aa) h1
def Fits (p:aG):Prop:=p.key.b.size≤16∧p.val.b.size≤16
theorem dr:bc l↔(∀p∈l,Fits p)∧gW l:=by
 constructor
 ·intro h
  refine⟨fun p hp=> ?_,gW.aq1 fun i hi h0=>(h i hi).2 h0⟩
  obtain⟨i,hi,rfl⟩:=cj hp
  exact(h i hi).1
 ·rintro⟨h1,h2⟩ i hi
  exact⟨h1 _ (bN hi),fun h0=>h2.lt aa hi⟩
def eW (l:List aG) (k:af):Nat:=(l.filter fun p=>p.key.lt k).length
theorem zy(l:List aG)(k:af):eW l k≤l.length:=fy _ _
theorem PU(hi:i≤l.length)(h1:∀j (h:j<l.length),j<i→l[j].key.lt k=true)(h2:∀j (h:j<l.length),i≤j→l[j].key.lt k=false):
  (l.filter fun p=>p.key.lt k)=l.take i:=by
 have e:l=l.take i++l.drop i:=(fo i l).symm
 rw [show(l.filter fun p=>p.key.lt k)=(l.take i++l.drop i).filter (fun p=>p.key.lt k)from by rw [←e],gv]
 have f1:(l.take i).filter (fun p=>p.key.lt k)=l.take i:=by
  rw [rF]
  intro a ha
  obtain⟨j,hj,rfl⟩:=cj ha
  simp only [bV]at hj
  rw [nL,h1 j aa aa]
 have f2:(l.drop i).filter (fun p=>p.key.lt k)=[]:=by
  rw [rG]
  intro a ha
  obtain⟨j,hj,rfl⟩:=cj ha
  simp only [cv]at hj
  rw [pB,h2 (i+j) aa aa];simp
 rw [f1,f2,cx]
theorem HU(hi:i≤l.length)(h1:∀j (h:j<l.length),j<i→l[j].key.lt k=true)(h2:∀j (h:j<l.length),i≤j→l[j].key.lt k=false):eW l k=i:=by
 unfold eW;rw [PU hi h1 h2];simp [hi]
theorem gW.below(hr:gW l){m:Nat}(hm:m<l.length)(h:l[m].key.lt k=true)(q:Nat)(hq:q<l.length)(hqm:q<m+1):l[q].key.lt k=true:=by
 by_cases e:q=m
 ·subst e;exact h
 ·exact af.lt_trans (hr.lt aa hm) h
theorem gW.afs(hr:gW l){m:Nat}(hm:m<l.length)(h:l[m].key.lt k=false)(q:Nat)(hq:q<l.length)(hqm:m≤q):l[q].key.lt k=false:=by
 by_cases e:q=m
 ·subst e;exact h
 ·cases h1:l[q].key.lt k
  ·rfl
  ·rw [af.lt_trans (hr.lt aa hq) h1]at h;cases h
theorem gW.fnd(hr:gW l)(k:af):(∀j (h:j<l.length),j<eW l k→l[j].key.lt k=true)∧(∀j (h:j<l.length),eW l k≤j→l[j].key.lt k=false):=by
 suffices ∃i,i≤l.length∧(∀j (h:j<l.length),j<i→l[j].key.lt k=true)∧(∀j (h:j<l.length),i≤j→l[j].key.lt k=false)by
  obtain⟨i,h0,h1,h2⟩:=this
  rw [HU h0 h1 h2];exact⟨h1,h2⟩
 induction l with
 |nil=>exact⟨0,by simp,fun j h=>by simp at h,fun j h=>by simp at h⟩
 |cons p l ih=>
  have AQ:gW l:=(rN.1 hr).2
  cases hp:p.key.lt k
  ·exact⟨0,by simp,fun j _ h=>by omega,fun j h _=>hr.afs (m:=0) (by simp) (by simpa using hp) j h aa⟩
  ·obtain⟨i,h0,h1,h2⟩:=ih AQ
   refine⟨i+1,by simp;omega,fun j h hj=> ?_,fun j h hj=> ?_⟩
   ·cases j with
    |zero=>simpa using hp
    |succ j=>simpa using h1 j (by simpa using h) aa
   ·cases j with
    |zero=>omega
    |succ j=>simpa using h2 j (by simpa using h) aa
theorem gW.get(hr:gW l)(hi:i<l.length):bz l l[i].key=some l[i].val:=
 aqZ hi fun j hj wC e=>by have:=hr.lt wC hi;rw [e,af.lt_irrefl]at this;cases this
theorem gW.has(hr:gW l)(k:af):(bz l k).isSome=decide (∃h:eW l k<l.length,l[eW l k].key=k):=by
 rw [eZ,ia]
 constructor
 ·intro h
  have hf:=hr.fnd k
  have hex:∃j,∃hj:j<l.length,l[j].key=k:=by
   refine Decidable.byContradiction fun hc=> ?_
   rw [aaY (fun j hj e=>hc ⟨j,hj,e⟩)]at h
   cases h
  obtain⟨j,hj,e⟩:=hex
  have h1:eW l k≤j:=by
   rcases rO j (eW l k)with h2|h2
   ·have:=hf.1 j hj h2;rw [e,af.lt_irrefl]at this;cases this
   ·exact h2
  by_cases h3:eW l k=j
  ·exact⟨aa,by simp only [h3];exact e⟩
  ·have h4:=hr.lt (i:=eW l k) (j:=j) aa hj
   rw [e,hf.2 _ aa (bZ _)]at h4;cases h4
 ·rintro⟨h,e⟩
  have:=hr.get h
  rw [e]at this
  rw [this];rfl
theorem gW.val(hr:gW l)(h:eW l k<l.length)(e:l[eW l k].key=k):bz l k=some l[eW l k].val:=by
 have:=hr.get h;rwa [e]at this
theorem gW.front(hr:gW l)(k:af):(l.filter fun p=>p.key.lt k)=l.take (eW l k):=PU (zy l k) (hr.fnd k).1 (hr.fnd k).2
theorem gW.back(hr:gW l)(hi:i≤l.length)(h1:∀j (h:j<l.length),j<i→k.lt l[j].key=false)(h2:∀j (h:j<l.length),i≤j→k.lt l[j].key=true):(l.filter fun p=>k.lt p.key)=l.drop i:=by
 have e:l=l.take i++l.drop i:=(fo i l).symm
 rw [show(l.filter fun p=>k.lt p.key)=(l.take i++l.drop i).filter (fun p=>k.lt p.key)from by rw [←e],gv]
 have f1:(l.take i).filter (fun p=>k.lt p.key)=[]:=by
  rw [rG]
  intro a ha
  obtain⟨j,hj,rfl⟩:=cj ha
  simp only [bV]at hj
  rw [nL,h1 j aa aa];simp
 have f2:(l.drop i).filter (fun p=>k.lt p.key)=l.drop i:=by
  rw [rF]
  intro a ha
  obtain⟨j,hj,rfl⟩:=cj ha
  simp only [cv]at hj
  rw [pB,h2 (i+j) aa aa]
 rw [f1,f2,iU]
theorem gW.xk(hr:gW l)(h:(bz l k).isSome=false):(l.filter fun p=>k.lt p.key)=l.drop (eW l k):=by
 rw [hr.has k]at h
 have h:=Au h
 have hf:=hr.fnd k
 refine hr.back (zy l k) (fun j hj wC=>af.lt_asymm (hf.1 j hj wC)) (fun j hj tS=> ?_)
 cases h1:k.lt l[j].key
 ·have h2:l[j].key=k:=af.iw (hf.2 j hj tS) h1
  by_cases e:j=eW l k
  ·subst e;exact absurd ⟨hj,h2⟩ h
  ·have h3:=hr.lt (i:=eW l k) (j:=j) aa hj
   rw [h2,hf.2 _ aa (bZ _)]at h3;cases h3
 ·rfl
theorem gW.rh(hr:gW l)(hi:eW l k<l.length)(e:l[eW l k].key=k):(l.filter fun p=>k.lt p.key)=l.drop (eW l k+1):=by
 have hf:=hr.fnd k
 refine hr.back aa (fun j hj wC=> ?_) (fun j hj tS=> ?_)
 ·by_cases e2:j=eW l k
  ·subst e2;rw [e];exact af.lt_irrefl _
  ·exact af.lt_asymm (hf.1 j hj aa)
 ·have h3:=hr.lt (i:=eW l k) (j:=j) aa hj
  rwa [e]at h3
variable {e:bG} {v:af}
theorem amd(hr:gW l)(hi:eW l k<l.length)(hk:l[eW l k].key=k)(hv:e.apply (bz l k)=some v):l.set (eW l k) ⟨l[eW l k].key,v⟩=bW l k e:=by
 unfold bW
 rw [hv,hr.front,hr.rh hi hk,NJ,if_pos hi,hk]
 simp
theorem amf(hr:gW l)(hn:(bz l k).isSome=false)(hv:e.apply (bz l k)=some v):l.take (eW l k)++[⟨k,v⟩]++l.drop (eW l k)=bW l k e:=by
 unfold bW
 rw [hv,hr.front,hr.xk hn]
theorem ame(hr:gW l)(hi:eW l k<l.length)(hk:l[eW l k].key=k)(hv:e.apply (bz l k)=none):l.take (eW l k)++l.drop (eW l k+1)=bW l k e:=by
 unfold bW
 rw [hv,hr.front,hr.rh hi hk];simp
theorem amg(hr:gW l)(hn:(bz l k).isSome=false)(hv:e.apply (bz l k)=none):l=bW l k e:=by
 unfold bW
 rw [hv,hr.front,hr.xk hn];simp
theorem gW.filter{l:List aG}(h:gW l)(p:aG→Bool):gW (l.filter p):=List.Pairwise.filter p h
theorem gW.with{l:List aG}(h:gW l)(k:af)(e:bG):gW (bW l k e):=by
 unfold bW gW
 have ha:∀a∈l.filter (fun p=>p.key.lt k),a.key.lt k=true:=fun a ha=>(eO.1 ha).2
 have hb:∀b∈l.filter (fun p=>k.lt p.key),k.lt b.key=true:=fun b hb=>(eO.1 hb).2
 have hm:∀m∈(match e.apply (bz l k)with|some v=>[(⟨k,v⟩:aG)]|none=>[]),m.key=k:=fun m hm=>by
  cases h1:e.apply (bz l k)with
  |none=>rw [h1]at hm;cases hm
  |some v=>rw [h1]at hm;simp only [gh]at hm;rw [hm]
 refine wo.2 ⟨wo.2 ⟨h.filter _,?_,fun a h1 m h2=>by rw [hm m h2];exact ha a h1⟩,h.filter _,fun a h1 b h2=> ?_⟩
 ·cases e.apply (bz l k)<;>simp
 ·rcases cP.1 h1 with h1|h1
  ·exact af.lt_trans (ha a h1) (hb b h2)
  ·rw [hm a h1];exact hb b h2
theorem Up(h:bz l k=some v):⟨k,v⟩∈l:=by
 unfold bz at h
 obtain⟨p,hp,e⟩:=qF.1 h
 have h1:=List.mem_of_find?_eq_some hp
 have h2:=List.find?_some hp
 have h3:p.key=k:=jW h2
 subst h3;subst e;exact h1
theorem afK(h:∀p∈l,Fits p)(hk:k.b.size≤16)(he:e.val.b.size≤16):∀p∈bW l k e,Fits p:=by
 intro p hp
 unfold bW at hp
 rcases cP.1 hp with hp|hp
 ·rcases cP.1 hp with hp|hp
  ·exact h p (eO.1 hp).1
  ·cases hv:e.apply (bz l k)with
   |none=>rw [hv]at hp;cases hp
   |some v=>
    rw [hv]at hp
    simp only [gh]at hp
    subst hp
    refine⟨hk,?_⟩
    show v.b.size≤16
    unfold bG.apply at hv
    split at hv
    ·cases hv;exact he
    ·split at hv
     ·cases hv
     ·split at hv
      ·cases hv;exact af.Uo _ _
      ·exact(h _ (Up hv)).2
 ·exact h p (eO.1 hp).1
theorem Ep(k:af)(h:m.val.b.size≤16):(m.on k).val.b.size≤16:=by
 unfold aD.on
 split
 ·show(ByteArray.mk #[]).size≤16;decide
 ·split
  ·show(ByteArray.mk #[]).size≤16;decide
  ·exact h
theorem bc.with{l:List aG}{k:af}{e:bG}(h:bc l)(hk:k.b.size≤16)(he:e.val.b.size≤16):bc (bW l k e):=by
 obtain⟨h1,h2⟩:=dr.1 h
 exact dr.2 ⟨afK h1 hk he,h2.with k e⟩
theorem bc.filter{l:List aG}(h:bc l)(p:aG→Bool):bc (l.filter p):=by
 obtain⟨h1,h2⟩:=dr.1 h
 exact dr.2 ⟨fun a ha=>h1 a (eO.1 ha).1,h2.filter p⟩
theorem bc.KA(h:bc l)(hk:m.key.b.size≤16)(he:m.val.b.size≤16):bc (takeN l m):=by
 unfold takeN
 split
 ·exact h.filter _
 ·exact h.with hk (Ep _ he)
variable {ms:List aD}
theorem bc.fold:∀ {l:List aG},bc l→(∀m∈ms,m.key.b.size≤16∧m.val.b.size≤16)→bc (cq l ms):=by
 induction ms with
 |nil=>exact fun h _=>h
 |cons m ms ih=>exact fun h hm=>ih (h.KA (hm m (by simp)).1 (hm m (by simp)).2) (fun m h=>hm m (by simp [h]))
theorem bc.o8(h:bc l):gW l:=(dr.1 h).2
theorem gW.wQ(hr:gW l)(k:af)(e:bG):(bW l k e).length≤l.length+1:=by
 unfold bW
 rw [hr.front]
 cases h:(bz l k).isSome
 ·rw [hr.xk h]
  cases e.apply (bz l k)<;>simp<;>omega
 ·rw [hr.has k]at h
  obtain⟨h1,h2⟩:=jW h
  rw [hr.rh h1 h2]
  cases e.apply (bz l k)<;>simp<;>omega
theorem bc.wR(h:bc l)(m:aD):(takeN l m).length≤l.length+1:=by
 unfold takeN
 split
 ·have:=fy (fun p:aG=> !m.span.has p.key) l;omega
 ·exact h.o8.wQ _ _
theorem N8{p:α→Bool}{l:List α}(hi:i<l.length)(h:p l[i]=true):(l.take (i+1)).filter p=(l.take i).filter p++[l[i]]:=by
 rw [iA hi,gv];simp [h]
theorem HW{p:α→Bool}{l:List α}(hi:i<l.length)(h:p l[i]=false):(l.take (i+1)).filter p=(l.take i).filter p:=by
 rw [iA hi,gv];simp [h]
theorem aqm(p:α→Bool)(l:List α)(i:Nat):((l.take i).filter p).length≤l.length:=by
 have:=fy p (l.take i);rw [bV]at this;omega
def vZ (o:Option af) (k:af):List aG:=match o with|some v=>[⟨k,v⟩]|none=>[]
theorem aq2(o:Option af)(k:af):(vZ o k).length≤1:=by cases o<;>simp [vZ]
theorem afL{o:Option af}(h:o.isSome=true):vZ o k=[⟨k,o.getD af.nil⟩]:=by cases o<;>simp_all [vZ]
theorem j3(l:List aG)(k:af)(e:bG):bW l k e=(l.filter fun p=>p.key.lt k)++vZ (e.apply (bz l k)) k++(l.filter fun p=>k.lt p.key):=by
 unfold bW vZ;cases e.apply (bz l k)<;>rfl
theorem Uq(o:Option af):kG o.isSome (o.getD af.nil)=o:=by cases o<;>rfl
theorem CG{k:Nat}(h:k<ms.length):cq l (ms.take (k+1))=takeN (cq l (ms.take k)) ms[k]:=by
 rw [iA h,cq,Eh];rfl
theorem bc.val(h:bc l)(k:af):((bz l k).getD af.nil).b.size≤16:=by
 cases hg:bz l k with
 |none=>show(ByteArray.mk #[]).size≤_;decide
 |some v=>exact((dr.1 h).1 _ (Up hg)).2
theorem fq.kinds{l:List aD}(h:fq l):∀m∈l,1≤m.kind∧m.kind≤4:=fun m hm=>by
 obtain⟨i,hi,rfl⟩:=cj hm
 have h1:=(h i hi).1
 unfold aD.R at h1
 grind
def zw (a b:af):Int:=if a.lt b=true then-1 else if b.lt a=true then 1 else 0
theorem Kl:zw a b<0↔a.lt b=true:=by
 unfold zw;split
 ·simp_all
 ·split<;>simp_all
theorem afM:zw a b=0↔a=b:=by
 unfold zw;split
 ·rename_i h;simp only [Int.reduceNeg,Int.reduceEq,false_iff];rintro rfl;rw [af.lt_irrefl]at h;cases h
 ·rename_i h;split
  ·rename_i h2;simp only [Int.reduceEq,false_iff];rintro rfl;rw [af.lt_irrefl]at h2;cases h2
  ·rename_i h2;simp only [true_iff];exact af.iw (by simpa using h) (by simpa using h2)
theorem HV:decide (zw a b=0)=decide (a=b):=rL.2 afM
theorem amo{a b:bG}(ha:a.val.b.size≤16)(hb:b.val.b.size≤16):(a.then b).val.b.size≤16:=by
 unfold bG.then
 split
 ·exact ha
 ·split
  ·exact hb
  ·exact af.Uo _ _
theorem Kj(l:List aD)(k:af)(h:∀m∈l,m.val.b.size≤16):(ln l k).val.b.size≤16:=by
 suffices ∀(l:List aD) (e:bG),e.val.b.size≤16→(∀m∈l,m.val.b.size≤16)→(l.foldl (fun e m=>e.then (m.on k)) e).val.b.size≤16 from
  this l _ (by show(ByteArray.mk #[]).size≤16;decide) h
 intro l
 induction l with
 |nil=>exact fun e he _=>he
 |cons m l ih=>exact fun e he h=>ih _ (amo he (Ep k (h m (by simp)))) (fun m h2=>h m (by simp [h2]))
theorem aaw(h:¬zw a b<0):a.lt b=false:=by
 cases h1:a.lt b
 ·rfl
 ·exact absurd (Kl.2 h1) h
end Go.Fw
namespace Go.Fw
section
variable {α:Type} [Inhabited α]
def nth (l:List α) (k:Nat):α:=l.getD k default
variable {k:Nat} {l:List α}
theorem eJ(h:k<l.length):nth l k=l[k]:=by simp [nth,List.getD,eY h]
def iX (l:List α) (i j:Nat):List α:=(l.set i (nth l j)).set j (nth l i)
theorem dV(l:List α)(i j:Nat):(iX l i j).length=l.length:=by simp [iX]
variable {i:Nat}
theorem aaZ{a:α}(h:i<l.length):nth (l.set i a) k=if k=i then a else nth l k:=by
 simp only [nth,List.getD,List.getElem?_set]
 by_cases e:i=k
 ·subst e;simp [h]
 ·rw [if_neg e,if_neg (fun x=>e x.symm)]
variable {j:Nat}
theorem kC(hi:i<l.length)(hj:j<l.length)(k:Nat):nth (iX l i j) k=if k=j then nth l i else if k=i then nth l j else nth l k:=by
 rw [iX,aaZ (by simpa using hj),aaZ hi]
theorem yz(hi:i<l.length)(hj:j<l.length):(iX l i j).Perm l:=by
 have h:=Array.swap_perm (xs:=l.toArray) (i:=i) (j:=j) (by simpa using hi) (by simpa using hj)
 rw [Array.perm_iff_toList_perm]at h
 simpa [iX,eJ hi,eJ hj,Array.swap_def]using h
structure LO (lt:α→α→Bool):Prop where
 asymm:∀ {a b},lt a b=true→lt b a=false
 trans:∀ {a b c},lt b a=false→lt c b=false→lt c a=false
variable {lt:α→α→Bool}
theorem LO.irrefl(h:LO lt)(a:α):lt a a=false:=by
 cases e:lt a a
 ·rfl
 ·exact e.symm.trans (h.asymm e)
def Xx (lt:α→α→Bool) (l:List α) (n s:Nat):Prop:=∀c,0<c→c<n→s≤(c-1) / 2→lt (nth l c) (nth l ((c-1) / 2))=false
abbrev lu (lt:α→α→Bool) (l:List α):Prop:=Xx lt l l.length 0
def Ia (lt:α→α→Bool):Nat→List α→Nat→List α
 |0,l,_=>l
 |f+1,l,j=>if(j-1) / 2=j∨lt (nth l j) (nth l ((j-1) / 2))=false then l else Ia lt f (iX l ((j-1) / 2) j) ((j-1) / 2)
theorem Ur:∀(f:Nat) (l:List α) (j:Nat),j<l.length→(Ia lt f l j).Perm l
 |0,_,_,_=>tJ _
 |f+1,l,j,h=>by
  unfold Ia;split
  ·exact tJ _
  ·exact(Ur f _ _ (by rw [dV];omega)).trans (yz aa h)
def UpI (lt:α→α→Bool) (l:List α) (n j:Nat):Prop:=
 (∀c,0<c→c<n→c≠j→lt (nth l c) (nth l ((c-1) / 2))=false)∧(∀c,0<c→c<n→(c-1) / 2=j→0<j→lt (nth l c) (nth l ((j-1) / 2))=false)
theorem Us(ho:LO lt):∀(f:Nat) (l:List α) (j n:Nat),UpI lt l n j→j<n→n≤l.length→j≤f→Xx lt (Ia lt f l j) n 0
 |0,l,j,n,h,hj,hn,hf=>fun c h0 hc _=>h.1 c h0 hc aa
 |f+1,l,j,n,h,hj,hn,hf=>by
  unfold Ia
  split
  ·rename_i hs
   intro c h0 hc _
   by_cases e:c=j
   ·subst e
    rcases hs with hs|hs
    ·omega
    ·exact hs
   ·exact h.1 c h0 hc e
  ·rename_i hs
   have FZ:¬(j-1) / 2=j:=fun x=>hs (.inl x)
   have si:lt (nth l j) (nth l ((j-1) / 2))=true:=by cases e:lt (nth l j) (nth l ((j-1) / 2))with|false=>exact absurd (.inr e) hs|true=>rfl
   have Xy:0<j:=aa
   have hp:(j-1) / 2<j:=aa
   refine Us ho f _ _ n ⟨fun c h0 hc ig=> ?_,fun c h0 hc hpc hp0=> ?_⟩ aa (by rw [dV];exact hn) aa
   ·rw [kC aa aa,kC aa aa]
    by_cases e:c=j
    ·subst e
     rw [if_pos rfl,if_neg aa,if_pos rfl]
     exact ho.asymm si
    ·rw [if_neg e,if_neg ig]
     by_cases e1:(c-1) / 2=j
     ·rw [if_pos e1];exact h.2 c h0 hc e1 Xy
     ·rw [if_neg e1]
      by_cases e2:(c-1) / 2=(j-1) / 2
      ·rw [if_pos e2]
       have:=h.1 c h0 hc e
       rw [e2]at this
       exact ho.trans (ho.asymm si) this
      ·rw [if_neg e2];exact h.1 c h0 hc e
   ·have hg:=h.1 ((j-1) / 2) hp0 aa aa
    rw [kC aa aa,kC aa aa]
    rw [if_neg (by omega:¬((j-1) / 2-1) / 2=j),if_neg (by omega:¬((j-1) / 2-1) / 2=(j-1) / 2)]
    by_cases e:c=j
    ·rw [if_pos e];exact hg
    ·rw [if_neg e,if_neg aa]
     have:=h.1 c h0 hc e
     rw [hpc]at this
     exact ho.trans hg this
def mD (lt:α→α→Bool) (l:List α) (i n:Nat):Nat:=if 2*i+2<n∧lt (nth l (2*i+2)) (nth l (2*i+1))=true then 2*i+2 else 2*i+1
def iE (lt:α→α→Bool):Nat→List α→Nat→Nat→List α
 |0,l,_,_=>l
 |f+1,l,i,n=>if n≤2*i+1 then l else if lt (nth l (mD lt l i n)) (nth l i)=false then l else iE lt f (iX l i (mD lt l i n)) (mD lt l i n) n
theorem CH{n:Nat}(h:¬n≤2*i+1):mD lt l i n<n∧i<mD lt l i n∧(mD lt l i n-1) / 2=i∧mD lt l i n≤2*i+2∧2*i+1≤mD lt l i n:=by
 unfold mD;split<;>omega
theorem uD:∀(f:Nat) (l:List α) (i n:Nat),(iE lt f l i n).length=l.length
 |0,_,_,_=>rfl
 |f+1,l,i,n=>by
  unfold iE;split
  ·rfl
  ·split
   ·rfl
   ·rw [uD f,dV]
theorem L7:∀(f:Nat) (l:List α) (i n:Nat),n≤l.length→(iE lt f l i n).Perm l
 |0,_,_,_,_=>tJ _
 |f+1,l,i,n,h=>by
  unfold iE;split
  ·exact tJ _
  ·rename_i h1
   split
   ·exact tJ _
   ·have:=CH (lt:=lt) (l:=l) h1
    exact(L7 f _ _ n (by rw [dV];exact h)).trans (yz aa aa)
theorem AS:∀(f:Nat) (l:List α) (i n k:Nat),n≤l.length→n≤k→nth (iE lt f l i n) k=nth l k
 |0,_,_,_,_,_,_=>rfl
 |f+1,l,i,n,k,h,hk=>by
  unfold iE;split
  ·rfl
  ·rename_i h1
   split
   ·rfl
   ·have:=CH (lt:=lt) (l:=l) h1
    rw [AS f _ _ n k (by rw [dV];exact h) hk,kC aa aa,if_neg aa,if_neg aa]
def aCG (lt:α→α→Bool) (l:List α) (n s i:Nat):Prop:=
 (∀c,0<c→c<n→s≤(c-1) / 2→(c-1) / 2≠i→lt (nth l c) (nth l ((c-1) / 2))=false)∧(∀c,0<c→c<n→(c-1) / 2=i→0<i→s≤(i-1) / 2→lt (nth l c) (nth l ((i-1) / 2))=false)
theorem L8(ho:LO lt):∀(f:Nat) (l:List α) (i n s:Nat),aCG lt l n s i→s≤i→n≤l.length→n≤i+f→Xx lt (iE lt f l i n) n s
 |0,l,i,n,s,h,hs,hn,hf=>fun c h0 hc h1=>h.1 c h0 hc h1 aa
 |f+1,l,i,n,s,h,hs,hn,hf=>by
  unfold iE
  split
  ·exact fun c h0 hc h1=>h.1 c h0 hc h1 aa
  ·rename_i h1
   obtain⟨k1,k2,k3,k4,k5⟩:=CH (lt:=lt) (l:=l) h1
   have hk:∀c,0<c→c<n→(c-1) / 2=i→lt (nth l c) (nth l (mD lt l i n))=false:=fun c h0 hc hp=>by
    have Im:c=2*i+1∨c=2*i+2:=aa
    unfold mD
    by_cases hb:2*i+2<n∧lt (nth l (2*i+2)) (nth l (2*i+1))=true
    ·rw [if_pos hb]
     rcases Im with rfl|rfl
     ·exact ho.asymm hb.2
     ·exact ho.irrefl _
    ·rw [if_neg hb]
     rcases Im with rfl|rfl
     ·exact ho.irrefl _
     ·cases e:lt (nth l (2*i+2)) (nth l (2*i+1))with
      |false=>rfl
      |true=>exact absurd ⟨hc,e⟩ hb
   split
   ·rename_i h2
    intro c h0 hc h3
    by_cases e:(c-1) / 2=i
    ·rw [e];exact ho.trans h2 (hk c h0 hc e)
    ·exact h.1 c h0 hc h3 e
   ·rename_i h2
    have h2:lt (nth l (mD lt l i n)) (nth l i)=true:=by cases e:lt (nth l (mD lt l i n)) (nth l i)with|false=>exact absurd e h2|true=>rfl
    generalize hj:mD lt l i n=j at*
    refine L8 ho f _ j n s ⟨fun c h0 hc h3 h4=> ?_,fun c h0 hc hp Xy h3=> ?_⟩ aa (by rw [dV];exact hn) aa
    ·rw [kC aa aa,kC aa aa,if_neg h4]
     by_cases e:(c-1) / 2=i
     ·rw [if_pos e]
      by_cases e2:c=j
      ·rw [if_pos e2];exact ho.asymm h2
      ·rw [if_neg e2,if_neg aa];exact hk c h0 hc e
     ·rw [if_neg e]
      have hcj:c≠j:=fun x=>e (by rw [x];exact k3)
      rw [if_neg hcj]
      by_cases e3:c=i
      ·rw [if_pos e3]
       subst e3
       exact h.2 j aa k1 k3 h0 h3
      ·rw [if_neg e3];exact h.1 c h0 hc h3 e
    ·rw [kC aa aa,kC aa aa,if_neg aa,if_neg aa,k3,if_neg aa,if_pos rfl]
     have:=h.1 c h0 hc aa aa
     rwa [hp]at this
theorem KB(ho:LO lt){l:List α}{n:Nat}(h:Xx lt l n 0):∀(c:Nat),c<n→lt (nth l c) (nth l 0)=false
 |0,_=>ho.irrefl _
 |c+1,hc=>by
  have h1:=h (c+1) aa hc aa
  have h2:=KB ho h ((c+1-1) / 2) aa
  exact ho.trans h2 h1
termination_by c=>c
def qM (lt:α→α→Bool) (l:List α) (x:α):List α:=Ia lt l.length (l++[x]) l.length
def oE (lt:α→α→Bool) (l:List α):List α:=(iE lt l.length (iX l 0 (l.length-1)) 0 (l.length-1)).take (l.length-1)
theorem Fp{m:List α}(h:k<l.length):nth (l++m) k=nth l k:=by simp [nth,List.getD,rH h]
theorem Ut{n:Nat}(h:k<n):nth (l.take n) k=nth l k:=by simp [nth,List.getD,mF,h]
theorem AT(ho:LO lt)(h:lu lt l)(x:α):lu lt (qM lt l x)∧(qM lt l x).Perm (x::l):=by
 have hp:(qM lt l x).Perm (l++[x]):=Ur _ _ _ (by simp)
 refine⟨?_,hp.trans (yl _ _)⟩
 have hl:(qM lt l x).length=l.length+1:=by rw [hp.length_eq];simp
 unfold lu
 rw [hl]
 refine Us ho _ _ _ _ ⟨fun c h0 hc ig=> ?_,fun c h0 hc hp hj=>by omega⟩ aa (by simp) (bZ _)
 rw [Fp aa,Fp aa]
 exact h c h0 aa aa
theorem Et(ho:LO lt)(h:lu lt l)(hl:0<l.length):lu lt (oE lt l)∧(nth l 0::oE lt l).Perm l∧(oE lt l).length=l.length-1:=by
 have hd:(iE lt l.length (iX l 0 (l.length-1)) 0 (l.length-1)).length=l.length:=by rw [uD,dV]
 have hlen:(oE lt l).length=l.length-1:=by unfold oE;rw [bV,hd];omega
 refine⟨?_,?_,hlen⟩
 ·unfold lu
  rw [hlen]
  intro c h0 hc h1
  unfold oE
  rw [Ut hc,Ut aa]
  refine L8 ho l.length _ 0 (l.length-1) 0 ⟨fun c h0 hc _ ig=> ?_,fun c _ _ _ h0=>by omega⟩ (bZ _) (by rw [dV];omega) aa c h0 hc h1
  rw [kC aa aa,kC aa aa,if_neg aa,if_neg aa,if_neg aa,if_neg ig]
  exact h c h0 aa aa
 ·have hp:(iE lt l.length (iX l 0 (l.length-1)) 0 (l.length-1)).Perm l:=
   (L7 _ _ _ _ (by rw [dV];omega)).trans (yz aa aa)
  have CQ:nth (iE lt l.length (iX l 0 (l.length-1)) 0 (l.length-1)) (l.length-1)=nth l 0:=by
   rw [AS _ _ _ _ _ (by rw [dV];omega) (bZ _),kC aa aa,if_pos rfl]
  refine List.Perm.trans ?_ hp
  generalize hm:iE lt l.length (iX l 0 (l.length-1)) 0 (l.length-1)=m at*
  have e:m=m.take (l.length-1)++[nth l 0]:=by
   conv=>lhs;rw [←fo (l.length-1) m]
   congr 1
   rw [iW aa,yj aa,←CQ,eJ aa]
  unfold oE
  rw [hm]
  conv=>rhs;rw [e]
  exact(yl _ _).symm
end
end Go.Fw
namespace Go.Fw
open Go Go.RowKit
def oH:fB Span where
 k:=3
 w:=40
 R:=fun _ cs s=>cs=[.string s.lo.b,.string s.hi.b,.bool s.bQ]
 mono:=fun _ h=>h
 len:=fun h=>by rw [h];rfl
 one:=fun h u hu=>by rw [h]at hu;simp at hu;rcases hu with rfl|rfl|rfl<;>rfl
def aG2:fB bG where
 k:=2
 w:=24
 R:=fun _ cs e=>cs=[.int .i64 e.kind,.string e.val.b]∧i64 e.kind
 mono:=fun _ h=>h
 len:=fun h=>by rw [h.1];rfl
 one:=fun h u hu=>by rw [h.1]at hu;simp at hu;rcases hu with rfl|rfl<;>rfl
end Go.Fw
