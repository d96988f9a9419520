/- Operations, answers, and rows of two maps side by side, as plain functions, with how they lie in memory. Plain Lean; nothing of the program is named here. No condition. -/
import Derived.Test.YtfhnamngaofccaaGreatQiOn
set_option linter.unusedVariables false
set_option linter.unusedSimpArgs false
set_option linter.unnecessarySimpa false
set_option maxRecDepth 100000
set_option maxHeartbeats 1600000

namespace Go.Fw
open Go Go.RowKit
structure Hr where
 kind:Int
 key:ah
 hi:ah
 bT:Bool
 val:ah
 lim:Int
 deriving DecidableEq
instance : Inhabited Hr := ⟨⟨0, ah.nil, ah.nil, false, ah.nil, 0⟩⟩
def Hr.Ok (o:Hr):Prop:=i64 o.kind∧i64 o.lim
def eOp:dV Hr where
 k:=6
 w:=72
 R:=fun _ cs o=>cs=[.int .i64 o.kind,.string o.key.b,.string o.hi.b,.bool o.bT,.string o.val.b,.int .i64 o.lim]∧o.Ok
 mono:=fun _ h=>h
 len:=fun h=>by rw [h.1];rfl
 one:=fun h u hu=>by rw [h.1]at hu;simp at hu;rcases hu with rfl|rfl|rfl|rfl|rfl|rfl<;>rfl
instance : SS eOp (fun o => [.int .i64 o.kind, .string o.key.b, .string o.hi.b, .bool o.bT, .string o.val.b, .int .i64 o.lim]) Hr.Ok := ⟨fun _ _ _ h => h⟩
def Hr.span (o:Hr):Span:=if o.kind=4∨o.kind=6 then⟨o.key,o.hi,o.bT⟩else⟨o.key,o.key.next,false⟩
def Hr.R (o:Hr):Prop:=(1≤o.kind∧o.kind≤6∧o.key.b.size≤16∧o.hi.b.size≤16∧o.val.b.size≤16)∧
 (2<o.kind→o.val=ah.nil)∧(o.kind≠6→o.lim=0)∧(o.kind=6→1≤o.lim∧o.lim≤64)∧
 if o.kind=4∨o.kind=6 then o.span.empty=false∧(o.bT=false∨o.hi=ah.nil)else o.hi=ah.nil∧o.bT=false
instance (o : Hr) : Decidable o.R := by unfold Hr.R; infer_instance
structure Ans where
 err:Int
 has:Bool
 val:ah
 rows:List bp
 deriving DecidableEq
instance : Inhabited Ans := ⟨⟨0, false, ah.nil, []⟩⟩
structure aGP where
 key:ah
 a:ah
 b:ah
 inA:Bool
 inB:Bool
 deriving DecidableEq
instance : Inhabited aGP := ⟨⟨ah.nil, ah.nil, ah.nil, false, false⟩⟩
def BT:Nat→Type
 |0=>Int×List bp
 |k+1=>Int×List ah×List (BT k)
def mkL (s:Int) (r:List bp):BT 0:=(s,r)
def mkN {k:Nat} (s:Int) (p:List ah) (c:List (BT k)):BT (k+1):=(s,p,c)
instance : (k : Nat) → Inhabited (BT k)
 |0=>⟨mkL 0 []⟩
 |k+1=>⟨mkN 0 [] []⟩
section
variable {bu leaf:Int} {k:Nat} {lo hi:Int} {s:Span}
end
section
variable {bu leaf:Int} {key:ah} {e:ct}
theorem ts{α:Type}{d:α}{l:List α}{i:Nat}(h:i<l.length):l.getD i d=l[i]:=by rw [List.getD_eq_getElem?_getD,List.getElem?_eq_getElem h];rfl
end
theorem Hs:∀ {M:MH} {G:GH} {b:Nat} {o:Obj},(∀p∈M,p.1≠b)→lL G M b=G b
 |[],_,_,_,_=>rfl
 |p::M,G,b,o,h=>by
  have h1:¬b=p.1:=fun e=>h p (by simp) e.symm
  show(if b=p.1 then some p.2 else lL G M b)=_
  rw [if_neg h1]
  exact Hs (o:=o) fun q hq=>h q (by simp [hq])
theorem Fm:∀ {M:MH} {G:GH},(M.map (·.1)).Nodup→∀p∈M,lL G M p.1=some p.2
 |q::M,G,hn,p,hp=>by
  rw [List.map_cons,List.nodup_cons]at hn
  show(if p.1=q.1 then some q.2 else lL G M p.1)=_
  rcases List.mem_cons.1 hp with rfl|hp
  ·rw [if_pos rfl]
  ·rw [if_neg fun e:p.1=q.1=>hn.1 (e▸List.mem_map_of_mem (f:=Prod.fst) hp)]
   exact Fm hn.2 p hp
variable {G:GH} {M:MH}
theorem Z7(h:∀p∈M,G p.1=none):Le G (lL G M):=fun b o hb=>by
 rw [Hs (o:=o) fun p hp e=>by rw [←e,h p hp]at hb;cases hb]
 exact hb
theorem AU:∀ {M:MH} {G:GH} {b:Nat} {o:Obj},lL G M b=some o→G b=some o∨∃p∈M,p.1=b∧p.2=o
 |[],_,_,_,h=>.inl h
 |q::M,G,b,o,h=>by
  have h:(if b=q.1 then some q.2 else lL G M b)=some o:=h
  by_cases e:b=q.1
  ·rw [if_pos e]at h;cases h
   exact .inr ⟨q,by simp,e.symm,rfl⟩
  ·rw [if_neg e]at h
   rcases AU h with h|⟨p,hp,h1,h2⟩
   ·exact .inl h
   ·exact .inr ⟨p,by simp [hp],h1,h2⟩
theorem Pw{b:Nat}(h:G b=none)(hb:∀p∈M,p.1≠b):lL G M b=none:=by
 cases hg:lL G M b with
 |none=>rfl
 |some o=>
  rcases AU hg with h2|⟨p,hp,h1,_⟩
  ·rw [h]at h2;cases h2
  ·exact absurd h1 (hb p hp)
theorem Fc.aGQ{P:Program}{g:FuncId}{vs:List Value}{Ml Mp:MH}{Q:Value→MH→Prop}
  (hn:iA P g)(hc:∀G1,Le G G1→(∀p∈Ml,G1 p.1=some p.2)→Fc P g vs G1 Mp (fun v _ M'=>Q v M')):
  Fc P g vs G (Ml++Mp) (fun v _ M'=>∃Mq,M'=Ml++Mq∧Q v Mq):=by
 refine⟨hn,fun w hw=> ?_⟩
 have m3:=hw.nd
 simp only [List.map_append,List.nodup_append]at m3
 obtain⟨n1,n2,n3⟩:=m3
 have hle:Le G (lL G Ml):=Z7 fun p hp=>hw.o9 p (by simp [hp])
 have xu:=Fm (G:=G) n1
 have Z8:Real w (fun b=>b∈Mp.map (·.1)) (lL G Ml) Mp w:=by
  refine⟨rfl,rfl,rfl,Nat.le_refl _,fun _ _ _=>rfl,fun b o hb=> ?_,fun p hp=>hw.mu p (by simp [hp]),fun p hp=> ?_,n2,fun p hp=>.inr (List.mem_map_of_mem hp)⟩
  ·rcases AU hb with h|⟨p,hp,rfl,rfl⟩
   ·exact hw.ro b o h
   ·exact hw.mu p (by simp [hp])
  ·exact Pw (hw.o9 p (by simp [hp])) fun q hq e=>n3 q.1 (List.mem_map_of_mem hq) p.1 (List.mem_map_of_mem hp) e
 refine((hc _ hle xu).2 w Z8).mono ?_
 rintro e w' ⟨v,G',M',rfl,h2,h3,h4,h5⟩
 have gx:∀p∈M',w.heap.size≤p.1∨p.1∈Mp.map (·.1):=h2.lo
 refine⟨v,G,Ml++M',rfl,⟨h2.os,h2.tape,h2.output,h2.size,?_,?_,?_,?_,?_,?_⟩,Le.rfl,fun b h1 h=>absurd h1 h,M',rfl,h5⟩
 ·intro b hb ho
  exact h2.tt b hb fun hm=>ho (by rw [List.map_append];exact List.mem_append_right _ hm)
 ·intro b o hb;exact h2.ro b o (h3 b o (hle b o hb))
 ·intro p hp
  rcases List.mem_append.1 hp with hp|hp
  ·exact h2.ro _ _ (h3 _ _ (xu p hp))
  ·exact h2.mu p hp
 ·intro p hp
  rcases List.mem_append.1 hp with hp|hp
  ·exact hw.o9 p (by simp [hp])
  ·have:=h2.o9 p hp
   cases hg:G p.1 with
   |none=>rfl
   |some o=>rw [h3 _ _ (hle _ _ hg)]at this;cases this
 ·rw [List.map_append,List.nodup_append]
  refine⟨n1,h2.nd,fun a ha b hb e=> ?_⟩
  subst e
  obtain⟨p,hp,rfl⟩:=List.mem_map.1 ha
  obtain⟨q,hq,e⟩:=List.mem_map.1 hb
  have h6:=h2.o9 q hq
  rw [e,h3 _ _ (xu p hp)]at h6;cases h6
 ·intro p hp
  rcases List.mem_append.1 hp with hp|hp
  ·exact .inr (List.mem_map_of_mem (by simp [hp]))
  ·rcases gx p hp with h|h
   ·exact .inl h
   ·right;rw [List.map_append];exact List.mem_append_right _ h
theorem aP.awR{α:Type}{e:dV α}{T:TypeId}{G1:GH}{v:Value}{l:List α}{Ms:MH}(ho:aP e T G v l Ms)(hl:Le G G1)(hm:∀p∈Ms,G1 p.1=some p.2):ax e G1 v l:=by
 obtain⟨css,h1,⟨h2,h3⟩,h4⟩:=ho
 rcases h3 with⟨rfl,hn,rfl⟩|⟨b,cap,cur,rfl,h5,h6,h7,h8,rfl⟩
 ·have:l=[]:=List.eq_nil_of_length_eq_zero hn
  subst this
  exact ax.nil
 ·refine ax.DO (hm (b,.cells cur T (0,0)) (by simp)) (fun i hi=> ?_) (h1.mono hl) rfl h5 h6 h4
  rw [h2]at hi
  rw [←h8,List.getElem?_take,if_pos hi]
  simp
theorem adC{A:MH}(hs:A.Sublist M)(h:∀p∈M,G p.1=some p.2):∀p∈A,G p.1=some p.2:=fun p hp=>h p (hs.subset hp)
section
variable {E:Env} {Q:Exit→Kt} {f:Fr} {G:GH} {M:MH} {ops rest:List Oper} {q:Bool} {K:Kt} {d:Nat} {ty:TypeId} {pos:String} {aft:Array Edge}
theorem W.aj0{g:FuncId}{args:List Operand}{nL:Array TypeId}{vs:List Value}{v:Value}(hc:∀G1,Le G G1→(∀p∈M,G1 p.1=some p.2)→Fc E.P g vs G1 [] (fun v' _ _=>v'=v))(hn:iA E.P g)(ha:args.map (ev f)=vs)
  (k:W E ops.toArray q rest (gw f d v) G M K)(hd:Nat.blt d E.n=true:=by rfl):
  W E ops.toArray q (⟨some d,.call { callee:=.value (.func g),args:=args.toArray,argTypes:=nL },ty,pos,aft,none⟩::rest) f G M K:=by
 have hL:Fc E.P g vs G (M++[]) (fun v' _ M'=>∃Mq,M'=M++Mq∧(v'=v∧Mq=[])):=Fc.aGQ (Q:=fun v' M'=>v'=v∧M'=[]) hn fun G1 h1 h2=>by
  obtain⟨c1,c2⟩:=hc G1 h1 h2
  refine⟨c1,fun w hw=>(c2 w hw).mono ?_⟩
  rintro e w' ⟨v',G',M',a1,a2,a3,a4,a5⟩
  exact⟨v',G',[],a1,a2.sub (List.nil_sublist _),a3,a4,a5,rfl⟩
 rw [List.append_nil]at hL
 have fc:∀w,(execOp (ev f) ⟨some d,.call { callee:=.value (.func g),args:=args.toArray,argTypes:=nL },ty,pos,aft,none⟩).run E.P w=.ok (.enter g vs.toArray) w:=fun w=>by
  simp [execOp,resolve,invoke,ev,Deferred.ofValue,ha,hn _ w]
 have Ht:∀w,E.real G M w→Calls E.P g vs.toArray w fun e w'=>e=.returned v∧E.real G M w':=fun w hr=>by
  have hw:Real w (fun b=>b∈M.map (·.1)) G M w:=⟨rfl,rfl,rfl,Nat.le_refl _,fun _ _ _=>rfl,hr.r.ro,hr.r.mu,hr.r.o9,hr.r.nd,fun p hp=>.inr (List.mem_map_of_mem hp)⟩
  refine(hL.2 w hw).mono ?_
  rintro e w' ⟨v',G',M',rfl,h2,h3,h4,Mq,e5,rfl,rfl⟩
  rw [List.append_nil]at e5;subst e5
  have h5:=Real.call (Mp:=M') (Mr:=[]) (by rw [List.append_nil];exact hr.r) h2 h4
  rw [List.append_nil]at h5
  refine⟨rfl,Env.real.Fo (G':=G') ⟨h5,hr.le.trans h3,?_⟩ h3 hr.le⟩
  intro b hb jr
  cases hg:G b with
  |none=>
   rcases h4 b hg jr with h7|h7
   ·exact .inl (Nat.le_trans hr.r.size h7)
   ·obtain⟨p,hp,e⟩:=List.mem_map.1 h7
    rcases hr.r.lo p hp with h8|h8
    ·exact .inl (e▸h8)
    ·exact .inr (e▸h8)
  |some o=>exact hr.nw b hb (by simp [hg])
 cases q
 ·intro a w Q hi hr hK
  refine wpList_plain rfl fun K' eA=> ?_
  unfold Oper.wp
  rw [hi.eval,fc w]
  refine(Ht w hr).mono ?_
  rintro e w' ⟨rfl,h⟩
  exact eA _ _ (k _ w' Q (hi.put hd v) h hK)
 ·intro a hi
  refine wpQuiet_step fun K' eA=> ?_
  rw [if_pos (by rfl)]
  refine⟨v,fun w hr=> ?_,eA _ (k _ (hi.put hd v))⟩
  unfold Oper.quietAt
  rw [hi.eval,fc w]
  exact⟨rfl,Ht w hr⟩
end
def ePt:dV (Option Nat) where
 k:=1
 w:=8
 R:=fun _ cs o=>cs=[.pointer (o.map fun b=>⟨b,0,none⟩)]
 mono:=fun _ h=>h
 len:=fun h=>by rw [h];rfl
 one:=fun h u hu=>by rw [h]at hu;simp at hu;subst hu;rfl
instance : ZS ePt (fun o => [.pointer (o.map fun b => ⟨b, 0, none⟩)]) := ⟨fun _ _ _ h => h⟩
structure BNd where
 slot:Int
 lvl:Int
 P:List ah
 K:List Int
 R:List bp
section
variable {Tn Ts:TypeId} {cells aOC:List (Option Nat)} {G G':GH}
end
abbrev ew:=List (List Int×Int)
def kf (l:List Int) (k:Int):Nat:=(l.filter fun x=>decide (x<k)).length
def qe (l:List Int):Prop:=l.Pairwise (· < ·)
theorem Tg(l:List Int)(k:Int):kf l k≤l.length:=List.length_filter_le _ _
variable {i:Nat} {l:List Int}
theorem rW{k:Int}(hi:i≤l.length)(h1:∀q (h:q<l.length),q<i→l[q]<k)(h2:∀q (h:q<l.length),i≤q→¬l[q]<k):kf l k=i:=by
 unfold kf
 conv=>lhs;rw [←List.take_append_drop i l]
 rw [List.filter_append,List.filter_eq_self.2 fun x hx=> ?_,List.filter_eq_nil_iff.2 fun x hx=> ?_,List.append_nil,List.length_take]
 ·omega
 ·obtain⟨q,hq,rfl⟩:=List.getElem_of_mem hx
  rw [List.length_drop]at hq
  rw [List.getElem_drop]
  simpa using h2 (i+q) aa aa
 ·obtain⟨q,hq,rfl⟩:=List.getElem_of_mem hx
  rw [List.length_take]at hq
  rw [List.getElem_take]
  simpa using h1 q aa aa
theorem Px(h:qe l){j:Nat}(kn:i<j)(hj:j<l.length):l[i]<l[j]:=List.pairwise_iff_getElem.1 h i j aa hj kn
theorem Z9(h:qe l){k:Int}(hi:i<l.length)(hk:l[i]<k):∀q (h:q<l.length),q<i+1→l[q]<k:=fun q hq hqi=>by
 rcases Nat.lt_or_ge q i with h9|h9
 ·exact Int.lt_trans (Px h h9 hi) hk
 ·have:q=i:=aa
  subst this;exact hk
theorem Hu(h:qe l){k:Int}(hi:i<l.length)(hk:¬l[i]<k):∀q (h:q<l.length),i≤q→¬l[q]<k:=fun q hq hqi=>by
 rcases Nat.lt_or_ge i q with h9|h9
 ·have:=Px h h9 hq;omega
 ·have:q=i:=aa
  subst this;exact hk
theorem Hv{k:Int}(hi:i≤l.length)(h1:∀q (h:q<l.length),q<i→l[q]<k)(h2:∀q (h:q<l.length),i≤q→¬l[q]<k)(hs:qe l):k∈l↔∃h:i<l.length,l[i]=k:=by
 constructor
 ·intro h
  obtain⟨q,hq,e⟩:=List.getElem_of_mem h
  have h3:i≤q:=by
   rcases Nat.lt_or_ge q i with h9|h9
   ·have:=h1 q hq h9;omega
   ·exact h9
  refine⟨aa,?_⟩
  rcases Nat.lt_or_ge i q with h9|h9
  ·have h4:=Px hs h9 hq
   have h5:=h2 i aa (Nat.le_refl _)
   omega
  ·have:q=i:=aa
   subst this;exact e
 ·rintro⟨h,e⟩
  rw [←e];exact List.getElem_mem h
def LR (t:Int) (l:List Int):List Int:=(l.take (kf l t)++[t])++l.drop (kf l t)
def oj (W:ew) (s:Int):List Int×Int:=W.getD s.toNat ([],0)
def lU (W:ew) (s:Int):Prop:=0≤s∧s<(W.length:Int)
instance (W : ew) (s : Int) : Decidable (lU W s) := by unfold lU; infer_instance
def eO (W:ew) (t s:Int):Bool:=decide (lU W s)&&decide (t∈(oj W s).1)
def kg (W:ew) (t s:Int):Bool:=eO W t s&&decide ((oj W s).2=2)
def dK (W:ew) (t s how:Int):Int×ew:=
 if t<0∨¬lU W s then(2,W)
 else if t∈(oj W s).1 then(2,W)
 else if(oj W s).2=2∨(how=2∧(oj W s).2≠0)then(7,W)
 else(0,W.set s.toNat (LR t (oj W s).1,how))
def xv (t:Int) (l:List Int):List Int:=l.filter fun x=> !decide (x=t)
def hU (W:ew) (t s:Int):Int×ew:=
 if eO W t s=true then(0,W.set s.toNat (xv t (oj W s).1,if(xv t (oj W s).1).length=0 then 0 else(oj W s).2))else(8,W)
structure ko where
 kM:Int
 slot:Int
 write:Bool
 deriving DecidableEq
def Gg (s:Int) (p:List Int×Int):List ko:=p.1.map fun t=>⟨t,s,decide (p.2=2)⟩
def m5 (W:ew) (k:Nat):List ko:=(List.range k).flatMap fun i:Nat=>Gg (i:Int) (W.getD i ([],0))
def qj (f:ko→Bool) (W:ew):List ko:=(m5 W W.length).filter f
def kT (W:ew) (t:Int):List ko:=qj (fun h=>decide (h.kM=t)) W
def u4 (t:Int) (l:List ko) (W:ew):ew:=l.foldl (fun W h=>(hU W t h.slot).2) W
def lM (W:ew) (t:Int):ew:=u4 t (kT W t) W
def ku (Th:List Int) (W:ew):Prop:=(∀p∈W,qe p.1∧(∀x∈p.1,x∈Th)∧i64 p.2)∧W.length≤4096∧(∀x∈Th,i64 x)∧Th.length≤1000
theorem rX(W:ew){k:Nat}(h:k<W.length):m5 W (k+1)=m5 W k++Gg k W[k]:=by
 unfold m5
 rw [List.range_succ,List.flatMap_append,List.flatMap_cons,List.flatMap_nil,List.append_nil,ts h]
variable {t:Int}
theorem aj1:∀ {l:List Int},qe l→(∀q (h:q<l.length),q<kf l t→l[q]<t)∧∀q (h:q<l.length),kf l t≤q→¬l[q]<t:=by
 have key:∀ {l:List Int},qe l→∃i,i≤l.length∧(∀q (h:q<l.length),q<i→l[q]<t)∧∀q (h:q<l.length),i≤q→¬l[q]<t:=by
  intro l
  induction l with
  |nil=>exact fun _=>⟨0,Nat.le_refl _,fun q h=>absurd h (Nat.not_lt_zero _),fun q h=>absurd h (Nat.not_lt_zero _)⟩
  |cons a l ih=>
   intro hs
   by_cases ha:a<t
   ·obtain⟨i,h1,h2,h3⟩:=ih (List.pairwise_cons.1 hs).2
    refine⟨i+1,by simpa using h1,fun q hq hqi=> ?_,fun q hq hqi=> ?_⟩
    ·cases q with
     |zero=>exact ha
     |succ q=>exact h2 q (by simpa using hq) aa
    ·cases q with
     |zero=>omega
     |succ q=>exact h3 q (by simpa using hq) aa
   ·exact⟨0,Nat.zero_le _,fun q _ h=>absurd h (Nat.not_lt_zero _),fun q hq _=>Hu hs (i:=0) (by simp) ha q hq (Nat.zero_le _)⟩
 intro l hs
 obtain⟨i,h1,h2,h3⟩:=key hs
 rw [rW h1 h2 h3]
 exact⟨h2,h3⟩
theorem aj2(h:qe l)(ht:t∉l):qe (LR t l):=by
 obtain⟨k1,k2⟩:=aj1 (t:=t) h
 have h1:∀x∈l.take (kf l t),x<t:=fun x hx=>by
  obtain⟨q,hq,rfl⟩:=List.getElem_of_mem hx
  rw [List.length_take]at hq
  rw [List.getElem_take]
  exact k1 q aa aa
 have h2:∀x∈l.drop (kf l t),t<x:=fun x hx=>by
  obtain⟨q,hq,rfl⟩:=List.getElem_of_mem hx
  rw [List.length_drop]at hq
  rw [List.getElem_drop]
  have h9:=k2 (kf l t+q) aa aa
  have lR:l[kf l t+q]≠t:=fun e=>ht (by rw [←e];exact List.getElem_mem _)
  omega
 unfold LR qe
 refine List.pairwise_append.2 ⟨List.pairwise_append.2 ⟨h.take,List.pairwise_singleton ..,fun a ha b hb=> ?_⟩,h.drop,fun a ha b hb=> ?_⟩
 ·rw [List.mem_singleton.1 hb];exact h1 a ha
 ·rcases List.mem_append.1 ha with h9|h9
  ·exact Int.lt_trans (h1 a h9) (h2 b hb)
  ·rw [List.mem_singleton.1 h9];exact h2 b hb
theorem aj3{x:Int} :x∈LR t l↔x=t∨x∈l:=by
 unfold LR
 rw [List.mem_append,List.mem_append,List.mem_singleton]
 conv=>rhs;rhs;rw [←List.take_append_drop (kf l t) l,List.mem_append]
 constructor
 ·rintro((h|h)|h)
  ·exact .inr (.inl h)
  ·exact .inl h
  ·exact .inr (.inr h)
 ·rintro(h|h|h)
  ·exact .inl (.inr h)
  ·exact .inl (.inl h)
  ·exact .inr h
def Ti:dV (Value×Int) where
 k:=2
 w:=32
 R:=fun _ cs p=>cs=[p.1,.int .i64 p.2]∧(∃a n c,p.1=.slice a n c)∧i64 p.2
 mono:=fun _ h=>h
 len:=fun h=>by rw [h.1];rfl
 one:=fun h u hu=>by
  obtain⟨rfl,⟨a,n,c,e⟩,_⟩:=h
  simp at hu
  rcases hu with rfl|rfl
  ·rw [e];rfl
  ·rfl
def m6 (TI:TypeId):List (Value×Int)→ew→GH→MH→Prop
 |[],[],_,Ms=>Ms=[]
 |p::L,q::W,G,Ms=>p.2=q.2∧∃A B,Ms=A++B∧aP bY TI G p.1 q.1 A∧m6 TI L W G B
 |[],_::_,_,_=>False
 |_::_,[],_,_=>False
section
variable {TI:TypeId} {G G':GH}
theorem m6.mono(hl:Le G G'):∀ {L:List (Value×Int)} {W:ew} {Ms:MH},m6 TI L W G Ms→m6 TI L W G' Ms
 |[],[],_,h=>h
 |p::L,q::W,Ms,⟨h1,A,B,h2,h3,h4⟩=>⟨h1,A,B,h2,h3.mono hl,h4.mono hl⟩
theorem m6.len:∀ {L:List (Value×Int)} {W:ew} {Ms:MH},m6 TI L W G Ms→L.length=W.length
 |[],[],_,_=>rfl
 |p::L,q::W,Ms,⟨_,A,B,_,_,h4⟩=>by rw [List.length_cons,List.length_cons,h4.len]
theorem m6.el:∀ {L:List (Value×Int)} {W:ew} {Ms:MH},m6 TI L W G Ms→∀ {i:Nat} (hi:i<L.length) (hj:i<W.length),L[i].2=W[i].2∧∃Mi,(∀p∈Mi,p∈Ms)∧aP bY TI G L[i].1 W[i].1 Mi
 |p::L,q::W,_,⟨h1,A,B,rfl,h3,h4⟩,0,_,_=>⟨h1,A,fun p hp=>List.mem_append_left _ hp,h3⟩
 |p::L,q::W,_,⟨h1,A,B,rfl,h3,h4⟩,i+1,hi,hj=>by
  obtain⟨a,Mi,b,c⟩:=h4.el (i:=i) (by simpa using hi) (by simpa using hj)
  exact⟨a,Mi,fun p hp=>List.mem_append_right _ (b p hp),c⟩
theorem m6.split:∀ {L:List (Value×Int)} {W:ew} {Ms:MH},m6 TI L W G Ms→∀ {i:Nat} (hi:i<L.length) (hj:i<W.length),L[i].2=W[i].2∧∃A Mi B,Ms=A++(Mi++B)∧aP bY TI G L[i].1 W[i].1 Mi∧
  ∀(G':GH) (v:Value) (w:List Int) (h:Int) (Mj:MH),Le G G'→aP bY TI G' v w Mj→m6 TI (L.set i (v,h)) (W.set i (w,h)) G' (A++(Mj++B))
 |p::L,q::W,_,⟨h1,A,B,rfl,h3,h4⟩,0,_,_=>⟨h1,[],A,B,rfl,h3,fun G' v w h Mj hl ho=>⟨rfl,Mj,B,rfl,ho,h4.mono hl⟩⟩
 |p::L,q::W,_,⟨h1,A,B,rfl,h3,h4⟩,i+1,hi,hj=>by
  obtain⟨a,A',Mi,B',rfl,c,d⟩:=h4.split (i:=i) (by simpa using hi) (by simpa using hj)
  exact⟨a,A++A',Mi,B',by rw [List.append_assoc],c,fun G' v w h Mj hl ho=>⟨h1,A,A'++(Mj++B'),by rw [List.append_assoc],h3.mono hl,d G' v w h Mj hl ho⟩⟩
end
def dC (Tt To TI:TypeId) (Th:List Int) (b:Nat) (G:GH) (W:ew) (Ms:MH):Prop:=∃vl L Ml Mw,Ms=(b,.cells (List.toArray [vl]) Tt (0,0))::(Ml++Mw)∧aP Ti To G vl L Ml∧m6 TI L W G Mw∧ku Th W
theorem dC.cast{Tt To TI:TypeId}{Th:List Int}{b:Nat}{G:GH}{W W':ew}{Ms:MH}(e:W'=W)(h:dC Tt To TI Th b G W Ms):dC Tt To TI Th b G W' Ms:=e▸h
theorem dC.mono{Tt To TI:TypeId}{Th:List Int}{b:Nat}{G G':GH}{W:ew}{Ms:MH}(hl:Le G G')(h:dC Tt To TI Th b G W Ms):dC Tt To TI Th b G' W Ms:=by
 obtain⟨vl,L,Ml,Mw,h1,h2,h3,h4⟩:=h
 exact⟨vl,L,Ml,Mw,h1,h2.mono hl,h3.mono hl,h4⟩
end Go.Fw
namespace Go.Proofs.YtfhnamngaofccaaGreat
open Go Go.Fw Go.RowKit
theorem aj4:xw Tryz.prog 220=some 4:=by kernel_rfl
theorem mz4:zvK Tryz.prog 4=some (.bool false):=by kernel_rfl

end Go.Proofs.YtfhnamngaofccaaGreat
namespace Go.Proofs.YtfhnamngaofccaaGreat
open Go Go.Fw Go.RowKit
attribute [local irreducible] Ok W WC
variable {G:GH}
theorem om(j4:ah)(j5:ah)(ao:Bool)(Tj:ah)(Tk:ah)(bo:Bool):
    Fc Tryz.prog 70 [.agg #[sV j4.b,sV j5.b,.bool ao],.agg #[sV Tj.b,sV Tk.b,.bool bo]] G [] (fun v _ _=>v=.agg (List.toArray ((Span.bE ⟨j4,j5,ao⟩ ⟨Tj,Tk,bo⟩:Span).cells))):=by
 refine Fc.go [.cell 4 90] Tryz.func70 Tryz.ntmps70 rfl (fun w0=>(g9 2 ?_))
 refine W.box (L:=[sV _,sV _,.bool _]) rfl rfl (fun b1=>(W.box (L:=[sV _,sV _,.bool _]) rfl rfl (fun b2=>(W.alloc dY (fun b3=>(g9 5 ?_))))))
 refine W.alloc dY (fun b4=>(g9 10 ?_))
 refine W.ay (hX _ _) rfl (g9 2 ?_)
 refine WC.cond rfl (fun qH=> ?_) (fun qH=> ?_)
 ·refine g9 14 ?_
  refine W.sp 18 rfl (fun iu=> ?_) (fun iu=> ?_)
  ·refine g9 6 ?_
   refine W.sp 21 rfl (fun Hw=> ?_) (fun Hw=> ?_)
   ·refine g9 27 ?_
    refine W.ay (jg _ _ _) rfl (g9 5 ?_)
    refine congrArg (fun l=>Value.agg (List.toArray l)) ?_
    show [Value.string _,Value.string _,Value.bool _]=_
    simp_all [Span.bE,setAt]<;>rfl
   refine g9 9 ?_
   refine W.ay (hX _ _) rfl (g9 5 ?_)
   refine WC.cond rfl (fun sJ=> ?_) (fun sJ=> ?_)
   ·refine g9 16 ?_
    refine W.ay (jg _ _ _) rfl (g9 5 ?_)
    refine congrArg (fun l=>Value.agg (List.toArray l)) ?_
    show [Value.string _,Value.string _,Value.bool _]=_
    simp_all [Span.bE,setAt]<;>rfl
   refine g9 5 ?_
   refine W.ay (jg _ _ _) rfl (g9 5 ?_)
   refine congrArg (fun l=>Value.agg (List.toArray l)) ?_
   show [Value.string _,Value.string _,Value.bool _]=_
   simp_all [Span.bE,setAt]<;>rfl
  refine g9 18 ?_
  refine W.ay (jg _ _ _) rfl (g9 5 ?_)
  refine congrArg (fun l=>Value.agg (List.toArray l)) ?_
  show [Value.string _,Value.string _,Value.bool _]=_
  simp_all [Span.bE,setAt]<;>rfl
 refine g9 9 ?_
 refine W.sp 18 rfl (fun iu=> ?_) (fun iu=> ?_)
 ·refine g9 6 ?_
  refine W.sp 21 rfl (fun Hw=> ?_) (fun Hw=> ?_)
  ·refine g9 27 ?_
   refine W.ay (jg _ _ _) rfl (g9 5 ?_)
   refine congrArg (fun l=>Value.agg (List.toArray l)) ?_
   show [Value.string _,Value.string _,Value.bool _]=_
   simp_all [Span.bE,setAt]<;>rfl
  refine g9 9 ?_
  refine W.ay (hX _ _) rfl (g9 5 ?_)
  refine WC.cond rfl (fun sJ=> ?_) (fun sJ=> ?_)
  ·refine g9 16 ?_
   refine W.ay (jg _ _ _) rfl (g9 5 ?_)
   refine congrArg (fun l=>Value.agg (List.toArray l)) ?_
   show [Value.string _,Value.string _,Value.bool _]=_
   simp_all [Span.bE,setAt]<;>rfl
  refine g9 5 ?_
  refine W.ay (jg _ _ _) rfl (g9 5 ?_)
  refine congrArg (fun l=>Value.agg (List.toArray l)) ?_
  show [Value.string _,Value.string _,Value.bool _]=_
  simp_all [Span.bE,setAt]<;>rfl
 refine g9 18 ?_
 refine W.ay (jg _ _ _) rfl (g9 5 ?_)
 refine congrArg (fun l=>Value.agg (List.toArray l)) ?_
 show [Value.string _,Value.string _,Value.bool _]=_
 simp_all [Span.bE,setAt]<;>rfl

theorem zo(j4:ah)(j5:ah)(ao:Bool)(Tj:ah)(Tk:ah)(bo:Bool):
    Fc Tryz.prog 199 [.agg #[sV j4.b,sV j5.b,.bool ao],.agg #[sV Tj.b,sV Tk.b,.bool bo]] G [] (fun v _ _=>v=.agg (List.toArray ((Span.bE ⟨j4,j5,ao⟩ ⟨Tj,Tk,bo⟩:Span).cells))):=by
 refine Fc.go [.cell 4 90] Tryz.func199 Tryz.ntmps199 rfl (fun w0=>(g9 2 ?_))
 refine W.box (L:=[sV _,sV _,.bool _]) rfl rfl (fun b5=>(W.box (L:=[sV _,sV _,.bool _]) rfl rfl (fun b6=>(W.alloc dY (fun b7=>(g9 8 ?_))))))
 refine W.ok (aj5 rfl rfl) (g9 3 ?_)
 refine W.sp 13 rfl (fun Hw=> ?_) (fun Hw=> ?_)
 ·refine g9 5 ?_
  refine W.ok (aM (L:=[sV _,sV _,.bool _]) kU dY rfl rfl rfl) (W.alloc dY (fun b8=>(g9 24 ?_)))
  refine W.ay (jE _ _ _) rfl (g9 5 ?_)
  refine congrArg (fun l=>Value.agg (List.toArray l)) ?_
  show [Value.string _,Value.string _,Value.bool _]=_
  rw [←DF]
  simp_all [setAt]<;>rfl
 refine g9 3 ?_
 refine W.ok (aM (L:=[sV _,sV _,.bool _]) kU dY rfl rfl rfl) (W.alloc dY (fun b9=>(g9 20 ?_)))
 refine WC.cond rfl (fun ayO=> ?_) (fun ayO=> ?_)
 ·refine g9 11 ?_
  refine W.ay (jE _ _ _) rfl (g9 5 ?_)
  refine congrArg (fun l=>Value.agg (List.toArray l)) ?_
  show [Value.string _,Value.string _,Value.bool _]=_
  rw [←DF]
  simp_all [setAt]<;>rfl
 refine g9 5 ?_
 refine W.ok (aj6 rfl rfl) (g9 8 ?_)
 refine W.ay (jE _ _ _) rfl (g9 5 ?_)
 refine congrArg (fun l=>Value.agg (List.toArray l)) ?_
 show [Value.string _,Value.string _,Value.bool _]=_
 rw [←DF]
 simp_all [setAt]<;>rfl

theorem agA(k:ah)(hk:k.b.size<140737488355328):
    Fc Tryz.prog 216 [sV k.b] G [] (fun v _ _=>v=sV (ah.b (k.next))):=by
 refine Fc.go [.tmp 2] Tryz.func216 Tryz.ntmps216 rfl (fun w0=>(g9 8 ?_))
 refine W.ok (tu rfl rfl (by show _+1≤_;omega)) (g9 5 ?_)
 refine congrArg Value.string ?_
 exact(ah.BR hk).symm

theorem agB(k:ah)(hk:k.b.size<140737488355328):
    Fc Tryz.prog 210 [sV k.b] G [] (fun v _ _=>v=.agg (List.toArray ((⟨k,k.next,false⟩:Span).cells))):=by
 refine Fc.go [.cell 2 90] Tryz.func210 Tryz.ntmps210 rfl (fun w0=>(g9 2 ?_))
 refine W.alloc dY (fun b10=>(g9 6 ?_))
 refine W.ay (agA _ (by first|assumption|omega|(dsimp only;omega))) rfl (W.ok (aM (L:=[sV _,sV _,.bool _]) kU dY rfl rfl rfl) (g9 5 ?_))
 rfl

theorem tv(ms:Int)(mk:Int)(bO:ah)(dH:ah)(mo:Bool)(mv:ah)(hk:bO.b.size<140737488355328):
    Fc Tryz.prog 200 [.agg #[iV ms,iV mk,sV bO.b,sV dH.b,.bool mo,sV mv.b]] G [] (fun v _ _=>v=.agg (List.toArray ((aA.span (⟨ms,mk,bO,dH,mo,mv⟩:aA):Span).cells))):=by
 refine Fc.go [.cell 2 90] Tryz.func200 Tryz.ntmps200 rfl (fun w0=>(g9 2 ?_))
 refine W.box (L:=[iV _,iV _,sV _,sV _,.bool _,sV _]) rfl rfl (fun b11=>(W.alloc dY (fun b12=>(g9 10 ?_))))
 refine WC.cd (fun h5 p5=> ?_) (fun h5 p5=> ?_)
 ·refine g9 8 ?_
  refine W.ok (aM (L:=[sV _,sV _,.bool _]) kU dY rfl rfl rfl) (g9 6 ?_)
  refine congrArg (fun l=>Value.agg (List.toArray l)) ?_
  rw [aA.span,if_pos p5];rfl
 refine g9 6 ?_
 refine W.ay (agB _ (by first|assumption|omega|(dsimp only;omega))) rfl (g9 5 ?_)
 refine congrArg (fun l=>Value.agg (List.toArray l)) ?_
 rw [aA.span,if_neg p5]<;>simp [Span.cells,ah.BR hk,setAt]

theorem my(ms:Int)(mk:Int)(bO:ah)(dH:ah)(mo:Bool)(mv:ah)(hk:bO.b.size<140737488355328):
    Fc Tryz.prog 77 [.agg #[iV ms,iV mk,sV bO.b,sV dH.b,.bool mo,sV mv.b]] G [] (fun v _ _=>v=.agg (List.toArray ((aA.span (⟨ms,mk,bO,dH,mo,mv⟩:aA):Span).cells))):=by
 refine Fc.go [.cell 2 90] Tryz.func77 Tryz.ntmps77 rfl (fun w0=>(g9 2 ?_))
 refine W.box (L:=[iV _,iV _,sV _,sV _,.bool _,sV _]) rfl rfl (fun xx=>(W.alloc dY (fun gy=>(g9 10 ?_))))
 refine WC.cd (fun h5 p5=> ?_) (fun h5 p5=> ?_)
 ·refine g9 8 ?_
  refine W.ok (aM (L:=[sV _,sV _,.bool _]) kU dY rfl rfl rfl) (g9 6 ?_)
  refine congrArg (fun l=>Value.agg (List.toArray l)) ?_
  rw [aA.span,if_pos p5];rfl
 refine g9 8 ?_
 refine W.ok (tu rfl rfl (by show _+1≤_;omega)) (W.ok (aM (L:=[sV _,sV _,.bool _]) kU dY rfl rfl rfl) (g9 5 ?_))
 refine congrArg (fun l=>Value.agg (List.toArray l)) ?_
 rw [aA.span,if_neg p5]<;>simp [Span.cells,ah.BR hk,setAt]

theorem agC(j4:ah)(j5:ah)(ao:Bool)(Tj:ah)(Tk:ah)(bo:Bool):
    Fc Tryz.prog 209 [.agg #[sV j4.b,sV j5.b,.bool ao],.agg #[sV Tj.b,sV Tk.b,.bool bo]] G [] (fun v _ _=>v=.bool (!(Span.bE ⟨j4,j5,ao⟩ ⟨Tj,Tk,bo⟩).empty)):=by
 refine Fc.go [.tmp 4] Tryz.func209 Tryz.ntmps209 rfl (fun w0=>(g9 2 ?_))
 refine W.box (L:=[sV _,sV _,.bool _]) rfl rfl (fun qI=>(W.box (L:=[sV _,sV _,.bool _]) rfl rfl (fun b16=>(g9 7 ?_))))
 refine W.ay (zo _ _ _ _ _ _) rfl (W.ay (Ao _ _ _) rfl (g9 6 ?_))
 rfl

theorem Tl(ms:Int)(mk:Int)(bO:ah)(dH:ah)(mo:Bool)(mv:ah)(j4:ah)(j5:ah)(ao:Bool)(hk:bO.b.size<140737488355328):
    Fc Tryz.prog 198 [.agg #[iV ms,iV mk,sV bO.b,sV dH.b,.bool mo,sV mv.b],.agg #[sV j4.b,sV j5.b,.bool ao]] G [] (fun v _ _=>v=.bool (!((aA.span (⟨ms,mk,bO,dH,mo,mv⟩:aA)).bE ⟨j4,j5,ao⟩).empty)):=by
 refine Fc.go [.tmp 4] Tryz.func198 Tryz.ntmps198 rfl (fun w0=>(g9 2 ?_))
 refine W.box (L:=[iV _,iV _,sV _,sV _,.bool _,sV _]) rfl rfl (fun b17=>(W.box (L:=[sV _,sV _,.bool _]) rfl rfl (fun Py=>(g9 6 ?_))))
 refine W.ay (tv _ _ _ _ _ _ (by first|assumption|omega|(dsimp only;omega))) rfl (g9 1 ?_)
 refine W.ay (agC _ _ _ _ _ _) rfl (g9 5 ?_)
 rfl

theorem zp(ms:Int)(mk:Int)(bO:ah)(dH:ah)(mo:Bool)(mv:ah):
    Fc Tryz.prog 150 [.agg #[iV ms,iV mk,sV bO.b,sV dH.b,.bool mo,sV mv.b]] G [] (fun v _ _=>v=iV (aA.size (⟨ms,mk,bO,dH,mo,mv⟩:aA))):=by
 have h1:=bO.le
 have h2:=mv.le
 refine Fc.go [.tmp 2] Tryz.func150 Tryz.ntmps150 rfl (fun w0=>(g9 2 ?_))
 refine W.box (L:=[iV _,iV _,sV _,sV _,.bool _,sV _]) rfl rfl (fun b19=>(g9 11 ?_))
 refine WC.cd (fun h5 p5=> ?_) (fun h5 p5=> ?_)
 ·refine g9 8 ?_
  refine congrArg (Value.int .i64) ?_
  rw [aA.size,if_pos p5]
 refine g9 17 ?_
 refine congrArg (Value.int .i64) ?_
 rw [aA.size,if_neg p5]

theorem tw(ms:Int)(mk:Int)(bO:ah)(dH:ah)(mo:Bool)(mv:ah)(j4:ah)(j5:ah)(ao:Bool)(hk:bO.b.size<140737488355328):
    Fc Tryz.prog 112 [.agg #[iV ms,iV mk,sV bO.b,sV dH.b,.bool mo,sV mv.b],.agg #[sV j4.b,sV j5.b,.bool ao]] G [] (fun v _ _=>v=.tuple #[.agg (List.toArray ((aA.clip (⟨ms,mk,bO,dH,mo,mv⟩:aA) ⟨j4,j5,ao⟩).1.cells)),.bool ((aA.clip (⟨ms,mk,bO,dH,mo,mv⟩:aA) ⟨j4,j5,ao⟩).2)]):=by
 refine Fc.go [.cell 4 96,.tmp 5] Tryz.func112 Tryz.ntmps112 rfl (fun w0=>(g9 2 ?_))
 refine W.box (L:=[iV _,iV _,sV _,sV _,.bool _,sV _]) rfl rfl (fun b20=>(W.box (L:=[sV _,sV _,.bool _]) rfl rfl (fun b21=>(W.alloc cy (fun kW=>(g9 4 ?_))))))
 refine WC.dw ((bi.k9.k9).k9) (d9 [0,2] ?_)
 refine WD.any [1,4] (by kernel_rfl) rfl ⟨WD.ap ?_,WD.ap ?_,trivial⟩
 ·refine W.ay (my _ _ _ _ _ _ (by first|assumption|omega|(dsimp only;omega))) rfl (W.nn ?_)
  refine WD.any [3,4] (by kernel_rfl) rfl ⟨WD.ap ?_,WD.ap ?_,trivial⟩
  ·refine W.ay (om _ _ _ _ _ _) rfl (W.nn (WD.a1 4 rfl (W.alloc dY (fun b23=>(W.nn (d9 [5] ?_))))))
   refine g9 6 ?_
   refine W.ay (qx _ _ _) rfl (g9 2 ?_)
   refine WC.cond rfl (fun dL=> ?_) (fun dL=> ?_)
   ·refine g9 2 ?_
    refine W.ok (aM (L:=[iV _,iV _,sV _,sV _,.bool _,sV _]) Tm cy rfl rfl rfl) (g9 7 ?_)
    show Value.tuple #[Value.agg (List.toArray [_,_,_,_,_,_]),Value.bool _]=_
    rw [kH dL];rfl
   refine g9 10 ?_
   refine WC.cd (fun fU gX=> ?_) (fun fU gX=> ?_)
   ·refine g9 32 ?_
    show Value.tuple #[Value.agg (List.toArray [_,_,_,_,_,_]),Value.bool _]=_
    rw [kI dL gX];rfl
   refine g9 11 ?_
   show Value.tuple #[Value.agg (List.toArray [_,_,_,_,_,_]),Value.bool _]=_
   rw [uS dL gX];rfl
  refine W.alloc dY (fun b24=>(W.nn (WD.a1 3 rfl (W.ay (om _ _ _ _ _ _) rfl (W.nn (d9 [5] ?_))))))
  refine g9 6 ?_
  refine W.ay (qx _ _ _) rfl (g9 2 ?_)
  refine WC.cond rfl (fun dL=> ?_) (fun dL=> ?_)
  ·refine g9 2 ?_
   refine W.ok (aM (L:=[iV _,iV _,sV _,sV _,.bool _,sV _]) Tm cy rfl rfl rfl) (g9 7 ?_)
   show Value.tuple #[Value.agg (List.toArray [_,_,_,_,_,_]),Value.bool _]=_
   rw [kH dL];rfl
  refine g9 10 ?_
  refine WC.cd (fun fU gX=> ?_) (fun fU gX=> ?_)
  ·refine g9 32 ?_
   show Value.tuple #[Value.agg (List.toArray [_,_,_,_,_,_]),Value.bool _]=_
   rw [kI dL gX];rfl
  refine g9 11 ?_
  show Value.tuple #[Value.agg (List.toArray [_,_,_,_,_,_]),Value.bool _]=_
  rw [uS dL gX];rfl
 refine W.alloc dY (fun b25=>(W.nn (WD.a1 1 rfl (W.ay (my _ _ _ _ _ _ (by first|assumption|omega|(dsimp only;omega))) rfl (W.nn (WD.a1 3 rfl (W.ay (om _ _ _ _ _ _) rfl (W.nn (d9 [5] ?_)))))))))
 refine g9 6 ?_
 refine W.ay (qx _ _ _) rfl (g9 2 ?_)
 refine WC.cond rfl (fun dL=> ?_) (fun dL=> ?_)
 ·refine g9 2 ?_
  refine W.ok (aM (L:=[iV _,iV _,sV _,sV _,.bool _,sV _]) Tm cy rfl rfl rfl) (g9 7 ?_)
  show Value.tuple #[Value.agg (List.toArray [_,_,_,_,_,_]),Value.bool _]=_
  rw [kH dL];rfl
 refine g9 10 ?_
 refine WC.cd (fun fU gX=> ?_) (fun fU gX=> ?_)
 ·refine g9 32 ?_
  show Value.tuple #[Value.agg (List.toArray [_,_,_,_,_,_]),Value.bool _]=_
  rw [kI dL gX];rfl
 refine g9 11 ?_
 show Value.tuple #[Value.agg (List.toArray [_,_,_,_,_,_]),Value.bool _]=_
 rw [uS dL gX];rfl

theorem DP(ms:Int)(mk:Int)(bO:ah)(dH:ah)(mo:Bool)(mv:ah)(j4:ah)(j5:ah)(ao:Bool)(hk:bO.b.size<140737488355328):
    Fc Tryz.prog 187 [.agg #[iV ms,iV mk,sV bO.b,sV dH.b,.bool mo,sV mv.b],.agg #[sV j4.b,sV j5.b,.bool ao]] G [] (fun v _ _=>v=.tuple #[.agg (List.toArray ((aA.clip (⟨ms,mk,bO,dH,mo,mv⟩:aA) ⟨j4,j5,ao⟩).1.cells)),.bool ((aA.clip (⟨ms,mk,bO,dH,mo,mv⟩:aA) ⟨j4,j5,ao⟩).2)]):=by
 refine Fc.go [.cell 4 96,.tmp 5] Tryz.func187 Tryz.ntmps187 rfl (fun w0=>(g9 2 ?_))
 refine W.box (L:=[iV _,iV _,sV _,sV _,.bool _,sV _]) rfl rfl (fun Hx=>(W.box (L:=[sV _,sV _,.bool _]) rfl rfl (fun Tp=>(W.alloc cy (fun xy=>(g9 8 ?_))))))
 refine W.ay (Tl _ _ _ _ _ _ _ _ _ (by first|assumption|omega|(dsimp only;omega))) rfl (g9 3 ?_)
 refine WC.cond rfl (fun eM=> ?_) (fun eM=> ?_)
 ·refine g9 2 ?_
  refine W.ok (aM (L:=[iV _,iV _,sV _,sV _,.bool _,sV _]) Tm cy rfl rfl rfl) (g9 7 ?_)
  show Value.tuple #[Value.agg (List.toArray [_,_,_,_,_,_]),Value.bool _]=_
  rw [kH (by simpa using eM)];rfl
 refine g9 10 ?_
 refine WC.cd (fun gl gm=> ?_) (fun gl gm=> ?_)
 ·refine WC.seq (WC.dw ((bi.k9.k9).k9) (d9 [0,2] ?_))
  refine WD.any [1,4] (by kernel_rfl) rfl ⟨WD.ap ?_,WD.ap ?_,trivial⟩
  ·refine W.ay (tv _ _ _ _ _ _ (by first|assumption|omega|(dsimp only;omega))) rfl (W.nn ?_)
   refine WD.any [3,4] (by kernel_rfl) rfl ⟨WD.ap ?_,WD.ap ?_,trivial⟩
   ·refine W.ay (zo _ _ _ _ _ _) rfl (W.nn (WD.a1 4 rfl (W.alloc dY (fun b29=>(W.nn (d9 [5] ?_))))))
    refine g9 2 ?_
    refine WC.dw ((((bi.cons _).k9).k9).k9) (d9 [0,1,2,3,4,5,6,7,8,9,10,11] ?_)
    refine g9 11 ?_
    show Value.tuple #[Value.agg (List.toArray [_,_,_,_,_,_]),Value.bool _]=_
    rw [kI (by simpa using eM) gm];rfl
   refine W.alloc dY (fun b30=>(W.nn (WD.a1 3 rfl (W.ay (zo _ _ _ _ _ _) rfl (W.nn (d9 [5] ?_))))))
   refine g9 2 ?_
   refine WC.dw ((((bi.cons _).k9).k9).k9) (d9 [0,1,2,3,4,5,6,7,8,9,10,11] ?_)
   refine g9 11 ?_
   show Value.tuple #[Value.agg (List.toArray [_,_,_,_,_,_]),Value.bool _]=_
   rw [kI (by simpa using eM) gm];rfl
  refine W.alloc dY (fun b31=>(W.nn (WD.a1 1 rfl (W.ay (tv _ _ _ _ _ _ (by first|assumption|omega|(dsimp only;omega))) rfl (W.nn (WD.a1 3 rfl (W.ay (zo _ _ _ _ _ _) rfl (W.nn (d9 [5] ?_)))))))))
  refine g9 2 ?_
  refine WC.dw ((((bi.cons _).k9).k9).k9) (d9 [0,1,2,3,4,5,6,7,8,9,10,11] ?_)
  refine g9 11 ?_
  show Value.tuple #[Value.agg (List.toArray [_,_,_,_,_,_]),Value.bool _]=_
  rw [kI (by simpa using eM) gm];rfl
 refine g9 11 ?_
 show Value.tuple #[Value.agg (List.toArray [_,_,_,_,_,_]),Value.bool _]=_
 rw [uS (by simpa using eM) gm];rfl

theorem aj7(s:ah):
    Fc Tryz.prog 235 [sV s.b] G [] (fun v _ _=>v=sV (ah.b (s.tail))):=by
 have hs:=s.le
 refine Fc.go [.tmp 2] Tryz.func235 Tryz.ntmps235 rfl (fun w0=>(g9 11 ?_))
 refine W.ok (kv rfl rfl) (W.ok (qJ (s.b.size-16) (s.b.size) Ag rfl ⟨_,_,rfl,aa⟩ rfl ⟨aa,aa⟩) (g9 5 ?_))
 rfl

theorem Tq(a:ah)(b:ah)(ha:a.b.size≤1048576)(hb:b.b.size≤1048576):
    Fc Tryz.prog 231 [sV a.b,sV b.b] G [] (fun v _ _=>v=sV (ah.b (a.add b))):=by
 refine Fc.go [.tmp 4] Tryz.func231 Tryz.ntmps231 rfl (fun w0=>(g9 9 ?_))
 refine W.ok (Ok.str (b:=(a.cat b).b) (tu rfl rfl aa) ((ah.Pu aa).symm)) (W.ay (aj7 _) rfl (g9 5 ?_))
 exact congrArg (fun s=>Value.string (ah.b s)) (ah.DJ aa)

theorem LS(s:ah):
    Fc Tryz.prog 202 [sV s.b] G [] (fun v _ _=>v=sV (ah.b (s.tail))):=by
 have hs:=s.le
 refine Fc.go [.tmp 2] Tryz.func202 Tryz.ntmps202 rfl (fun w0=>(g9 20 ?_))
 refine WC.loop (X:=Nat) (fun k=>[(3,sV (s.cut (s.b.size-k) s.b.size).b),(4,iV ((s.b.size:Int)-1-((k:Nat):Int))),(0,sV s.b)]) (fun k _ Ml=>Ml=[]∧k≤s.b.size∧k≤16) (fun k=>17-k) 0 ⟨(congrArg Value.string (ah.ajR aa).symm),(iv aa),eqv,trivial⟩ ?_ ?_
 ·exact⟨rfl,aa,aa⟩
 rintro k DQ G1 _ fL ⟨rfl,hk,aTv⟩
 have hz:=s.mw (s.b.size-k) s.b.size
 refine g9 6 ?_
 refine W.sd 10 (fun h9 p9=> ?_) (fun h9 p9=> ?_)
 ·refine g9 9 ?_
  refine WC.cd (fun jc jh=> ?_) (fun jc jh=> ?_)
  ·refine g9 9 ?_
   refine W.ok (qJ (s.b.size-1-k) (s.b.size-k) Ag rfl ⟨_,_,rfl,aa⟩ ⟨_,_,rfl,aa⟩ ⟨aa,aa⟩) (W.mv (W.ok (tu rfl rfl (by simp only [ah.mw];omega)) (g9 10 ?_)))
   exact⟨Le.rfl,k+1,⟨(congrArg Value.string (ah.ajT aa)),(iv aa),eqv,trivial⟩,⟨rfl,aa,aa⟩,aa⟩
  refine g9 13 ?_
  have j6:s.b.size-k=s.b.size-16:=by simp only [ah.mw]at*;omega
  rw [j6];rfl
 refine g9 20 ?_
 have j6:s.b.size-k=s.b.size-16:=by simp only [ah.mw]at*;omega
 rw [j6];rfl

theorem aaa(ek:Int)(ev:ah)(has:Bool)(x:ah)(he:ev.b.size≤1048576)(hv:x.b.size≤1048576):
    Fc Tryz.prog 191 [.agg #[iV ek,sV ev.b],.bool has,sV x.b] G [] (fun v _ _=>v=.tuple #[.bool (((ct.apply (⟨ek,ev⟩:ct) (iS has x))).isSome),sV (ah.b (((ct.apply (⟨ek,ev⟩:ct) (iS has x))).getD ah.nil))]):=by
 refine Fc.go [.tmp 6,.tmp 7] Tryz.func191 Tryz.ntmps191 rfl (fun w0=>(g9 2 ?_))
 refine W.box (L:=[iV _,sV _]) rfl rfl (fun b2=>(g9 12 ?_))
 refine WC.cd (fun eM jd=> ?_) (fun eM jd=> ?_)
 ·refine g9 11 ?_
  show Value.tuple #[Value.bool _,Value.string _]=_
  simp_all [ct.apply,iS,ah.nil]
 refine g9 10 ?_
 refine WC.cd (fun lW nM=> ?_) (fun lW nM=> ?_)
 ·refine g9 9 ?_
  show Value.tuple #[Value.bool _,Value.string _]=_
  simp_all [ct.apply,iS,ah.nil]
 refine g9 9 ?_
 refine WC.cond rfl (fun iu=> ?_) (fun iu=> ?_)
 ·refine g9 12 ?_
  refine WC.cd (fun gD lX=> ?_) (fun gD lX=> ?_)
  ·refine g9 5 ?_
   refine W.ok (Ok.str (b:=(ah.nil.cat ev).b) (tu rfl rfl ((by first|omega|(show 0+ev.b.size≤_;omega)))) ((ah.Pu (a:=ah.nil) (by first|omega|(show 0+ev.b.size≤_;omega))).symm)) (W.ay (LS _) rfl (g9 7 ?_))
   show Value.tuple #[Value.bool _,Value.string _]=_
   rw [ah.DJ (by first|omega|(show 0+ev.b.size≤_;omega))]
   simp_all [ct.apply,iS,ah.nil]
  refine g9 12 ?_
  show Value.tuple #[Value.bool _,Value.string _]=_
  simp_all [ct.apply,iS,ah.nil]
 refine g9 10 ?_
 refine WC.cd (fun gD lX=> ?_) (fun gD lX=> ?_)
 ·refine g9 5 ?_
  refine W.ok (Ok.str (b:=(x.cat ev).b) (tu rfl rfl ((by first|omega|(show 0+ev.b.size≤_;omega)))) ((ah.Pu aa).symm)) (W.ay (LS _) rfl (g9 7 ?_))
  show Value.tuple #[Value.bool _,Value.string _]=_
  rw [ah.DJ (by first|omega|(show 0+ev.b.size≤_;omega))]
  simp_all [ct.apply,iS,ah.nil]
 refine g9 12 ?_
 show Value.tuple #[Value.bool _,Value.string _]=_
 simp_all [ct.apply,iS,ah.nil]

theorem Hy(ek:Int)(ev:ah)(has:Bool)(x:ah)(he:ev.b.size≤1048576)(hv:x.b.size≤1048576):
    Fc Tryz.prog 223 [.agg #[iV ek,sV ev.b],.bool has,sV x.b] G [] (fun v _ _=>v=.tuple #[.bool (((ct.apply (⟨ek,ev⟩:ct) (iS has x))).isSome),sV (ah.b (((ct.apply (⟨ek,ev⟩:ct) (iS has x))).getD ah.nil))]):=by
 refine Fc.go [.tmp 6,.tmp 7] Tryz.func223 Tryz.ntmps223 rfl (fun w0=>(g9 2 ?_))
 refine W.box (L:=[iV _,sV _]) rfl rfl (fun b3=>(g9 11 ?_))
 refine WC.cond rfl (fun h9=> ?_) (fun h9=> ?_)
 ·refine g9 18 ?_
  refine WC.cd (fun jc jh=> ?_) (fun jc jh=> ?_)
  ·refine g9 12 ?_
   show Value.tuple #[Value.bool _,Value.string _]=_
   simp_all [ct.apply,iS,ah.nil]
  refine g9 6 ?_
  refine WC.cd (fun iu fM=> ?_) (fun iu fM=> ?_)
  ·refine g9 5 ?_
   refine W.ay (Tq ah.nil ev (by show 0≤1048576;omega) (by assumption)) rfl (g9 8 ?_)
   show Value.tuple #[Value.bool _,Value.string _]=_
   simp_all [ct.apply,iS,ah.nil]
  refine g9 6 ?_
  refine WC.cd (fun AV DR=> ?_) (fun AV DR=> ?_)
  ·refine g9 10 ?_
   show Value.tuple #[Value.bool _,Value.string _]=_
   simp_all [ct.apply,iS,ah.nil]
  refine g9 13 ?_
  show Value.tuple #[Value.bool _,Value.string _]=_
  simp_all [ct.apply,iS,ah.nil]
 refine g9 16 ?_
 refine WC.cd (fun jc jh=> ?_) (fun jc jh=> ?_)
 ·refine g9 12 ?_
  show Value.tuple #[Value.bool _,Value.string _]=_
  simp_all [ct.apply,iS,ah.nil]
 refine g9 6 ?_
 refine WC.cd (fun iu fM=> ?_) (fun iu fM=> ?_)
 ·refine g9 5 ?_
  refine W.ay (Tq x ev (by assumption) (by assumption)) rfl (g9 8 ?_)
  show Value.tuple #[Value.bool _,Value.string _]=_
  simp_all [ct.apply,iS,ah.nil]
 refine g9 6 ?_
 refine WC.cd (fun AV DR=> ?_) (fun AV DR=> ?_)
 ·refine g9 10 ?_
  show Value.tuple #[Value.bool _,Value.string _]=_
  simp_all [ct.apply,iS,ah.nil]
 refine g9 13 ?_
 show Value.tuple #[Value.bool _,Value.string _]=_
 simp_all [ct.apply,iS,ah.nil]

theorem adD(ms:Int)(mk:Int)(bO:ah)(dH:ah)(mo:Bool)(mv:ah)(k:ah)(hk:bO.b.size<140737488355328):
    Fc Tryz.prog 213 [.agg #[iV ms,iV mk,sV bO.b,sV dH.b,.bool mo,sV mv.b],sV k.b] G [] (fun v _ _=>v=.agg (List.toArray ((aA.on (⟨ms,mk,bO,dH,mo,mv⟩:aA) k).cells))):=by
 refine Fc.go [.cell 4 224] Tryz.func213 Tryz.ntmps213 rfl (fun w0=>(g9 2 ?_))
 refine W.box (L:=[iV _,iV _,sV _,sV _,.bool _,sV _]) rfl rfl (fun b4=>(W.alloc oq (fun b5=>(g9 6 ?_))))
 refine W.ay (tv _ _ _ _ _ _ (by first|assumption|omega|(dsimp only;omega))) rfl (W.mv (W.ay (xz _ _ _ _) rfl (g9 3 ?_)))
 refine WC.cond rfl (fun h9=> ?_) (fun h9=> ?_)
 ·refine g9 2 ?_
  refine W.ok (aM (L:=[iV _,sV _]) qK oq rfl rfl rfl) (g9 6 ?_)
  refine congrArg (fun l=>Value.agg (List.toArray l)) ?_
  show [Value.int _ _,Value.string _]=_
  first|(simp_all [aA.on,ct.cells,ct.zero,ah.nil];done)|(simp_all [aA.on,ct.cells,ct.zero,ah.nil];split<;>first|(exfalso;omega)|(simp;done)|(split<;>first|(exfalso;omega)|(simp;done)))
 refine g9 17 ?_
 refine WC.cd (fun gl gm=> ?_) (fun gl gm=> ?_)
 ·refine g9 9 ?_
  refine W.ok (aM (L:=[iV _,sV _]) qK oq rfl rfl rfl) (g9 7 ?_)
  refine congrArg (fun l=>Value.agg (List.toArray l)) ?_
  show [Value.int _ _,Value.string _]=_
  first|(simp_all [aA.on,ct.cells,ct.zero,ah.nil];done)|(simp_all [aA.on,ct.cells,ct.zero,ah.nil];split<;>first|(exfalso;omega)|(simp;done)|(split<;>first|(exfalso;omega)|(simp;done)))
 refine g9 5 ?_
 refine WC.cd (fun lW nM=> ?_) (fun lW nM=> ?_)
 ·refine g9 6 ?_
  refine W.ok (aM (L:=[iV _,sV _]) qK oq rfl rfl rfl) (g9 7 ?_)
  refine congrArg (fun l=>Value.agg (List.toArray l)) ?_
  show [Value.int _ _,Value.string _]=_
  first|(simp_all [aA.on,ct.cells,ct.zero,ah.nil];done)|(simp_all [aA.on,ct.cells,ct.zero,ah.nil];split<;>first|(exfalso;omega)|(simp;done)|(split<;>first|(exfalso;omega)|(simp;done)))
 refine g9 7 ?_
 refine WC.cd (fun m7 m8=> ?_) (fun m7 m8=> ?_)
 ·refine g9 5 ?_
  refine W.ok (aM (L:=[iV _,sV _]) qK oq rfl rfl rfl) (g9 7 ?_)
  refine congrArg (fun l=>Value.agg (List.toArray l)) ?_
  show [Value.int _ _,Value.string _]=_
  first|(simp_all [aA.on,ct.cells,ct.zero,ah.nil];done)|(simp_all [aA.on,ct.cells,ct.zero,ah.nil];split<;>first|(exfalso;omega)|(simp;done)|(split<;>first|(exfalso;omega)|(simp;done)))
 refine g9 5 ?_
 refine WC.cd (fun AV DR=> ?_) (fun AV DR=> ?_)
 ·refine g9 2 ?_
  refine W.ok (aM (L:=[iV _,sV _]) qK oq rfl rfl rfl) (g9 7 ?_)
  refine congrArg (fun l=>Value.agg (List.toArray l)) ?_
  show [Value.int _ _,Value.string _]=_
  first|(simp_all [aA.on,ct.cells,ct.zero,ah.nil];done)|(simp_all [aA.on,ct.cells,ct.zero,ah.nil];split<;>first|(exfalso;omega)|(simp;done)|(split<;>first|(exfalso;omega)|(simp;done)))
 refine g9 5 ?_
 refine W.ok (aM (L:=[iV _,sV _]) qK oq rfl rfl rfl) (g9 5 ?_)
 refine congrArg (fun l=>Value.agg (List.toArray l)) ?_
 show [Value.int _ _,Value.string _]=_
 first|(simp_all [aA.on,ct.cells,ct.zero,ah.nil];done)|(simp_all [aA.on,ct.cells,ct.zero,ah.nil];split<;>first|(exfalso;omega)|(simp;done)|(split<;>first|(exfalso;omega)|(simp;done)))

theorem ati(ms:Int)(mk:Int)(bO:ah)(dH:ah)(mo:Bool)(mv:ah)(k:ah)(hk:bO.b.size<140737488355328):
    Fc Tryz.prog 174 [.agg #[iV ms,iV mk,sV bO.b,sV dH.b,.bool mo,sV mv.b],sV k.b] G [] (fun v _ _=>v=.agg (List.toArray ((aA.on (⟨ms,mk,bO,dH,mo,mv⟩:aA) k).cells))):=by
 refine Fc.go [.cell 4 224] Tryz.func174 Tryz.ntmps174 rfl (fun w0=>(g9 2 ?_))
 refine W.box (L:=[iV _,iV _,sV _,sV _,.bool _,sV _]) rfl rfl (fun b6=>(W.alloc oq (fun b7=>(g9 6 ?_))))
 refine W.ay (my _ _ _ _ _ _ (by first|assumption|omega|(dsimp only;omega))) rfl (W.mv (W.ay (zq _ _ _ _) rfl (g9 2 ?_)))
 refine W.sp 10 rfl (fun h9=> ?_) (fun h9=> ?_)
 ·refine g9 14 ?_
  refine W.ok (aM (L:=[iV _,sV _]) qK oq rfl rfl rfl) (g9 6 ?_)
  refine congrArg (fun l=>Value.agg (List.toArray l)) ?_
  show [Value.int _ _,Value.string _]=_
  first|(simp_all [aA.on,ct.cells,ct.zero,ah.nil];done)|(simp_all [aA.on,ct.cells,ct.zero,ah.nil];split<;>first|(exfalso;omega)|(simp;done)|(split<;>first|(exfalso;omega)|(simp;done)))
 refine g9 8 ?_
 refine W.sd 15 (fun jc jh=> ?_) (fun jc jh=> ?_)
 ·refine g9 9 ?_
  refine W.ok (aM (L:=[iV _,sV _]) qK oq rfl rfl rfl) (g9 6 ?_)
  refine congrArg (fun l=>Value.agg (List.toArray l)) ?_
  show [Value.int _ _,Value.string _]=_
  first|(simp_all [aA.on,ct.cells,ct.zero,ah.nil];done)|(simp_all [aA.on,ct.cells,ct.zero,ah.nil];split<;>first|(exfalso;omega)|(simp;done)|(split<;>first|(exfalso;omega)|(simp;done)))
 refine g9 9 ?_
 refine WC.cd (fun AW tz=> ?_) (fun AW tz=> ?_)
 ·refine g9 2 ?_
  refine W.ok (aM (L:=[iV _,sV _]) qK oq rfl rfl rfl) (g9 6 ?_)
  refine congrArg (fun l=>Value.agg (List.toArray l)) ?_
  show [Value.int _ _,Value.string _]=_
  first|(simp_all [aA.on,ct.cells,ct.zero,ah.nil];done)|(simp_all [aA.on,ct.cells,ct.zero,ah.nil];split<;>first|(exfalso;omega)|(simp;done)|(split<;>first|(exfalso;omega)|(simp;done)))
 refine g9 10 ?_
 refine WC.cd (fun AV DR=> ?_) (fun AV DR=> ?_)
 ·refine g9 2 ?_
  refine W.ok (aM (L:=[iV _,sV _]) qK oq rfl rfl rfl) (g9 6 ?_)
  refine congrArg (fun l=>Value.agg (List.toArray l)) ?_
  show [Value.int _ _,Value.string _]=_
  first|(simp_all [aA.on,ct.cells,ct.zero,ah.nil];done)|(simp_all [aA.on,ct.cells,ct.zero,ah.nil];split<;>first|(exfalso;omega)|(simp;done)|(split<;>first|(exfalso;omega)|(simp;done)))
 refine g9 8 ?_
 refine W.ok (aM (L:=[iV _,sV _]) qK oq rfl rfl rfl) (g9 5 ?_)
 refine congrArg (fun l=>Value.agg (List.toArray l)) ?_
 show [Value.int _ _,Value.string _]=_
 first|(simp_all [aA.on,ct.cells,ct.zero,ah.nil];done)|(simp_all [aA.on,ct.cells,ct.zero,ah.nil];split<;>first|(exfalso;omega)|(simp;done)|(split<;>first|(exfalso;omega)|(simp;done)))

variable {mR:Value} {Hz:Value}
theorem aj8{a:List ah}(dM:ax dg G mR a){b:List ah}(sL:ax dg G Hz b):
    Fc Tryz.prog 86 [mR,Hz] G [] (fun v _ _=>v=.bool (decide (a=b))):=by
 obtain⟨pb,pd,rfl⟩:=dM.form
 obtain⟨B2,B3,rfl⟩:=sL.form
 have ha:=dM.aH
 have hb:=sL.aH
 refine Fc.go [.tmp 4] Tryz.func86 Tryz.ntmps86 rfl (fun w0=>(g9 15 ?_))
 refine WC.cn (fun eM jd=> ?_) (fun eM jd=> ?_)
 ·refine g9 8 ?_
  refine congrArg Value.bool ?_
  exact(decide_eq_false fun e=>by subst e;omega).symm
 have mZ:a.length=b.length:=by omega
 refine g9 9 ?_
 refine WC.loop (X:=Nat) (fun k=>[(5,aT k),(0,lV pb a.length pd),(1,lV B2 b.length B3)]) (fun k _ Ml=>Ml=[]∧k≤a.length∧∀i (h:i<a.length) (h2:i<b.length),i<k→a[i]=b[i]) (fun k=>a.length-k) 0 aZ ?_ ?_
 ·exact⟨rfl,aa,fun i _ _ h=>by omega⟩
 rintro k DQ G1 _ fL ⟨rfl,Pz,hk⟩
 refine g9 9 ?_
 refine WC.cd (fun gl gm=> ?_) (fun gl gm=> ?_)
 ·refine g9 8 ?_
  refine(dM.mono fL).a1 (i:=k) aa (fun he2=>(g9 4 ?_))
  refine(sL.mono fL).a1 (i:=k) aa (fun he5=>(g9 5 ?_))
  refine WC.cn (fun pN xA=> ?_) (fun pN xA=> ?_)
  ·refine g9 12 ?_
   refine congrArg Value.bool ?_
   exact(decide_eq_false fun e=>by subst e;exact xA rfl).symm
  refine g9 9 ?_
  exact⟨Le.rfl,k+1,aZ,⟨rfl,aa,fun i h h2 hi=>by
      by_cases e:i=k
      ·subst e;first|exact Decidable.not_not.1 xA|exact ah.ext' xA|omega
      ·exact hk i h h2 aa⟩,aa⟩
 refine g9 12 ?_
 refine congrArg Value.bool ?_
 exact(decide_eq_true (List.ext_getElem aa fun i h h2=>hk i h h2 aa)).symm

theorem aj9{a:List Int}(dM:ax bY G mR a){b:List Int}(sL:ax bY G Hz b):
    Fc Tryz.prog 87 [mR,Hz] G [] (fun v _ _=>v=.bool (decide (a=b))):=by
 obtain⟨pb,pd,rfl⟩:=dM.form
 obtain⟨B2,B3,rfl⟩:=sL.form
 have ha:=dM.aH
 have hb:=sL.aH
 refine Fc.go [.tmp 4] Tryz.func87 Tryz.ntmps87 rfl (fun w0=>(g9 15 ?_))
 refine WC.cn (fun eM jd=> ?_) (fun eM jd=> ?_)
 ·refine g9 8 ?_
  refine congrArg Value.bool ?_
  exact(decide_eq_false fun e=>by subst e;omega).symm
 have mZ:a.length=b.length:=by omega
 refine g9 9 ?_
 refine WC.loop (X:=Nat) (fun k=>[(5,aT k),(0,lV pb a.length pd),(1,lV B2 b.length B3)]) (fun k _ Ml=>Ml=[]∧k≤a.length∧∀i (h:i<a.length) (h2:i<b.length),i<k→a[i]=b[i]) (fun k=>a.length-k) 0 aZ ?_ ?_
 ·exact⟨rfl,aa,fun i _ _ h=>by omega⟩
 rintro k gG8 G8 _ xB ⟨rfl,Pz,hk⟩
 refine g9 9 ?_
 refine WC.cd (fun gl gm=> ?_) (fun gl gm=> ?_)
 ·refine g9 8 ?_
  refine(dM.mono xB).a2 (i:=k) aa (fun PA aGR=>(g9 4 ?_))
  refine(sL.mono xB).a2 (i:=k) aa (fun Tr aGS=>(g9 5 ?_))
  refine WC.cn (fun pN xA=> ?_) (fun pN xA=> ?_)
  ·refine g9 12 ?_
   refine congrArg Value.bool ?_
   exact(decide_eq_false fun e=>by subst e;exact xA rfl).symm
  refine g9 9 ?_
  exact⟨Le.rfl,k+1,aZ,⟨rfl,aa,fun i h h2 hi=>by
      by_cases e:i=k
      ·subst e;first|exact Decidable.not_not.1 xA|exact ah.ext' xA|omega
      ·exact hk i h h2 aa⟩,aa⟩
 refine g9 12 ?_
 refine congrArg Value.bool ?_
 exact(decide_eq_true (List.ext_getElem aa fun i h h2=>hk i h h2 aa)).symm

variable {a:List bp}
theorem agD(dM:ax bA G mR a){b:List bp}(sL:ax bA G Hz b):
    Fc Tryz.prog 89 [mR,Hz] G [] (fun v _ _=>v=.bool (decide (a=b))):=by
 obtain⟨pb,pd,rfl⟩:=dM.form
 obtain⟨B2,B3,rfl⟩:=sL.form
 have ha:=dM.aH
 have hb:=sL.aH
 refine Fc.go [.tmp 4] Tryz.func89 Tryz.ntmps89 rfl (fun w0=>(g9 15 ?_))
 refine WC.cn (fun eM jd=> ?_) (fun eM jd=> ?_)
 ·refine g9 8 ?_
  refine congrArg Value.bool ?_
  exact(decide_eq_false fun e=>by subst e;omega).symm
 have mZ:a.length=b.length:=by omega
 refine g9 9 ?_
 refine WC.loop (X:=Nat) (fun k=>[(5,aT k),(0,lV pb a.length pd),(1,lV B2 b.length B3)]) (fun k _ Ml=>Ml=[]∧k≤a.length∧∀i (h:i<a.length) (h2:i<b.length),i<k→a[i]=b[i]) (fun k=>a.length-k) 0 aZ ?_ ?_
 ·exact⟨rfl,aa,fun i _ _ h=>by omega⟩
 rintro k Tu G17 _ rY ⟨rfl,Pz,hk⟩
 refine g9 9 ?_
 refine WC.cd (fun gl gm=> ?_) (fun gl gm=> ?_)
 ·refine g9 8 ?_
  refine(dM.mono rY).a1 (i:=k) aa (fun Tv=>(g9 4 ?_))
  refine(sL.mono rY).a1 (i:=k) aa (fun adE=>(g9 2 ?_))
  refine W.ok (HA (L1:=[sV _,sV _]) (L2:=[sV _,sV _]) ayP rfl rfl rfl rfl) (g9 2 ?_)
  refine WC.cond rfl (fun pN=> ?_) (fun pN=> ?_)
  ·refine g9 12 ?_
   refine congrArg Value.bool ?_
   exact(decide_eq_false fun e=>by subst e;exact bp.ZW pN rfl).symm
  refine g9 9 ?_
  exact⟨Le.rfl,k+1,aZ,⟨rfl,aa,fun i h h2 hi=>by
      by_cases e:i=k
      ·subst e;exact bp.ZV pN
      ·exact hk i h h2 aa⟩,aa⟩
 refine g9 12 ?_
 refine congrArg Value.bool ?_
 exact(decide_eq_true (List.ext_getElem aa fun i h h2=>hk i h h2 aa)).symm

theorem agE{a:List aA}(dM:ax bQ G mR a){b:List aA}(sL:ax bQ G Hz b):
    Fc Tryz.prog 88 [mR,Hz] G [] (fun v _ _=>v=.bool (decide (a=b))):=by
 obtain⟨pb,pd,rfl⟩:=dM.form
 obtain⟨B2,B3,rfl⟩:=sL.form
 have ha:=dM.aH
 have hb:=sL.aH
 refine Fc.go [.tmp 4] Tryz.func88 Tryz.ntmps88 rfl (fun w0=>(g9 15 ?_))
 refine WC.cn (fun eM jd=> ?_) (fun eM jd=> ?_)
 ·refine g9 8 ?_
  refine congrArg Value.bool ?_
  exact(decide_eq_false fun e=>by subst e;omega).symm
 have mZ:a.length=b.length:=by omega
 refine g9 9 ?_
 refine WC.loop (X:=Nat) (fun k=>[(5,aT k),(0,lV pb a.length pd),(1,lV B2 b.length B3)]) (fun k _ Ml=>Ml=[]∧k≤a.length∧∀i (h:i<a.length) (h2:i<b.length),i<k→a[i]=b[i]) (fun k=>a.length-k) 0 aZ ?_ ?_
 ·exact⟨rfl,aa,fun i _ _ h=>by omega⟩
 rintro k aka G24 _ xC ⟨rfl,Pz,hk⟩
 refine g9 9 ?_
 refine WC.cd (fun gl gm=> ?_) (fun gl gm=> ?_)
 ·refine g9 8 ?_
  refine(dM.mono xC).a2 (i:=k) aa (fun Fp aTw=>(g9 4 ?_))
  refine(sL.mono xC).a2 (i:=k) aa (fun awS aGT=>(g9 2 ?_))
  refine W.ok (HA (L1:=[iV _,iV _,sV _,sV _,.bool _,sV _]) (L2:=[iV _,iV _,sV _,sV _,.bool _,sV _]) aGU rfl rfl rfl rfl) (g9 2 ?_)
  refine WC.cond rfl (fun pN=> ?_) (fun pN=> ?_)
  ·refine g9 12 ?_
   refine congrArg Value.bool ?_
   exact(decide_eq_false fun e=>by subst e;exact aA.ZW pN rfl).symm
  refine g9 9 ?_
  exact⟨Le.rfl,k+1,aZ,⟨rfl,aa,fun i h h2 hi=>by
      by_cases e:i=k
      ·subst e;exact aA.ZV pN
      ·exact hk i h h2 aa⟩,aa⟩
 refine g9 12 ?_
 refine congrArg Value.bool ?_
 exact(decide_eq_true (List.ext_getElem aa fun i h h2=>hk i h h2 aa)).symm

variable {l:List bp} {bN:Value}
theorem agF(az:ax bA G bN l)(m:Int)(hm:0≤m∧m≤1073741824):
    Fc Tryz.prog 50 [bN,iV m] G [] (fun v _ _=>v=.bool (decide (iq bp.w l 0 m≤m))):=by
 obtain⟨aW,aX,rfl⟩:=az.form
 have hl:=az.aH
 refine Fc.go [.tmp 4] Tryz.func50 Tryz.ntmps50 rfl (fun w0=>(g9 17 ?_))
 refine WC.loop (X:=Nat×Int) (fun x=>[(5,iV x.2),(6,aT x.1),(0,lV aW l.length aX),(1,iV m)]) (fun x _ Ml=>Ml=[]∧x.1≤l.length∧0≤x.2∧x.2≤1125899906842624∧iq bp.w (l.drop x.1) x.2 m=iq bp.w l 0 m) (fun x=>l.length-x.1) (0,0) aZ ?_ ?_
 ·exact⟨rfl,by simp,by simp,by simp,by simp⟩
 rintro⟨k,n⟩ akb G35 _ Ap ⟨rfl,hk,hn,Gh,B4⟩
 dsimp only at hk hn Gh B4
 refine g9 8 ?_
 refine W.sd 11 (fun eM jd=> ?_) (fun eM jd=> ?_)
 ·refine g9 9 ?_
  refine WC.cd (fun gl gm=> ?_) (fun gl gm=> ?_)
  ·refine g9 8 ?_
   refine(az.mono Ap).a1 (i:=k) aa (fun awT=>(g9 4 ?_))
   refine W.ok (db rfl rfl (by have:=(l[k]).key.le;have:=(l[k]).val.le;omega)) (g9 2 ?_)
   refine(az.mono Ap).a1 (i:=k) aa (fun aGV=>(g9 4 ?_))
   refine W.ok (db rfl rfl (by have:=(l[k]).key.le;have:=(l[k]).val.le;omega)) (W.ok (db rfl rfl (by have:=(l[k]).key.le;have:=(l[k]).val.le;dsimp only;omega)) (g9 10 ?_))
   exact⟨Le.rfl,(k+1,n+bp.w l[k]),⟨(by first|rfl|exact iv (by dsimp only [bp.w])|exact iv (by dsimp only [bp.w];omega)),eqv,eqv,eqv,trivial⟩,⟨rfl,by dsimp only;omega,by have:=bp.AS l[k];dsimp only;omega,by have:=bp.ajP l[k];dsimp only;omega,(Fe aa gm).symm.trans B4⟩,by dsimp only;omega⟩
  refine g9 15 ?_
  refine congrArg Value.bool ?_
  rw [←B4]
  rw [Ff aa]
 refine g9 22 ?_
 refine congrArg Value.bool ?_
 rw [←B4]
 rw [Hf aa]

theorem atj{l:List aA}(az:ax bQ G bN l)(m:Int)(hm:0≤m∧m≤1073741824):
    Fc Tryz.prog 52 [bN,iV m] G [] (fun v _ _=>v=.bool (decide (iq aA.w l 0 m≤m))):=by
 obtain⟨aW,aX,rfl⟩:=az.form
 have hl:=az.aH
 refine Fc.go [.tmp 4] Tryz.func52 Tryz.ntmps52 rfl (fun w0=>(g9 17 ?_))
 refine WC.loop (X:=Nat×Int) (fun x=>[(5,iV x.2),(6,aT x.1),(0,lV aW l.length aX),(1,iV m)]) (fun x _ Ml=>Ml=[]∧x.1≤l.length∧0≤x.2∧x.2≤1125899906842624∧iq aA.w (l.drop x.1) x.2 m=iq aA.w l 0 m) (fun x=>l.length-x.1) (0,0) aZ ?_ ?_
 ·exact⟨rfl,by simp,by simp,by simp,by simp⟩
 rintro⟨k,n⟩ aTx G42 _ Fq ⟨rfl,hk,hn,Gh,B4⟩
 dsimp only at hk hn Gh B4
 refine g9 8 ?_
 refine W.sd 11 (fun eM jd=> ?_) (fun eM jd=> ?_)
 ·refine g9 9 ?_
  refine WC.cd (fun gl gm=> ?_) (fun gl gm=> ?_)
  ·refine g9 8 ?_
   refine(az.mono Fq).a2 (i:=k) aa (fun aGW aGX=>(g9 4 ?_))
   refine W.ok (db rfl rfl (by have:=(l[k]).key.le;have:=(l[k]).val.le;have:=(l[k]).hi.le;omega)) (g9 2 ?_)
   refine(az.mono Fq).a2 (i:=k) aa (fun aGY aGZ=>(g9 4 ?_))
   refine W.ok (db rfl rfl (by have:=(l[k]).key.le;have:=(l[k]).val.le;have:=(l[k]).hi.le;omega)) (g9 2 ?_)
   refine(az.mono Fq).a2 (i:=k) aa (fun aG0 aG1=>(g9 4 ?_))
   refine W.ok (db rfl rfl (by have:=(l[k]).key.le;have:=(l[k]).val.le;have:=(l[k]).hi.le;omega)) (W.ok (db rfl rfl (by have:=(l[k]).key.le;have:=(l[k]).val.le;have:=(l[k]).hi.le;dsimp only;omega)) (g9 10 ?_))
   exact⟨Le.rfl,(k+1,n+aA.w l[k]),⟨(by first|rfl|exact iv (by dsimp only [aA.w])|exact iv (by dsimp only [aA.w];omega)),eqv,eqv,eqv,trivial⟩,⟨rfl,by dsimp only;omega,by have:=aA.AS l[k];dsimp only;omega,by have:=aA.ajP l[k];dsimp only;omega,(Fe aa gm).symm.trans B4⟩,by dsimp only;omega⟩
  refine g9 15 ?_
  refine congrArg Value.bool ?_
  rw [←B4]
  rw [Ff aa]
 refine g9 22 ?_
 refine congrArg Value.bool ?_
 rw [←B4]
 rw [Hf aa]

theorem aab(az:ax bA G bN l):
    Fc Tryz.prog 113 [bN] G [] (fun v _ _=>v=.bool (decide (bC l))):=by
 obtain⟨aW,aX,rfl⟩:=az.form
 have hl:=az.aH
 refine Fc.go [.tmp 2] Tryz.func113 Tryz.ntmps113 rfl (fun w0=>(g9 12 ?_))
 refine WC.loop (X:=Nat) (fun k=>[(3,aT k),(0,lV aW l.length aX)]) (fun k _ Ml=>Ml=[]∧∀i (h:i<l.length),i<k→(l[i].key.b.size≤16∧l[i].val.b.size≤16)∧(0<i→(l[i-1]'aa).key.lt l[i].key=true)) (fun k=>l.length-k) 0 aZ ?_ ?_
 ·exact⟨rfl,fun i _ h=>by omega⟩
 rintro k aTy G58 _ B5 ⟨rfl,hk⟩
 refine g9 9 ?_
 refine WC.cd (fun h7 p7=> ?_) (fun h7 p7=> ?_)
 ·refine g9 8 ?_
  refine(az.mono B5).a1 (i:=k) aa (fun aTz=>(g9 6 ?_))
  refine W.sd 17 (fun fU gX=> ?_) (fun fU gX=> ?_)
  ·refine g9 42 ?_
   refine congrArg Value.bool ?_
   exact(decide_eq_false fun h=>by have:=h k aa;omega).symm
  refine g9 5 ?_
  refine(az.mono B5).a1 (i:=k) aa (fun akc=>(g9 11 ?_))
  refine W.sd 26 (fun rM xD=> ?_) (fun rM xD=> ?_)
  ·refine g9 33 ?_
   refine congrArg Value.bool ?_
   exact(decide_eq_false fun h=>by have:=h k aa;omega).symm
  refine g9 6 ?_
  refine W.sd 29 (fun wT pO=> ?_) (fun wT pO=> ?_)
  ·refine g9 7 ?_
   refine(az.mono B5).a1 (i:=k-1) aa (fun aTA=>(W.ok (aY (i:=k-1) cv bX (az.mono B5) rfl rfl ⟨aa,aa⟩) (g9 9 ?_)))
   refine(az.mono B5).a1 (i:=k) aa (fun akd=>(g9 6 ?_))
   refine W.ay (hX _ _) rfl (g9 7 ?_)
   refine WC.cond rfl (fun PB=> ?_) (fun PB=> ?_)
   ·refine g9 12 ?_
    refine congrArg Value.bool ?_
    exact(decide_eq_false fun h=>by have:=h k aa;have h1:=this.2 aa;simp [h1]at PB).symm
   refine g9 9 ?_
   exact⟨Le.rfl,k+1,aZ,⟨rfl,fun i h hi=>by
      by_cases e:i=k
      ·subst e;exact⟨⟨aa,aa⟩,fun h0=>by simpa using PB⟩
      ·exact hk i h aa⟩,aa⟩
  refine g9 28 ?_
  exact⟨Le.rfl,k+1,aZ,⟨rfl,fun i h hi=>by
      by_cases e:i=k
      ·subst e;exact⟨⟨aa,aa⟩,fun h0=>by omega⟩
      ·exact hk i h aa⟩,aa⟩
 refine g9 12 ?_
 refine congrArg Value.bool ?_
 exact(decide_eq_true fun i h=>hk i h aa).symm

theorem gE(dM:ax bA G mR a):
    Fc Tryz.prog 122 [mR] G [] (fun v G' M'=>M'=[]∧∃u0,v=u0∧ax bA G' u0 (a)):=by
 obtain⟨pb,pd,rfl⟩:=dM.form
 have ha:=dM.bytes
 refine Fc.go [.tmp 2] Tryz.func122 Tryz.ntmps122 rfl (fun w0=>(g9 9 ?_))
 refine W.ok (kx cv rfl rfl) (g9 2 ?_)
 refine WC.cond rfl (fun h4=> ?_) (fun h4=> ?_)
 ·have hn:=ax.isNone dM h4
  subst hn
  refine g9 8 ?_
  refine⟨rfl,_,rfl,?_⟩
  ·exact ax.nil
 refine g9 4 ?_
 refine W.mz (e:=bA) cv bX eV rfl (fun v71 Tw aG2=>(W.mv (W.app (e:=bA) cv bX eV rfl lT rfl rfl (aG2) (dM) ai (by simpa using ha) (fun v74 HB LU=>(g9 3 ?_)))))
 refine WC.cm LU ai (fun G77 Tx ake=>(g9 2 ?_))
 refine⟨rfl,_,rfl,?_⟩
 ·exact ake

theorem gF{a:List aA}(dM:ax bQ G mR a):
    Fc Tryz.prog 121 [mR] G [] (fun v G' M'=>M'=[]∧∃u0,v=u0∧ax bQ G' u0 (a)):=by
 obtain⟨pb,pd,rfl⟩:=dM.form
 have ha:=dM.bytes
 refine Fc.go [.tmp 2] Tryz.func121 Tryz.ntmps121 rfl (fun w0=>(g9 9 ?_))
 refine W.ok (kx cO rfl rfl) (g9 2 ?_)
 refine WC.cond rfl (fun h4=> ?_) (fun h4=> ?_)
 ·have hn:=ax.isNone dM h4
  subst hn
  refine g9 8 ?_
  refine⟨rfl,_,rfl,?_⟩
  ·exact ax.nil
 refine g9 4 ?_
 refine W.mz (e:=bQ) cO cX cy rfl (fun v78 adF aG3=>(W.mv (W.app (e:=bQ) cO cX cy rfl jv rfl rfl (aG3) (dM) ai (by simpa using ha) (fun v81 HC adG=>(g9 3 ?_)))))
 refine WC.cm adG ai (fun G84 awU Ty=>(g9 2 ?_))
 refine⟨rfl,_,rfl,?_⟩
 ·exact Ty

theorem Tz(az:ax bA G bN l)(k:ah):
    Fc Tryz.prog 190 [bN,sV k.b] G [] (fun v _ _=>v=.tuple #[sV (ah.b ((cV l k).getD ah.nil)),.bool ((cV l k).isSome)]):=by
 obtain⟨aW,aX,rfl⟩:=az.form
 have hl:=az.aH
 refine Fc.go [.tmp 4,.tmp 5] Tryz.func190 Tryz.ntmps190 rfl (fun w0=>(g9 13 ?_))
 refine WC.loop (X:=Nat) (fun i=>[(6,aT i),(0,lV aW l.length aX),(1,sV k.b)]) (fun i _ Ml=>Ml=[]∧i≤l.length∧∀j (h:j<l.length),j<i→l[j].key≠k) (fun i=>l.length-i) 0 aZ ?_ ?_
 ·exact⟨rfl,aa,fun j _ h=>by omega⟩
 rintro i DQ G1 _ fL ⟨rfl,hi,hj⟩
 refine g9 9 ?_
 refine WC.cd (fun eM jd=> ?_) (fun eM jd=> ?_)
 ·refine g9 8 ?_
  refine(az.mono fL).a1 (i:=i) aa (fun he2=>(g9 7 ?_))
  refine WC.cd (fun fN pQ=> ?_) (fun fN pQ=> ?_)
  ·refine g9 4 ?_
   refine(az.mono fL).a1 (i:=i) aa (fun he5=>(g9 14 ?_))
   show Value.tuple #[Value.string _,Value.bool _]=_
   have e1:l[i].key=k:=ah.ext' pQ
   have e:=S6 (by omega:i<l.length) (fun j h oh=>by rw [e1];exact hj j h oh)
   rw [e1]at e
   rw [e];rfl
  refine g9 9 ?_
  exact⟨Le.rfl,i+1,aZ,⟨rfl,aa,fun j h oh e=>by
      by_cases e2:j=i
      ·subst e2;exact pQ (congrArg ah.b e)
      ·exact hj j h aa e⟩,aa⟩
 refine g9 13 ?_
 show Value.tuple #[Value.string _,Value.bool _]=_
 rw [S7 (fun j h=>hj j h aa)];rfl

theorem atk(a:ah)(b:ah):
    Fc Tryz.prog 234 [sV a.b,sV b.b] G [] (fun v _ _=>v=iV (tg a b)):=by
 refine Fc.go [.tmp 4] Tryz.func234 Tryz.ntmps234 rfl (fun w0=>(g9 8 ?_))
 refine W.ay (DS _) rfl (g9 6 ?_)
 refine W.ay (DS _) rfl (g9 9 ?_)
 refine WC.cond rfl (fun h8=> ?_) (fun h8=> ?_)
 ·cases h8
 refine g9 8 ?_
 refine WC.cond rfl (fun eM=> ?_) (fun eM=> ?_)
 ·cases eM
 refine g9 10 ?_
 refine WC.cond rfl (fun fU=> ?_) (fun fU=> ?_)
 ·refine g9 8 ?_
  refine congrArg (Value.int .i64) ?_
  simp_all [tg,ah.lt]
 refine g9 7 ?_
 refine W.ok (akf rfl rfl) (g9 2 ?_)
 refine WC.cond rfl (fun fN=> ?_) (fun fN=> ?_)
 ·refine g9 8 ?_
  refine congrArg (Value.int .i64) ?_
  simp_all [tg,ah.lt]
 refine g9 9 ?_
 refine congrArg (Value.int .i64) ?_
 simp_all [tg,ah.lt]

theorem TA(a:ah)(b:ah):
    Fc Tryz.prog 228 [sV a.b,sV b.b] G [] (fun v _ _=>v=iV (tg a b)):=by
 refine Fc.go [.tmp 4] Tryz.func228 Tryz.ntmps228 rfl (fun w0=>(g9 9 ?_))
 refine W.ay (atk _ _) rfl (g9 5 ?_)
 rfl

theorem TD(pk:ah)(pv:ah)(k:ah):
    Fc Tryz.prog 230 [.agg #[sV pk.b,sV pv.b],sV k.b] G [] (fun v _ _=>v=iV (tg pk k)):=by
 refine Fc.go [.tmp 4] Tryz.func230 Tryz.ntmps230 rfl (fun w0=>(g9 2 ?_))
 refine W.box (L:=[sV _,sV _]) rfl rfl (fun b8=>(g9 8 ?_))
 refine W.ay (TA _ _) rfl (g9 5 ?_)
 rfl

theorem TE(pk:ah)(pv:ah)(k:ah):
    Fc Tryz.prog 227 [.agg #[sV pk.b,sV pv.b],sV k.b] G [] (fun v _ _=>v=iV (tg pk k)):=by
 refine Fc.go [.tmp 4] Tryz.func227 Tryz.ntmps227 rfl (fun w0=>(g9 2 ?_))
 refine W.box (L:=[sV _,sV _]) rfl rfl (fun b9=>(g9 8 ?_))
 refine W.ay (TA _ _) rfl (g9 5 ?_)
 rfl

theorem akg(az:ax bA G bN l)(k:ah)(hr:gI l):
    Fc Tryz.prog 226 [bN,sV k.b,.func (.func 230) #[] #[]] G [] (fun v _ _=>v=.tuple #[aT (dQ l k),.bool ((cV l k).isSome)]):=by
 obtain⟨aW,aX,rfl⟩:=az.form
 have hlen:=az.aH
 refine Fc.go [.tmp 6,.tmp 7] Tryz.func226 Tryz.ntmps226 rfl (fun w0=>(g9 22 ?_))
 refine WC.loop (X:=Nat×Nat) (fun x=>[(9,aT x.1),(10,aT x.2),(0,lV aW l.length aX),(1,sV k.b),(2,.func (.func 230) #[] #[]),(8,aT ((l).length))]) (fun x _ Ml=>Ml=[]∧x.1≤x.2∧x.2≤l.length∧(∀q (h:q<l.length),q<x.1→l[q].key.lt k=true)∧(∀q (h:q<l.length),x.2≤q→l[q].key.lt k=false)) (fun x=>x.2-x.1) (0,l.length) aZ ?_ ?_
 ·exact⟨rfl,by simp,by simp,(fun q _ h=>by simp at h),(fun q h h'=>by simp at h';omega)⟩
 rintro⟨i,j⟩ akh G10 _ pe ⟨rfl,hi,hj,h1,h2⟩
 dsimp only at hi hj h1 h2
 refine g9 8 ?_
 refine WC.cd (fun iu fM=> ?_) (fun iu fM=> ?_)
 ·refine g9 8 ?_
  refine W.ok (zr TF xE rfl aa) (W.ok (B6 rfl rfl aa) (W.ok (zt xE TF rfl aa) (g9 8 ?_)))
  refine(az.mono pe).a1 (i:=(i+j) / 2) aa (fun wk=>(W.ok (aY (i:=(i+j) / 2) cv bX (az.mono pe) rfl rfl ⟨by dsimp only;omega,aa⟩) (g9 2 ?_)))
  refine W.nc (fst:=[]) (caps:=[]) rfl (TD _ _ _) rfl (g9 3 ?_)
  refine WC.cd (fun AX u5=> ?_) (fun AX u5=> ?_)
  ·refine g9 7 ?_
   exact⟨Le.rfl,((i+j) / 2+1,j),aZ,⟨rfl,by dsimp only;omega,by dsimp only;omega,(fun q h hq=>hr.below aa (DL.1 u5) q h (by dsimp only at hq;omega)),h2⟩,by dsimp only;omega⟩
  refine g9 6 ?_
  exact⟨Le.rfl,(i,(i+j) / 2),aZ,⟨rfl,by dsimp only;omega,by dsimp only;omega,h1,(fun q h hq=>hr.ZZ aa (S8 u5) q h (by dsimp only at hq;omega))⟩,by dsimp only;omega⟩
 refine g9 12 ?_
 refine W.sd 39 (fun AY tA=> ?_) (fun AY tA=> ?_)
 ·refine g9 7 ?_
  refine(az.mono pe).a1 (i:=i) aa (fun awV=>(g9 6 ?_))
  refine W.nc (fst:=[]) (caps:=[]) rfl (TD _ _ _) rfl (g9 9 ?_)
  have jw:dQ l k=i:=BZ aa h1 (fun q h hq=>h2 q h aa)
  refine Aq (by rw [jw]) ?_
  rw [hr.has]
  rw [B0]
  exact decide_eq_decide.2 ⟨fun e=>⟨aa,by simp only [jw];exact e⟩,fun⟨_,e⟩=>by simp only [jw]at e;exact e⟩
 refine g9 15 ?_
 have jw:dQ l k=i:=BZ aa h1 (fun q h hq=>h2 q h aa)
 refine Aq (by rw [jw]) ?_
 rw [hr.has]
 exact(decide_eq_false (by rintro⟨h,_⟩;omega)).symm

theorem aki(az:ax bA G bN l)(k:ah)(hr:gI l):
    Fc Tryz.prog 226 [bN,sV k.b,.func (.func 227) #[] #[]] G [] (fun v _ _=>v=.tuple #[aT (dQ l k),.bool ((cV l k).isSome)]):=by
 obtain⟨aW,aX,rfl⟩:=az.form
 have hlen:=az.aH
 refine Fc.go [.tmp 6,.tmp 7] Tryz.func226 Tryz.ntmps226 rfl (fun w0=>(g9 22 ?_))
 refine WC.loop (X:=Nat×Nat) (fun x=>[(9,aT x.1),(10,aT x.2),(0,lV aW l.length aX),(1,sV k.b),(2,.func (.func 227) #[] #[]),(8,aT ((l).length))]) (fun x _ Ml=>Ml=[]∧x.1≤x.2∧x.2≤l.length∧(∀q (h:q<l.length),q<x.1→l[q].key.lt k=true)∧(∀q (h:q<l.length),x.2≤q→l[q].key.lt k=false)) (fun x=>x.2-x.1) (0,l.length) aZ ?_ ?_
 ·exact⟨rfl,by simp,by simp,(fun q _ h=>by simp at h),(fun q h h'=>by simp at h';omega)⟩
 rintro⟨i,j⟩ Tu G17 _ rY ⟨rfl,hi,hj,h1,h2⟩
 dsimp only at hi hj h1 h2
 refine g9 8 ?_
 refine WC.cd (fun iu fM=> ?_) (fun iu fM=> ?_)
 ·refine g9 8 ?_
  refine W.ok (zr TF xE rfl aa) (W.ok (B6 rfl rfl aa) (W.ok (zt xE TF rfl aa) (g9 8 ?_)))
  refine(az.mono rY).a1 (i:=(i+j) / 2) aa (fun Tv=>(W.ok (aY (i:=(i+j) / 2) cv bX (az.mono rY) rfl rfl ⟨by dsimp only;omega,aa⟩) (g9 2 ?_)))
  refine W.nc (fst:=[]) (caps:=[]) rfl (TE _ _ _) rfl (g9 3 ?_)
  refine WC.cd (fun AX u5=> ?_) (fun AX u5=> ?_)
  ·refine g9 7 ?_
   exact⟨Le.rfl,((i+j) / 2+1,j),aZ,⟨rfl,by dsimp only;omega,by dsimp only;omega,(fun q h hq=>hr.below aa (DL.1 u5) q h (by dsimp only at hq;omega)),h2⟩,by dsimp only;omega⟩
  refine g9 6 ?_
  exact⟨Le.rfl,(i,(i+j) / 2),aZ,⟨rfl,by dsimp only;omega,by dsimp only;omega,h1,(fun q h hq=>hr.ZZ aa (S8 u5) q h (by dsimp only at hq;omega))⟩,by dsimp only;omega⟩
 refine g9 12 ?_
 refine W.sd 39 (fun AY tA=> ?_) (fun AY tA=> ?_)
 ·refine g9 7 ?_
  refine(az.mono rY).a1 (i:=i) aa (fun adE=>(g9 6 ?_))
  refine W.nc (fst:=[]) (caps:=[]) rfl (TE _ _ _) rfl (g9 9 ?_)
  have jw:dQ l k=i:=BZ aa h1 (fun q h hq=>h2 q h aa)
  refine Aq (by rw [jw]) ?_
  rw [hr.has]
  rw [B0]
  exact decide_eq_decide.2 ⟨fun e=>⟨aa,by simp only [jw];exact e⟩,fun⟨_,e⟩=>by simp only [jw]at e;exact e⟩
 refine g9 15 ?_
 have jw:dQ l k=i:=BZ aa h1 (fun q h hq=>h2 q h aa)
 refine Aq (by rw [jw]) ?_
 rw [hr.has]
 exact(decide_eq_false (by rintro⟨h,_⟩;omega)).symm

theorem akj(az:ax bA G bN l)(k:ah)(hr:gI l):
    Fc Tryz.prog 222 [bN,sV k.b] G [] (fun v _ _=>v=.tuple #[aT (dQ l k),.bool ((cV l k).isSome)]):=by
 obtain⟨aW,aX,rfl⟩:=az.form
 refine Fc.go [.tmp 4,.tmp 5] Tryz.func222 Tryz.ntmps222 rfl (fun w0=>(g9 10 ?_))
 refine W.ay (akg az k hr) rfl (g9 8 ?_)
 rfl

theorem agG(az:ax bA G bN l)(k:ah)(hr:gI l):
    Fc Tryz.prog 218 [bN,sV k.b] G [] (fun v _ _=>v=.tuple #[aT (dQ l k),.bool ((cV l k).isSome)]):=by
 obtain⟨aW,aX,rfl⟩:=az.form
 refine Fc.go [.tmp 4,.tmp 5] Tryz.func218 Tryz.ntmps218 rfl (fun w0=>(g9 10 ?_))
 refine W.ay (aki az k hr) rfl (g9 8 ?_)
 rfl

variable {de:MH} {Gi:Value}
theorem akk{s:List bp}(ec:aP bA 139 G Gi s de)(i:Nat){qk:Value}{u:List bp}{eg:MH}(hZ:aP bA 139 G qk u eg)(hi:i≤s.length)(hu:0<u.length)(hw:(s.length+u.length)*32≤140737488355328):
    Fc Tryz.prog 224 [Gi,aT i,qk] G (de++eg) (fun v G' M'=>aP bA 139 G' v ((s.take i++u)++s.drop i) M'):=by
 have hs:=ec.aH
 have hul:=hZ.aH
 have PC:=ec.eD
 refine Fc.go [.tmp 6] Tryz.func224 Tryz.ntmps224 rfl (fun w0=>(WC.perm (M':=(de++(eg++[]))) (by simp) (g9 9 ?_)))
 refine W.ok (ei (i) (s.length) cv bX ec rfl ⟨_,_,rfl,aa⟩ rfl ⟨aa,.inl aa⟩) (g9 16 ?_)
 refine WC.cd (fun fU gX=> ?_) (fun fU gX=> ?_)
 ·exact absurd gX aa
 refine g9 17 ?_
 refine WC.cd (fun m7 m8=> ?_) (fun m7 m8=> ?_)
 ·refine g9 4 ?_
  refine W.cm hZ (dx ai) (fun G1 fL TG=> ?_)
  have q3:=TG.form
  refine match q3 with|⟨_,_,e_2⟩=> ?_
  subst e_2
  refine W.app (e:=bA) cv bX eV rfl lT rfl rfl ((ec.mono fL)) (TG) ai (hw) (fun v4 Ms5 ho6=>(g9 5 ?_))
  refine⟨.inr rfl,[_],⟨rfl,trivial⟩,Ms5,List.sublist_append_left _ _,?_⟩
  have h:=ho6
  rw [show(s.take i++u)++s.drop i=s++u from by rw [List.take_of_length_le aa,List.drop_eq_nil_of_le aa,List.append_nil]]
  exact h
 refine g9 7 ?_
 refine W.ok (Ok.int (n:=((s.length+u.length:Nat):Int)) (db rfl rfl aa) aa) (W.mv ?_)
 have q7:=ec.B7
 refine match q7 with|⟨awW,HD⟩=> ?_
 refine W.ok (HE (c:=jL Gi) cv HD) (g9 3 ?_)
 refine WC.cd (fun AX u5=> ?_) (fun AX u5=> ?_)
 ·refine g9 4 ?_
  refine W.ok (ei (0) (i) cv bX ec rfl rfl ⟨_,_,rfl,aa⟩ ⟨aa,.inl aa⟩) (g9 2 ?_)
  refine W.ok (Ok.int (n:=((s.length+u.length:Nat):Int)) (db rfl rfl aa) aa) (W.mv (W.ok (Ok.int (n:=((s.length+u.length-i:Nat):Int)) (kG rfl rfl aa) aa) (W.akl (e:=bA) (i:=i) (c:=s.length+u.length-i) cv bX eV rfl lT Tryz.underlying3 ec ai rfl rfl aa aa aa aa (by rw [show i+(s.length+u.length-i)=s.length+u.length from by omega];exact hw) rfl (fun v40 Ar xF=>(g9 7 ?_)))))
  refine W.ok (er (i) (i+(s.length+u.length-i)) cv bX xF rfl ⟨_,_,rfl,aa⟩ rfl ⟨aa,by have:=fm.eD xF;omega⟩) (W.mv (W.u6 (i) (by simp;omega) cv bX xF ai (Src.zu hZ (dx (dx ai)) aa) rfl rfl aa aa (fun z45 wl xG=>(g9 3 ?_))))
  refine WC.dw eu (d9 [0,1,2] ?_)
  refine WD.tk 3 rfl (Ok.int (n:=((i+u.length:Nat):Int)) (db rfl rfl aa) aa) (WD.tk 4 rfl (er (i+u.length) (i+(s.length+u.length-i)) cv bX xG rfl ⟨_,_,rfl,aa⟩ rfl ⟨aa,by have:=fm.eD xG;omega⟩) (d9 [5,6] ?_))
  refine WD.tk 7 rfl (ei (i) (s.length) cv bX ec rfl ⟨_,_,rfl,aa⟩ rfl ⟨aa,.inl aa⟩) (WD.a1 8 rfl (W.u6 (i+u.length) (by simp;omega) cv bX xG ai (Src.HF (lo:=i) ec (dx ai) aa aa) rfl rfl (by simp;omega) aa (fun z54 As TJ=>(W.nn (g9 10 ?_)))))
  refine⟨.inr rfl,[_],⟨rfl,trivial⟩,As,List.sublist_append_left _ _,?_⟩
  have h:=(TJ.LV (by simp;omega))
  rw [List.append_nil]at h
  exact h
 refine g9 7 ?_
 refine W.ok (Ok.int (n:=((s.length+u.length:Nat):Int)) (db rfl rfl aa) aa) (W.ok (ei 0 (s.length+u.length) cv bX ec rfl rfl ⟨_,_,rfl,aa⟩ ⟨aa,.inr aa⟩) ?_)
 have iC:=fm.extend (m:=u.length) (aP.open ec aa) aa hw aa
 refine g9 10 ?_
 refine W.ok (Ok.int (n:=((i+u.length:Nat):Int)) (db rfl rfl aa) aa) (W.ok (er (i+u.length) (s.length+u.length) cv bX iC rfl ⟨_,_,rfl,aa⟩ rfl ⟨aa,by have:=fm.eD iC;omega⟩) ?_)
 have awX:=fm.eD iC
 refine W.ok (u9 (fn:=Tryz.f232) (tR:=4) (lo:=i+u.length) (hi:=s.length+u.length) Tryz.func232 (by kernel_rfl) (by kernel_rfl) (by kernel_rfl) (by kernel_rfl) cv bX hZ iC ((List.Perm.append_left _ ai).trans (dx ai)) aa aa rfl rfl rfl) (g9 5 ?_)
 refine WC.dw eu (d9 [0,1,2] ?_)
 refine WD.tk 3 rfl (Ok.int (n:=((i+u.length:Nat):Int)) (db rfl rfl aa) aa) (WD.tk 4 rfl (er (i+u.length) (s.length+u.length) cv bX iC rfl ⟨_,_,rfl,aa⟩ rfl ⟨aa,by have:=fm.eD iC;omega⟩) (d9 [5,6] ?_))
 refine WD.tk 7 rfl (er (i) (s.length+u.length) cv bX iC rfl ⟨_,_,rfl,aa⟩ rfl ⟨aa,by have:=fm.eD iC;omega⟩) (WD.a1 8 rfl (W.AZ (i:=i) cv bX iC ai rfl rfl aa (fun z77 adH xH=>(W.nn (g9 6 ?_)))))
 refine W.ok (er (i) (s.length+u.length) cv bX xH rfl ⟨_,_,rfl,aa⟩ rfl ⟨aa,by have:=fm.eD xH;omega⟩) (W.mv (W.u6 (i) (by simp;omega) cv bX xH ai (Src.zu hZ (dx ai) aa) rfl rfl aa aa (fun z82 HC TK=>(g9 10 ?_))))
 refine⟨.inr rfl,[_],⟨rfl,trivial⟩,HC,List.sublist_append_left _ _,?_⟩
 exact(TK.LV aa)

theorem akm{s:List bp}(ec:aP bA 139 G Gi s de)(i:Nat)(j:Nat)(kn:i<j∧j≤s.length):
    Fc Tryz.prog 225 [Gi,aT i,aT j] G de (fun v G' M'=>aP bA 139 G' v (s.take i++s.drop j) M'):=by
 have hs:=ec.aH
 obtain⟨aTB,aTC⟩:=kn
 refine Fc.go [.tmp 6] Tryz.func225 Tryz.ntmps225 rfl (fun w0=>(WC.perm (M':=(de++[])) (by simp) (g9 12 ?_)))
 have q8:=ec.B7
 refine match q8 with|⟨aTD,ayQ⟩=> ?_
 have aQz:=ec.eD
 refine W.okx (aac i j s.length cv bX ayQ ⟨_,_,rfl,aa⟩ ⟨_,_,rfl,aa⟩ ⟨_,_,rfl,aa⟩ ⟨aa,aa,aa⟩) (fun u13=>(g9 10 ?_))
 refine WC.cd (fun fU gX=> ?_) (fun fU gX=> ?_)
 ·exact absurd gX aa
 refine g9 10 ?_
 refine WC.dw eu (d9 [0,1] ?_)
 refine WD.tk 2 rfl (ei (0) (i) cv bX ec rfl rfl ⟨_,_,rfl,aa⟩ ⟨aa,.inl aa⟩) (d9 [3,4] ?_)
 refine WD.tk 5 rfl (ei (j) (s.length) cv bX ec rfl ⟨_,_,rfl,aa⟩ rfl ⟨aa,.inl aa⟩) (WD.a1 6 rfl (W.atl (e:=bA) (i:=i) (j:=j) cv bX eV rfl ec ai rfl rfl aa aa aa (fun v26 TL adI aG4 aG5=>(W.nn (d9 [7] ?_)))))
 refine g9 8 ?_
 have aTE:(s.take i++s.drop j).length=i+(s.length-j):=by simp;omega
 refine W.ok (ei (s.take i++s.drop j).length s.length cv bX adI rfl ⟨_,_,rfl,aa⟩ ⟨_,_,rfl,aa⟩ ⟨aa,.inr aa⟩) (W.atm (e:=bA) (lo:=(s.take i++s.drop j).length) (hi:=s.length) cv bX eV rfl rfl adI ai rfl aa aG4 aG5 aa (fun tC TM=>(g9 9 ?_)))
 refine⟨.inr rfl,[_],⟨rfl,trivial⟩,tC,List.sublist_append_left _ _,?_⟩
 exact TM

variable {b_s:Nat}
theorem adJ(pk:ah)(pv:ah)(iK:ah)(iL:ah)(so:Bool)(ec:iD G b_s 0 [sV iK.b,sV iL.b,.bool so]):
    Fc Tryz.prog 221 [.agg #[sV pk.b,sV pv.b],aq b_s] G [] (fun v _ _=>v=.bool (Span.has ⟨iK,iL,so⟩ pk)):=by
 refine Fc.go [.tmp 3] Tryz.func221 Tryz.ntmps221 rfl (fun w0=>(g9 2 ?_))
 refine W.box (L:=[sV _,sV _]) rfl rfl (fun b1=>(g9 5 ?_))
 refine W.ok (DT (vs:=ql) nf ec rfl rfl rfl (by simp)) (g9 2 ?_)
 refine W.ay (xz _ _ _ _) rfl (g9 5 ?_)
 rfl

variable {bS:MH}
theorem akn(az:aP bA 139 G bN l bS)(iK:ah)(iL:ah)(so:Bool)(ec:iD G b_s 0 [sV iK.b,sV iL.b,.bool so]):
    Fc Tryz.prog 229 [bN,.func (.func 221) #[] #[aq b_s]] G bS (fun v _ M'=>v=iV (gn (fun p:bp=>Span.has ⟨iK,iL,so⟩ p.key) l)∧bS=M'):=by
 have hl:=az.aH
 refine Fc.go [.tmp 4] Tryz.func229 Tryz.ntmps229 rfl (fun w0=>(WC.perm (M':=(bS++[])) (by simp) (g9 14 ?_)))
 refine WC.loop (X:=Nat) (fun k=>[(8,aT k),(0,bN),(1,.func (.func 221) #[] #[aq b_s]),(7,aT ((l).length))]) (fun k _ Ml=>Ml=(bS++[])∧k≤l.length∧∀j (h:j<l.length),j<k→(fun p:bp=>Span.has ⟨iK,iL,so⟩ p.key) l[j]=false) (fun k=>l.length-k) 0 aZ ?_ ?_
 ·exact⟨rfl,aa,fun j _ h=>by omega⟩
 rintro k gG2 G2 _ j7 ⟨rfl,hk,hj⟩
 refine g9 6 ?_
 refine WC.cd (fun h9 p9=> ?_) (fun h9 p9=> ?_)
 ·refine g9 15 ?_
  refine(az.mono j7).a1 (i:=k) aa (fun he3=>(W.ok (aE (i:=k) cv bX (az.mono j7) rfl rfl ⟨aa,aa⟩) (W.ok (bM (vs:=ako) bX he3 ai rfl rfl rfl (by simp)) (W.nc (fst:=[]) (caps:=[aq b_s]) rfl (adJ _ _ _ _ _ (ec.mono j7)) rfl (g9 2 ?_)))))
  refine WC.cond rfl (fun fU=> ?_) (fun fU=> ?_)
  ·refine g9 12 ?_
   refine⟨.inr rfl,[_],⟨rfl,trivial⟩,bS,List.sublist_append_left _ _,?_⟩
   refine⟨congrArg (Value.int .i64) ?_,rfl⟩
   exact(B8 aa (fU) hj).symm
  refine g9 8 ?_
  exact⟨Le.rfl,k+1,aZ,⟨rfl,aa,fun j h oh=>by
      by_cases e2:j=k
      ·subst e2;exact fU
      ·exact hj j h aa⟩,aa⟩
 refine g9 11 ?_
 refine⟨.inr rfl,[_],⟨rfl,trivial⟩,bS,List.sublist_append_left _ _,?_⟩
 refine⟨congrArg (Value.int .i64) ?_,rfl⟩
 exact(Ca (fun j h=>hj j h aa)).symm

theorem atn(az:aP bA 139 G bN l bS)(iK:ah)(iL:ah)(so:Bool)(ec:iD G b_s 0 [sV iK.b,sV iL.b,.bool so]):
    Fc Tryz.prog 220 [bN,.func (.func 221) #[] #[aq b_s]] G bS (fun v G' M'=>aP bA 139 G' v (l.filter (fun a=> !(fun p:bp=>Span.has ⟨iK,iL,so⟩ p.key) a)) M'):=by
 have hl:=az.aH
 have hix:=Cb (fun p:bp=>Span.has ⟨iK,iL,so⟩ p.key) l
 refine Fc.go [.tmp 4] Tryz.func220 Tryz.ntmps220 rfl (fun w0=>(WC.perm (M':=(bS++[])) (by simp) (g9 9 ?_)))
 refine W.call (Mp:=bS) (akn az _ _ _ ec) rfl ai ?_
 intro _ G6 Ms8 pf q7
 refine match q7 with|⟨e_9,akp⟩=> ?_
 subst e_9
 subst akp
 refine g9 10 ?_
 refine WC.cd (fun dL ji=> ?_) (fun dL ji=> ?_)
 ·try dsimp only at ji
  refine g9 8 ?_
  refine⟨.inr rfl,[_],⟨rfl,trivial⟩,bS,List.sublist_append_left _ _,?_⟩
  have h:=(az.mono pf)
  rw [LW ji]
  exact h
 try dsimp only at ji
 refine g9 11 ?_
 refine WC.loop (X:=(Nat×Nat×List bp)×Value×MH) (fun x=>[(5,aT x.1.1),(6,aT x.1.2.1),(1,.func (.func 221) #[] #[aq b_s]),(0,x.2.1)]) (fun x G Ml=>Ml=(x.2.2++[])∧aP bA 139 G x.2.1 (x.1.2.2) x.2.2∧x.1.1<x.1.2.1∧x.1.2.1≤l.length∧x.1.2.2.length=l.length∧x.1.2.2.take x.1.1=(l.take x.1.2.1).filter (fun a=> !(fun p:bp=>Span.has ⟨iK,iL,so⟩ p.key) a)∧x.1.2.2.drop x.1.2.1=l.drop x.1.2.1) (fun x=>l.length-x.1.2.1) (((gn (fun p:bp=>Span.has ⟨iK,iL,so⟩ p.key) l).toNat,(gn (fun p:bp=>Span.has ⟨iK,iL,so⟩ p.key) l).toNat+1,l),bN,bS) aZ ?_ ?_
 ·exact⟨rfl,(by exact(az.mono pf)),by dsimp only;omega,by dsimp only;omega,rfl,HG ji,rfl⟩
 rintro⟨⟨i,j,m⟩,v_0,A0⟩ awY G11 _ xI ⟨rfl,eH,kn,Lj,qL,xJ,wU⟩
 try dsimp only at eH kn Lj qL xJ wU
 have HH:=fun(h:j<l.length)=>DU (by omega:j<m.length) h wU
 refine g9 9 ?_
 refine WC.cd (fun fN pQ=> ?_) (fun fN pQ=> ?_)
 ·try dsimp only at pQ
  refine g9 8 ?_
  refine eH.a1 (i:=j) aa (fun adK=>(W.ok (aE (i:=j) cv bX eH rfl rfl ⟨by dsimp only,aa⟩) (W.ok (bM (vs:=ako) bX adK ai rfl rfl rfl (by simp)) (W.alloc eV (fun qI=>(g9 7 ?_))))))
  refine W.nc (fst:=[]) (caps:=[aq b_s]) rfl (adJ _ _ _ _ _ (ec.mono aS)) rfl (g9 3 ?_)
  refine WC.cond rfl (fun iE=> ?_) (fun iE=> ?_)
  ·refine g9 5 ?_
   refine eH.a1 (i:=i) aa (fun awZ=>(W.ok (aE (i:=i) cv bX eH rfl rfl ⟨by dsimp only,aa⟩) (W.dF (i:=i) (o:=0) (vs:=ako) (a':=m[j]) bX rfl rfl rfl rfl rfl (eH) (ae ai) aa (by decide) (fun cs h=>by first|(rw [h];rfl)|(rw [h.1];exact⟨rfl,by assumption⟩)) (fun TP LX=>(W.perm (ae ai).symm (g9 13 ?_))))))
   refine W.sub (bi.cons _) (g9 2 ?_)
   exact⟨Le.rfl,((i+1,j+1,m.set i m[j]),v_0,TP),aZ,⟨rfl,(by exact LX),by dsimp only;omega,by dsimp only;omega,by simpa using qL,(zw (p:=(fun a=> !(fun p:bp=>Span.has ⟨iK,iL,so⟩ p.key) a)) kn aa qL xJ wU (by rw [←HH aa];simpa using iE)).1,(zw (p:=(fun a=> !(fun p:bp=>Span.has ⟨iK,iL,so⟩ p.key) a)) kn aa qL xJ wU (by rw [←HH aa];simpa using iE)).2⟩,by dsimp only;omega⟩
  refine g9 7 ?_
  refine W.sub (bi.cons _) (g9 2 ?_)
  exact⟨Le.rfl,((i,j+1,m),v_0,A0),aZ,⟨rfl,(by exact eH),by dsimp only;omega,by dsimp only;omega,qL,(zx (p:=(fun a=> !(fun p:bp=>Span.has ⟨iK,iL,so⟩ p.key) a)) aa xJ wU (by rw [←HH aa];simpa using iE)).1,(zx (p:=(fun a=> !(fun p:bp=>Span.has ⟨iK,iL,so⟩ p.key) a)) aa xJ wU (by rw [←HH aa];simpa using iE)).2⟩,by dsimp only;omega⟩
 try dsimp only at pQ
 refine g9 9 ?_
 have PD:=eH.akq aa
 refine match PD with|⟨b38,c38,xK⟩=> ?_
 subst xK
 have TQ:=eH.eD
 refine W.ok (ei i m.length cv bX eH rfl ⟨_,_,rfl,by first|omega|(dsimp only;omega)|dsimp only⟩ rfl ⟨aa,.inl aa⟩) (W.PE (e:=bA) (lo:=i) (hi:=m.length) (m:=i) cv bX eV rfl rfl eH ai rfl aa TQ ⟨_,rfl⟩ aa aa (fun wm HI=>(g9 6 ?_)))
 refine W.ok (qM 0 i cv bX rfl rfl ⟨_,_,rfl,by first|omega|(dsimp only;omega)|dsimp only⟩ ⟨aa,by simp only [jL]at TQ;omega⟩) (g9 4 ?_)
 refine⟨.inr rfl,[_],⟨rfl,trivial⟩,wm,List.sublist_append_left _ _,?_⟩
 have h:=HI
 rw [←List.take_of_length_le (l:=l) (i:=j) aa,←xJ]
 exact h

theorem xL(dM:ax bA G mR a):
    Fc Tryz.prog 122 [mR] G [] (fun v G' M'=>aP bA 139 G' v (a) M'):=by
 obtain⟨pb,pd,rfl⟩:=dM.form
 have ha:=dM.bytes
 refine Fc.go [.tmp 2] Tryz.func122 Tryz.ntmps122 rfl (fun w0=>(g9 9 ?_))
 refine W.ok (kx cv rfl rfl) (g9 2 ?_)
 refine WC.cond rfl (fun h4=> ?_) (fun h4=> ?_)
 ·have hn:=ax.isNone dM h4
  subst hn
  refine g9 8 ?_
  exact aP.nil
 refine g9 4 ?_
 refine W.mz (e:=bA) cv bX eV rfl (fun v1 Gj HJ=>(W.mv (W.app (e:=bA) cv bX eV rfl lT rfl rfl (HJ) (dM) ai (by simpa using ha) (fun v4 Ms5 ho6=>(g9 4 ?_)))))
 refine⟨.inr rfl,[_],⟨rfl,trivial⟩,Ms5,List.sublist_append_left _ _,?_⟩
 have h:=ho6
 rw [List.nil_append]at h
 exact h

theorem agH(az:ax bA G bN l)(k:ah)(ek:Int)(ev:ah)(hP:bC l)(hn:l.length≤1000000)(he:ev.b.size≤1048576):
    Fc Tryz.prog 215 [bN,sV k.b,.agg #[iV ek,sV ev.b]] G [] (fun v G' M'=>M'=[]∧∃u0,v=u0∧ax bA G' u0 (iJ l k (⟨ek,ev⟩:ct))):=by
 obtain⟨aW,aX,rfl⟩:=az.form
 have hl:=az.aH
 have hgv:=hP.val k
 have hr:=hP.Pv
 have hh:=hr.has k
 have rN:=BY l k
 refine Fc.go [.tmp 6] Tryz.func215 Tryz.ntmps215 rfl (fun w0=>(g9 2 ?_))
 refine W.box (L:=[iV _,sV _]) rfl rfl (fun b7=>(g9 7 ?_))
 refine W.ay (akj az _ (by assumption)) rfl (g9 18 ?_)
 refine WC.cond rfl (fun aad=> ?_) (fun aad=> ?_)
 ·have A1:(cV l k).isSome=true:=aad
  obtain⟨q1,q2⟩:=va (hh.symm.trans A1)
  have hvk:=hr.val q1 q2
  refine g9 3 ?_
  refine az.a1 (i:=dQ l k) (q1) (fun he8=>(W.ok (aY (i:=dQ l k) cv bX az rfl rfl ⟨aa,q1⟩) (g9 8 ?_)))
  refine W.call (Mp:=[]) (xL az) rfl ai ?_
  rintro v12 G11 aG6 xI adL
  refine W.perm (ae ai).symm (g9 9 ?_)
  refine W.ay (Hy ek ev (cV l k).isSome l[dQ l k].val aa (by rw [hvk]at hgv;simpa using Nat.le_trans hgv (by decide))) rfl (g9 12 ?_)
  refine W.sp 36 rfl (fun A2=> ?_) (fun A2=> ?_)
  ·have tD:ct.apply (⟨ek,ev⟩:ct) (cV l k)=some ((ct.apply (⟨ek,ev⟩:ct) (iS (cV l k).isSome l[dQ l k].val)).getD ah.nil):=by
     rw [A1,hvk]at*;simp only [iS,if_true]at*;exact Cc A2
   refine g9 11 ?_
   refine adL.a1 (i:=dQ l k) (q1) (fun TR=>(W.ok (aE (i:=dQ l k) cv bX adL rfl rfl ⟨aa,q1⟩) (g9 1 ?_)))
   refine W.dF (i:=dQ l k) (o:=1) (vs:=sc9) (a':=⟨l[dQ l k].key,(((ct.apply (⟨ek,ev⟩:ct) (iS (cV l k).isSome l[dQ l k].val))).getD ah.nil)⟩) ft rfl rfl rfl rfl rfl (adL) (ae ai) aa (by decide) (fun cs h=>by rw [h];rfl) (fun wo adM=>(W.perm (ae ai).symm (g9 9 ?_)))
   refine WC.cm adM (ae ai) (fun G20 Au tE=>(g9 2 ?_))
   refine⟨rfl,_,rfl,?_⟩
   ·have h:=tE;rw [ags hr q1 q2 tD]at h;exact h
  have tD:ct.apply (⟨ek,ev⟩:ct) (cV l k)=none:=by
    rw [A1,hvk]at*;simp only [iS,if_true]at*;simpa using A2
  refine g9 24 ?_
  refine W.ok (Ok.int (n:=((dQ l k+1:Nat):Int)) (db rfl rfl aa) aa) (W.call (Mp:=aG6) (akm adL _ _ (by first|assumption|omega)) rfl (ae ai) ?_)
  rintro v22 G21 akr xM aG7
  refine W.perm (ae ai).symm (g9 10 ?_)
  refine WC.cm aG7 (ae ai) (fun G25 qf TU=>(g9 2 ?_))
  refine⟨rfl,_,rfl,?_⟩
  ·have h:=TU;rw [agu hr q1 q2 tD]at h;exact h
 have xo:(cV l k).isSome=false:=aad
 have hnn:cV l k=none:=by simpa using xo
 refine g9 5 ?_
 refine W.call (Mp:=[]) (xL az) rfl ai ?_
 rintro v27 G26 aw0 LY aw1
 refine W.perm (ae ai).symm (g9 9 ?_)
 refine W.ay (Hy ek ev (cV l k).isSome ah.nil aa (by show(ByteArray.mk #[]).size≤_;decide)) rfl (g9 12 ?_)
 refine W.sp 36 rfl (fun A2=> ?_) (fun A2=> ?_)
 ·have tD:ct.apply (⟨ek,ev⟩:ct) (cV l k)=some ((ct.apply (⟨ek,ev⟩:ct) (iS (cV l k).isSome ah.nil)).getD ah.nil):=by
    rw [xo,hnn]at*;simp only [iS]at*;exact Cc A2
  refine g9 19 ?_
  refine W.ok (aM (L:=[sV _,sV _]) aks eV rfl rfl rfl) (W.Av (e:=bA) (l:=[⟨k,(((ct.apply (⟨ek,ev⟩:ct) (iS (cV l k).isSome ah.nil))).getD ah.nil)⟩]) (css:=[[sV _,sV _]]) cv bX eV rfl rfl rfl rfl rfl rfl ⟨rfl,trivial⟩ (fun v30 tC TV=>(W.perm (ae ai).symm (W.call (Mp:=aw0++tC) (akk aw1 _ TV (by first|assumption|omega) (by first|assumption|omega|simp) (by first|assumption|omega|(simp;omega))) rfl ((List.Perm.of_eq (List.append_assoc _ _ _)).trans ((List.Perm.append_left _ (ae ai)).trans (ae (dx ai)))) ?_))))
  rintro v34 G33 TW tG aG8
  refine W.perm (ae ai).symm (g9 10 ?_)
  refine WC.cm aG8 (ae ai) (fun G37 wq aG9=>(g9 2 ?_))
  refine⟨rfl,_,rfl,?_⟩
  ·have h:=aG9;rw [agt hr xo tD]at h;exact h
 have tD:ct.apply (⟨ek,ev⟩:ct) (cV l k)=none:=by
   rw [xo,hnn]at*;simp only [iS]at*;simpa using A2
 refine g9 29 ?_
 refine WC.cm aw1 (ae ai) (fun TX kV Fs=>(g9 2 ?_))
 refine⟨rfl,_,rfl,?_⟩
 ·have h:=Fs;rw [agv hr xo tD]at h;exact h

theorem agI(az:ax bA G bN l)(k:ah)(ek:Int)(ev:ah)(hP:bC l)(hn:l.length≤1000000)(he:ev.b.size≤1048576):
    Fc Tryz.prog 173 [bN,sV k.b,.agg #[iV ek,sV ev.b]] G [] (fun v G' M'=>M'=[]∧∃u0,v=u0∧ax bA G' u0 (iJ l k (⟨ek,ev⟩:ct))):=by
 obtain⟨aW,aX,rfl⟩:=az.form
 have hl:=az.aH
 have hgv:=hP.val k
 refine Fc.go [.tmp 6] Tryz.func173 Tryz.ntmps173 rfl (fun w0=>(g9 2 ?_))
 refine W.box (L:=[iV _,sV _]) rfl rfl (fun b1=>(g9 15 ?_))
 refine WC.loop (X:=(Nat)×Value×MH) (fun i=>[(8,aT i.1),(5,aq b1),(0,lV aW l.length aX),(1,sV k.b),(7,i.2.1)]) (fun i G Ml=>Ml=((b1,aj 224 [iV ek,sV ev.b])::(i.2.2++[]))∧aP bA 139 G i.2.1 (List.filter (fun p:bp=>p.key.lt k) (l.take i.1)) i.2.2∧i.1≤l.length) (fun i=>l.length-i.1) (0,lV none 0 0,([]:MH)) aZ ?_ ?_
 ·exact⟨rfl,(by simpa using aP.nil),aa⟩
 rintro⟨i,sM,Ah⟩ gG2 G2 _ j7 ⟨rfl,gJ,hi⟩
 try dsimp only at gJ hi
 have rN:=tf (fun p:bp=>p.key.lt k) l i
 refine WC.fr (f:=dO gG2 [(8,aT i),(5,aq b1),(0,lV aW l.length aX),(1,sV k.b),(7,sM)]) rfl (g9 9 ?_)
 refine WC.cd (fun iu fM=> ?_) (fun iu fM=> ?_)
 ·refine g9 8 ?_
  refine(az.mono j7).a1 (i:=i) aa (fun he3=>(g9 4 ?_))
  refine W.ay (hX _ _) rfl (g9 2 ?_)
  refine WC.cond rfl (fun sJ=> ?_) (fun sJ=> ?_)
  ·refine g9 4 ?_
   refine(az.mono j7).a1 (i:=i) aa (fun he6=>(g9 2 ?_))
   refine W.lit (e:=bA) (l:=[((l)[i])]) (css:=[[sV _,sV _]]) cv bX eV rfl rfl rfl rfl rfl rfl ⟨rfl,trivial⟩ (fun bl9 G9 HK hv9=>(W.app (e:=bA) cv bX eV rfl lT rfl rfl ((gJ.mono HK)) (hv9) (ae ai) (by show(_+1)*32≤_;(try simp only [List.length_append]at*);omega) (fun v10 TZ akt=>(W.perm (ae ai).symm (g9 10 ?_)))))
   exact⟨HK,(i+1,v10,TZ),aZ,⟨rfl,(by have h:=akt;rw [rU (p:=(fun p:bp=>p.key.lt k)) aa (by simpa using sJ)];exact h),aa⟩,aa⟩
  refine g9 9 ?_
  exact⟨Le.rfl,(i+1,sM,Ah),aZ,⟨rfl,(by have h:=gJ;rw [qi (p:=(fun p:bp=>p.key.lt k)) aa (by simpa using sJ)];exact h),aa⟩,aa⟩
 refine g9 9 ?_
 refine W.ay (Tz (az.mono j7) _) rfl (g9 12 ?_)
 refine W.ay (aaa _ _ _ _ (by first|assumption|omega|(dsimp only;omega)|(simp;omega)) (by first|assumption|omega|(dsimp only;omega)|(simp;omega))) rfl (g9 13 ?_)
 refine WC.cond rfl (fun aae=> ?_) (fun aae=> ?_)
 ·refine g9 4 ?_
  refine W.ok (aM (L:=[sV _,sV _]) aks eV rfl rfl rfl) (W.lit (e:=bA) (l:=[⟨k,(((ct.apply (⟨(ek),(ev)⟩:ct) (iS (((cV (l) (k)).isSome)) (((cV (l) (k)).getD ah.nil))))).getD ah.nil)⟩]) (css:=[[sV _,sV _]]) cv bX eV rfl rfl rfl rfl rfl rfl ⟨rfl,trivial⟩ (fun aTF G13 LZ aHa=>(W.app (e:=bA) cv bX eV rfl lT rfl rfl ((gJ.mono LZ)) (aHa) (ae ai) (by show(_+1)*32≤_;(try simp only [List.length_append]at*);omega) (fun v14 T0 aHb=>(W.perm (ae ai).symm (g9 10 ?_))))))
  refine WC.loop (X:=(Nat)×Value×MH) (fun i=>[(13,aT i.1),(0,lV aW l.length aX),(1,sV k.b),(7,i.2.1)]) (fun i G Ml=>Ml=((b1,aj 224 [iV ek,sV ev.b])::(i.2.2++[]))∧aP bA 139 G i.2.1 ((List.filter (fun p:bp=>p.key.lt k) l++qF (ct.apply (⟨ek,ev⟩:ct) (cV l k)) k)++List.filter (fun p:bp=>k.lt p.key) (l.take i.1)) i.2.2∧i.1≤l.length) (fun i=>l.length-i.1) (0,v14,T0) aZ ?_ ?_
  ·exact⟨rfl,(by have h:=aHb;rw [List.take_of_length_le aa]at h;have hs:=aae;rw [DK]at hs;rw [Z2 hs];rw [DK]at h;simpa using h),aa⟩
  rintro⟨i,sM,Ah⟩ Tu G17 _ rY ⟨rfl,gJ,hi⟩
  try dsimp only at gJ hi
  have rN:=tf (fun p:bp=>k.lt p.key) l i
  have aHc:=List.length_filter_le (fun p:bp=>p.key.lt k) l
  have qL:=Hp (ct.apply (⟨ek,ev⟩:ct) (cV l k)) k
  refine WC.fr (f:=dO Tu [(13,aT i),(0,lV aW l.length aX),(1,sV k.b),(7,sM)]) rfl (g9 9 ?_)
  refine WC.cd (fun A3 vb=> ?_) (fun A3 vb=> ?_)
  ·refine g9 9 ?_
   refine(az.mono ((j7.trans LZ).trans rY)).a1 (i:=i) aa (fun Tv=>(g9 3 ?_))
   refine W.ay (hX _ _) rfl (g9 2 ?_)
   refine WC.cond rfl (fun DV=> ?_) (fun DV=> ?_)
   ·refine g9 4 ?_
    refine(az.mono ((j7.trans LZ).trans rY)).a1 (i:=i) aa (fun adE=>(g9 2 ?_))
    refine W.lit (e:=bA) (l:=[((l)[i])]) (css:=[[sV _,sV _]]) cv bX eV rfl rfl rfl rfl rfl rfl ⟨rfl,trivial⟩ (fun aTG G24 xC T1=>(W.app (e:=bA) cv bX eV rfl lT rfl rfl ((gJ.mono xC)) (T1) (ae ai) (by show(_+1)*32≤_;(try simp only [List.length_append]at*);omega) (fun v25 TL aHd=>(W.perm (ae ai).symm (g9 10 ?_)))))
    exact⟨xC,(i+1,v25,TL),aZ,⟨rfl,(by have h:=aHd;rw [rU (p:=(fun p:bp=>k.lt p.key)) aa (by simpa using DV),←List.append_assoc];exact h),aa⟩,aa⟩
   refine g9 9 ?_
   exact⟨Le.rfl,(i+1,sM,Ah),aZ,⟨rfl,(by have h:=gJ;rw [qi (p:=(fun p:bp=>k.lt p.key)) aa (by simpa using DV)];exact h),aa⟩,aa⟩
  refine g9 11 ?_
  refine WC.cm gJ (ae ai) (fun G28 HL aku=>(g9 2 ?_))
  refine⟨rfl,_,rfl,?_⟩
  ·have h:=aku;rw [List.take_of_length_le aa,←lS]at h;exact h
 refine g9 9 ?_
 refine WC.loop (X:=(Nat)×Value×MH) (fun i=>[(13,aT i.1),(0,lV aW l.length aX),(1,sV k.b),(7,i.2.1)]) (fun i G Ml=>Ml=((b1,aj 224 [iV ek,sV ev.b])::(i.2.2++[]))∧aP bA 139 G i.2.1 ((List.filter (fun p:bp=>p.key.lt k) l++qF (ct.apply (⟨ek,ev⟩:ct) (cV l k)) k)++List.filter (fun p:bp=>k.lt p.key) (l.take i.1)) i.2.2∧i.1≤l.length) (fun i=>l.length-i.1) (0,sM,Ah) aZ ?_ ?_
 ·exact⟨rfl,(by have h:=gJ;rw [List.take_of_length_le aa]at h;have hs:=aae;rw [DK]at hs;rw [Z3 hs];simpa using h),aa⟩
 rintro⟨i,sM,Ah⟩ adN T2 _ jM ⟨rfl,gJ,hi⟩
 try dsimp only at gJ hi
 have rN:=tf (fun p:bp=>k.lt p.key) l i
 have aHc:=List.length_filter_le (fun p:bp=>p.key.lt k) l
 have qL:=Hp (ct.apply (⟨ek,ev⟩:ct) (cV l k)) k
 refine WC.fr (f:=dO adN [(13,aT i),(0,lV aW l.length aX),(1,sV k.b),(7,sM)]) rfl (g9 9 ?_)
 refine WC.cd (fun A3 vb=> ?_) (fun A3 vb=> ?_)
 ·refine g9 9 ?_
  refine(az.mono (j7.trans jM)).a1 (i:=i) aa (fun awS=>(g9 3 ?_))
  refine W.ay (hX _ _) rfl (g9 2 ?_)
  refine WC.cond rfl (fun DV=> ?_) (fun DV=> ?_)
  ·refine g9 4 ?_
   refine(az.mono (j7.trans jM)).a1 (i:=i) aa (fun adO=>(g9 2 ?_))
   refine W.lit (e:=bA) (l:=[((l)[i])]) (css:=[[sV _,sV _]]) cv bX eV rfl rfl rfl rfl rfl rfl ⟨rfl,trivial⟩ (fun aTH G36 Aw aHe=>(W.app (e:=bA) cv bX eV rfl lT rfl rfl ((gJ.mono Aw)) (aHe) (ae ai) (by show(_+1)*32≤_;(try simp only [List.length_append]at*);omega) (fun v37 wm akv=>(W.perm (ae ai).symm (g9 10 ?_)))))
   exact⟨Aw,(i+1,v37,wm),aZ,⟨rfl,(by have h:=akv;rw [rU (p:=(fun p:bp=>k.lt p.key)) aa (by simpa using DV),←List.append_assoc];exact h),aa⟩,aa⟩
  refine g9 9 ?_
  exact⟨Le.rfl,(i+1,sM,Ah),aZ,⟨rfl,(by have h:=gJ;rw [qi (p:=(fun p:bp=>k.lt p.key)) aa (by simpa using DV)];exact h),aa⟩,aa⟩
 refine g9 11 ?_
 refine WC.cm gJ (ae ai) (fun G40 L0 T3=>(g9 2 ?_))
 refine⟨rfl,_,rfl,?_⟩
 ·have h:=T3;rw [List.take_of_length_le aa,←lS]at h;exact h

theorem aaf(ms:Int)(mk:Int)(bO:ah)(dH:ah)(mo:Bool)(mv:ah):
    Fc Tryz.prog 149 [.agg #[iV ms,iV mk,sV bO.b,sV dH.b,.bool mo,sV mv.b]] G [] (fun v _ _=>v=.bool (decide (aA.R (⟨ms,mk,bO,dH,mo,mv⟩:aA)))):=by
 have h1:=bO.le
 have h2:=mv.le
 have h3:=dH.le
 refine Fc.go [.tmp 2] Tryz.func149 Tryz.ntmps149 rfl (fun w0=>(g9 2 ?_))
 refine W.box (L:=[iV _,iV _,sV _,sV _,.bool _,sV _]) rfl rfl (fun b1=>(g9 10 ?_))
 refine W.sd 6 (fun h5 p5=> ?_) (fun h5 p5=> ?_)
 ·refine g9 28 ?_
  refine congrArg Value.bool ?_
  rw [Bool.eq_iff_iff,decide_eq_true_iff]
  simp only [aA.R]
  first|(simp_all [←ah.dv,ah.nil];done)|(simp_all [←ah.dv,ah.nil];omega)
 refine g9 10 ?_
 refine W.sd 12 (fun eM jd=> ?_) (fun eM jd=> ?_)
 ·refine g9 22 ?_
  refine congrArg Value.bool ?_
  rw [Bool.eq_iff_iff,decide_eq_true_iff]
  simp only [aA.R]
  first|(simp_all [←ah.dv,ah.nil];done)|(simp_all [←ah.dv,ah.nil];omega)
 refine g9 10 ?_
 refine W.sd 18 (fun fU gX=> ?_) (fun fU gX=> ?_)
 ·refine g9 16 ?_
  refine congrArg Value.bool ?_
  rw [Bool.eq_iff_iff,decide_eq_true_iff]
  simp only [aA.R]
  first|(simp_all [←ah.dv,ah.nil];done)|(simp_all [←ah.dv,ah.nil];omega)
 refine g9 11 ?_
 refine WC.cd (fun m7 m8=> ?_) (fun m7 m8=> ?_)
 ·refine g9 8 ?_
  refine congrArg Value.bool ?_
  rw [Bool.eq_iff_iff,decide_eq_true_iff]
  simp only [aA.R]
  first|(simp_all [←ah.dv,ah.nil];done)|(simp_all [←ah.dv,ah.nil];omega)
 refine g9 10 ?_
 refine WC.cd (fun sJ Lk=> ?_) (fun sJ Lk=> ?_)
 ·refine g9 6 ?_
  refine W.sd 30 (fun iE wV=> ?_) (fun iE wV=> ?_)
  ·refine g9 8 ?_
   refine W.sp 34 rfl (fun j8=> ?_) (fun j8=> ?_)
   ·refine g9 10 ?_
    refine W.ay (my _ _ _ _ _ _ (by first|assumption|omega|(dsimp only;omega))) rfl (g9 1 ?_)
    refine W.ay (qx _ _ _) rfl (g9 9 ?_)
    refine congrArg Value.bool ?_
    rw [Bool.eq_iff_iff,decide_eq_true_iff]
    simp only [aA.R]
    first|(simp_all [←ah.dv,ah.nil];done)|(simp_all [←ah.dv,ah.nil];omega)
   refine g9 10 ?_
   refine W.sd 40 (fun h37 p37=> ?_) (fun h37 p37=> ?_)
   ·refine g9 3 ?_
    refine W.ay (my _ _ _ _ _ _ (by first|assumption|omega|(dsimp only;omega))) rfl (g9 1 ?_)
    refine W.ay (qx _ _ _) rfl (g9 9 ?_)
    refine congrArg Value.bool ?_
    rw [Bool.eq_iff_iff,decide_eq_true_iff]
    simp only [aA.R]
    first|(simp_all [←ah.dv,ah.nil];done)|(simp_all [←ah.dv,ah.nil];omega)
   refine g9 11 ?_
   refine congrArg Value.bool ?_
   rw [Bool.eq_iff_iff,decide_eq_true_iff]
   simp only [aA.R]
   first|(simp_all [←ah.dv,ah.nil];done)|(simp_all [←ah.dv,ah.nil];omega)
  refine g9 21 ?_
  refine congrArg Value.bool ?_
  rw [Bool.eq_iff_iff,decide_eq_true_iff]
  simp only [aA.R]
  first|(simp_all [←ah.dv,ah.nil];done)|(simp_all [←ah.dv,ah.nil];omega)
 refine g9 8 ?_
 refine W.sd 49 (fun h48 p48=> ?_) (fun h48 p48=> ?_)
 ·refine g9 8 ?_
  refine W.sp 54 rfl (fun h52=> ?_) (fun h52=> ?_)
  ·refine g9 8 ?_
   refine W.sd 58 (fun A3 vb=> ?_) (fun A3 vb=> ?_)
   ·refine g9 23 ?_
    refine congrArg Value.bool ?_
    rw [Bool.eq_iff_iff,decide_eq_true_iff]
    simp only [aA.R]
    first|(simp_all [←ah.dv,ah.nil];done)|(simp_all [←ah.dv,ah.nil];omega)
   refine g9 10 ?_
   refine W.sd 63 (fun HM tH=> ?_) (fun HM tH=> ?_)
   ·refine g9 16 ?_
    refine congrArg Value.bool ?_
    rw [Bool.eq_iff_iff,decide_eq_true_iff]
    simp only [aA.R]
    first|(simp_all [←ah.dv,ah.nil];done)|(simp_all [←ah.dv,ah.nil];omega)
   refine g9 8 ?_
   refine W.sd 67 (fun DV p66=> ?_) (fun DV p66=> ?_)
   ·refine g9 16 ?_
    refine congrArg Value.bool ?_
    rw [Bool.eq_iff_iff,decide_eq_true_iff]
    simp only [aA.R]
    first|(simp_all [←ah.dv,ah.nil];done)|(simp_all [←ah.dv,ah.nil];omega)
   refine g9 13 ?_
   refine congrArg Value.bool ?_
   rw [Bool.eq_iff_iff,decide_eq_true_iff]
   simp only [aA.R]
   first|(simp_all [←ah.dv,ah.nil];done)|(simp_all [←ah.dv,ah.nil];omega)
  refine g9 24 ?_
  refine congrArg Value.bool ?_
  rw [Bool.eq_iff_iff,decide_eq_true_iff]
  simp only [aA.R]
  first|(simp_all [←ah.dv,ah.nil];done)|(simp_all [←ah.dv,ah.nil];omega)
 refine g9 29 ?_
 refine congrArg Value.bool ?_
 rw [Bool.eq_iff_iff,decide_eq_true_iff]
 simp only [aA.R]
 first|(simp_all [←ah.dv,ah.nil];done)|(simp_all [←ah.dv,ah.nil];omega)

theorem akw{l:List aA}(az:ax bQ G bN l):
    Fc Tryz.prog 115 [bN] G [] (fun v _ _=>v=.bool (decide (dD l))):=by
 obtain⟨aW,aX,rfl⟩:=az.form
 have hl:=az.aH
 refine Fc.go [.tmp 2] Tryz.func115 Tryz.ntmps115 rfl (fun w0=>(g9 12 ?_))
 refine WC.loop (X:=Nat) (fun k=>[(3,aT k),(0,lV aW l.length aX)]) (fun k _ Ml=>Ml=[]∧∀i (h:i<l.length),i<k→l[i].R∧(0<i→(l[i-1]'aa).aO<l[i].aO)) (fun k=>l.length-k) 0 aZ ?_ ?_
 ·exact⟨rfl,fun i _ h=>by omega⟩
 rintro k gG2 G2 _ j7 ⟨rfl,hk⟩
 refine g9 9 ?_
 refine WC.cd (fun h7 p7=> ?_) (fun h7 p7=> ?_)
 ·refine g9 8 ?_
  refine(az.mono j7).a2 (i:=k) aa (fun he3 hm4=>(g9 2 ?_))
  refine W.ay (aaf _ _ _ _ _ _) rfl (g9 2 ?_)
  refine W.sp 16 rfl (fun lW=> ?_) (fun lW=> ?_)
  ·refine g9 32 ?_
   refine congrArg Value.bool ?_
   exact(decide_eq_false fun h=>by obtain⟨q1,q2⟩:=h k aa;first|(have:=q2 aa;omega)|(simp [q1]at lW)).symm
  refine g9 6 ?_
  refine W.sd 19 (fun AW tz=> ?_) (fun AW tz=> ?_)
  ·refine g9 5 ?_
   refine(az.mono j7).a2 (i:=k) aa (fun he8 vd=>(g9 12 ?_))
   refine(az.mono j7).a2 (i:=k-1) aa (fun Tr aTI=>(W.ok (aY (i:=k-1) cO cX (az.mono j7) rfl rfl ⟨aa,aa⟩) (g9 11 ?_)))
   refine WC.cd (fun AX u5=> ?_) (fun AX u5=> ?_)
   ·refine g9 12 ?_
    refine congrArg Value.bool ?_
    exact(decide_eq_false fun h=>by obtain⟨q1,q2⟩:=h k aa;first|(have:=q2 aa;omega)|(simp [q1]at lW)).symm
   refine g9 9 ?_
   exact⟨Le.rfl,k+1,aZ,⟨rfl,fun i h hi=>by
      by_cases e:i=k
      ·subst e;exact⟨by simpa using lW,fun h0=>by omega⟩
      ·exact hk i h aa⟩,aa⟩
  refine g9 27 ?_
  exact⟨Le.rfl,k+1,aZ,⟨rfl,fun i h hi=>by
      by_cases e:i=k
      ·subst e;exact⟨by simpa using lW,fun h0=>by omega⟩
      ·exact hk i h aa⟩,aa⟩
 refine g9 12 ?_
 refine congrArg Value.bool ?_
 exact(decide_eq_true fun i h=>hk i h aa).symm

theorem HN{l:List aA}(az:ax bQ G bN l)(hs:∀m∈l,m.key.b.size≤16∧m.val.b.size≤16):
    Fc Tryz.prog 116 [bN] G [] (fun v _ _=>v=iV (bI l)):=by
 obtain⟨aW,aX,rfl⟩:=az.form
 have hl:=az.aH
 refine Fc.go [.tmp 2] Tryz.func116 Tryz.ntmps116 rfl (fun w0=>(g9 17 ?_))
 refine WC.loop (X:=Nat) (fun k=>[(3,iV (bI (l.take k))),(4,aT k),(0,lV aW l.length aX)]) (fun k _ Ml=>Ml=[]∧k≤l.length∧0≤bI (l.take k)∧bI (l.take k)≤36*k) (fun k=>l.length-k) 0 aZ ?_ ?_
 ·exact⟨rfl,aa,by simp [bI],by simp [bI]⟩
 rintro k aHf G18 _ qN ⟨rfl,hk,h0,ve⟩
 refine g9 9 ?_
 refine WC.cd (fun h8 p8=> ?_) (fun h8 p8=> ?_)
 ·have hz:=Fh (l:=l) (k:=k) aa
  have hz2:=o8 (hs l[k] (List.getElem_mem _))
  have he:aA.size ⟨l[k].aO,l[k].kind,l[k].key,l[k].hi,l[k].bT,l[k].val⟩=l[k].size:=rfl
  refine g9 8 ?_
  refine(az.mono qN).a2 (i:=k) aa (fun Ft aTJ=>(g9 2 ?_))
  refine W.ay (zp _ _ _ _ _ _) rfl (g9 11 ?_)
  exact⟨Le.rfl,k+1,⟨(iv aa),eqv,eqv,trivial⟩,⟨rfl,aa,aa,aa⟩,aa⟩
 refine g9 13 ?_
 refine congrArg (Value.int .i64) ?_
 rw [List.take_of_length_le aa]

theorem PF(az:ax bA G bN l)(iK:ah)(iL:ah)(so:Bool):
    Fc Tryz.prog 214 [bN,.agg #[sV iK.b,sV iL.b,.bool so]] G [] (fun v G' M'=>M'=[]∧∃u0,v=u0∧ax bA G' u0 (l.filter (fun p:bp=> !Span.has ⟨iK,iL,so⟩ p.key))):=by
 obtain⟨aW,aX,rfl⟩:=az.form
 refine Fc.go [.tmp 4] Tryz.func214 Tryz.ntmps214 rfl (fun w0=>(g9 2 ?_))
 refine W.box (L:=[sV _,sV _,.bool _]) rfl rfl (fun b1=>(g9 6 ?_))
 refine W.call (Mp:=[]) (xL az) rfl ai ?_
 rintro v3 G2 PG j7 ho5
 refine W.perm (ae ai).symm (W.aag (b:=b1) (L:=[sV _,sV _,.bool _]) ai (fun G6 pf hc6=>(W.ok (lY (fst:=[]) (caps:=[.tmp 3]) (vs:=[]) (ws:=[aq b1]) rfl rfl) (W.call (Mp:=PG) (atn (ho5.mono pf) _ _ _ hc6) rfl ai ?_))))
 rintro v8 G7 wW DW L3
 refine g9 3 ?_
 refine WC.cm L3 ai (fun G11 xI aHg=>(g9 2 ?_))
 refine⟨rfl,_,rfl,?_⟩
 ·exact aHg

theorem agJ(az:ax bA G bN l)(ms:Int)(mk:Int)(bO:ah)(dH:ah)(mo:Bool)(mv:ah)(hP:bC l)(hn:l.length≤1000000)(hk:aA.fit (⟨ms,mk,bO,dH,mo,mv⟩:aA)):
    Fc Tryz.prog 207 [bN,.agg #[iV ms,iV mk,sV bO.b,sV dH.b,.bool mo,sV mv.b]] G [] (fun v G' M'=>M'=[]∧∃u0,v=u0∧ax bA G' u0 (takeN l (⟨ms,mk,bO,dH,mo,mv⟩:aA))):=by
 obtain⟨aW,aX,rfl⟩:=az.form
 obtain⟨wX,j6,sN⟩:=hk
 dsimp only at wX j6 sN
 have hl:=az.aH
 have hov:=Gv (m:=(⟨ms,mk,bO,dH,mo,mv⟩:aA)) bO sN
 refine Fc.go [.tmp 4] Tryz.func207 Tryz.ntmps207 rfl (fun w0=>(g9 2 ?_))
 refine W.box (L:=[iV _,iV _,sV _,sV _,.bool _,sV _]) rfl rfl (fun b12=>(g9 11 ?_))
 refine WC.cd (fun h7 p7=> ?_) (fun h7 p7=> ?_)
 ·refine g9 4 ?_
  refine W.ay (tv _ _ _ _ _ _ (by first|assumption|omega|(dsimp only;omega))) rfl (W.cS (PF az (aA.span (⟨ms,mk,bO,dH,mo,mv⟩:aA)).lo (aA.span (⟨ms,mk,bO,dH,mo,mv⟩:aA)).hi (aA.span (⟨ms,mk,bO,dH,mo,mv⟩:aA)).bT) rfl (fun aHh aHi G13 LZ HO=>(g9 6 ?_)))
  refine⟨rfl,_,rfl,?_⟩
  ·have h:=HO;rw [takeN,if_pos p7];exact h
 refine g9 3 ?_
 refine WC.dw bi.k9 (d9 [0,1,2,3,4,5] ?_)
 refine WD.a1 6 rfl (W.ay (adD ms mk bO dH mo mv bO aa) rfl (W.nn (WD.a1 7 rfl (W.cS (agH az bO (aA.on (⟨ms,mk,bO,dH,mo,mv⟩:aA) bO).kind (aA.on (⟨ms,mk,bO,dH,mo,mv⟩:aA) bO).val hP hn aa) rfl (fun akx aky G20 Au HP=>(W.nn (d9 [8] ?_)))))))
 refine g9 4 ?_
 refine⟨rfl,_,rfl,?_⟩
 ·have h:=HP;rw [takeN,if_neg p7];exact h

theorem HQ(az:ax bA G bN l)(ms:Int)(mk:Int)(bO:ah)(dH:ah)(mo:Bool)(mv:ah)(hP:bC l)(hn:l.length≤1000000)(hk:aA.fit (⟨ms,mk,bO,dH,mo,mv⟩:aA)):
    Fc Tryz.prog 156 [bN,.agg #[iV ms,iV mk,sV bO.b,sV dH.b,.bool mo,sV mv.b]] G [] (fun v G' M'=>M'=[]∧∃u0,v=u0∧ax bA G' u0 (takeN l (⟨ms,mk,bO,dH,mo,mv⟩:aA))):=by
 obtain⟨aW,aX,rfl⟩:=az.form
 obtain⟨wX,j6,sN⟩:=hk
 dsimp only at wX j6 sN
 have hl:=az.aH
 have hov:=Gv (m:=(⟨ms,mk,bO,dH,mo,mv⟩:aA)) bO sN
 refine Fc.go [.tmp 4] Tryz.func156 Tryz.ntmps156 rfl (fun w0=>(g9 2 ?_))
 refine W.box (L:=[iV _,iV _,sV _,sV _,.bool _,sV _]) rfl rfl (fun Tp=>(g9 11 ?_))
 refine WC.cn (fun h9 p9=> ?_) (fun h9 p9=> ?_)
 ·refine WC.seq (WC.dw bi.k9 (d9 [0,1,2,3,4,5] ?_))
  refine WD.a1 6 rfl (W.ay (ati ms mk bO dH mo mv bO aa) rfl (W.nn (WD.a1 7 rfl (W.cS (agI az bO (aA.on (⟨ms,mk,bO,dH,mo,mv⟩:aA) bO).kind (aA.on (⟨ms,mk,bO,dH,mo,mv⟩:aA) bO).val hP hn aa) rfl (fun aHj aHk G28 HL aHl=>(W.nn (d9 [8] ?_)))))))
  refine g9 5 ?_
  refine⟨rfl,_,rfl,?_⟩
  ·have h:=aHl;rw [takeN,if_neg (by simpa using h9)];exact h
 refine g9 14 ?_
 refine WC.loop (X:=(Nat)×Value×MH) (fun i=>[(6,aT i.1),(3,aq Tp),(0,lV aW l.length aX),(5,i.2.1)]) (fun i G Ml=>Ml=((Tp,aj 96 [iV ms,iV mk,sV bO.b,sV dH.b,.bool mo,sV mv.b])::(i.2.2++[]))∧aP bA 139 G i.2.1 (List.filter (fun p:bp=> !(aA.span (⟨ms,mk,bO,dH,mo,mv⟩:aA)).has p.key) (l.take i.1)) i.2.2∧i.1≤l.length) (fun i=>l.length-i.1) (0,lV none 0 0,([]:MH)) aZ ?_ ?_
 ·exact⟨rfl,(by simpa using aP.nil),aa⟩
 rintro⟨i,qm,vg⟩ akb G35 _ Ap ⟨rfl,fV,hi⟩
 try dsimp only at fV hi
 have rN:=tf (fun p:bp=> !(aA.span (⟨ms,mk,bO,dH,mo,mv⟩:aA)).has p.key) l i
 refine WC.fr (f:=dO akb [(6,aT i),(3,aq Tp),(0,lV aW l.length aX),(5,qm)]) rfl (g9 9 ?_)
 refine WC.cd (fun mS Ce=> ?_) (fun mS Ce=> ?_)
 ·refine g9 7 ?_
  refine W.ay (my _ _ _ _ _ _ (by first|assumption|omega|(dsimp only;omega))) rfl (g9 2 ?_)
  refine(az.mono Ap).a1 (i:=i) aa (fun awT=>(g9 3 ?_))
  refine W.ay (zq _ _ _ _) rfl (g9 3 ?_)
  refine WC.cond rfl (fun rO=> ?_) (fun rO=> ?_)
  ·refine g9 4 ?_
   refine(az.mono Ap).a1 (i:=i) aa (fun aGV=>(g9 2 ?_))
   refine W.lit (e:=bA) (l:=[((l)[i])]) (css:=[[sV _,sV _]]) cv bX eV rfl rfl rfl rfl rfl rfl ⟨rfl,trivial⟩ (fun aTK G42 Fq akz=>(W.app (e:=bA) cv bX eV rfl lT rfl rfl ((fV.mono Fq)) (akz) (ae ai) (by show(_+1)*32≤_;(try simp only [List.length_append]at*);omega) (fun v43 L4 aHm=>(W.perm (ae ai).symm (g9 10 ?_)))))
   exact⟨Fq,(i+1,v43,L4),aZ,⟨rfl,(by have h:=aHm;rw [rU (p:=(fun p:bp=> !(aA.span (⟨ms,mk,bO,dH,mo,mv⟩:aA)).has p.key)) aa (by simpa using rO)];exact h),aa⟩,aa⟩
  refine g9 9 ?_
  exact⟨Le.rfl,(i+1,qm,vg),aZ,⟨rfl,(by have h:=fV;rw [qi (p:=(fun p:bp=> !(aA.span (⟨ms,mk,bO,dH,mo,mv⟩:aA)).has p.key)) aa (by simpa using rO)];exact h),aa⟩,aa⟩
 refine g9 11 ?_
 refine WC.cm fV (ae ai) (fun G46 akA HR=>(g9 2 ?_))
 refine⟨rfl,_,rfl,?_⟩
 ·have h:=HR;rw [List.take_of_length_le aa]at h;rw [takeN,if_pos (by simpa using h9)];exact h

theorem aah(az:ax bA G bN l){HS:Value}{ms:List aA}(wu:ax bQ G HS ms)(hP:bC l)(hn:l.length+ms.length≤1000000)(hm:∀m∈ms,m.fit):
    Fc Tryz.prog 132 [bN,HS] G [] (fun v G' M'=>M'=[]∧∃u0,v=u0∧ax bA G' u0 (cJ l ms)):=by
 obtain⟨aW,aX,rfl⟩:=az.form
 obtain⟨sO,sQ,rfl⟩:=wu.form
 have hl:=az.aH
 have hlm:=wu.aH
 refine Fc.go [.tmp 4] Tryz.func132 Tryz.ntmps132 rfl (fun w0=>(g9 7 ?_))
 refine W.mz (e:=bA) cv bX eV rfl (fun v47 aHn T4=>(W.mv (W.app (e:=bA) cv bX eV rfl lT rfl rfl (T4) (az) ai (by show(0+_)*32≤_;omega) (fun v50 Fu HT=>(g9 10 ?_)))))
 refine WC.cm (HT) ai (fun G53 Fv akB=> ?_)
 refine WC.loop (X:=(Nat)×Value) (fun k=>[(6,aT k.1),(1,lV sO ms.length sQ),(5,k.2)]) (fun k G Ml=>Ml=[]∧ax bA G k.2 (cJ l (ms.take k.1))∧k.1≤ms.length) (fun k=>ms.length-k.1) (0,v50) aZ ?_ ?_
 ·exact⟨rfl,(by simpa [cJ]using akB),aa⟩
 rintro⟨k,qm⟩ akC G54 _ L5 ⟨rfl,fV,hk⟩
 try dsimp only at fV hk
 have hPk:=bC.aai (ms:=ms.take k) hP (fun m h=>hm m (List.mem_of_mem_take h))
 have hnk:=A4 (ms:=ms.take k) hP (fun m h=>hm m (List.mem_of_mem_take h))
 have jj:(ms.take k).length≤k:=by simp;omega
 refine WC.fr (f:=dO akC [(6,aT k),(1,lV sO ms.length sQ),(5,qm)]) rfl (g9 9 ?_)
 refine WC.cd (fun jc jh=> ?_) (fun jc jh=> ?_)
 ·refine g9 8 ?_
  refine(wu.mono (Fv.trans L5)).a2 (i:=k) aa (fun aw2 aTL=>(g9 2 ?_))
  refine W.cS (HQ fV ms[k].aO ms[k].kind ms[k].key ms[k].hi ms[k].bT ms[k].val hPk aa (hm _ (List.getElem_mem _))) rfl (fun akD akE G60 Fx aHo=>(g9 10 ?_))
  exact⟨Fx,(k+1,lV akD (takeN (cJ l (ms.take k)) ms[k]).length akE),aZ,⟨rfl,(by have h:=aHo;rw [rV aa];exact h),aa⟩,aa⟩
 refine g9 13 ?_
 refine⟨rfl,_,rfl,?_⟩
 ·have h:=fV;rw [List.take_of_length_le aa]at h;exact h

theorem agK(ek:Int)(ev:ah):
    Fc Tryz.prog 219 [.agg #[iV ek,sV ev.b]] G [] (fun v _ _=>v=.bool (decide (ek=1)||decide (ek=2))):=by
 refine Fc.go [.tmp 2] Tryz.func219 Tryz.ntmps219 rfl (fun w0=>(g9 2 ?_))
 refine W.box (L:=[iV _,sV _]) rfl rfl (fun b1=>(g9 9 ?_))
 refine W.sd 6 (fun h5 p5=> ?_) (fun h5 p5=> ?_)
 ·refine g9 9 ?_
  refine congrArg Value.bool ?_
  simp_all
 refine g9 12 ?_
 refine congrArg Value.bool ?_
 simp_all

theorem T5(az:ax bA G bN l)(k:ah)(ek:Int)(ev:ah)(n:Int)(hr:gI l):
    Fc Tryz.prog 212 [bN,sV k.b,.agg #[iV ek,sV ev.b],iV n] G [] (fun v _ _=>v=.bool (DX l k (⟨ek,ev⟩:ct) n)):=by
 obtain⟨aW,aX,rfl⟩:=az.form
 refine Fc.go [.tmp 8] Tryz.func212 Tryz.ntmps212 rfl (fun w0=>(g9 2 ?_))
 refine W.box (L:=[iV _,sV _]) rfl rfl (fun b2=>(g9 7 ?_))
 refine W.ay (agG az _ (by assumption)) rfl (g9 11 ?_)
 refine W.sp 18 rfl (fun ayR=> ?_) (fun ayR=> ?_)
 ·refine g9 15 ?_
  refine congrArg Value.bool ?_
  simp_all [DX]
 refine g9 3 ?_
 refine W.ay (agK _ _) rfl (g9 4 ?_)
 refine W.sp 23 rfl (fun mS=> ?_) (fun mS=> ?_)
 ·refine g9 10 ?_
  refine congrArg Value.bool ?_
  simp_all [DX]
 refine g9 14 ?_
 refine congrArg Value.bool ?_
 simp_all [DX]

theorem PH(az:ax bA G bN l)(ms:Int)(mk:Int)(bO:ah)(dH:ah)(mo:Bool)(mv:ah)(n:Int)(hP:bC l)(hk:aA.fit (⟨ms,mk,bO,dH,mo,mv⟩:aA)):
    Fc Tryz.prog 206 [bN,.agg #[iV ms,iV mk,sV bO.b,sV dH.b,.bool mo,sV mv.b],iV n] G [] (fun v _ _=>v=.bool (iF l (⟨ms,mk,bO,dH,mo,mv⟩:aA) n)):=by
 obtain⟨aW,aX,rfl⟩:=az.form
 have wX:=hk.1
 dsimp only at wX
 have hr:=hP.Pv
 have hl:=az.aH
 refine Fc.go [.tmp 6] Tryz.func206 Tryz.ntmps206 rfl (fun w0=>(g9 2 ?_))
 refine W.box (L:=[iV _,iV _,sV _,sV _,.bool _,sV _]) rfl rfl (fun b3=>(g9 9 ?_))
 refine W.sd 10 (fun h9 p9=> ?_) (fun h9 p9=> ?_)
 ·refine g9 15 ?_
  refine congrArg Value.bool ?_
  simp_all [iF]
 refine g9 13 ?_
 refine W.ay (adD ms mk bO dH mo mv bO aa) rfl (g9 3 ?_)
 refine W.ay (T5 az _ _ _ _ (by assumption)) rfl (g9 6 ?_)
 refine congrArg Value.bool ?_
 simp_all [iF]

theorem aaj(az:ax bA G bN l)(ms:Int)(mk:Int)(bO:ah)(dH:ah)(mo:Bool)(mv:ah)(n:Int):
    Fc Tryz.prog 172 [bN,.agg #[iV ms,iV mk,sV bO.b,sV dH.b,.bool mo,sV mv.b],iV n] G [] (fun v _ _=>v=.bool (jY l (⟨ms,mk,bO,dH,mo,mv⟩:aA) n)):=by
 obtain⟨aW,aX,rfl⟩:=az.form
 refine Fc.go [.tmp 6] Tryz.func172 Tryz.ntmps172 rfl (fun w0=>(g9 2 ?_))
 refine W.box (L:=[iV _,iV _,sV _,sV _,.bool _,sV _]) rfl rfl (fun b4=>(g9 8 ?_))
 refine W.ay (Tz az _) rfl (g9 13 ?_)
 refine W.sd 19 (fun AW tz=> ?_) (fun AW tz=> ?_)
 ·refine g9 13 ?_
  refine congrArg Value.bool ?_
  first|(simp_all [jY];done)|(simp_all [jY];omega)
 refine g9 4 ?_
 refine W.sp 22 rfl (fun ayS=> ?_) (fun ayS=> ?_)
 ·refine g9 10 ?_
  refine congrArg Value.bool ?_
  first|(simp_all [jY];done)|(simp_all [jY];omega)
 refine g9 14 ?_
 refine congrArg Value.bool ?_
 first|(simp_all [jY];done)|(simp_all [jY];omega)

theorem PI(az:ax bA G bN l)(ms:Int)(mk:Int)(bO:ah)(dH:ah)(mo:Bool)(mv:ah)(n:Int)(hP:bC l)(hn:l.length≤1000000)(hk:aA.fit (⟨ms,mk,bO,dH,mo,mv⟩:aA)):
    Fc Tryz.prog 196 [bN,.agg #[iV ms,iV mk,sV bO.b,sV dH.b,.bool mo,sV mv.b],iV n] G [] (fun v G' M'=>M'=[]∧∃r:List bp×Bool,r=vh l (⟨ms,mk,bO,dH,mo,mv⟩:aA) n∧∃u0,v=.tuple #[u0,.bool (r.2)]∧ax bA G' u0 (r.1)):=by
 obtain⟨aW,aX,rfl⟩:=az.form
 refine Fc.go [.tmp 6,.tmp 7] Tryz.func196 Tryz.ntmps196 rfl (fun w0=>(g9 2 ?_))
 refine W.box (L:=[iV _,iV _,sV _,sV _,.bool _,sV _]) rfl rfl (fun b5=>(g9 10 ?_))
 refine W.ay (PH az _ _ _ _ _ _ _ (by first|assumption|omega|(simp;omega)|(exact bC.fold (by assumption) (by assumption))) (by first|assumption|exact Cf (by assumption))) rfl (g9 3 ?_)
 refine WC.cond rfl (fun dL=> ?_) (fun dL=> ?_)
 ·refine g9 9 ?_
  refine⟨rfl,_,(Cg (by simpa using dL)).symm,_,rfl,?_⟩
  ·exact ax.nil
 refine g9 6 ?_
 refine W.cS (agJ az _ _ _ _ _ _ (by first|assumption|omega|(simp;omega)|(exact bC.fold (by assumption) (by assumption))) (by first|assumption|omega|(simp;omega)|(exact bC.fold (by assumption) (by assumption))) (by first|assumption|exact Cf (by assumption))) rfl (fun Gw Gx G6 pf Ai=>(g9 6 ?_))
 refine⟨rfl,_,(vi (by simpa using dL)).symm,_,rfl,?_⟩
 ·exact Ai

theorem aak(a:ah)(b:ah):
    Fc Tryz.prog 203 [sV a.b,sV b.b] G [] (fun v _ _=>v=aT (bZ a b)):=by
 have ha:=a.le
 have hb:=b.le
 refine Fc.go [.tmp 4] Tryz.func203 Tryz.ntmps203 rfl (fun w0=>(g9 12 ?_))
 refine WC.loop (X:=Nat) (fun k=>[(5,aT k),(0,sV a.b),(1,sV b.b)]) (fun k _ Ml=>Ml=[]∧k≤a.b.size∧k≤b.b.size∧∀i,i<k→a.b[i]?=b.b[i]?) (fun k=>a.b.size-k) 0 aZ ?_ ?_
 ·exact⟨rfl,aa,aa,fun i hi=>by omega⟩
 rintro k DQ G1 _ fL ⟨rfl,wX,j6,sN⟩
 refine g9 8 ?_
 refine W.ok (akF rfl rfl) (g9 2 ?_)
 refine W.sd 13 (fun dL ji=> ?_) (fun dL ji=> ?_)
 ·refine g9 5 ?_
  refine W.ok (ot (i:=k) Ag rfl rfl ⟨aa,aa⟩) (g9 5 ?_)
  refine W.ok (ot (i:=k) Ag rfl rfl ⟨aa,aa⟩) (g9 5 ?_)
  refine WC.cd (fun gD lX=> ?_) (fun gD lX=> ?_)
  ·refine g9 10 ?_
   exact⟨Le.rfl,k+1,aZ,⟨rfl,aa,aa,HU sN aa aa lX⟩,aa⟩
  refine g9 13 ?_
  refine congrArg (Value.int .i64) ?_
  exact congrArg Nat.cast (Pq sN aa aa lX).symm
 refine g9 24 ?_
 refine congrArg (Value.int .i64) ?_
 exact congrArg Nat.cast (Pp wX j6 sN aa).symm

theorem T6(a:ah)(b:ah):
    Fc Tryz.prog 192 [sV a.b,sV b.b] G [] (fun v _ _=>v=.tuple #[sV (ah.b ((fl a b).1)),.bool ((fl a b).2)]):=by
 have ha:=a.le
 have hb:=b.le
 refine Fc.go [.tmp 4,.tmp 5] Tryz.func192 Tryz.ntmps192 rfl (fun w0=>(g9 11 ?_))
 refine W.ok (Ch rfl rfl) (g9 2 ?_)
 refine WC.cond rfl (fun h8=> ?_) (fun h8=> ?_)
 ·refine g9 9 ?_
  show Value.tuple #[Value.string _,Value.bool _]=_
  rw [Fg (by simpa [ah.lt]using h8)];rfl
 have iB:a.lt b=true:=by simpa [ah.lt]using h8
 have hcm:=AT iB
 have lZ:=xh a b
 refine g9 7 ?_
 refine W.ay (aak _ _) rfl (g9 1 ?_)
 refine W.ok (qJ (0) (bZ a b+1) Ag rfl rfl ⟨_,_,rfl,aa⟩ ⟨aa,aa⟩) (g9 6 ?_)
 show Value.tuple #[Value.string _,Value.bool _]=_
 rw [xi iB]

theorem Ci(a:ah)(b:ah):
    Fc Tryz.prog 152 [sV a.b,sV b.b] G [] (fun v _ _=>v=.tuple #[sV (ah.b ((fl a b).1)),.bool ((fl a b).2)]):=by
 have ha:=a.le
 have hb:=b.le
 refine Fc.go [.tmp 4,.tmp 5] Tryz.func152 Tryz.ntmps152 rfl (fun w0=>(g9 13 ?_))
 refine WC.loop (X:=Nat) (fun k=>[(6,aT k),(0,sV a.b),(1,sV b.b)]) (fun k _ Ml=>Ml=[]∧∀j,j<k→a.lt (b.cut 0 j)=false) (fun k=>b.b.size+1-k) 0 aZ ?_ ?_
 ·exact⟨rfl,fun j h=>by omega⟩
 rintro k gG2 G2 _ j7 ⟨rfl,hk⟩
 refine g9 9 ?_
 refine WC.cd (fun eM jd=> ?_) (fun eM jd=> ?_)
 ·refine g9 9 ?_
  refine W.ok (qJ (0) (k) Ag rfl rfl ⟨_,_,rfl,aa⟩ ⟨aa,aa⟩) (W.ay (hX _ _) rfl (g9 2 ?_))
  refine WC.cond rfl (fun iu=> ?_) (fun iu=> ?_)
  ·refine g9 4 ?_
   refine W.ok (qJ (0) (k) Ag rfl rfl ⟨_,_,rfl,aa⟩ ⟨aa,aa⟩) (g9 11 ?_)
   show Value.tuple #[Value.string _,Value.bool _]=_
   rw [SX aa iu hk]
  refine g9 9 ?_
  exact⟨Le.rfl,k+1,aZ,⟨rfl,fun j h=>by
      by_cases e:j=k
      ·subst e;exact iu
      ·exact hk j aa⟩,aa⟩
 refine g9 13 ?_
 show Value.tuple #[Value.string _,Value.bool _]=_
 rw [SY (fun j h=>hk j aa)];rfl

theorem agL(az:ax bA G bN l):
    Fc Tryz.prog 177 [bN] G [] (fun v G' M'=>M'=[]∧∃r:List bp×List bp×ah×Bool,r=nW l∧∃u0 u1,v=.tuple #[u0,u1,sV (ah.b (r.2.2.1)),.bool (r.2.2.2)]∧ax bA G' u0 (r.1)∧ax bA G' u1 (r.2.1)):=by
 obtain⟨aW,aX,rfl⟩:=az.form
 have hl:=az.aH
 have uT:l.length*32≤140737488355328:=az.bytes
 refine Fc.go [.tmp 2,.tmp 3,.tmp 4,.tmp 5] Tryz.func177 Tryz.ntmps177 rfl (fun w0=>(g9 16 ?_))
 refine WC.cd (fun h9 p9=> ?_) (fun h9 p9=> ?_)
 ·refine g9 11 ?_
  refine⟨rfl,_,(SZ aa).symm,_,_,rfl,?_,?_⟩
  ·exact ax.nil
  exact ax.nil
 refine g9 7 ?_
 refine W.ok (qO rfl rfl aa aa aa) (g9 8 ?_)
 refine az.a1 (i:=(l.length+1) / 2-1) aa (fun he3=>(W.ok (aY (i:=(l.length+1) / 2-1) cv bX az rfl rfl ⟨aa,aa⟩) (g9 4 ?_)))
 refine az.a1 (i:=(l.length+1) / 2) aa (fun he6=>(W.ok (aY (i:=(l.length+1) / 2) cv bX az rfl rfl ⟨aa,aa⟩) (g9 2 ?_)))
 refine W.ay (T6 _ _) rfl (g9 7 ?_)
 refine WC.dw bi (d9 [0,1] ?_)
 have aZ:=ax.slice az (lo:=0) (hi:=(l.length+1) / 2) aa aa
 refine WD.tk 2 rfl (ok_slice (0) ((l.length+1) / 2) cv bX az rfl rfl ⟨_,_,rfl,aa⟩ ⟨aa,aa⟩) (d9 [4,5] ?_)
 have aHp:=ax.slice az (lo:=(l.length+1) / 2) (hi:=l.length) aa aa
 refine WD.tk 6 rfl (ok_slice ((l.length+1) / 2) (l.length) cv bX az rfl ⟨_,_,rfl,aa⟩ rfl ⟨aa,aa⟩) (d9 [8] ?_)
 refine WD.a1 3 rfl (W.cS (gE aZ) rfl (fun aHq aHr G11 xI aHs=>(W.nn (WD.a1 7 rfl (W.cS (gE (aHp.mono xI)) rfl (fun akG akH G18 qN Fy=>(W.nn (d9 [9,10,11,12] ?_))))))))
 refine g9 4 ?_
 refine⟨rfl,_,(S0 aa).symm,_,_,rfl,?_,?_⟩
 ·exact ax.cast ((aHs.mono qN)) (by simp)
 exact ax.cast (Fy) (by simp)

end Go.Proofs.YtfhnamngaofccaaGreat
