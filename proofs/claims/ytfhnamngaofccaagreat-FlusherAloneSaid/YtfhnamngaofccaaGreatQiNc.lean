/- What container/heap asks of a heap, and what it does with it. Nothing of the program is named here. No condition. -/
import Derived.Test.YtfhnamngaofccaaGreatProg
import Derived.MapKept
import Derived.Test.YtfhnamngaofccaaGreatQiGa
set_option linter.unusedVariables false
set_option linter.unusedSimpArgs false
set_option linter.unnecessarySimpa false
set_option maxRecDepth 100000
set_option maxHeartbeats 1600000

namespace Go.Fw
open Go Go.RowKit
structure PJ (P:Program) {α:Type} [Inhabited α] (lt:α→α→Bool) (x:Value) (pS:GH→List α→MH→Prop) (EV:GH→Value→α→Prop) (pu:Prop:=True):Prop where
 mono:∀ {G G' l M},Le G G'→pS G l M→pS G' l M
 PK:∀ {G l M},pS G l M→l.length≤140737488355328
 len : ∀ {G l M}, pS G l M → Inv P x "Len" [] G M (fun v G' M' => v = .int .i64 (l.length : Int) ∧ M' = M)
 less : ∀ {G l M} {i j : Nat}, pS G l M → i < l.length → j < l.length → Inv P x "Less" [.int .i64 (i : Int), .int .i64 (j : Int)] G M (fun v G' M' => v = .bool (lt (nth l i) (nth l j)) ∧ M' = M)
 swap : ∀ {G l M} {i j : Nat}, pS G l M → i < l.length → j < l.length → Inv P x "Swap" [.int .i64 (i : Int), .int .i64 (j : Int)] G M (fun v G' M' => v = .tuple #[] ∧ pS G' (ir l i j) M')
 push : pu → ∀ {G l M u a}, pS G l M → l.length < 1000000 → EV G u a → Inv P x "Push" [u] G M (fun v G' M' => v = .tuple #[] ∧ pS G' (l ++ [a]) M')
 pop : ∀ {G l M}, pS G l M → 0 < l.length → Inv P x "Pop" [] G M (fun v G' M' => EV G' v (nth l (l.length - 1)) ∧ pS G' (l.take (l.length - 1)) M')
section
variable {α:Type} [Inhabited α] {lt:α→α→Bool}
variable {f:Nat} {i:Nat} {l:List α}
theorem Fz{n:Nat}(h:n≤2*i+1):fB lt f l i n=l:=by
 cases f with
 |zero=>rfl
 |succ f=>rw [fB,if_pos h]
theorem HV{n:Nat}(h1:¬n≤2*i+1)(h2:lt (nth l (ju lt l i n)) (nth l i)=false):fB lt f l i n=l:=by
 cases f with
 |zero=>rfl
 |succ f=>rw [fB,if_neg h1,if_pos h2]
theorem agM{n:Nat}(hf:n≤i+f)(h1:¬n≤2*i+1)(h2:lt (nth l (ju lt l i n)) (nth l i)=true):fB lt f l i n=fB lt (f-1) (ir l i (ju lt l i n)) (ju lt l i n) n:=by
 cases f with
 |zero=>omega
 |succ f=>rw [fB,if_neg h1,if_neg (by simp [h2])];rfl
theorem ato{n:Nat}(h:2*i+2<n)(h2:lt (nth l (2*i+2)) (nth l (2*i+1))=true):ju lt l i n=2*i+2:=if_pos ⟨h,h2⟩
theorem adQ{n:Nat}(h:¬2*i+2<n∨lt (nth l (2*i+2)) (nth l (2*i+1))=false):ju lt l i n=2*i+1:=if_neg (fun⟨h1,h2⟩=>h.elim (fun h=>h h1) (fun h=>by rw [h2]at h;cases h))
theorem agN(h:tj lt l)(f i:Nat):fB lt f l i l.length=l:=by
 by_cases h1:l.length≤2*i+1
 ·exact Fz h1
 ·have hk:=xr (lt:=lt) (l:=l) h1
  have:=h (ju lt l i l.length) aa hk.1 aa
  rw [hk.2.2.1]at this
  exact HV h1 this
theorem T7(h:0<l.length):(fB lt l.length (ir l 0 (l.length-1)) 0 (l.length-1)).take ((fB lt l.length (ir l 0 (l.length-1)) 0 (l.length-1)).length-1)=qd lt l∧
  nth (fB lt l.length (ir l 0 (l.length-1)) 0 (l.length-1)) ((fB lt l.length (ir l 0 (l.length-1)) 0 (l.length-1)).length-1)=nth l 0:=by
 rw [oY,dR]
 refine⟨rfl,?_⟩
 rw [uZ _ _ _ _ _ (by rw [dR];omega) (Nat.le_refl _),kL aa aa,if_pos rfl]
end
abbrev Hd:=List aA×Int
def Hd.st (a:Hd):Int:=match a.1 with|[]=>0|m::_=>m.aO
theorem Hd.ayT{a:Hd}(h:0<a.1.length):a.st=a.1[0].aO:=by
 obtain⟨l,n⟩:=a
 cases l with
 |nil=>simp at h
 |cons m l=>rfl
theorem adR:LO (fun a b:Int=>decide (a<b)) where
 asymm:=fun {a b} h=>by simp at h⊢;omega
 trans:=fun {a b c} h1 h2=>by simp at h1 h2⊢;omega
def sR:dV Bool where
 k:=1
 w:=1
 R:=fun _ cs b=>cs=[.bool b]
 mono:=fun _ h=>h
 len:=fun h=>by rw [h];rfl
 one:=fun h u hu=>by rw [h]at hu;simp at hu;subst hu;rfl
instance : ZS sR (fun b => [.bool b]) := ⟨fun _ _ _ h => h⟩
instance : ZS ayN (fun s => [.string s.lo.b, .string s.hi.b, .bool s.bT]) := ⟨fun _ _ _ h => h⟩
instance : SS aGN (fun e => [.int .i64 e.kind, .string e.val.b]) (fun e => i64 e.kind) := ⟨fun _ _ _ h => h⟩
abbrev A5:Int→Int→Bool:=fun a b=>decide (a<b)
def ky (u:List Bool) (i:Int):Bool:=decide (0≤i)&&(decide (i<u.length)&&u.getD i.toNat false)
variable {i:Int} {u:List Bool}
theorem L6:ky u i=true↔∃k:Nat,∃h:k<u.length,i=k∧u[k]=true:=by
 unfold ky
 simp only [Bool.and_eq_true,decide_eq_true_eq]
 constructor
 ·rintro⟨h1,h2,h3⟩
  have h4:i.toNat<u.length:=aa
  rw [List.getD_eq_getElem?_getD,List.getElem?_eq_getElem h4]at h3
  exact⟨i.toNat,h4,aa,h3⟩
 ·rintro⟨k,h,rfl,h2⟩
  refine⟨aa,aa,?_⟩
  rw [List.getD_eq_getElem?_getD,Int.toNat_natCast,List.getElem?_eq_getElem h]
  exact h2
def iM (u:List Bool):List Int:=((List.range u.length).filter fun i=> !u.getD i true).map fun i:Nat=>(i:Int)
def kz (u:List Bool):List Int:=((List.range u.length).filter fun i=>u.getD i true).map fun i:Nat=>(i:Int)
theorem tI{i:Nat}(h:i<u.length)(d:Bool):u.getD i d=u[i]:=by rw [List.getD_eq_getElem?_getD,List.getElem?_eq_getElem h];rfl
theorem ou{a:Int} :a∈iM u↔∃i:Nat,∃h:i<u.length,a=i∧u[i]=false:=by
 unfold iM
 rw [List.mem_map]
 constructor
 ·rintro⟨i,hi,rfl⟩
  rw [List.mem_filter,List.mem_range]at hi
  obtain⟨h1,h2⟩:=hi
  rw [tI h1]at h2
  exact⟨i,h1,rfl,by simpa using h2⟩
 ·rintro⟨i,h,rfl,h2⟩
  exact⟨i,List.mem_filter.2 ⟨List.mem_range.2 h,by rw [tI h,h2];rfl⟩,rfl⟩
theorem FA(u:List Bool):(iM u).Nodup:=by
 unfold iM
 have h:List.Pairwise (fun a b:Nat=>a≠b) ((List.range u.length).filter fun i=> !u.getD i true):=List.Pairwise.sublist List.filter_sublist List.nodup_range
 exact List.Pairwise.map _ (fun a b h e=>h (by have e:(a:Int)=(b:Int):=e;omega)) h
theorem FB{α:Type}(p:α→Bool):∀(l:List α),(l.filter fun i=> !p i).length+(l.filter p).length=l.length
 |[]=>rfl
 |x::l=>by
  have:=FB p l
  cases h:p x<;>simp [h]<;>omega
theorem A6(u:List Bool):(iM u).length+(kz u).length=u.length:=by
 unfold iM kz
 rw [List.length_map,List.length_map]
 have:=FB (fun i=>u.getD i true) (List.range u.length)
 rw [List.length_range]at this
 exact this
def dS:List Bool→Nat
 |[]=>0
 |true::l=>dS l+1
 |false::_=>0
theorem A7:∀ {u:List Bool} {i:Nat} (h:i<u.length),u[i]=false→(∀j (hj:j<u.length),j<i→u[j]=true)→dS u=i
 |[],i,h,_,_=>by simp at h
 |true::l,0,h,h1,_=>by simp at h1
 |true::l,i+1,h,h1,h2=>by
  rw [dS,A7 (u:=l) (i:=i) (by simp at h;omega) (by simpa using h1) fun j hj oh=>by have:=h2 (j+1) (by simp;omega) aa;simpa using this]
 |false::l,0,_,_,_=>rfl
 |false::l,i+1,h,h1,h2=>by have:=h2 0 (by simp) aa;simp at this
theorem xN:∀ {u:List Bool},(∀j (hj:j<u.length),u[j]=true)→dS u=u.length
 |[],_=>rfl
 |true::l,h=>by rw [dS,xN (u:=l) fun j hj=>by have:=h (j+1) (by simp;omega);simpa using this];rfl
 |false::l,h=>by have:=h 0 (by simp);simp at this
theorem aal(h:(iM u).length=0):dS u=u.length:=xN fun j hj=>by
 cases hu:u[j]with
 |true=>rfl
 |false=>
  have:=ou.2 ⟨j,hj,rfl,hu⟩
  rw [List.eq_nil_of_length_eq_zero h]at this;cases this
theorem PL{a b:List Int}(ha:a.Nodup)(hb:b.Nodup)(h:∀x,x∈a↔x∈b):a.Perm b:=(List.perm_ext_iff_of_nodup ha hb).2 h
theorem Ua{f:List Int}(hH:tj A5 f)(hp:f.Perm (iM u))(hl:0<f.length):∃h:dS u<u.length,nth f 0=(dS u:Int)∧tj A5 (qd A5 f)∧(qd A5 f).Perm (iM (u.set (dS u) true)):=by
 obtain⟨h1,h2,h3⟩:=agw adR hH hl
 have hm:nth f 0∈iM u:=hp.mem_iff.1 (by rw [ke hl];exact List.getElem_mem _)
 obtain⟨i,hi,e,hu⟩:=ou.1 hm
 have hfi:dS u=i:=A7 hi hu fun j hj oh=>by
  cases huj:u[j]with
  |true=>rfl
  |false=>
   have HH:((j:Nat):Int)∈f:=hp.mem_iff.2 (ou.2 ⟨j,hj,rfl,huj⟩)
   obtain⟨c,hc,e2⟩:=List.getElem_of_mem HH
   have:=LP adR hH c hc
   rw [ke hc,e,e2]at this
   simp at this;omega
 subst hfi
 refine⟨hi,e,h1,?_⟩
 have m3:(nth f 0::qd A5 f).Nodup:=h2.nodup_iff.2 (hp.nodup_iff.2 (FA u))
 obtain⟨hn1,Gh⟩:=List.nodup_cons.1 m3
 refine PL Gh (FA _) fun x=> ?_
 have hmx:x∈nth f 0::qd A5 f↔x∈iM u:=(h2.trans hp).mem_iff
 constructor
 ·intro hx
  obtain⟨k,hk,rfl,hku⟩:=ou.1 (hmx.1 (List.mem_cons_of_mem _ hx))
  have lR:dS u≠k:=fun h=>hn1 (by rw [e,h];exact hx)
  exact ou.2 ⟨k,by rw [List.length_set];exact hk,rfl,by rw [List.getElem_set_ne lR];exact hku⟩
 ·intro hx
  obtain⟨k,hk,rfl,hku⟩:=ou.1 hx
  rw [List.length_set]at hk
  have lR:dS u≠k:=fun h=>by subst h;simp at hku
  rw [List.getElem_set_ne lR]at hku
  rcases List.mem_cons.1 (hmx.2 (ou.2 ⟨k,hk,rfl,hku⟩))with h|h
  ·rw [e]at h;omega
  ·exact h
def eB (n:Nat):List Int:=(List.range n).map fun i:Nat=>(i:Int)
theorem HW(n:Nat):eB (n+1)=eB n++[(n:Int)]:=by simp [eB,List.range_succ]
theorem mA(n:Nat):(eB n).length=n:=by simp [eB]
theorem vj(n:Nat):tj A5 (eB n):=fun c h0 hc _=>by
 rw [mA]at hc
 have h1:nth (eB n) c=(c:Int):=by rw [ke (by rw [mA];exact hc)];simp [eB]
 have h2:nth (eB n) ((c-1) / 2)=(((c-1) / 2:Nat):Int):=by rw [ke (by rw [mA];omega)];simp [eB]
 rw [h1,h2]
 simp only [decide_eq_false_iff_not]
 omega
theorem HX(n:Nat):eB n=iM (List.replicate n false):=by
 unfold eB iM
 rw [List.length_replicate]
 congr 1
 symm
 rw [List.filter_eq_self]
 intro i hi
 rw [List.mem_range]at hi
 rw [tI (by simpa using hi)]
 simp
def eI {α:Type} (st:List α×List Bool) (x:α):(Int×Int)×(List α×List Bool):=
 if dS st.2<st.2.length then((dS st.2,0),(st.1.set (dS st.2) x,st.2.set (dS st.2) true))else((0,4),st)
def qP {α:Type} (st:List α×List Bool) (i:Int) (x:α):Int×(List α×List Bool):=if ky st.2 i=true then(0,(st.1.set i.toNat x,st.2))else(8,st)
def wv {α:Type} (st:List α×List Bool) (i:Int) (z:α):α:=if ky st.2 i=true then st.1.getD i.toNat z else z
def Ll {α:Type} (e:dV α) (Te TB TI Tb:TypeId) (b:Nat) (G:GH) (st:List α×List Bool×List Int) (M:MH):Prop:=
 ∃vc vu vf Mc Mu Mf,M=(b,.cells (List.toArray [vc,vu,vf]) Tb (0,0))::(Mc++(Mu++Mf))∧aP e Te G vc st.1 Mc∧aP sR TB G vu st.2.1 Mu∧aP bY TI G vf st.2.2 Mf
theorem Ll.mono{α:Type}{e:dV α}{Te TB TI Tb:TypeId}{b:Nat}{G G':GH}{st:List α×List Bool×List Int}{M:MH}(hl:Le G G')(h:Ll e Te TB TI Tb b G st M):Ll e Te TB TI Tb b G' st M:=by
 obtain⟨vc,vu,vf,Mc,Mu,Mf,h1,h2,h3,h4⟩:=h
 exact⟨vc,vu,vf,Mc,Mu,Mf,h1,h2.mono hl,h3.mono hl,h4.mono hl⟩
def kN {α:Type} (e:dV α) (Te TB TI Tb:TypeId) (b:Nat) (G:GH) (st:List α×List Bool) (M:MH):Prop:=
 ∃f,Ll e Te TB TI Tb b G (st.1,st.2,f) M∧st.1.length=st.2.length∧st.2.length≤4096∧tj A5 f∧f.Perm (iM st.2)
theorem kN.mono{α:Type}{e:dV α}{Te TB TI Tb:TypeId}{b:Nat}{G G':GH}{st:List α×List Bool}{M:MH}(hl:Le G G')(h:kN e Te TB TI Tb b G st M):kN e Te TB TI Tb b G' st M:=by
 obtain⟨f,h1,h2⟩:=h
 exact⟨f,h1.mono hl,h2⟩
variable {G:GH} {M:MH} {b:Nat} {α:Type}
theorem kN.cast{e:dV α}{Te TB TI Tb:TypeId}{st st':List α×List Bool}{M':MH}(h:kN e Te TB TI Tb b G st M)(e1:st=st')(e2:M=M'):kN e Te TB TI Tb b G st' M':=by subst e1 e2;exact h
theorem agO(h0:0≤i)(h1:i<u.length):u[i.toNat]'aa=ky u i:=by
 unfold ky
 rw [decide_eq_true h0,decide_eq_true h1,tI aa];rfl
theorem agP(h0:¬0≤i):false=ky u i:=by unfold ky;rw [decide_eq_false h0];rfl
theorem agQ(h1:¬i<u.length):false=ky u i:=by unfold ky;rw [decide_eq_false h1];simp
theorem Ub(h:ky u i=true):0≤i∧i.toNat<u.length∧i=(i.toNat:Int):=by
 obtain⟨k,hk,rfl,_⟩:=L6.1 h
 exact⟨aa,by simpa using hk,by simp⟩
theorem PM{st:List α×List Bool}{x:α}(h:ky st.2 i=true):qP st i x=(0,(st.1.set i.toNat x,st.2)):=if_pos h
theorem PN{st:List α×List Bool}{x:α}(h:ky st.2 i=false):qP st i x=(8,st):=if_neg (by simp [h])
theorem Uc{st:List α×List Bool}{x:α}(h:dS st.2<st.2.length):eI st x=(((dS st.2:Int),0),(st.1.set (dS st.2) x,st.2.set (dS st.2) true)):=if_pos h
theorem Ud{st:List α×List Bool}{x:α}(h:dS st.2=st.2.length):eI st x=((0,4),st):=if_neg aa
theorem atp{st:List α×List Bool}{z:α}(h:ky st.2 i=true)(h2:i.toNat<st.1.length):wv st i z=st.1[i.toNat]:=by
 unfold wv;rw [if_pos h,List.getD_eq_getElem?_getD,List.getElem?_eq_getElem h2];rfl
theorem atq{st:List α×List Bool}{z:α}(h:ky st.2 i=false):wv st i z=z:=if_neg (by simp [h])
variable {cs:List Value} {m:Nd}
theorem ba.cast{n:Nd}(h:ba G cs n)(e:n=m):ba G cs m:=e▸h
def qQ (u:List Bool) (k:Nat):List Int:=((List.range k).filter fun i=>u.getD i true).map fun i:Nat=>(i:Int)
theorem HY(u:List Bool)(k:Nat):(qQ u k).length≤k:=by
 unfold qQ;rw [List.length_map]
 have:=List.length_filter_le (fun i=>u.getD i true) (List.range k)
 rw [List.length_range]at this;exact this
theorem akI{k:Nat}(hk:k<u.length)(h:u[k]=true):qQ u (k+1)=qQ u k++[(k:Int)]:=by
 unfold qQ;rw [List.range_succ,List.filter_append,List.map_append];congr 1;simp [List.getElem?_eq_getElem hk,h]
theorem akJ{k:Nat}(hk:k<u.length)(h:u[k]=false):qQ u (k+1)=qQ u k:=by
 unfold qQ;rw [List.range_succ,List.filter_append,List.map_append];simp [List.getElem?_eq_getElem hk,h]
theorem Ue(u:List Bool):kz u=qQ u u.length:=rfl
def fe (c:aQ):Prop:=(4≤c.bu∧c.bu≤64)∧(2≤c.leaf∧c.leaf≤64)∧(36≤c.bud∧c.bud≤4096)∧(1≤c.aL∧c.aL≤4096)∧(0≤c.rest∧c.rest≤100)
instance (c : aQ) : Decidable (fe c) := by unfold fe; infer_instance
def gA (n:Nat) (l:List Nd):List Nd×List Bool:=(l++List.replicate (n-l.length) Nd.zero,List.replicate l.length true++List.replicate (n-l.length) false)
theorem agR(n:Nat):gA n []=(List.replicate n Nd.zero,List.replicate n false):=by simp [gA]
variable {l:List Nd}
theorem zy{n:Nat}(h:l.length≤n):(gA n l).2.length=n:=by simp [gA];omega
theorem DY{n:Nat}{i:Nat}(h:i<(gA n l).2.length):(gA n l).2[i]=decide (i<l.length):=by
 rw [List.getElem_of_eq (show(gA n l).2=List.replicate l.length true++List.replicate (n-l.length) false from rfl) h,List.getElem_append]
 split<;>rename_i h2<;>simp only [List.length_replicate]at h2<;>simp<;>omega
theorem Gy{n:Nat}(h:l.length≤n)(i:Int):ky (gA n l).2 i=decide (0≤i∧i<l.length):=by
 rw [Bool.eq_iff_iff,L6,decide_eq_true_iff]
 constructor
 ·rintro⟨k,hk,rfl,h2⟩
  rw [DY hk]at h2
  have:=of_decide_eq_true h2
  omega
 ·rintro⟨h1,h2⟩
  have hl:=zy h
  exact⟨i.toNat,aa,aa,by rw [DY];exact decide_eq_true aa⟩
theorem L7{n:Nat}(h:l.length≤n):dS (gA n l).2=l.length:=by
 have hl:=zy h
 by_cases e:l.length=n
 ·rw [xN fun j hj=>by rw [DY hj];exact decide_eq_true aa];omega
 ·exact A7 aa (by rw [DY];exact decide_eq_false aa) fun j hj Lj=>by rw [DY hj];exact decide_eq_true Lj
variable {x:Nd}
theorem akK{n:Nat}{k:Nat}(hk:k<l.length):(gA n l).1.set k x=(gA n (l.set k x)).1:=by
 unfold gA
 rw [List.length_set,List.set_append_left _ _ hk]
theorem agS{n:Nat}(h:l.length<n):eI (gA n l) Nd.zero=(((l.length:Int),0),gA n (l++[Nd.zero])):=by
 have hf:=L7 (Nat.le_of_lt h)
 have hl:=zy (Nat.le_of_lt h)
 rw [Uc aa,hf]
 refine congrArg (Prod.mk _) ?_
 obtain⟨m,hm⟩:∃m,n-l.length=m+1:=⟨n-l.length-1,aa⟩
 have Gk:n-(l++[Nd.zero]).length=m:=by simp;omega
 unfold gA
 rw [hm,Gk]
 refine Prod.ext ?_ ?_
 ·show(l++List.replicate (m+1) Nd.zero).set l.length Nd.zero=(l++[Nd.zero])++List.replicate m Nd.zero
  rw [List.set_append_right _ _ (Nat.le_refl _),Nat.sub_self,List.replicate_succ,List.set_cons_zero,List.append_assoc];rfl
 ·show(List.replicate l.length true++List.replicate (m+1) false).set l.length true=List.replicate (l++[Nd.zero]).length true++List.replicate m false
  rw [List.set_append_right _ _ (by simp),List.length_replicate,Nat.sub_self,List.replicate_succ,List.set_cons_zero,List.length_append,List.length_singleton,List.replicate_succ',List.append_assoc];rfl
theorem akL{n:Nat}(h:l.length=n):eI (gA n l) Nd.zero=((0,4),gA n l):=Ud (by rw [L7 aa,zy aa];exact h)
def xO (l:List Nd) (x:Nd):Int×List Nd:=if 0≤x.slot∧x.slot<l.length then(0,l.set x.slot.toNat x)else(8,l)
theorem Cj(h:0≤x.slot∧x.slot<l.length):xO l x=(0,l.set x.slot.toNat x):=if_pos h
theorem atr(h:¬(0≤x.slot∧x.slot<l.length)):xO l x=(8,l):=if_neg h
theorem agT(l:List Nd)(x:Nd):(xO l x).2.length=l.length:=by unfold xO;split<;>simp
theorem PO{n:Nat}(h:l.length≤n)(x:Nd):qP (gA n l) x.slot x=((xO l x).1,gA n (xO l x).2):=by
 by_cases hx:0≤x.slot∧x.slot<l.length
 ·rw [PM (by rw [Gy h];exact decide_eq_true hx),Cj hx,akK aa]
  refine congrArg (Prod.mk _) (Prod.ext rfl ?_)
  unfold gA;simp
 ·rw [PN (by rw [Gy h];exact decide_eq_false hx),atr hx]
def ov (n:Nat) (l:List Nd) (x:Nd):(Int×Int)×List Nd:=if l.length<n then((l.length,0),l++[{ x with slot:=l.length }])else((0,4),l)
theorem Ck{n:Nat}(h:l.length<n):ov n l x=(((l.length:Int),0),l++[{ x with slot:=l.length }]):=if_pos h
theorem HZ{n:Nat}(h:¬l.length<n):ov n l x=((0,4),l):=if_neg h
theorem take_set:xO (l++[Nd.zero]) { x with slot:=l.length } =(0,l++[{ x with slot:=l.length }]):=by
 rw [Cj (by simp;omega)]
 refine congrArg (Prod.mk _) ?_
 show(l++[Nd.zero]).set ((l.length:Int)).toNat _=_
 rw [Int.toNat_natCast,List.set_append_right _ _ (Nat.le_refl _),Nat.sub_self];rfl
def ag (l:List Nd) (i:Int):Nd:=if 0≤i then l.getD i.toNat Nd.zero else Nd.zero
theorem jN{k:Nat}(h:k<l.length):ag l k=l[k]:=by
 unfold ag;rw [if_pos aa,Int.toNat_natCast,List.getD_eq_getElem?_getD,List.getElem?_eq_getElem h];rfl
theorem adS{n:Nat}(h:l.length≤n)(i:Int):wv (gA n l) i Nd.zero=ag l i:=by
 unfold wv ag
 rw [Gy h]
 by_cases h0:0≤i
 ·rw [if_pos h0]
  by_cases h1:i<l.length
  ·rw [if_pos (decide_eq_true ⟨h0,h1⟩),List.getD_eq_getElem?_getD,List.getD_eq_getElem?_getD]
   unfold gA
   rw [List.getElem?_append_left aa]
  ·rw [if_neg (by simp;omega),List.getD_eq_getElem?_getD,List.getElem?_eq_none aa];rfl
 ·rw [if_neg h0,if_neg (by simp;omega)]
theorem Uf{n:Nat}(h:l.length≤n):kz (gA n l).2=eB l.length:=by
 have hl:=zy h
 unfold kz eB
 congr 1
 rw [hl]
 have e:n=l.length+(n-l.length):=aa
 have key:∀m,m≤n→(List.range m).filter (fun i=>(gA n l).2.getD i true)=List.range (min m l.length):=by
  intro m
  induction m with
  |zero=>intro _;simp
  |succ m ih=>
   intro hm
   rw [List.range_succ,List.filter_append,ih aa,List.filter_cons,tI aa,DY]
   by_cases qL:m<l.length
   ·rw [if_pos (decide_eq_true qL),List.filter_nil,Nat.min_eq_left aa,Nat.min_eq_left aa,List.range_succ]
   ·rw [if_neg (by simpa using qL),List.filter_nil,List.append_nil,Nat.min_eq_right aa,Nat.min_eq_right aa]
 rw [key n (Nat.le_refl _),Nat.min_eq_right h]
theorem aam{st:List α×List Bool}{x:α}(h:st.2.length≤4096):i64 (eI st x).1.1:=by
 unfold eI
 split
 ·exact⟨by show(-9223372036854775808:Int)≤(dS st.2:Int);omega,by show(dS st.2:Int)≤9223372036854775807;omega⟩
 ·exact⟨by show(-9223372036854775808:Int)≤0;omega,by show(0:Int)≤9223372036854775807;omega⟩
def DZ (a:List Nd×List Bool) (x:Nd):(Int×Int)×(List Nd×List Bool):=
 if(eI a Nd.zero).1.2=0 then(((eI a Nd.zero).1.1,(qP (eI a Nd.zero).2 (eI a Nd.zero).1.1 { x with slot:=(eI a Nd.zero).1.1 }).1),(qP (eI a Nd.zero).2 (eI a Nd.zero).1.1 { x with slot:=(eI a Nd.zero).1.1 }).2)
 else((0,(eI a Nd.zero).1.2),(eI a Nd.zero).2)
variable {a:List Nd×List Bool}
theorem Ug(h:(eI a Nd.zero).1.2=0):DZ a x=(((eI a Nd.zero).1.1,(qP (eI a Nd.zero).2 (eI a Nd.zero).1.1 { x with slot:=(eI a Nd.zero).1.1 }).1),(qP (eI a Nd.zero).2 (eI a Nd.zero).1.1 { x with slot:=(eI a Nd.zero).1.1 }).2):=if_pos h
theorem Uh(h:¬(eI a Nd.zero).1.2=0):DZ a x=((0,(eI a Nd.zero).1.2),(eI a Nd.zero).2):=if_neg h
theorem H0{n:Nat}(h:l.length≤n)(x:Nd):DZ (gA n l) x=((ov n l x).1,gA n (ov n l x).2):=by
 by_cases e:l.length<n
 ·have h1:=agS e
  rw [Ug (by rw [h1]),h1,Ck e]
  have h2:=PO (n:=n) (l:=l++[Nd.zero]) (by simp;omega) { x with slot:=(l.length:Int) }
  rw [take_set]at h2
  show(((l.length:Int),(qP (gA n (l++[Nd.zero])) ({ x with slot:=(l.length:Int) } :Nd).slot { x with slot:=(l.length:Int) }).1),(qP (gA n (l++[Nd.zero])) ({ x with slot:=(l.length:Int) } :Nd).slot { x with slot:=(l.length:Int) }).2)=_
  rw [h2]
 ·have h1:=akL (n:=n) (l:=l) aa
  rw [Uh (by rw [h1];show ¬(4:Int)=0;omega),h1,HZ e]
def H2 (te tB ti tb TS b:Nat) (G:GH) (c:aQ) (a:List Nd×List Bool) (M:MH):Prop:=
 ∃b2 Ma,M=(b,.cells (List.toArray [.int .i64 c.bu,.int .i64 c.leaf,.int .i64 c.bud,.int .i64 c.aL,.int .i64 c.rest,.pointer (some ⟨b2,0,none⟩)]) TS (0,0))::Ma∧kN bU te tB ti tb b2 G a Ma
theorem H2.mono{te tB ti tb TS b:Nat}{G G':GH}{c:aQ}{a:List Nd×List Bool}{M:MH}(hl:Le G G')(h:H2 te tB ti tb TS b G c a M):H2 te tB ti tb TS b G' c a M:=by
 obtain⟨b2,Ma,h1,h2⟩:=h;exact⟨b2,Ma,h1,h2.mono hl⟩
def eJ (te tB ti tb TS b:Nat) (c:aQ) (G:GH) (l:List Nd) (M:MH):Prop:=fe c∧l.length≤c.aL.toNat∧H2 te tB ti tb TS b G c (gA c.aL.toNat l) M
theorem eJ.mono{te tB ti tb TS b:Nat}{G G':GH}{c:aQ}{l:List Nd}{M:MH}(hl:Le G G')(h:eJ te tB ti tb TS b c G l M):eJ te tB ti tb TS b c G' l M:=⟨h.1,h.2.1,h.2.2.mono hl⟩
theorem H2.cast{te tB ti tb TS:Nat}{c:aQ}{a':List Nd×List Bool}(h:H2 te tB ti tb TS b G c a M)(e:a=a'):H2 te tB ti tb TS b G c a' M:=e▸h
def iN (slot:Int):Nd:=⟨slot,0,[],[],ah.nil,true,-1,0,[],[]⟩
theorem aan{n:Nat}(h:l.length≤n):(ov n l x).2.length≤n:=by unfold ov;split<;>simp<;>omega
theorem aao{n:Nat}(h:l.length≤n):((kz (gA n l).2).map fun i=>wv (gA n l) i Nd.zero)=l:=by
 rw [Uf h]
 refine List.ext_getElem (by simp [eB]) fun i h1 h2=> ?_
 rw [List.getElem_map,adS h]
 simp only [eB,List.getElem_map,List.getElem_range]
 exact jN h2
theorem ba.of{n:Nd}(h:ba G cs n)(e:n=m):ba G cs m:=e▸h
end Go.Fw
namespace Go.Proofs.YtfhnamngaofccaaGreat
open Go.Fw
theorem akM:eC Tryz.prog 23=some (true,5):=by kernel_rfl
theorem akN:dE Tryz.prog 23=some [.int .i64 0,.int .i64 0,.int .i64 0,.int .i64 0,.int .i64 0]:=by kernel_rfl
theorem eY:cB Tryz.prog 24=some 57:=by kernel_rfl
theorem cU:eC Tryz.prog 57=some (true,10):=by kernel_rfl
theorem bq:dE Tryz.prog 57=some [.int .i64 0,.int .i64 0,.slice none 0 0,.slice none 0 0,.string ⟨#[]⟩,.bool false,.int .i64 0,.int .i64 0,.slice none 0 0,.slice none 0 0]:=by kernel_rfl
theorem B1:ig Tryz.prog 57=some 152:=by kernel_rfl
theorem Ag:Tryz.prog.underlying 9=some .string:=by kernel_rfl
theorem qR:xP Tryz.prog 33=true:=by kernel_rfl
theorem att:bD Tryz.prog 48 1=some 5:=by kernel_rfl
theorem aHt:eC Tryz.prog 24=some (false,1):=by kernel_rfl
theorem Ui:cB Tryz.prog 49=some 83:=by kernel_rfl
theorem Uj:eC Tryz.prog 83=some (true,3):=by kernel_rfl
theorem ww:dE Tryz.prog 83=some [.int .i64 0,.int .i64 0,.bool false]:=by kernel_rfl
theorem aw3:ig Tryz.prog 83=some 24:=by kernel_rfl
theorem atu:bD Tryz.prog 57 4=some 4:=by kernel_rfl
theorem ft:eC Tryz.prog 9=some (false,1):=by kernel_rfl
theorem vk:dE Tryz.prog 9=some [.string ⟨#[]⟩]:=by kernel_rfl
theorem atv:bD Tryz.prog 57 0=some 0:=by kernel_rfl
theorem ci:eC Tryz.prog 3=some (false,1):=by kernel_rfl
theorem kp:dE Tryz.prog 3=some [.int .i64 0]:=by kernel_rfl
theorem atw:bD Tryz.prog 57 7=some 7:=by kernel_rfl
theorem aHu:fC Tryz.prog 23=some [(0,1),(1,1),(2,1),(3,1),(4,1)]:=by kernel_rfl
theorem atx:bD Tryz.prog 70 3=some 3:=by kernel_rfl
theorem aHv:dE Tryz.prog 48=some [.int .i64 0,.int .i64 0,.int .i64 0,.int .i64 0,.int .i64 0,.slice none 0 0]:=by kernel_rfl
theorem aHw:fC Tryz.prog 48=some [(0,5),(5,1)]:=by kernel_rfl
theorem wx:xP Tryz.prog 35=true:=by kernel_rfl
theorem aw4:dE Tryz.prog 72=some [.int .i64 0,.int .i64 0,.int .i64 0]:=by kernel_rfl
theorem aw5:fC Tryz.prog 72=some [(0,1),(1,1),(2,1)]:=by kernel_rfl
theorem aw6:dE Tryz.prog 75=some [.int .i64 0,.int .i64 0,.int .i64 0,.pointer none,.pointer none,.string ⟨#[]⟩,.nilFunc,.int .i64 0,.string ⟨#[]⟩,.int .i64 0,.bool false]:=by kernel_rfl
theorem aw7:fC Tryz.prog 75=some [(0,3),(3,1),(4,1),(5,1),(6,1),(7,1),(8,1),(9,1),(10,1)]:=by kernel_rfl
theorem Cl:xP Tryz.prog 27=true:=by kernel_rfl
theorem aty:bD Tryz.prog 70 2=some 2:=by kernel_rfl
theorem aHx:eC Tryz.prog 68=some (false,1):=by kernel_rfl
theorem aHy:dE Tryz.prog 78=some [.pointer none,.int .i64 0,.pointer none,.int .i64 0]:=by kernel_rfl
theorem aHz:fC Tryz.prog 78=some [(0,1),(1,1),(2,1),(3,1)]:=by kernel_rfl
theorem atz:bD Tryz.prog 78 0=some 0:=by kernel_rfl
theorem aHA:eC Tryz.prog 27=some (false,1):=by kernel_rfl
theorem atA:bD Tryz.prog 70 1=some 1:=by kernel_rfl
theorem aHB:eC Tryz.prog 67=some (false,1):=by kernel_rfl
theorem atB:bD Tryz.prog 78 1=some 1:=by kernel_rfl
theorem Uk:fC Tryz.prog 83=some [(0,1),(1,1),(2,1)]:=by kernel_rfl
theorem atC:bD Tryz.prog 78 2=some 2:=by kernel_rfl
theorem aHC:eC Tryz.prog 76=some (false,1):=by kernel_rfl
theorem atD:bD Tryz.prog 78 3=some 3:=by kernel_rfl
theorem atE:bD Tryz.prog 75 4=some 6:=by kernel_rfl
theorem L8:eC Tryz.prog 73=some (false,1):=by kernel_rfl
theorem atF:bD Tryz.prog 75 8=some 10:=by kernel_rfl
theorem H3:eC Tryz.prog 4=some (false,1):=by kernel_rfl
theorem zr4:dE Tryz.prog 4=some [.bool false]:=by kernel_rfl
theorem H4:cB Tryz.prog 84=some 92:=by kernel_rfl
theorem FC:eC Tryz.prog 92=some (true,14):=by kernel_rfl
theorem H5:dE Tryz.prog 92=some [.int .i64 0,.int .i64 0,.slice none 0 0,.slice none 0 0,.string ⟨#[]⟩,.bool false,.int .i64 0,.int .i64 0,.slice none 0 0,.slice none 0 0,.string ⟨#[]⟩,.string ⟨#[]⟩,.bool false,.slice none 0 0]:=by kernel_rfl
theorem aHD:ig Tryz.prog 92=some 216:=by kernel_rfl
theorem atG:bD Tryz.prog 23 3=some 3:=by kernel_rfl
theorem atH:bD Tryz.prog 92 0=some 0:=by kernel_rfl
theorem atI:bD Tryz.prog 92 2=some 13:=by kernel_rfl
theorem aw8:eC Tryz.prog 54=some (false,1):=by kernel_rfl
theorem aHE:dE Tryz.prog 54=some [.slice none 0 0]:=by kernel_rfl
theorem cO:cB Tryz.prog 54=some 96:=by kernel_rfl
theorem cX:eC Tryz.prog 96=some (true,6):=by kernel_rfl
theorem cy:dE Tryz.prog 96=some [.int .i64 0,.int .i64 0,.string ⟨#[]⟩,.string ⟨#[]⟩,.bool false,.string ⟨#[]⟩]:=by kernel_rfl
theorem jv:ig Tryz.prog 96=some 72:=by kernel_rfl
theorem atJ:bD Tryz.prog 96 0=some 0:=by kernel_rfl
theorem atK:bD Tryz.prog 70 0=some 0:=by kernel_rfl
theorem aHF:eC Tryz.prog 39=some (false,1):=by kernel_rfl
theorem Cm:xP Tryz.prog 39=true:=by kernel_rfl
theorem atM:bD Tryz.prog 99 1=some 5:=by kernel_rfl
theorem aHG:eC Tryz.prog 97=some (false,1):=by kernel_rfl
theorem cq:cB Tryz.prog 53=some 3:=by kernel_rfl
theorem tq:ig Tryz.prog 3=some 8:=by kernel_rfl
theorem atN:bD Tryz.prog 75 5=some 7:=by kernel_rfl
theorem atO:bD Tryz.prog 75 7=some 9:=by kernel_rfl
theorem aHH:eC Tryz.prog 28=some (false,1):=by kernel_rfl
theorem atP:bD Tryz.prog 70 4=some 4:=by kernel_rfl
theorem atQ:bD Tryz.prog 75 6=some 8:=by kernel_rfl
theorem PQ:bD Tryz.prog 23 0=some 0:=by kernel_rfl
theorem adT:bD Tryz.prog 23 1=some 1:=by kernel_rfl
theorem atT:bD Tryz.prog 23 2=some 2:=by kernel_rfl
theorem atU:bD Tryz.prog 23 4=some 4:=by kernel_rfl
theorem adU:bD Tryz.prog 57 9=some 9:=by kernel_rfl
theorem aw9:eC Tryz.prog 55=some (false,1):=by kernel_rfl
theorem cv:cB Tryz.prog 55=some 139:=by kernel_rfl
theorem bX:eC Tryz.prog 139=some (true,2):=by kernel_rfl
theorem eV:dE Tryz.prog 139=some [.string ⟨#[]⟩,.string ⟨#[]⟩]:=by kernel_rfl
theorem lT:ig Tryz.prog 139=some 32:=by kernel_rfl
theorem atV:bD Tryz.prog 57 2=some 2:=by kernel_rfl
theorem aHI:eC Tryz.prog 52=some (false,1):=by kernel_rfl
theorem dt:cB Tryz.prog 52=some 9:=by kernel_rfl
theorem Hq:ig Tryz.prog 9=some 16:=by kernel_rfl
theorem PR:bD Tryz.prog 57 3=some 3:=by kernel_rfl
theorem qS:eC Tryz.prog 53=some (false,1):=by kernel_rfl
theorem atW:bD Tryz.prog 57 8=some 8:=by kernel_rfl
theorem ayU:dE Tryz.prog 111=some [.pointer none,.int .i64 0,.pointer none,.string ⟨#[]⟩,.bool false,.int .i64 0]:=by kernel_rfl
theorem ayV:fC Tryz.prog 111=some [(0,1),(1,1),(2,1),(3,1),(4,1),(5,1)]:=by kernel_rfl
theorem axa:xP Tryz.prog 62=true:=by kernel_rfl
theorem akO:bD Tryz.prog 111 2=some 2:=by kernel_rfl
theorem aHJ:eC Tryz.prog 33=some (false,1):=by kernel_rfl
theorem akP:bD Tryz.prog 111 0=some 0:=by kernel_rfl
theorem atX:aap Tryz.prog 23 3=some (false,3,1):=by kernel_rfl
theorem aHK:dE Tryz.prog 70=some [.pointer none,.pointer none,.map none,.int .i64 0,.int .i64 0]:=by kernel_rfl
theorem aHL:fC Tryz.prog 70=some [(0,1),(1,1),(2,1),(3,1),(4,1)]:=by kernel_rfl
theorem atY:bD Tryz.prog 75 2=some 4:=by kernel_rfl
theorem aHM:eC Tryz.prog 35=some (false,1):=by kernel_rfl
theorem atZ:bD Tryz.prog 75 0=some 0:=by kernel_rfl
theorem at0:bD Tryz.prog 72 0=some 0:=by kernel_rfl
theorem Ul:xP Tryz.prog 67=true:=by kernel_rfl
theorem akQ:bD Tryz.prog 119 0=some 0:=by kernel_rfl
theorem ayW:eC Tryz.prog 117=some (false,1):=by kernel_rfl
theorem xQ:cB Tryz.prog 117=some 123:=by kernel_rfl
theorem sS:eC Tryz.prog 123=some (true,2):=by kernel_rfl
theorem aaq:dE Tryz.prog 123=some [.slice none 0 0,.int .i64 0]:=by kernel_rfl
theorem ayX:ig Tryz.prog 123=some 32:=by kernel_rfl
theorem akR:bD Tryz.prog 123 0=some 0:=by kernel_rfl
theorem akS:bD Tryz.prog 123 1=some 1:=by kernel_rfl
theorem at1:bD Tryz.prog 75 1=some 3:=by kernel_rfl
theorem at2:bD Tryz.prog 75 3=some 5:=by kernel_rfl
theorem at3:bD Tryz.prog 72 2=some 2:=by kernel_rfl
theorem at4:bD Tryz.prog 72 1=some 1:=by kernel_rfl
theorem nf:eC Tryz.prog 90=some (true,3):=by kernel_rfl
theorem dY:dE Tryz.prog 90=some [.string ⟨#[]⟩,.string ⟨#[]⟩,.bool false]:=by kernel_rfl
theorem kU:fC Tryz.prog 90=some [(0,1),(1,1),(2,1)]:=by kernel_rfl
theorem axb:fC Tryz.prog 92=some [(0,10),(10,3),(13,1)]:=by kernel_rfl
theorem Gz:bD Tryz.prog 57 1=some 1:=by kernel_rfl
theorem at5:bD Tryz.prog 92 1=some 10:=by kernel_rfl
theorem akT:cB Tryz.prog 136=some 54:=by kernel_rfl
theorem at6:bD Tryz.prog 57 6=some 6:=by kernel_rfl
theorem at7:bD Tryz.prog 57 5=some 5:=by kernel_rfl
theorem PS:bD Tryz.prog 90 2=some 2:=by kernel_rfl
theorem bo4:Tryz.prog.underlying 4=some .bool:=by kernel_rfl
theorem PT:bD Tryz.prog 90 1=some 1:=by kernel_rfl
theorem akU:bD Tryz.prog 139 0=some 0:=by kernel_rfl
theorem adV:bD Tryz.prog 90 0=some 0:=by kernel_rfl
theorem aHN:tJ Tryz.prog 90=some [.string,.string,.bool]:=by kernel_rfl
theorem Um:xP Tryz.prog 97=true:=by kernel_rfl
theorem akV:bD Tryz.prog 145 1=some 1:=by kernel_rfl
theorem ayY:eC Tryz.prog 142=some (false,1):=by kernel_rfl
theorem D0:cB Tryz.prog 142=some 4:=by kernel_rfl
theorem by4:ig Tryz.prog 4=some 1:=by kernel_rfl
theorem ij:fC Tryz.prog 57=some [(0,1),(1,1),(2,1),(3,1),(4,1),(5,1),(6,1),(7,1),(8,1),(9,1)]:=by kernel_rfl
theorem at8:bD Tryz.prog 48 0=some 0:=by kernel_rfl
theorem akW:bD Tryz.prog 139 1=some 1:=by kernel_rfl
theorem aua:bD Tryz.prog 96 2=some 2:=by kernel_rfl
theorem aub:bD Tryz.prog 96 3=some 3:=by kernel_rfl
theorem auc:bD Tryz.prog 96 5=some 5:=by kernel_rfl
theorem aHO:dE Tryz.prog 99=some [.int .i64 0,.int .i64 0,.int .i64 0,.int .i64 0,.int .i64 0,.pointer none]:=by kernel_rfl
theorem aHP:fC Tryz.prog 99=some [(0,5),(5,1)]:=by kernel_rfl
theorem akX:bD Tryz.prog 111 4=some 4:=by kernel_rfl
theorem ayZ:dE Tryz.prog 119=some [.slice none 0 0]:=by kernel_rfl
theorem ay0:fC Tryz.prog 119=some [(0,1)]:=by kernel_rfl
theorem aud:bD Tryz.prog 99 0=some 0:=by kernel_rfl
theorem TF:Tryz.prog.underlying 3=some (.int .i64):=by kernel_rfl
theorem xE:Tryz.prog.underlying 162=some (.int .u64):=by kernel_rfl
theorem aue:bD Tryz.prog 96 1=some 1:=by kernel_rfl
theorem auf:bD Tryz.prog 96 4=some 4:=by kernel_rfl
theorem akY:bD Tryz.prog 145 0=some 0:=by kernel_rfl
theorem aGU:tJ Tryz.prog 96=some [.int .i64,.int .i64,.string,.string,.bool,.string]:=by kernel_rfl
theorem ayP:tJ Tryz.prog 139=some [.string,.string]:=by kernel_rfl
theorem akZ:dE Tryz.prog 145=some [.slice none 0 0,.slice none 0 0,.slice none 0 0]:=by kernel_rfl
theorem ak0:fC Tryz.prog 145=some [(0,1),(1,1),(2,1)]:=by kernel_rfl
theorem ak1:bD Tryz.prog 145 2=some 2:=by kernel_rfl
theorem ay1:eC Tryz.prog 143=some (false,1):=by kernel_rfl
theorem l8:cB Tryz.prog 143=some 3:=by kernel_rfl
theorem aar:zz Tryz.prog 192=true:=by kernel_rfl
theorem pi3:zz Tryz.prog 3=true:=by kernel_rfl
theorem aug:bD Tryz.prog 83 0=some 0:=by kernel_rfl
theorem Tm:fC Tryz.prog 96=some [(0,1),(1,1),(2,1),(3,1),(4,1),(5,1)]:=by kernel_rfl
theorem auh:bD Tryz.prog 83 1=some 1:=by kernel_rfl
theorem ay2:eC Tryz.prog 224=some (true,2):=by kernel_rfl
theorem oq:dE Tryz.prog 224=some [.int .i64 0,.string ⟨#[]⟩]:=by kernel_rfl
theorem aks:fC Tryz.prog 139=some [(0,1),(1,1)]:=by kernel_rfl
theorem qK:fC Tryz.prog 224=some [(0,1),(1,1)]:=by kernel_rfl
theorem ak2:bD Tryz.prog 224 0=some 0:=by kernel_rfl
theorem ak3:bD Tryz.prog 224 1=some 1:=by kernel_rfl
theorem axc:iA Tryz.prog 60:=qh Tryz.func60 rfl (by decide)
theorem aHQ:iA Tryz.prog 65:=qh Tryz.func65 rfl (by decide)
theorem ay3:iA Tryz.prog 107:=qh Tryz.func107 rfl (by decide)
theorem mix:Tryz.prog.follows .mixedOrders=true:=by kernel_rfl
end Go.Proofs.YtfhnamngaofccaaGreat
theorem List.Sublist.k9{α:Type}{a:α}{l l':List α}(h:l.Sublist l'):(a::l).Sublist (a::l'):=h.cons_cons a
namespace Go.Fw
open Go Go.RowKit
variable {α:Type}
theorem eu{l:List α} :List.Sublist [] l:=List.nil_sublist l
theorem bi{l:List α} :List.Sublist l l:=List.Sublist.refl l
theorem ai{l:List α} :List.Perm l l:=List.Perm.refl l
abbrev qn {a b:Int} {c:Option Addr} {d e:Nat} {f:Option Addr} {g h:Nat} {i:ByteArray} {j:Bool} {k l:Int} {m:Option Addr} {n o:Nat} {p:Option Addr} {q r:Nat} :List Value:=[.int .i64 a,.int .i64 b,.slice c d e,.slice f g h,.string i,.bool j,.int .i64 k,.int .i64 l,.slice m n o,.slice p q r]
abbrev cj (x:Nd) (a1:Option Addr) (c1:Nat) (a2:Option Addr) (c2:Nat) (a3:Option Addr) (c3:Nat) (a4:Option Addr) (c4:Nat):List Value:=[.int .i64 x.slot,.int .i64 x.level,.slice a1 x.ab.length c1,.slice a2 x.kids.length c2,.string x.high.b,.bool x.cW,.int .i64 x.right,.int .i64 x.seen,.slice a3 x.af.length c3,.slice a4 x.rows.length c4]
abbrev ms9 {a b:Int} {c d:ByteArray} {e:Bool} {f:ByteArray} :List Value:=[.int .i64 a,.int .i64 b,.string c,.string d,.bool e,.string f]
abbrev ql {a b:ByteArray} {c:Bool} :List Value:=[.string a,.string b,.bool c]
abbrev cf9 {a b c d e:Int} :List Value:=[.int .i64 a,.int .i64 b,.int .i64 c,.int .i64 d,.int .i64 e]
abbrev jk {a:Int} :List Value:=[.int .i64 a]
abbrev sc9 {a:ByteArray} :List Value:=[.string a]
abbrev bc9 {a:Bool} :List Value:=[.bool a]
abbrev lc9 {a:Option Addr} {b c:Nat} :List Value:=[.slice a b c]
abbrev ef9 {a:Int} {b:ByteArray} :List Value:=[.int .i64 a,.string b]
abbrev ako {a b:ByteArray} :List Value:=[.string a,.string b]
variable {E:Env} {G:GH} {L:List Value} {M:MH} {T:TypeId} {aft:Array Edge} {b:Nat} {bb:Bool} {d:Nat} {f:Fr} {j:Nat} {o:Nat} {pos:String} {t:TypeId} {ty:TypeId} {x:Operand}
theorem ow(i:Nat)(vs:List Value)(ht:eC E.P t=some (bb,j))
    (hq:(ev f x,qA M i,(L.drop o).take j,vs.length)=(.pointer (some ⟨b,o,none⟩),some (b,.cells L.toArray T (0,0)),vs,j))(hb:bb=false→j=1:=by simp):Ok E f G M ⟨some d,.load t x,ty,pos,aft,none⟩ (AN bb vs):=by
  obtain⟨h1,h⟩:=Prod.mk.inj hq
  obtain⟨h2,h⟩:=Prod.mk.inj h
  obtain⟨h3,h4⟩:=Prod.mk.inj h
  exact zm ht h1 h2 h3 h4 hb
variable {K:Kt} {ops:List Oper} {q:Bool}
theorem W.fb{rest:List Oper}{off:Nat}(ht:bD E.P t j=some off)(hx:ev f x=.pointer (some ⟨b,o,none⟩))
    (k:W E ops.toArray q rest (gw f d (.pointer (some ⟨b,o+off,none⟩))) G M K)(hd:Nat.blt d E.n=true:=by rfl):W E ops.toArray q (⟨some d,.fieldAddr t x j,ty,pos,aft,none⟩::rest) f G M K:=W.ok (Hc ht hx) k hd
theorem W.st{rest:List Oper}{y:Operand}(i:Nat)(vs L':List Value){v:Value}(ht:eC E.P t=some (bb,j))
    (hq:(ev f x,qA M i,ev f y,v.cells.toList,vs.length,vs.all Value.oneCell',Nat.ble (o+j) L.length,setAt L o vs)=(.pointer (some ⟨b,o,none⟩),some (b,.cells L.toArray T (0,0)),v,vs,j,true,true,L'))
    (k:W E ops.toArray false rest f G (mn M i (.cells L'.toArray T (0,0))) K):W E ops.toArray false (⟨none,.store t x y,ty,pos,aft,none⟩::rest) f G M K:=by
  obtain⟨h1,h⟩:=Prod.mk.inj hq
  obtain⟨h2,h⟩:=Prod.mk.inj h
  obtain⟨h3,h⟩:=Prod.mk.inj h
  obtain⟨h4,h⟩:=Prod.mk.inj h
  obtain⟨h5,h⟩:=Prod.mk.inj h
  obtain⟨h6,h⟩:=Prod.mk.inj h
  obtain⟨h7,h8⟩:=Prod.mk.inj h
  exact W.store ht h1 h2 h3 h4 h5 h6 h7 h8 k
variable {b:Bool} {dj:Nat} {op:Op} {want:Bool}
theorem W.y9{rest:List Oper}{dst:Option Nat}(hn:b=want)(hq:((ops.toArray[j]?).bind (·.dst),f dj)=(some dj,.bool b))
    (k:W E ops.toArray q (⟨dst,op,ty,pos,aft,none⟩::rest) f G M K)(AP:Nat.blt dj E.n=true:=by rfl):W E ops.toArray q (⟨dst,op,ty,pos,aft,some (j,want)⟩::rest) f G M K:=W.yes (Prod.mk.inj hq).1 (Prod.mk.inj hq).2 hn k AP
theorem W.n8{rest:List Oper}(hn:b= !want)(hq:((ops.toArray[j]?).bind (·.dst),f dj)=(some dj,.bool b))
    (k:W E ops.toArray q rest (gw f d undef) G M K)(hd:Nat.blt d E.n=true:=by rfl):W E ops.toArray q (⟨some d,op,ty,pos,aft,some (j,want)⟩::rest) f G M K:=W.no (Prod.mk.inj hq).1 (Prod.mk.inj hq).2 hn k hd
variable {Q:Exit→Kt}
theorem W.nt(h:K f G M):W E ops.toArray q [] f G M (wS K Q .normal):=W.nil (nU h)
variable {id:Nat} {l:List Oper} {y:Code}
theorem WC.sr(h:W E l.toArray false l f G M (wS (WC E y Q) Q .normal)):WC E (.seq (.region id l.toArray false) y) Q f G M:=WC.seq (WC.region h)
theorem W.ns{Q':Exit→Kt}(h:W E l.toArray false l f G M (wS (WC E y Q) Q .normal)):W E ops.toArray q [] f G M (wS (WC E (.seq (.region id l.toArray false) y) Q) Q' .normal):=W.nt (WC.sr h)
theorem W.an(k:K (gw f d (ev f x)) G M)(hd:Nat.blt d E.n=true:=by rfl):W E ops.toArray q [⟨some d,.assign x,ty,pos,aft,none⟩] f G M (wS K Q .normal):=W.as (W.nt k) hd
theorem WC.sk(h:K f G M):WC E .skip (wS K Q) f G M:=WC.skip (nU h)
theorem WC.rt(h:Q .ret f G M):WC E .ret (wS K Q) f G M:=WC.ret (ajJ h)
theorem WD.dn{Mk:MH}{ops:Array Oper}{cR:Nat}{bF:Array Bool}(h:K f G M)(hr:Region.ready .any ops bF=[]:=by kernel_rfl):WD E ops cR bF f G M Mk (wS K Q .normal):=WD.done hr (nU h)
variable {p:Prop}
theorem va [Decidable p](h:decide p=true):p:=of_decide_eq_true h
theorem sU [Decidable p](h:decide p=false):¬p:=of_decide_eq_false h
variable {a3:Option Addr} {a4:Option Addr}
theorem cc{n:Nd}{a1 a2:Option Addr}{c1 c2 c3 c4:Nat}(h1:ax dg G (.slice a1 n.ab.length c1) n.ab)(h2:ax bY G (.slice a2 n.kids.length c2) n.kids)(h3:ax bQ G (.slice a3 n.af.length c3) n.af)(h4:ax bA G (.slice a4 n.rows.length c4) n.rows)(h:n.Ok):
    ba G [.int .i64 n.slot,.int .i64 n.level,.slice a1 n.ab.length c1,.slice a2 n.kids.length c2,.string n.high.b,.bool n.cW,.int .i64 n.right,.int .i64 n.seen,.slice a3 n.af.length c3,.slice a4 n.rows.length c4] n:=⟨_,_,_,_,_,_,_,_,rfl,h1,h2,h3,h4,h⟩
theorem fy{G':GH}{n:Nd}{a1 a2:Option Addr}{c1 c2 c3 c4:Nat}(hl:Le G G')(h1:ax dg G (.slice a1 n.ab.length c1) n.ab)(h2:ax bY G (.slice a2 n.kids.length c2) n.kids)(h3:ax bQ G (.slice a3 n.af.length c3) n.af)(h4:ax bA G (.slice a4 n.rows.length c4) n.rows)(h:n.Ok):
    ba G' [.int .i64 n.slot,.int .i64 n.level,.slice a1 n.ab.length c1,.slice a2 n.kids.length c2,.string n.high.b,.bool n.cW,.int .i64 n.right,.int .i64 n.seen,.slice a3 n.af.length c3,.slice a4 n.rows.length c4] n:=(cc h1 h2 h3 h4 h).mono hl
end Go.Fw
namespace Go.Proofs.YtfhnamngaofccaaGreat
open Go Go.Fw
instance : jC Tryz.prog 23 true 5 := ⟨akM⟩
instance : BQ Tryz.prog 24 57 := ⟨eY⟩
instance : jC Tryz.prog 57 true 10 := ⟨cU⟩
instance : StK Tryz.prog 9 := ⟨Ag⟩
instance : eN Tryz.prog 48 1 5 := ⟨att⟩
instance : jC Tryz.prog 24 false 1 := ⟨aHt⟩
instance : BQ Tryz.prog 49 83 := ⟨Ui⟩
instance : jC Tryz.prog 83 true 3 := ⟨Uj⟩
instance : eN Tryz.prog 57 4 4 := ⟨atu⟩
instance : jC Tryz.prog 9 false 1 := ⟨ft⟩
instance : eN Tryz.prog 57 0 0 := ⟨atv⟩
instance : jC Tryz.prog 3 false 1 := ⟨ci⟩
instance : eN Tryz.prog 57 7 7 := ⟨atw⟩
instance : eN Tryz.prog 70 3 3 := ⟨atx⟩
instance : eN Tryz.prog 70 2 2 := ⟨aty⟩
instance : jC Tryz.prog 68 false 1 := ⟨aHx⟩
instance : eN Tryz.prog 78 0 0 := ⟨atz⟩
instance : jC Tryz.prog 27 false 1 := ⟨aHA⟩
instance : eN Tryz.prog 70 1 1 := ⟨atA⟩
instance : jC Tryz.prog 67 false 1 := ⟨aHB⟩
instance : eN Tryz.prog 78 1 1 := ⟨atB⟩
instance : eN Tryz.prog 78 2 2 := ⟨atC⟩
instance : jC Tryz.prog 76 false 1 := ⟨aHC⟩
instance : eN Tryz.prog 78 3 3 := ⟨atD⟩
instance : eN Tryz.prog 75 4 6 := ⟨atE⟩
instance : jC Tryz.prog 73 false 1 := ⟨L8⟩
instance : eN Tryz.prog 75 8 10 := ⟨atF⟩
instance : jC Tryz.prog 4 false 1 := ⟨H3⟩
instance : BQ Tryz.prog 84 92 := ⟨H4⟩
instance : jC Tryz.prog 92 true 14 := ⟨FC⟩
instance : eN Tryz.prog 23 3 3 := ⟨atG⟩
instance : eN Tryz.prog 92 0 0 := ⟨atH⟩
instance : eN Tryz.prog 92 2 13 := ⟨atI⟩
instance : jC Tryz.prog 54 false 1 := ⟨aw8⟩
instance : BQ Tryz.prog 54 96 := ⟨cO⟩
instance : jC Tryz.prog 96 true 6 := ⟨cX⟩
instance : eN Tryz.prog 96 0 0 := ⟨atJ⟩
instance : eN Tryz.prog 70 0 0 := ⟨atK⟩
instance : jC Tryz.prog 39 false 1 := ⟨aHF⟩
instance : eN Tryz.prog 99 1 5 := ⟨atM⟩
instance : jC Tryz.prog 97 false 1 := ⟨aHG⟩
instance : BQ Tryz.prog 53 3 := ⟨cq⟩
instance : eN Tryz.prog 75 5 7 := ⟨atN⟩
instance : eN Tryz.prog 75 7 9 := ⟨atO⟩
instance : jC Tryz.prog 28 false 1 := ⟨aHH⟩
instance : eN Tryz.prog 70 4 4 := ⟨atP⟩
instance : eN Tryz.prog 75 6 8 := ⟨atQ⟩
instance : eN Tryz.prog 23 0 0 := ⟨PQ⟩
instance : eN Tryz.prog 23 1 1 := ⟨adT⟩
instance : eN Tryz.prog 23 2 2 := ⟨atT⟩
instance : eN Tryz.prog 23 4 4 := ⟨atU⟩
instance : eN Tryz.prog 57 9 9 := ⟨adU⟩
instance : jC Tryz.prog 55 false 1 := ⟨aw9⟩
instance : BQ Tryz.prog 55 139 := ⟨cv⟩
instance : jC Tryz.prog 139 true 2 := ⟨bX⟩
instance : eN Tryz.prog 57 2 2 := ⟨atV⟩
instance : jC Tryz.prog 52 false 1 := ⟨aHI⟩
instance : BQ Tryz.prog 52 9 := ⟨dt⟩
instance : eN Tryz.prog 57 3 3 := ⟨PR⟩
instance : jC Tryz.prog 53 false 1 := ⟨qS⟩
instance : eN Tryz.prog 57 8 8 := ⟨atW⟩
instance : eN Tryz.prog 111 2 2 := ⟨akO⟩
instance : jC Tryz.prog 33 false 1 := ⟨aHJ⟩
instance : eN Tryz.prog 111 0 0 := ⟨akP⟩
instance : eN Tryz.prog 75 2 4 := ⟨atY⟩
instance : jC Tryz.prog 35 false 1 := ⟨aHM⟩
instance : eN Tryz.prog 75 0 0 := ⟨atZ⟩
instance : eN Tryz.prog 72 0 0 := ⟨at0⟩
instance : eN Tryz.prog 119 0 0 := ⟨akQ⟩
instance : jC Tryz.prog 117 false 1 := ⟨ayW⟩
instance : BQ Tryz.prog 117 123 := ⟨xQ⟩
instance : jC Tryz.prog 123 true 2 := ⟨sS⟩
instance : eN Tryz.prog 123 0 0 := ⟨akR⟩
instance : eN Tryz.prog 123 1 1 := ⟨akS⟩
instance : eN Tryz.prog 75 1 3 := ⟨at1⟩
instance : eN Tryz.prog 75 3 5 := ⟨at2⟩
instance : eN Tryz.prog 72 2 2 := ⟨at3⟩
instance : eN Tryz.prog 72 1 1 := ⟨at4⟩
instance : jC Tryz.prog 90 true 3 := ⟨nf⟩
instance : eN Tryz.prog 57 1 1 := ⟨Gz⟩
instance : eN Tryz.prog 92 1 10 := ⟨at5⟩
instance : BQ Tryz.prog 136 54 := ⟨akT⟩
instance : eN Tryz.prog 57 6 6 := ⟨at6⟩
instance : eN Tryz.prog 57 5 5 := ⟨at7⟩
instance : eN Tryz.prog 90 2 2 := ⟨PS⟩
instance : BoK Tryz.prog 4 := ⟨bo4⟩
instance : eN Tryz.prog 90 1 1 := ⟨PT⟩
instance : eN Tryz.prog 139 0 0 := ⟨akU⟩
instance : eN Tryz.prog 90 0 0 := ⟨adV⟩
instance : eN Tryz.prog 145 1 1 := ⟨akV⟩
instance : jC Tryz.prog 142 false 1 := ⟨ayY⟩
instance : BQ Tryz.prog 142 4 := ⟨D0⟩
instance : eN Tryz.prog 48 0 0 := ⟨at8⟩
instance : eN Tryz.prog 139 1 1 := ⟨akW⟩
instance : eN Tryz.prog 96 2 2 := ⟨aua⟩
instance : eN Tryz.prog 96 3 3 := ⟨aub⟩
instance : eN Tryz.prog 96 5 5 := ⟨auc⟩
instance : eN Tryz.prog 111 4 4 := ⟨akX⟩
instance : eN Tryz.prog 99 0 0 := ⟨aud⟩
instance : eN Tryz.prog 96 1 1 := ⟨aue⟩
instance : eN Tryz.prog 96 4 4 := ⟨auf⟩
instance : eN Tryz.prog 145 0 0 := ⟨akY⟩
instance : eN Tryz.prog 145 2 2 := ⟨ak1⟩
instance : jC Tryz.prog 143 false 1 := ⟨ay1⟩
instance : BQ Tryz.prog 143 3 := ⟨l8⟩
instance : eN Tryz.prog 83 0 0 := ⟨aug⟩
instance : eN Tryz.prog 83 1 1 := ⟨auh⟩
instance : jC Tryz.prog 224 true 2 := ⟨ay2⟩
instance : eN Tryz.prog 224 0 0 := ⟨ak2⟩
instance : eN Tryz.prog 224 1 1 := ⟨ak3⟩
instance : ajO Tryz.prog := ⟨mix⟩
end Go.Proofs.YtfhnamngaofccaaGreat
namespace Go.Proofs.YtfhnamngaofccaaGreat
open Go Go.Fw Go.RowKit
attribute [local irreducible] Ok W WC
variable {G:GH}
theorem hX(a:ah)(b:ah):
    Fc Tryz.prog 111 [sV a.b,sV b.b] G [] (fun v _ _=>v=.bool (ah.lt a b)):=by
 have ha:=a.le
 have hb:=b.le
 refine Fc.go [.tmp 4] Tryz.func111 Tryz.ntmps111 rfl (fun w0=>(g9 12 ?_))
 refine WC.loop (X:=Nat) (fun k=>[(5,aT k),(0,sV a.b),(1,sV b.b)]) (fun k _ Ml=>Ml=[]∧k≤a.b.size∧k≤b.b.size∧∀i,i<k→a.b[i]?=b.b[i]?) (fun k=>a.b.size-k) 0 aZ ?_ ?_
 ·exact⟨rfl,aa,aa,fun i hi=>by omega⟩
 rintro k DQ G1 _ fL ⟨rfl,wX,j6,sN⟩
 refine g9 8 ?_
 refine W.sd 10 (fun h9 p9=> ?_) (fun h9 p9=> ?_)
 ·refine g9 11 ?_
  refine WC.cd (fun gl gm=> ?_) (fun gl gm=> ?_)
  ·refine g9 8 ?_
   refine W.ok (ot (i:=k) Ag rfl rfl ⟨aa,aa⟩) (g9 2 ?_)
   refine W.ok (ot (i:=k) Ag rfl rfl ⟨aa,aa⟩) (g9 3 ?_)
   refine WC.cn (fun rM xD=> ?_) (fun rM xD=> ?_)
   ·refine g9 4 ?_
    refine W.ok (ot (i:=k) Ag rfl rfl ⟨aa,aa⟩) (g9 2 ?_)
    refine W.ok (ot (i:=k) Ag rfl rfl ⟨aa,aa⟩) (g9 11 ?_)
    exact congrArg Value.bool (Pr sN _ _ aa)
   refine g9 9 ?_
   exact⟨Le.rfl,k+1,aZ,⟨rfl,aa,aa,HU sN aa aa xD⟩,aa⟩
  refine g9 17 ?_
  exact congrArg Value.bool (ta sN aa aa aa)
 refine g9 25 ?_
 exact congrArg Value.bool (ta sN aa aa aa)

theorem zq(iK:ah)(iL:ah)(so:Bool)(k:ah):
    Fc Tryz.prog 76 [.agg #[sV iK.b,sV iL.b,.bool so],sV k.b] G [] (fun v _ _=>v=.bool (Span.has ⟨iK,iL,so⟩ k)):=by
 refine Fc.go [.tmp 4] Tryz.func76 Tryz.ntmps76 rfl (fun w0=>(g9 2 ?_))
 refine W.box (L:=[sV _,sV _,.bool _]) rfl rfl (fun b2=>(g9 8 ?_))
 refine W.ay (hX _ _) rfl (g9 2 ?_)
 refine W.sp 10 rfl (fun h9=> ?_) (fun h9=> ?_)
 ·refine g9 6 ?_
  refine W.sp 13 rfl (fun vn=> ?_) (fun vn=> ?_)
  ·refine g9 12 ?_
   refine congrArg Value.bool ?_
   simp_all [Span.has]
  refine g9 7 ?_
  refine W.ay (hX _ _) rfl (g9 8 ?_)
  refine congrArg Value.bool ?_
  simp_all [Span.has]
 refine g9 14 ?_
 refine congrArg Value.bool ?_
 simp_all [Span.has]

theorem qx(iK:ah)(iL:ah)(so:Bool):
    Fc Tryz.prog 117 [.agg #[sV iK.b,sV iL.b,.bool so]] G [] (fun v _ _=>v=.bool (Span.empty ⟨iK,iL,so⟩)):=by
 refine Fc.go [.tmp 2] Tryz.func117 Tryz.ntmps117 rfl (fun w0=>(g9 2 ?_))
 refine W.box (L:=[sV _,sV _,.bool _]) rfl rfl (fun b3=>(g9 8 ?_))
 refine W.ay (zq _ _ _ _) rfl (g9 6 ?_)
 refine congrArg Value.bool ?_
 exact Span.empty_eq ⟨iK,iL,so⟩

theorem jg(iK:ah)(iL:ah)(so:Bool):
    Fc Tryz.prog 78 [.agg #[sV iK.b,sV iL.b,.bool so]] G [] (fun v _ _=>v=.agg (List.toArray ((Span.norm ⟨iK,iL,so⟩:Span).cells))):=by
 refine Fc.go [.cell 2 90] Tryz.func78 Tryz.ntmps78 rfl (fun w0=>(g9 2 ?_))
 refine W.box (L:=[sV _,sV _,.bool _]) rfl rfl (fun b4=>(W.alloc dY (fun b5=>(g9 6 ?_))))
 refine W.ay (qx _ _ _) rfl (g9 2 ?_)
 refine WC.cond rfl (fun h4=> ?_) (fun h4=> ?_)
 ·refine g9 2 ?_
  refine W.ok (aM (L:=[sV _,sV _,.bool _]) kU dY rfl rfl rfl) (g9 6 ?_)
  refine congrArg (fun l=>Value.agg (List.toArray l)) ?_
  show [Value.string _,Value.string _,Value.bool _]=_
  simp_all [Span.norm,Span.cells,Span.zero,ah.nil,setAt]
 refine g9 9 ?_
 refine WC.cond rfl (fun vn=> ?_) (fun vn=> ?_)
 ·refine g9 13 ?_
  refine congrArg (fun l=>Value.agg (List.toArray l)) ?_
  show [Value.string _,Value.string _,Value.bool _]=_
  simp_all [Span.norm,Span.cells,Span.zero,ah.nil,setAt]
 refine g9 10 ?_
 refine congrArg (fun l=>Value.agg (List.toArray l)) ?_
 show [Value.string _,Value.string _,Value.bool _]=_
 simp_all [Span.norm,Span.cells,Span.zero,ah.nil,setAt]

theorem Un  :
    Fc Tryz.prog 188 [] G [] (fun v _ _=>v=.agg (List.toArray ((Span.all:Span).cells))):=by
 refine Fc.go [.cell 0 90] Tryz.func188 Tryz.ntmps188 rfl (fun w0=>(g9 2 ?_))
 refine W.alloc dY (fun b6=>(g9 4 ?_))
 refine W.ok (aM (L:=[sV _,sV _,.bool _]) kU dY rfl rfl rfl) (g9 5 ?_)
 rfl

theorem Ao(iK:ah)(iL:ah)(so:Bool):
    Fc Tryz.prog 201 [.agg #[sV iK.b,sV iL.b,.bool so]] G [] (fun v _ _=>v=.bool (Span.empty ⟨iK,iL,so⟩)):=by
 refine Fc.go [.tmp 2] Tryz.func201 Tryz.ntmps201 rfl (fun w0=>(g9 2 ?_))
 refine W.box (L:=[sV _,sV _,.bool _]) rfl rfl (fun b7=>(g9 9 ?_))
 refine W.sp 6 rfl (fun h5=> ?_) (fun h5=> ?_)
 ·refine g9 9 ?_
  refine W.ok (Ch rfl rfl) (g9 6 ?_)
  refine congrArg Value.bool ?_
  simp_all [Span.empty,ah.lt]
 refine g9 11 ?_
 refine congrArg Value.bool ?_
 simp_all [Span.empty,ah.lt]

theorem jE(iK:ah)(iL:ah)(so:Bool):
    Fc Tryz.prog 189 [.agg #[sV iK.b,sV iL.b,.bool so]] G [] (fun v _ _=>v=.agg (List.toArray ((Span.norm ⟨iK,iL,so⟩:Span).cells))):=by
 refine Fc.go [.cell 2 90] Tryz.func189 Tryz.ntmps189 rfl (fun w0=>(g9 2 ?_))
 refine W.box (L:=[sV _,sV _,.bool _]) rfl rfl (fun b8=>(W.alloc dY (fun b9=>(g9 7 ?_))))
 refine W.ay (Ao _ _ _) rfl (g9 3 ?_)
 refine WC.cond rfl (fun h5=> ?_) (fun h5=> ?_)
 ·refine g9 2 ?_
  refine W.ok (aM (L:=[sV _,sV _,.bool _]) kU dY rfl rfl rfl) (g9 7 ?_)
  refine congrArg (fun l=>Value.agg (List.toArray l)) ?_
  show [Value.string _,Value.string _,Value.bool _]=_
  simp_all [Span.norm,Span.cells,Span.zero,ah.nil,setAt]
 refine g9 7 ?_
 refine WC.cond rfl (fun vn=> ?_) (fun vn=> ?_)
 ·refine g9 14 ?_
  refine congrArg (fun l=>Value.agg (List.toArray l)) ?_
  show [Value.string _,Value.string _,Value.bool _]=_
  simp_all [Span.norm,Span.cells,Span.zero,ah.nil,setAt]
 refine g9 11 ?_
 refine congrArg (fun l=>Value.agg (List.toArray l)) ?_
 show [Value.string _,Value.string _,Value.bool _]=_
 simp_all [Span.norm,Span.cells,Span.zero,ah.nil,setAt]

theorem xz(iK:ah)(iL:ah)(so:Bool)(k:ah):
    Fc Tryz.prog 194 [.agg #[sV iK.b,sV iL.b,.bool so],sV k.b] G [] (fun v _ _=>v=.bool (Span.has ⟨iK,iL,so⟩ k)):=by
 refine Fc.go [.tmp 4] Tryz.func194 Tryz.ntmps194 rfl (fun w0=>(g9 2 ?_))
 refine W.box (L:=[sV _,sV _,.bool _]) rfl rfl (fun b10=>(g9 8 ?_))
 refine W.ok (Ch rfl rfl) (W.mv ?_)
 refine W.sp 9 rfl (fun h8=> ?_) (fun h8=> ?_)
 ·refine g9 6 ?_
  refine W.sp 12 rfl (fun vn=> ?_) (fun vn=> ?_)
  ·refine g9 12 ?_
   refine congrArg Value.bool ?_
   simp_all [Span.has,ah.lt]
  refine g9 16 ?_
  refine congrArg Value.bool ?_
  simp_all [Span.has,ah.lt]
 refine g9 14 ?_
 refine congrArg Value.bool ?_
 simp_all [Span.has,ah.lt]

variable {l:List ah} {bN:Value}
theorem aas(az:ax dg G bN l):
    Fc Tryz.prog 110 [bN] G [] (fun v _ _=>v=.bool (rising l)):=by
 obtain⟨aW,aX,rfl⟩:=az.form
 have hl:=az.aH
 refine Fc.go [.tmp 2] Tryz.func110 Tryz.ntmps110 rfl (fun w0=>(g9 12 ?_))
 refine WC.loop (X:=Nat) (fun k=>[(3,aT (k+1)),(0,lV aW l.length aX)]) (fun k _ Ml=>Ml=[]∧∀i (h:i+1<l.length),i<k→l[i].lt l[i+1]=true) (fun k=>l.length-k) 0 aZ ?_ ?_
 ·exact⟨rfl,fun i _ h=>by omega⟩
 rintro k awY G11 _ xI ⟨rfl,hk⟩
 refine g9 9 ?_
 refine WC.cd (fun h7 p7=> ?_) (fun h7 p7=> ?_)
 ·refine g9 9 ?_
  refine(az.mono xI).a1 (i:=k) aa (fun adK=>(W.ok (aY (i:=k) dt ft (az.mono xI) rfl rfl ⟨aa,aa⟩) (g9 3 ?_)))
  refine(az.mono xI).a1 (i:=k+1) aa (fun TR=>(W.ok (aY (i:=k+1) dt ft (az.mono xI) rfl rfl ⟨aa,aa⟩) (g9 1 ?_)))
  refine W.ay (hX _ _) rfl (g9 3 ?_)
  refine WC.cond rfl (fun gD=> ?_) (fun gD=> ?_)
  ·refine g9 12 ?_
   refine congrArg Value.bool ?_
   exact(FE (i:=k) aa (by simpa using gD)).symm
  refine g9 9 ?_
  exact⟨Le.rfl,k+1,aZ,⟨rfl,fun i h hi=>by
      by_cases e:i=k
      ·subst e;simpa using gD
      ·exact hk i h aa⟩,aa⟩
 refine g9 12 ?_
 refine congrArg Value.bool ?_
 exact(fO.2 (fun i h=>hk i h aa)).symm

variable {p:List ah} {ox:Value} {Lm:Value}
theorem aat(js:ax dg G Lm p){c:List Int}(gh:ax bY G ox c):
    Fc Tryz.prog 178 [Lm,ox] G [] (fun v _ _=>v=.bool (ee p c.length)):=by
 obtain⟨adW,adX,rfl⟩:=js.form
 obtain⟨fZ,gd,rfl⟩:=gh.form
 have hc:=gh.aH
 have hp:=js.aH
 refine Fc.go [.tmp 4] Tryz.func178 Tryz.ntmps178 rfl (fun w0=>(g9 12 ?_))
 refine WC.loop (X:=Nat) (fun k=>[(5,aT (k+1)),(0,lV adW p.length adX),(1,lV fZ c.length gd)]) (fun k _ Ml=>Ml=[]∧∀i (h:i+1<p.length),i<k→p[i].lt p[i+1]=true) (fun k=>p.length-k) 0 aZ ?_ ?_
 ·exact⟨rfl,fun i _ h=>by omega⟩
 rintro k aHf G18 _ qN ⟨rfl,hk⟩
 refine g9 9 ?_
 refine WC.cd (fun h9 p9=> ?_) (fun h9 p9=> ?_)
 ·refine g9 9 ?_
  refine(js.mono qN).a1 (i:=k) aa (fun Ft=>(W.ok (aY (i:=k) dt ft (js.mono qN) rfl rfl ⟨aa,aa⟩) (g9 3 ?_)))
  refine(js.mono qN).a1 (i:=k+1) aa (fun H6=>(W.ok (aY (i:=k+1) dt ft (js.mono qN) rfl rfl ⟨aa,aa⟩) (g9 1 ?_)))
  refine W.ok (Ch rfl rfl) (g9 2 ?_)
  refine WC.cond rfl (fun mS=> ?_) (fun mS=> ?_)
  ·refine g9 12 ?_
   refine congrArg Value.bool ?_
   simp [ee,FE (l:=p) (i:=k) aa (by simpa [ah.lt]using mS)]
  refine g9 9 ?_
  exact⟨Le.rfl,k+1,aZ,⟨rfl,fun i h hi=>by
      by_cases e:i=k
      ·subst e;simpa [ah.lt]using mS
      ·exact hk i h aa⟩,aa⟩
 refine g9 11 ?_
 refine W.sd 25 (fun rM xD=> ?_) (fun rM xD=> ?_)
 ·refine g9 18 ?_
  refine congrArg Value.bool ?_
  simp only [ee,fO.2 (fun i h=>hk i h aa),Bool.true_and]
  first|(rw [decide_eq_decide];omega)|(symm;rw [decide_eq_false_iff_not];omega)
 refine g9 12 ?_
 refine congrArg Value.bool ?_
 simp only [ee,fO.2 (fun i h=>hk i h aa),Bool.true_and]
 first|(rw [decide_eq_decide];omega)|(symm;rw [decide_eq_false_iff_not];omega)

theorem vo(js:ax dg G Lm p){c:List Int}(gh:ax bY G ox c):
    Fc Tryz.prog 69 [Lm,ox] G [] (fun v _ _=>v=.bool (ee p c.length)):=by
 obtain⟨adW,adX,rfl⟩:=js.form
 obtain⟨fZ,gd,rfl⟩:=gh.form
 have hc:=gh.aH
 have hp:=js.aH
 refine Fc.go [.tmp 4] Tryz.func69 Tryz.ntmps69 rfl (fun w0=>(g9 8 ?_))
 refine W.ay (aas js) rfl (W.mv ?_)
 refine W.sp 7 rfl (fun h6=> ?_) (fun h6=> ?_)
 ·refine g9 18 ?_
  refine congrArg Value.bool ?_
  simp only [ee,h6,Bool.true_and,Bool.false_and]
  rw [decide_eq_decide];omega
 refine g9 12 ?_
 refine congrArg Value.bool ?_
 simp only [ee,h6,Bool.true_and,Bool.false_and]

theorem DS(a:ah):
    Fc Tryz.prog 176 [sV a.b] G [] (fun v _ _=>v=.bool (false)):=by
 refine Fc.go [.tmp 2] Tryz.func176 Tryz.ntmps176 rfl (fun w0=>(g9 15 ?_))
 refine congrArg Value.bool ?_
 simp

theorem aau(a:ah):
    Fc Tryz.prog 162 [sV a.b] G [] (fun v _ _=>v=.bool (false)):=by
 refine Fc.go [.tmp 2] Tryz.func162 Tryz.ntmps162 rfl (fun w0=>(g9 15 ?_))
 refine congrArg Value.bool ?_
 simp

theorem Uo(a:ah)(b:ah):
    Fc Tryz.prog 161 [sV a.b,sV b.b] G [] (fun v _ _=>v=.bool (ah.lt a b)):=by
 refine Fc.go [.tmp 4] Tryz.func161 Tryz.ntmps161 rfl (fun w0=>(g9 8 ?_))
 refine W.ay (DS _) rfl (W.mv ?_)
 refine W.sp 7 rfl (fun h6=> ?_) (fun h6=> ?_)
 ·cases h6
 refine g9 17 ?_
 refine congrArg Value.bool ?_
 rfl

theorem Up(az:ax dg G bN l)(k:ah)(hr:rising l=true):
    Fc Tryz.prog 141 [bN,sV k.b] G [] (fun v _ _=>v=.tuple #[iV (((eE l k:Nat):Int)),.bool (decide (l[eE l k]?=some k))]):=by
 obtain⟨aW,aX,rfl⟩:=az.form
 have hlen:=az.aH
 refine Fc.go [.tmp 4,.tmp 5] Tryz.func141 Tryz.ntmps141 rfl (fun w0=>(g9 22 ?_))
 refine WC.loop (X:=Nat×Nat) (fun x=>[(6,aT l.length),(7,aT x.1),(8,aT x.2),(0,lV aW l.length aX),(1,sV k.b)]) (fun x _ Ml=>Ml=[]∧x.1≤x.2∧x.2≤l.length∧(∀q (h:q<l.length),q<x.1→l[q].lt k=true)∧(∀q (h:q<l.length),x.2≤q→l[q].lt k=false)) (fun x=>x.2-x.1) (0,l.length) aZ ?_ ?_
 ·exact⟨rfl,by simp,by simp,(fun q _ h=>by simp at h),(fun q h h'=>by simp at h';omega)⟩
 rintro⟨i,j⟩ ak4 G25 _ qf ⟨rfl,hi,hj,h1,h2⟩
 dsimp only at hi hj h1 h2
 refine g9 8 ?_
 refine WC.cd (fun lW nM=> ?_) (fun lW nM=> ?_)
 ·refine g9 8 ?_
  refine W.ok (zr TF xE rfl aa) (W.ok (B6 rfl rfl aa) (W.ok (zt xE TF rfl aa) (g9 7 ?_)))
  refine(az.mono qf).a1 (i:=(i+j) / 2) aa (fun axd=>(W.ok (aY (i:=(i+j) / 2) dt ft (az.mono qf) rfl rfl ⟨by dsimp only;omega,aa⟩) (g9 2 ?_)))
  refine W.ay (Uo _ _) rfl (g9 2 ?_)
  refine WC.cond rfl (fun pT=> ?_) (fun pT=> ?_)
  ·refine g9 7 ?_
   exact⟨Le.rfl,((i+j) / 2+1,j),aZ,⟨rfl,by dsimp only;omega,by dsimp only;omega,(fun q h hq=>Ln hr aa pT q h (by dsimp only at hq;omega)),h2⟩,by dsimp only;omega⟩
  refine g9 6 ?_
  exact⟨Le.rfl,(i,(i+j) / 2),aZ,⟨rfl,by dsimp only;omega,by dsimp only;omega,h1,(fun q h hq=>Ax hr aa pT q h (by dsimp only at hq;omega))⟩,by dsimp only;omega⟩
 refine g9 12 ?_
 refine W.sd 35 (fun nN qT=> ?_) (fun nN qT=> ?_)
 ·refine g9 5 ?_
  refine(az.mono qf).a1 (i:=i) aa (fun L9=>(g9 9 ?_))
  refine W.sd 42 (fun mT vp=> ?_) (fun mT vp=> ?_)
  ·refine g9 18 ?_
   have jw:eE l k=i:=qo aa h1 (fun q h hq=>h2 q h aa)
   refine Aq (by rw [jw]) ?_
   rw [jw]
   simp only [ah.dv]at vp
   rw [List.getElem?_eq_getElem aa]
   simp [vp]
  refine g9 5 ?_
  refine(az.mono qf).a1 (i:=i) aa (fun Uq=>(g9 4 ?_))
  refine W.ay (aau _) rfl (g9 2 ?_)
  refine W.sp 48 rfl (fun pU=> ?_) (fun pU=> ?_)
  ·cases pU
  refine g9 13 ?_
  have jw:eE l k=i:=qo aa h1 (fun q h hq=>h2 q h aa)
  refine Aq (by rw [jw]) ?_
  rw [jw]
  simp only [ah.dv]at vp
  rw [List.getElem?_eq_getElem aa]
  simp [vp]
 refine g9 24 ?_
 have jw:eE l k=i:=qo aa h1 (fun q h hq=>h2 q h aa)
 refine Aq (by rw [jw]) ?_
 rw [jw]
 rw [List.getElem?_eq_none aa]<;>simp

theorem vq(az:ax dg G bN l)(k:ah)(hr:rising l=true):
    Fc Tryz.prog 104 [bN,sV k.b] G [] (fun v _ _=>v=iV (((aJ l k:Nat):Int))):=by
 obtain⟨aW,aX,rfl⟩:=az.form
 have gx:=H7 l k
 have hlen:=az.aH
 refine Fc.go [.tmp 4] Tryz.func104 Tryz.ntmps104 rfl (fun w0=>(g9 9 ?_))
 refine W.ay (Up az _ (by assumption)) rfl (g9 13 ?_)
 refine WC.cond rfl (fun aav=> ?_) (fun aav=> ?_)
 ·refine g9 14 ?_
  exact iv (tK hr (va aav))
 refine g9 10 ?_
 exact iv (wy hr (sU aav))

theorem oy(az:ax dg G bN l)(k:ah):
    Fc Tryz.prog 125 [bN,sV k.b] G [] (fun v _ _=>v=iV (((aJ l k:Nat):Int))):=by
 obtain⟨aW,aX,rfl⟩:=az.form
 have hl:=az.aH
 refine Fc.go [.tmp 4] Tryz.func125 Tryz.ntmps125 rfl (fun w0=>(g9 17 ?_))
 refine WC.loop (X:=Nat) (fun i=>[(5,aT (aJ (l.take i) k)),(6,aT i),(0,lV aW l.length aX),(1,sV k.b)]) (fun i _ Ml=>Ml=[]∧i≤l.length) (fun i=>l.length-i) 0 aZ ?_ ?_
 ·exact⟨rfl,aa⟩
 rintro i akb G35 _ Ap ⟨rfl,hi⟩
 have hrt:=wz l k i
 refine g9 9 ?_
 refine WC.cd (fun eM jd=> ?_) (fun eM jd=> ?_)
 ·refine g9 9 ?_
  refine(az.mono Ap).a1 (i:=i) aa (fun awT=>(g9 2 ?_))
  refine W.ay (hX _ _) rfl (g9 3 ?_)
  refine WC.cond rfl (fun fN=> ?_) (fun fN=> ?_)
  ·refine g9 13 ?_
   exact⟨Le.rfl,i+1,⟨(iv (by rw [Co (by omega:i<l.length)];simp only [Bool.not_eq_true',Bool.not_eq_false']at fN;simp [fN])),eqv,eqv,eqv,trivial⟩,⟨rfl,aa⟩,aa⟩
  refine g9 9 ?_
  exact⟨Le.rfl,i+1,⟨(iv (by rw [Co (by omega:i<l.length)];simp only [Bool.not_eq_true',Bool.not_eq_false']at fN;simp [fN])),eqv,eqv,eqv,trivial⟩,⟨rfl,aa⟩,aa⟩
 refine g9 13 ?_
 exact iv (by rw [List.take_of_length_le aa])

theorem oz(az:ax dg G bN l)(i:Int)(hi:i64 i):
    Fc Tryz.prog 71 [bN,iV i] G [] (fun v _ _=>v=.agg (List.toArray ((ar l i:Span).cells))):=by
 obtain⟨aW,aX,rfl⟩:=az.form
 have hl:=az.aH
 obtain⟨pV,gS⟩:=hi
 refine Fc.go [.cell 4 90] Tryz.func71 Tryz.ntmps71 rfl (fun w0=>(g9 2 ?_))
 refine W.alloc dY (fun b39=>(g9 4 ?_))
 refine W.ok (aM (L:=[sV _,sV _,.bool _]) kU dY rfl rfl rfl) (W.alloc dY (fun b40=>(g9 9 ?_)))
 refine W.sd 9 (fun h8 p8=> ?_) (fun h8 p8=> ?_)
 ·refine g9 10 ?_
  refine W.ok (aM (L:=[sV _,sV _,.bool _]) kU dY rfl rfl rfl) (g9 6 ?_)
  refine congrArg (fun l=>Value.agg (List.toArray l)) ?_
  show [Value.string _,Value.string _,Value.bool _]=_
  rw [pg aa];rfl
 refine g9 11 ?_
 refine WC.cd (fun jc jh=> ?_) (fun jc jh=> ?_)
 ·refine g9 2 ?_
  refine W.ok (aM (L:=[sV _,sV _,.bool _]) kU dY rfl rfl rfl) (g9 6 ?_)
  refine congrArg (fun l=>Value.agg (List.toArray l)) ?_
  show [Value.string _,Value.string _,Value.bool _]=_
  rw [pg aa];rfl
 refine g9 9 ?_
 refine WC.cd (fun iu fM=> ?_) (fun iu fM=> ?_)
 ·refine g9 4 ?_
  refine az.a1 (i:=(i-1).toNat) aa (fun adY=>(W.ok (aY (i:=(i-1).toNat) dt ft az rfl rfl ⟨aa,aa⟩) (g9 14 ?_)))
  refine WC.cd (fun pT l9=> ?_) (fun pT l9=> ?_)
  ·refine g9 9 ?_
   refine az.a1 (i:=i.toNat) aa (fun Ur=>(W.ok (aY (i:=i.toNat) dt ft az rfl rfl ⟨aa,aa⟩) (g9 8 ?_)))
   refine W.ay (jg _ _ _) rfl (g9 5 ?_)
   exact congrArg (fun s:Span=>Value.agg (List.toArray s.cells)) (H8 fM l9 aa aa)
  refine g9 5 ?_
  refine W.ay (jg _ ah.nil _) rfl (g9 5 ?_)
  exact congrArg (fun s:Span=>Value.agg (List.toArray s.cells)) (H9 fM l9 aa aa)
 refine g9 11 ?_
 refine WC.cd (fun pT l9=> ?_) (fun pT l9=> ?_)
 ·refine g9 9 ?_
  refine az.a1 (i:=i.toNat) aa (fun aTM=>(W.ok (aY (i:=i.toNat) dt ft az rfl rfl ⟨aa,aa⟩) (g9 8 ?_)))
  refine W.ay (jg ah.nil _ _) rfl (g9 5 ?_)
  exact congrArg (fun s:Span=>Value.agg (List.toArray s.cells)) (Ia aa fM l9 aa)
 refine g9 5 ?_
 refine W.ay (jg ah.nil ah.nil _) rfl (g9 5 ?_)
 exact congrArg (fun s:Span=>Value.agg (List.toArray s.cells)) (Ib aa fM l9 aa)

theorem vr(az:ax dg G bN l)(i:Int)(hi:i64 i):
    Fc Tryz.prog 171 [bN,iV i] G [] (fun v _ _=>v=.agg (List.toArray ((ar l i:Span).cells))):=by
 obtain⟨aW,aX,rfl⟩:=az.form
 have hl:=az.aH
 obtain⟨pV,gS⟩:=hi
 refine Fc.go [.cell 4 90] Tryz.func171 Tryz.ntmps171 rfl (fun w0=>(WC.sr (W.alloc dY (fun b50=>(W.nt (WC.seq (WC.sr (W.mv (W.ok (Gt rfl rfl) (W.mv ?_))))))))))
 refine W.sd 8 (fun h7 p7=> ?_) (fun h7 p7=> ?_)
 ·refine W.n8 h7 rfl (W.n8 h7 rfl (W.n8 h7 rfl (W.n8 h7 rfl (W.ok (nV rfl h7) (W.nt (WC.adz rfl rfl (WC.sr (W.ok (aM (L:=[sV _,sV _,.bool _]) kU dY rfl rfl rfl) (W.st 0 ql ql nf rfl (W.nt (WC.rt ?_)))))))))))
  refine⟨.inr rfl,[_],⟨⟨_,_,_,_,_,rfl,fJ (i:=0) rfl,nf,(by simp),rfl,rfl⟩,trivial⟩,[],eu,?_⟩
  refine congrArg (fun l=>Value.agg (List.toArray l)) ?_
  show [Value.string _,Value.string _,Value.bool _]=_
  rw [pg aa];rfl
 refine W.y9 h7 rfl (W.mv (W.y9 h7 rfl (W.mv (W.y9 h7 rfl (W.ok (uR dt az rfl) (W.y9 h7 rfl (W.ok (Pn rfl rfl) (W.ok (jD rfl h7) (W.nt ?_)))))))))
 refine WC.cd (fun dL ji=> ?_) (fun dL ji=> ?_)
 ·refine WC.sr (W.ok (aM (L:=[sV _,sV _,.bool _]) kU dY rfl rfl rfl) (W.st 0 ql ql nf rfl (W.nt (WC.rt ?_))))
  refine⟨.inr rfl,[_],⟨⟨_,_,_,_,_,rfl,fJ (i:=0) rfl,nf,(by simp),rfl,rfl⟩,trivial⟩,[],eu,?_⟩
  refine congrArg (fun l=>Value.agg (List.toArray l)) ?_
  show [Value.string _,Value.string _,Value.bool _]=_
  rw [pg aa];rfl
 refine WC.sk (WC.sr (W.ay (Un) rfl (W.alloc dY (fun b51=>(W.st 0 ql ql nf rfl (W.nt (WC.seq (WC.sr (W.mv (W.ok (Pn rfl rfl) (W.nt ?_)))))))))))
 refine WC.cd (fun iu fM=> ?_) (fun iu fM=> ?_)
 ·refine WC.region (W.mv (W.mv (W.ok (kG rfl rfl aa) (az.a1 (i:=(i-1).toNat) aa (fun Us=>(W.ok (aY (i:=(i-1).toNat) dt ft az rfl rfl ⟨aa,aa⟩) (W.ok (qv (vs:=sc9) ft Us rfl rfl rfl (by simp)) (W.fb adV rfl (W.st 0 sc9 ql ft rfl (W.nt (WC.seq (WC.sr (W.mv (W.mv ?_))))))))))))))
  refine W.ok (uR dt az rfl) (W.ok (Gt rfl rfl) (W.nt ?_))
  refine WC.cd (fun pT l9=> ?_) (fun pT l9=> ?_)
  ·refine WC.region (W.mv (W.mv (az.a1 (i:=i.toNat) aa (fun aw2=>(W.ok (aY (i:=i.toNat) dt ft az rfl rfl ⟨aa,aa⟩) (W.ok (qv (vs:=sc9) ft aw2 rfl rfl rfl (by simp)) (W.fb PT rfl (W.st 0 sc9 ql ft rfl (W.fb PS rfl (W.st 0 bc9 ql H3 rfl (W.ns (W.ok (ow 0 ql nf rfl) (W.ay (jE _ _ _) rfl (W.st 1 ql ql nf rfl ?_))))))))))))))
   refine W.nt (WC.ret ?_)
   refine⟨.inr rfl,[_],⟨⟨_,_,_,_,_,rfl,fJ (i:=1) rfl,nf,(by simp),rfl,rfl⟩,trivial⟩,[],eu,?_⟩
   exact congrArg (fun s:Span=>Value.agg (List.toArray s.cells)) (H8 fM l9 aa aa)
  refine WC.sk (WC.sr (W.ok (ow 0 ql nf rfl) (W.ay (jE _ _ _) rfl (W.st 1 ql ql nf rfl (W.nt (WC.ret ?_))))))
  refine⟨.inr rfl,[_],⟨⟨_,_,_,_,_,rfl,fJ (i:=1) rfl,nf,(by simp),rfl,rfl⟩,trivial⟩,[],eu,?_⟩
  exact congrArg (fun s:Span=>Value.agg (List.toArray s.cells)) (H9 fM l9 aa aa)
 refine WC.sk (WC.seq (WC.sr (W.mv (W.mv (W.ok (uR dt az rfl) (W.ok (Gt rfl rfl) (W.nt ?_)))))))
 refine WC.cd (fun pT l9=> ?_) (fun pT l9=> ?_)
 ·refine WC.region (W.mv (W.mv (az.a1 (i:=i.toNat) aa (fun adZ=>(W.ok (aY (i:=i.toNat) dt ft az rfl rfl ⟨aa,aa⟩) (W.ok (qv (vs:=sc9) ft adZ rfl rfl rfl (by simp)) (W.fb PT rfl (W.st 0 sc9 ql ft rfl (W.fb PS rfl (W.st 0 bc9 ql H3 rfl (W.ns (W.ok (ow 0 ql nf rfl) (W.ay (jE _ _ _) rfl (W.st 1 ql ql nf rfl ?_))))))))))))))
  refine W.nt (WC.ret ?_)
  refine⟨.inr rfl,[_],⟨⟨_,_,_,_,_,rfl,fJ (i:=1) rfl,nf,(by simp),rfl,rfl⟩,trivial⟩,[],eu,?_⟩
  exact congrArg (fun s:Span=>Value.agg (List.toArray s.cells)) (Ia aa fM l9 aa)
 refine WC.sk (WC.sr (W.ok (ow 0 ql nf rfl) (W.ay (jE _ _ _) rfl (W.st 1 ql ql nf rfl (W.nt (WC.ret ?_))))))
 refine⟨.inr rfl,[_],⟨⟨_,_,_,_,_,rfl,fJ (i:=1) rfl,nf,(by simp),rfl,rfl⟩,trivial⟩,[],eu,?_⟩
 exact congrArg (fun s:Span=>Value.agg (List.toArray s.cells)) (Ib aa fM l9 aa)

theorem agU(az:ax dg G bN l)(m:Int)(hm:0≤m∧m≤1073741824):
    Fc Tryz.prog 51 [bN,iV m] G [] (fun v _ _=>v=iV (kq l 0 m)):=by
 obtain⟨aW,aX,rfl⟩:=az.form
 have hl:=az.aH
 refine Fc.go [.tmp 4] Tryz.func51 Tryz.ntmps51 rfl (fun w0=>(g9 17 ?_))
 refine WC.loop (X:=Nat×Int) (fun x=>[(5,iV x.2),(6,aT x.1),(0,lV aW l.length aX),(1,iV m)]) (fun x _ Ml=>Ml=[]∧x.1≤l.length∧0≤x.2∧x.2≤140738562097154∧kq (l.drop x.1) x.2 m=kq l 0 m) (fun x=>l.length-x.1) (0,0) aZ ?_ ?_
 ·exact⟨rfl,by simp,by simp,by simp,by simp⟩
 rintro⟨k,n⟩ axe G61 _ Md ⟨rfl,hk,hn,Gh,B4⟩
 dsimp only at hk hn Gh B4
 refine g9 8 ?_
 refine W.sd 11 (fun eM jd=> ?_) (fun eM jd=> ?_)
 ·refine g9 9 ?_
  refine WC.cd (fun gl gm=> ?_) (fun gl gm=> ?_)
  ·refine g9 8 ?_
   refine(az.mono Md).a1 (i:=k) aa (fun akc=>(g9 3 ?_))
   refine W.ok (db rfl rfl (by have:=(l[k]).le;omega)) (W.ok (db rfl rfl (by have:=(l[k]).le;dsimp only;omega)) (g9 10 ?_))
   exact⟨Le.rfl,(k+1,n+(((l[k]).b.size:Nat)+1)),aZ,⟨rfl,by dsimp only;omega,by dsimp only;omega,by have:=(l[k]).le;dsimp only;omega,(Ut aa gm).symm.trans B4⟩,by dsimp only;omega⟩
  refine g9 13 ?_
  refine congrArg (Value.int .i64) ?_
  rw [←B4]
  exact(Uu aa).symm
 refine g9 20 ?_
 refine congrArg (Value.int .i64) ?_
 rw [←B4]
 rw [List.drop_eq_nil_of_le aa];rfl

end Go.Proofs.YtfhnamngaofccaaGreat

namespace Go.Fw
open Go Go.RowKit
structure Ay (α:Type) where
 R:GH→Value→α→Prop
 mono:∀ {G G':GH} {v a},Le G G'→R G v a→R G' v a
def PU:Ay Bool:=⟨fun _ v b=>v=.bool b,fun _ h=>h⟩
section
variable {α:Type}
def Ic (V:Ay α) (G:GH):List MapEntry→List (Int×α)→Prop
 |[],[]=>True
 |e::es,p::m=>e.key=.int .i64 p.1∧V.R G e.val p.2∧Ic V G es m
 |_,_=>False
theorem Ic.mono{V:Ay α}{G G':GH}(hl:Le G G'):∀ {es:List MapEntry} {m:List (Int×α)},Ic V G es m→Ic V G' es m
 |[],[],_=>trivial
 |e::es,p::m,h=>⟨h.1,V.mono hl h.2.1,h.2.2.mono hl⟩
 |[],_::_,h=>h.elim
 |_::_,[],h=>h.elim
def getM (m:List (Int×α)) (k:Int):Option α:=(m.find? fun p=>decide (p.1=k)).map (·.2)
def kA:List (Int×α)→Int→α→List (Int×α)
 |[],k,a=>[(k,a)]
 |p::m,k,a=>if p.1=k then(k,a)::m else p::kA m k a
def Me:List (Int×α)→Int→List (Int×α)
 |[],_=>[]
 |p::m,k=>if p.1=k then m else p::Me m k
theorem kB(p:Int×α)(m:List (Int×α))(k:Int):getM (p::m) k=if p.1=k then some p.2 else getM m k:=by
 unfold getM
 by_cases h:p.1=k
 ·rw [List.find?_cons_of_pos (by simpa using h),if_pos h];rfl
 ·rw [List.find?_cons_of_neg (by simpa using h),if_neg h]
theorem mB:∀(m:List (Int×α)) (k:Int) (a:α) (j:Int),getM (kA m k a) j=if j=k then some a else getM m j
 |[],k,a,j=>by
  rw [kA,kB]
  by_cases h:k=j
  ·rw [if_pos h,if_pos h.symm]
  ·rw [if_neg h,if_neg (fun e=>h e.symm)]
 |p::m,k,a,j=>by
  rw [kA]
  by_cases hp:p.1=k
  ·rw [if_pos hp,kB,kB]
   by_cases h:k=j
   ·rw [if_pos h,if_pos h.symm]
   ·rw [if_neg h,if_neg (fun e=>h e.symm),if_neg (by rw [hp];exact h)]
  ·rw [if_neg hp,kB,kB,mB m k a j]
   by_cases h:p.1=j
   ·rw [if_pos h,if_pos h,if_neg (fun e=>hp (h.trans e))]
   ·rw [if_neg h,if_neg h]
theorem Mg(k j:Int):Instr.sameNow (.int .i64) (.int .i64 k) (.int .i64 j)=some (k==j):=by simp [Instr.sameNow]
theorem Ie{V:Ay α}{G:GH}{k:Int} :∀ {es:List MapEntry} {m:List (Int×α)} (i:Nat),Ic V G es m→
  (getM m k=none∧Instr.findNow (.int .i64) (.int .i64 k) es i=some none∧(∀x a n,V.R G x a→Ic V G (es++[⟨.int .i64 k,x,n⟩]) (kA m k a))∧Me m k=m)∨
  ∃j e a,getM m k=some a∧es[j]?=some e∧Instr.findNow (.int .i64) (.int .i64 k) es i=some (some (i+j,e.val))∧e.key=.int .i64 k∧V.R G e.val a∧
   (∀x b,V.R G x b→Ic V G (es.modify j fun e=>{ e with key:=.int .i64 k,val:=x }) (kA m k b))∧Ic V G (es.eraseIdx j) (Me m k)
 |[],[],i,_=>.inl ⟨rfl,rfl,fun x a n hx=>⟨rfl,hx,trivial⟩,rfl⟩
 |e::es,p::m,i,h=>by
  by_cases hk:p.1=k
  ·refine .inr ⟨0,e,p.2,by rw [kB,if_pos hk],rfl,?_,by rw [h.1,hk],h.2.1,fun x b hx=> ?_,?_⟩
   ·rw [Instr.findNow,h.1,Mg,hk];simp
   ·rw [kA,if_pos hk]
    simp only [List.modify_zero_cons]
    exact⟨rfl,hx,h.2.2⟩
   ·rw [Me,if_pos hk];exact h.2.2
  ·have hf:∀i,Instr.findNow (.int .i64) (.int .i64 k) (e::es) i=Instr.findNow (.int .i64) (.int .i64 k) es (i+1):=fun i=>by
    rw [Instr.findNow,h.1,Mg]
    have:(k==p.1)=false:=by simpa using fun e=>hk e.symm
    rw [this]
   rcases Ie (V:=V) (k:=k) (i+1) h.2.2 with⟨h1,h2,h3,h4⟩|⟨j,e',a,h1,h2,h3,h4,h5,h6,h7⟩
   ·refine .inl ⟨by rw [kB,if_neg hk];exact h1,by rw [hf];exact h2,fun x a n hx=> ?_,by rw [Me,if_neg hk,h4]⟩
    rw [kA,if_neg hk]
    exact⟨h.1,h.2.1,h3 x a n hx⟩
   ·refine .inr ⟨j+1,e',a,by rw [kB,if_neg hk];exact h1,by simpa using h2,by rw [hf,h3];congr 3;omega,h4,h5,fun x b hx=> ?_,?_⟩
    ·rw [kA,if_neg hk]
     simp only [List.modify_succ_cons]
     exact⟨h.1,h.2.1,h6 x b hx⟩
    ·rw [Me,if_neg hk]
     exact⟨h.1,h.2.1,h7⟩
 |[],_::_,_,h=>h.elim
 |_::_,[],_,h=>h.elim
def xw (P:Program) (t:TypeId):Option TypeId:=
 match P.underlying t with
 |some (.map kt e)=>match P.underlying kt with
  |some (.int .i64)=>some e
  |_=>none
 |_=>none
theorem Mh{P:Program}{t e:TypeId}(h:xw P t=some e):∃kt,P.underlying t=some (.map kt e)∧P.underlying kt=some (.int .i64)∧∀b n v (w:World),(Instr.checkKey b (n+1) kt v).run P w=.ok () w:=by
 unfold xw at h
 split at h
 ·rename_i kt e' h1
  split at h
  ·rename_i h2
   cases h
   refine⟨kt,h1,h2,fun b n v w=> ?_⟩
   simp only [Instr.checkKey,Sem.run_bind,run_underlying h2,Result.andThen_ok]
   rfl
  ·cases h
 ·cases h
def lf (V:Ay α) (b:Nat) (G:GH) (m:List (Int×α)) (M:MH):Prop:=∃(es:List MapEntry) (clock:Nat),M=[(b,.map es.toArray clock)]∧Ic V G es m
theorem lf.mono{V:Ay α}{b:Nat}{G G':GH}{m:List (Int×α)}{M:MH}(hl:Le G G')(h:lf V b G m M):lf V b G' m M:=by
 obtain⟨es,c,h1,h2⟩:=h;exact⟨es,c,h1,h2.mono hl⟩
end
section
variable {α:Type} {E:Env} {f:Fr} {G:GH} {M Mk Ms Mr:MH} {ops rest:List Oper} {q:Bool} {K:Kt} {d:Nat} {ty:TypeId} {pos:String} {aft:Array Edge} {t et:TypeId} {x y kk:Operand} {b:Nat} {k:Int} {m:List (Int×α)} {V:Ay α}
def zvK (P:Program) (t:TypeId):Option Value:=(P.info? t).bind (·.zero)
variable {clock:Nat} {es:List MapEntry} {z0:Value}
theorem agV{P:Program}{z:α}(ht:xw P t=some et)(hz:zvK P et=some z0)(hzz:V.R G z0 z)(he:Ic V G es m):
  ∃v,V.R G v ((getM m k).getD z)∧∀(w:World) (ok:Bool),w.heap[b]?=some (.map es.toArray clock)→(Instr.lookup t (.map (some b)) (.int .i64 k) ok).run P w=.ok (if ok=true then .tuple #[v,.bool (getM m k).isSome]else v) w:=by
 obtain⟨kt,h1,h2,h3⟩:=Mh ht
 have hzv:∀w,(zeroValue et).run P w=.ok z0 w:=fun w=>by
  unfold zvK at hz
  cases hi:P.info? et with
  |none=>rw [hi]at hz;cases hz
  |some dT=>rw [hi]at hz;simp at hz;simp [zeroValue,typeInfo,hi,hz]
 rcases Ie (k:=k) 0 he with⟨g1,g2,_,_⟩|⟨j,e,a,g1,g2,g3,g4,g5,_,_⟩
 ·refine⟨z0,by rw [g1];exact hzz,fun w ok hb=> ?_⟩
  have hgo:=MapKept.run_getObj_map (P:=P) hb
  have hfk:=MapKept.run_findKey (P:=P) (w:=w) h2 g2
  simp only [Instr.lookup,Sem.run_bind,run_underlying h1,Result.andThen_ok,hgo,Sem.run_pure]
  rw [h3]
  simp only [Result.andThen_ok]
  rw [hfk,g1]
  simp [hzv]
 ·refine⟨e.val,by rw [g1];exact g5,fun w ok hb=> ?_⟩
  have hgo:=MapKept.run_getObj_map (P:=P) hb
  have hfk:=MapKept.run_findKey (P:=P) (w:=w) h2 g3
  simp only [Instr.lookup,Sem.run_bind,run_underlying h1,Result.andThen_ok,hgo,Sem.run_pure]
  rw [h3]
  simp only [Result.andThen_ok]
  rw [hfk,g1]
  simp
theorem ak5(hp:([(b,Obj.map es.toArray clock)]++Mr).Perm M){w:World}(hr:E.real G M w):w.heap[b]?=some (.map es.toArray clock):=
 hr.r.mu (b,.map es.toArray clock) (hp.mem_iff.1 (by simp))
theorem agW{z:α}{ok:Bool}(ht:xw E.P t=some et)(hz:zvK E.P et=some z0)(hzz:V.R G z0 z)(hx:ev f x=.map (some b))(hk:ev f kk=.int .i64 k)(hm:lf V b G m Ms)(hp:(Ms++Mr).Perm M):
  ∃v,V.R G v ((getM m k).getD z)∧Ok E f G M ⟨some d,.lookup t x kk ok,ty,pos,aft,none⟩ (if ok=true then .tuple #[v,.bool (getM m k).isSome]else v):=by
 obtain⟨es,clock,rfl,he⟩:=hm
 obtain⟨v,h1,h2⟩:=agV (b:=b) (clock:=clock) (k:=k) ht hz hzz he
 refine⟨v,h1,fun w hr=> ?_⟩
 have:=h2 w ok (ak5 hp hr)
 simp [execOp,hx,hk,this]
theorem PV{o:Obj}{w:World}(hr:E.real G ((b,Obj.map es.toArray clock)::Mr) w):E.real G ((b,o)::Mr) { w with heap:=w.heap.setIfInBounds b o } :=
 ⟨Real.set (M₁:=[]) hr.r,hr.le,hr.nw⟩
theorem W.ak6{v:Value}{a:α}(ht:xw E.P t=some et)(hx:ev f x=.map (some b))(hk:ev f kk=.int .i64 k)(hy:ev f y=v)(hm:lf V b G m Ms)(hp:(Ms++Mr).Perm M)(ha:V.R G v a)
  (h:∀iw,lf V b G (kA m k a) iw→W E ops.toArray false rest f G (iw++Mr) K):W E ops.toArray false (⟨none,.mapUpdate t x kk y,ty,pos,aft,none⟩::rest) f G M K:=by
 intro a' w Q hi hr0 hK
 obtain⟨es,clock,rfl,he⟩:=hm
 have hr:=hr0.perm hp
 obtain⟨kt,h1,h2,h3⟩:=Mh ht
 have hb:w.heap[b]?=some (.map es.toArray clock):=hr.r.mu (b,.map es.toArray clock) (by simp)
 have hgo:=MapKept.run_getObj_map (P:=E.P) hb
 have key:∃es' GA,Ic V G es' (kA m k a)∧(Instr.mapUpdate t (.map (some b)) (.int .i64 k) v).run E.P w=.ok () { w with heap:=w.heap.setIfInBounds b (.map es'.toArray GA) } :=by
  rcases Ie (k:=k) 0 he with⟨g1,g2,g3,_⟩|⟨j,e,a2,g1,g2,g3,g4,g5,g6,_⟩
  ·refine⟨_,clock+1,g3 v a clock ha,?_⟩
   have hfk:=MapKept.run_findKey (P:=E.P) (w:=w) h2 g2
   have Ig:=MapKept.run_setObj_map (P:=E.P) (.map (es.toArray.push ⟨.int .i64 k,v,clock⟩) (clock+1)) hb
   simp only [Instr.mapUpdate,Sem.run_bind,run_underlying h1,Result.andThen_ok,hgo]
   rw [h3]
   simp only [Result.andThen_ok]
   rw [hfk]
   simp only [Result.andThen_ok,Ig]
   congr 4
   simp
  ·refine⟨_,clock,g6 v a ha,?_⟩
   rw [Nat.zero_add]at g3
   have hfk:=MapKept.run_findKey (P:=E.P) (w:=w) h2 g3
   have Ig:=MapKept.run_setObj_map (P:=E.P) (.map (es.toArray.modify j fun e=>{ e with key:=.int .i64 k,val:=v }) clock) hb
   simp only [Instr.mapUpdate,Sem.run_bind,run_underlying h1,Result.andThen_ok,hgo]
   rw [h3]
   simp only [Result.andThen_ok]
   rw [hfk]
   have hsb:Instr.sameBits 10000 (((es.toArray[j]?).map (·.key)).getD (.int .i64 k)) (.int .i64 k)=true:=by
    simp [g2,g4,Instr.sameBits]
   simp only [Result.andThen_ok,Instr.keyThatStays,hsb,if_true,Sem.run_pure]
   simp only [Sem.run_bind,Sem.run_pure,Result.andThen_ok,Ig]
   congr 4
   simp
 obtain⟨es',GA,k1,k2⟩:=key
 have fc:(execOp (ev f) ⟨none,.mapUpdate t x kk y,ty,pos,aft,none⟩).run E.P w=.ok .skip { w with heap:=w.heap.setIfInBounds b (.map es'.toArray GA) } :=by
  simp [execOp,hx,hk,hy,k2]
 refine wpList_plain rfl fun K' eA=> ?_
 unfold Oper.wp
 rw [hi.eval,fc]
 exact eA _ _ (h _ ⟨es',GA,rfl,k1⟩ _ _ Q (hi.tL undef) (PV hr) hK)
theorem W.makeMap(h:∀b,lf V b G [] [(b,.map #[] 0)]→W E ops.toArray false rest (gw f d (.map (some b))) G ((b,.map #[] 0)::M) K)(hd:Nat.blt d E.n=true:=by rfl):
  W E ops.toArray false (⟨some d,.makeMap t none,ty,pos,aft,none⟩::rest) f G M K:=by
 intro a w Q hi hr hK
 have fc:(execOp (ev f) ⟨some d,.makeMap t none,ty,pos,aft,none⟩).run E.P w=.ok (.value (.map (some w.heap.size))) (w.alloc (.map #[] 0)):=by
  have h0:(Instr.makeMap t none).run E.P w=.ok (.map (some w.heap.size)) (w.alloc (.map #[] 0)):=by simp [Instr.makeMap,newObj,Sem.run,bind,Sem.bind,pure]
  simp [execOp,h0]
 refine wpList_plain rfl fun K' eA=> ?_
 unfold Oper.wp
 rw [hi.eval,fc]
 exact eA _ _ (h _ ⟨[],0,rfl,trivial⟩ _ _ Q (hi.put hd _) (hr.alloc _) hK)
end
theorem or3{a b c d:Prop}(h:a∨(b∧(c∨d))):a∨(b∧c)∨(b∧d):=h.imp id fun⟨h1,h2⟩=>h2.imp (fun h3=>⟨h1,h3⟩) (fun h3=>⟨h1,h3⟩)
theorem agX{s:Int}(hs:i64 s):(iN s).Ok:=⟨hs,⟨by show(-9223372036854775808:Int)≤0;omega,by show(0:Int)≤9223372036854775807;omega⟩,⟨by show(-9223372036854775808:Int)≤ -1;omega,by show(-1:Int)≤9223372036854775807;omega⟩,⟨by show(-9223372036854775808:Int)≤0;omega,by show(0:Int)≤9223372036854775807;omega⟩⟩
theorem Uv{n:Nat}(h:0<n):gA n []=gA n []∧ov n [] (iN 0)=((0,0),[iN 0]):=⟨rfl,by rw [Ck (by simpa using h)];rfl⟩
def eK (i:Int):List Nd→Bool
 |[]=>true
 |n::l=>decide (n.slot=i)&&eK (i+1) l
theorem xR:∀ {l:List Nd} {i:Int},eK i l=true↔∀k (h:k<l.length),l[k].slot=i+k
 |[],i=>by simp [eK]
 |n::l,i=>by
  rw [eK,Bool.and_eq_true,decide_eq_true_iff,xR]
  constructor
  ·rintro⟨h1,h2⟩ k hk
   cases k with
   |zero=>simpa using h1
   |succ k=>have:=h2 k (by simp at hk;omega);simp;omega
  ·intro h
   refine⟨by have:=h 0 (by simp);simpa using this,fun k hk=> ?_⟩
   have:=h (k+1) (by simp;omega)
   simp at this;omega
theorem FF:∀(a b:List Nd) (i:Int),eK i (a++b)=(eK i a&&eK (i+a.length) b)
 |[],b,i=>by simp [eK]
 |n::a,b,i=>by
  have e:i+((n::a).length:Nat)=i+1+(a.length:Nat):=by simp;omega
  rw [List.cons_append,eK,eK,FF a b,e,Bool.and_assoc]
variable {l:List Nd}
theorem PW{k:Nat}(hk:k<l.length):eK 0 (l.take (k+1))=(eK 0 (l.take k)&&decide (l[k].slot=k)):=by
 rw [List.take_succ_eq_append_getElem hk,FF]
 have e:(List.take k l).length=k:=by rw [List.length_take];omega
 rw [e];simp [eK]
theorem PX{k:Nat}(hk:k<l.length)(h:eK 0 (l.take k)=true)(hs:l[k].slot=k):eK 0 (l.take (k+1))=true:=by rw [PW hk,h,decide_eq_true hs];rfl
theorem Ih(h:eK 0 l=true){k:Nat}(hk:k<l.length):l[k].slot=k:=by have:=xR.1 h k hk;omega
theorem Uw{k:Nat}(hk:k<l.length)(h:¬l[k].slot=k):eK 0 l=false:=by
 cases e:eK 0 l
 ·rfl
 ·exact absurd (Ih e hk) h
def wY (l:List Nd) (k:Nat):List Nd:=if k=0 then [iN 0]else l.take k
theorem PY{k:Nat}(hk:k≤l.length)(h0:0<k):(wY l k).length=k:=by unfold wY;rw [if_neg aa,List.length_take];omega
theorem aHR(h:0<l.length)(hs:l[0].slot=0):(xO (wY l 0) l[0]).2=wY l 1:=by
 have e:wY l 0=[iN 0]:=rfl
 rw [e,Cj (by rw [hs];exact⟨aa,by simp⟩),hs]
 unfold wY
 rw [if_neg aa]
 cases l with
 |nil=>simp at h
 |cons n l=>rfl
theorem Ux{n k:Nat}(hk:k<l.length)(h0:0<k)(hn:k<n)(hs:l[k].slot=k):ov n (wY l k) l[k]=(((k:Int),0),wY l (k+1)):=by
 have hl:=PY (l:=l) (k:=k) aa h0
 rw [Ck aa,hl]
 refine congrArg (Prod.mk _) ?_
 unfold wY
 rw [if_neg aa,if_neg aa,List.take_succ_eq_append_getElem hk]
 congr 2
 rw [←hs]
theorem Uy{n k:Nat}(hk:k≤l.length)(h0:0<k)(hn:¬k<n)(x:Nd):ov n (wY l k) x=((0,4),wY l k):=HZ (by rw [PY hk h0];exact hn)
theorem aui{k:Nat}(hk:k<l.length)(hs:l[k].slot=k):(xO (wY l (k+1)) l[k]).2=wY l (k+1):=by
 have hl:=PY (l:=l) (k:=k+1) aa aa
 rw [Cj (by rw [hs,hl];omega),hs]
 show(wY l (k+1)).set ((k:Int)).toNat l[k]=_
 rw [Int.toNat_natCast]
 unfold wY
 rw [if_neg aa]
 refine List.ext_getElem (by simp) fun i h1 h2=> ?_
 rw [List.getElem_set]
 split
 ·rename_i e;subst e;rw [List.getElem_take]
 ·rfl
theorem auj(h:0<l.length):wY l l.length=l:=by unfold wY;rw [if_neg aa,List.take_of_length_le (Nat.le_refl _)]
end Go.Fw

namespace Go.Fw
abbrev Ls:=List (List aA)
def Aj (l:List aA):Int:=Hd.st (l,0)
theorem PZ{l:List aA}(h:0<l.length):Aj l=l[0].aO:=Hd.ayT (a:=(l,0)) h
structure tM (cur:Ls) (b:Nat):Prop where
 lt:b<cur.length
 ne:0<cur[b].length
 min:∀j (h:j<cur.length),0<cur[j].length→Aj cur[b]≤Aj cur[j]∧(j<b→Aj cur[b]<Aj cur[j])
variable {b:Nat} {cur:Ls}
theorem tM.mC{c:Nat}(hb:tM cur b)(hc:tM cur c):b=c:=by
 have h1:=hb.min c hc.lt hc.ne
 have h2:=hc.min b hb.lt hb.ne
 rcases Nat.lt_trichotomy b c with h|h|h
 ·have:=h2.2 h;omega
 ·exact h
 ·have:=h1.2 h;omega
def lg (cur:Ls):Nat:=(cur.map List.length).sum
theorem D1(a b:Ls):lg (a++b)=lg a+lg b:=by simp [lg]
theorem qU(a:List aA)(b:Ls):lg (a::b)=a.length+lg b:=by simp [lg]
open Classical in
noncomputable def zA:Nat→Ls→List aA
 |0,_=>[]
 |f+1,cur=>if h:∃b,tM cur b then(cur[h.choose]'(h.choose_spec.lt))[0]'(h.choose_spec.ne)::zA f (cur.set h.choose ((cur[h.choose]'(h.choose_spec.lt)).drop 1))else []
noncomputable def cC (cur:Ls):List aA:=zA (lg cur) cur
theorem P0{f:Nat}(hb:tM cur b):zA (f+1) cur=(cur[b]'hb.lt)[0]'hb.ne::zA f (cur.set b ((cur[b]'hb.lt).drop 1)):=by
 have h:∃b,tM cur b:=⟨b,hb⟩
 have e:h.choose=b:=h.choose_spec.mC hb
 rw [zA,dif_pos h]
 simp only [e]
theorem Ii(h:b<cur.length)(t:List aA):cur.set b t=cur.take b++t::cur.drop (b+1):=by
 rw [List.set_eq_take_append_cons_drop,if_pos h]
theorem D2(h:b<cur.length):cur=cur.take b++cur[b]::cur.drop (b+1):=by
 rw [←List.drop_eq_getElem_cons h,List.take_append_drop]
theorem oA(hb:tM cur b):lg (cur.set b ((cur[b]'hb.lt).drop 1))+1=lg cur:=by
 have h:=hb.ne
 rw [Ii hb.lt]
 conv=>rhs;rw [D2 hb.lt]
 rw [D1,D1,qU,qU,List.length_drop]
 omega
theorem rZ(hb:tM cur b):cC cur=(cur[b]'hb.lt)[0]'hb.ne::cC (cur.set b ((cur[b]'hb.lt).drop 1)):=by
 unfold cC
 rw [←oA hb,P0 hb]
theorem aaw(h:∀i (hi:i<cur.length),cur[i].length=0):lg cur=0:=by
 unfold lg
 rw [List.sum_eq_zero_iff_forall_eq_nat]
 intro x hx
 obtain⟨l,hl,rfl⟩:=List.mem_map.1 hx
 obtain⟨i,hi,rfl⟩:=List.getElem_of_mem hl
 exact h i hi
theorem qV(h:∀i (hi:i<cur.length),cur[i].length=0):cC cur=[]:=by
 unfold cC
 rw [aaw h];rfl
theorem Ij:∀(n:Nat) (cur:Ls),lg cur=n→(cC cur).length≤n
 |0,cur,h=>by unfold cC;rw [h];exact Nat.le_refl _
 |n+1,cur,h=>by
  by_cases hb:∃b,tM cur b
  ·obtain⟨b,hb⟩:=hb
   rw [rZ hb,List.length_cons]
   have:=Ij n (cur.set b ((cur[b]'hb.lt).drop 1)) (by have:=oA hb;omega)
   omega
  ·unfold cC;rw [h,zA,dif_neg hb];simp
theorem Ik(cur:Ls):(cC cur).length≤lg cur:=Ij _ cur rfl
end Go.Fw

namespace Go.Fw
abbrev Cp (ps:List Nat):List Int:=ps.map fun n:Nat=>(n:Int)
def lh (ls:Ls) (ps:List Nat):Ls:=List.zipWith (fun l p=>l.drop p) ls ps
variable {ls:Ls} {ps:List Nat}
theorem zB(h:ps.length=ls.length):(lh ls ps).length=ls.length:=by simp [lh,h]
variable {i:Nat}
theorem qW(h:i<ls.length)(h2:i<ps.length)(h3:i<(lh ls ps).length):(lh ls ps)[i]=ls[i].drop ps[i]:=by simp [lh]
theorem ph(h:i<ls.length)(h2:i<ps.length)(h3:i<(lh ls ps).length):(lh ls ps)[i].length=ls[i].length-ps[i]:=by rw [qW h h2,List.length_drop]
theorem aax(ls:Ls):lh ls (List.replicate ls.length 0)=ls:=by
 refine List.ext_getElem (by rw [zB (by simp)]) fun i h1 h2=> ?_
 rw [qW h2 (by simpa using h2)]
 simp
theorem Cq(h:i<ls.length)(h2:i<ps.length)(h3:i<(lh ls ps).length)(h4:ps[i]<ls[i].length):Aj (lh ls ps)[i]=(ls[i])[ps[i]].aO:=by
 rw [qW h h2,PZ (by rw [List.length_drop];omega),List.getElem_drop]
 simp
theorem ak7(h:i<ls.length)(h2:i<ps.length)(h3:i<(lh ls ps).length)(h4:ps[i]<ls[i].length)(h5:0<(lh ls ps)[i].length):((lh ls ps)[i])[0]=(ls[i])[ps[i]]:=by
 rw [List.getElem_of_eq (qW h h2 h3) h5,List.getElem_drop]
 simp
variable {b:Nat}
theorem Mn(hl:ps.length=ls.length)(h:b<ls.length)(h2:b<ps.length)(h3:b<(lh ls ps).length):(lh ls ps).set b ((lh ls ps)[b].drop 1)=lh ls (ps.set b (ps[b]+1)):=by
 have e1:=zB hl
 have e2:=zB (ls:=ls) (ps:=ps.set b (ps[b]+1)) (by rw [List.length_set];exact hl)
 refine List.ext_getElem (by rw [List.length_set];omega) fun i h4 h5=> ?_
 have e3:=qW (ls:=ls) (ps:=ps.set b (ps[b]+1)) (i:=i) aa (by rw [List.length_set];omega) h5
 rw [e3,List.getElem_set,List.getElem_set]
 split
 ·rename_i e
  subst e
  rw [qW h h2,List.drop_drop]
 ·rw [qW aa aa]
theorem ak8(h:i<ls.length):ls[i].length≤lg ls:=by
 conv=>rhs;rw [D2 h]
 rw [D1,qU];omega
def BI (C:Ls) (j:Nat) (c:Int):Prop:=(c= -1∧∀q (h:q<C.length),q<j→C[q].length=0)∨
 ∃b:Nat,∃h:b<C.length,c=b∧b<j∧0<C[b].length∧∀q (hq:q<C.length),q<j→0<C[q].length→Aj C[b]≤Aj C[q]∧(q<b→Aj C[b]<Aj C[q])
theorem ad0(C:Ls):BI C 0 (-1):=.inl ⟨rfl,fun q _ h=>by omega⟩
variable {C:Ls} {j:Nat}
theorem Uz{c:Int}(h:BI C j c)(hj:j<C.length)(hz:C[j].length=0):BI C (j+1) c:=by
 rcases h with⟨h1,h2⟩|⟨b,hb,h1,h2,h3,h4⟩
 ·exact .inl ⟨h1,fun q hq UA=>by
   by_cases e:q=j
   ·subst e;exact hz
   ·exact h2 q hq aa⟩
 ·exact .inr ⟨b,hb,h1,aa,h3,fun q hq UA hn=>by
   by_cases e:q=j
   ·subst e;omega
   ·exact h4 q hq aa hn⟩
theorem Mv{c:Int}(h:BI C j c)(hc:c<0)(hj:j<C.length)(hn:0<C[j].length):BI C (j+1) j:=by
 rcases h with⟨h1,h2⟩|⟨b,hb,h1,h2,h3,h4⟩
 ·exact .inr ⟨j,hj,rfl,aa,hn,fun q hq UA hqn=>by
   by_cases e:q=j
   ·subst e;exact⟨Int.le_refl _,fun h=>by omega⟩
   ·have:=h2 q hq aa;omega⟩
 ·omega
theorem UB(h:BI C j b)(hb:b<C.length)(hj:j<C.length)(hn:0<C[j].length)(hl:Aj C[j]<Aj C[b]):BI C (j+1) j:=by
 rcases h with⟨h1,h2⟩|⟨b',jr,h1,h2,h3,h4⟩
 ·omega
 ·have e:b'=b:=aa
  subst e
  exact .inr ⟨j,hj,rfl,aa,hn,fun q hq UA hqn=>by
   by_cases e:q=j
   ·subst e;exact⟨Int.le_refl _,fun h=>by omega⟩
   ·have:=h4 q hq aa hqn
    exact⟨aa,fun _=>by omega⟩⟩
theorem UC(h:BI C j b)(hb:b<C.length)(hj:j<C.length)(hl:¬Aj C[j]<Aj C[b]):BI C (j+1) b:=by
 rcases h with⟨h1,h2⟩|⟨b',jr,h1,h2,h3,h4⟩
 ·omega
 ·have e:b'=b:=aa
  subst e
  exact .inr ⟨b',jr,rfl,aa,h3,fun q hq UA hqn=>by
   by_cases e:q=j
   ·subst e;exact⟨aa,fun h=>by omega⟩
   ·exact h4 q hq aa hqn⟩
theorem Cr{c:Int}(h:BI C j c)(hc:¬c<0):∃b:Nat,∃hb:b<C.length,c=b∧b<j∧0<C[b].length:=by
 rcases h with⟨h1,h2⟩|⟨b,hb,h1,h2,h3,h4⟩
 ·omega
 ·exact⟨b,hb,h1,h2,h3⟩
theorem auk{c:Int}(h:BI C j c)(hj:C.length≤j)(hc:c<0):cC C=[]:=by
 rcases h with⟨h1,h2⟩|⟨b,hb,h1,h2,h3,h4⟩
 ·exact qV fun i hi=>h2 i hi aa
 ·omega
theorem UD(h:BI C j b)(hj:C.length≤j):tM C b:=by
 rcases h with⟨h1,h2⟩|⟨b',hb,h1,h2,h3,h4⟩
 ·omega
 ·have e:b'=b:=aa
  subst e
  exact⟨hb,h3,fun q hq hqn=>h4 q hq aa hqn⟩
end Go.Fw
